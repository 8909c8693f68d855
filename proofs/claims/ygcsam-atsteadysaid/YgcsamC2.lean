/-
  REGIONS THAT DRAW THEIR ORDER, BY AN INVARIANT OF THE WORLD: each operation by itself. Own work.
-/
import Derived.Test.YgcsamU8
namespace Go.Proofs.Ygcsam
set_option linter.unusedVariables false
set_option linter.unusedSimpArgs false
def invB (n : Nat) (ops : Array Oper) : Bool :=
  okB n ops && backB ops && ((List.range ops.size).all fun i => match ops[i]? with
    | some o => match o.dst with
      | some d => (List.range ops.size).all fun j => Nat.beq j i || match ops[j]? with
        | some oj => match oj.dst with
          | some dj => !(Nat.beq dj d)
          | none => true
        | none => true
      | none => true
    | none => false)
section
variable {P : Program} {ops : Array Oper} {Q : Exit → Env → World → Prop} {n : Nat} {ρ0 : Env}
theorem C_inv {id : Nat} {w : World} (J : World → Prop) (A : Nat → Value → Prop) (hm : P.follows .mixedOrders = true) (hB : invB n ops = true) (hJ : J { w with drawn := w.drawn + 1 })
    (hstep : ∀ i o, ops[i]? = some o → ∀ ρ w', J w' → keepF ops ρ0 ρ → (∀ j oj d, j ∈ directB ops i → ops[j]? = some oj → oj.dst = some d → A j (ρ d)) → opR P ops o false (fun ρ' w'' => J w'' ∧ ∃ v, ρ' = puto ρ o.dst v ∧ A i v) ρ w')
    (hend : ∀ ρ w', J w' → keepF ops ρ0 ρ → (∀ (j : Nat) (oj : Oper) (d : Nat), ops[j]? = some oj → oj.dst = some d → A j (ρ d)) → Q .normal ρ w') : wpc P n (.region id ops true) Q ρ0 w := by
  simp only [invB, Bool.and_eq_true] at hB
  obtain ⟨⟨hok, hback⟩, hall⟩ := hB
  have hfact : ∀ (i j : Nat) (o oj : Oper) (d dj : Nat), ops[i]? = some o → ops[j]? = some oj → o.dst = some d → oj.dst = some dj → j ≠ i → dj ≠ d := by
    intro i j o oj d dj hi hj hd hdj hne
    have hilt : i < ops.size := (Array.getElem?_eq_some_iff.1 hi).1
    have hjlt : j < ops.size := (Array.getElem?_eq_some_iff.1 hj).1
    have h1 := List.all_eq_true.1 hall i (List.mem_range.2 hilt)
    simp only [hi, hd, List.all_eq_true] at h1
    have h2 := h1 j (List.mem_range.2 hjlt)
    simp only [hj, hdj, Bool.or_eq_true, Bool.not_eq_true'] at h2
    rcases h2 with h | h
    · exact absurd (Nat.eq_of_beq_eq_true h) hne
    · intro he; subst he; simp at h
  refine wp_region_any hm ?_
  have key : ∀ (fuel : Nat) (listed : Array Bool) (ρ : Env) (w' : World), listed.size = ops.size → unC ops.size listed = fuel → Edown ops listed → J w' → keepF ops ρ0 ρ →
      (∀ (j : Nat) (oj : Oper) (d : Nat), listed.getD j false = true → ops[j]? = some oj → oj.dst = some d → A j (ρ d)) → wpAny P .any ops (lift n Q) fuel listed (Fr n ρ) w' := by
    intro fuel
    induction fuel with
    | zero =>
      intro listed ρ w' hls hun hdown hJ' hk hA
      have hlisted : ∀ j, j < ops.size → listed.getD j true = true := by
        intro j hj
        cases hc : listed.getD j true with
        | true => rfl
        | false => have := unC_set (n := ops.size) (i := j) hls hj hc; omega
      refine ⟨?_, ρ, rfl, hend ρ w' hJ' hk fun j oj d hj hd => hA j oj d ?_ hj hd⟩
      · apply List.eq_nil_iff_forall_not_mem.2
        intro j hj
        obtain ⟨hju, oj, hoj, _⟩ := mem_ready.1 hj
        rw [hlisted j (Array.getElem?_eq_some_iff.1 hoj).1] at hju
        cases hju
      · have hjlt := (Array.getElem?_eq_some_iff.1 hj).1
        have := hlisted j hjlt
        have hjs : j < listed.size := by omega
        simp [hjs] at this ⊢; exact this
    | succ fuel ih =>
      intro listed ρ w' hls hun hdown hJ' hk hA
      have hex : ∃ i, i < ops.size ∧ listed.getD i true = false := by
        apply Classical.byContradiction
        intro hno
        have : unC ops.size listed = 0 := by
          unfold unC
          rw [List.countP_eq_zero]
          intro j hj
          have hj' := List.mem_range.1 hj
          cases hc : listed.getD j true with
          | true => simp
          | false => exact absurd ⟨j, hj', hc⟩ hno
        omega
      obtain ⟨i0, hi0, hu0⟩ := hex
      refine ⟨fun h0 => absurd h0 (ready_some hback hls i0 hi0 hu0), fun i hi => ?_⟩
      obtain ⟨hiu, o, ho, hdeps⟩ := mem_ready.1 hi
      have hilt : i < ops.size := (Array.getElem?_eq_some_iff.1 ho).1
      have hcnt := unC_set (n := ops.size) (i := i) hls hilt hiu
      have hs := hstep i o ho ρ w' hJ' hk (fun j oj d hj hoj hd => hA j oj d (ready_direct hi hj) hoj hd)
      refine wpOp_of_stepX (ext := []) (K := fun a'' w'' => J w'' ∧ ∃ v, a'' = Fr n (puto ρ o.dst v) ∧ A i v) (fun a' w'' h => ?_) (stepX_of_opR (ext := []) hok ho (fun ρ' w'' h => ?_) hs)
      · obtain ⟨hJ2, v, rfl, hv⟩ := h
        refine ih _ _ _ (by simp [hls]) (by omega) (hdown.set hi) hJ2 ?_ ?_
        · intro t ht
          cases hd : o.dst with
          | none => exact hk t ht
          | some d =>
            show put ρ d v t = ρ0 t
            unfold put
            rw [show Nat.beq d t = false from beq_ne (fun he => ht i o ho (by rw [hd, he]))]
            exact hk t ht
        · intro j oj d hjl hoj hd
          by_cases hji : j = i
          · subst hji
            rw [ho] at hoj
            cases hoj
            rw [hd]
            show A j (put ρ d v d)
            unfold put; simp; exact hv
          · have hjl' : listed.getD j false = true := by rw [getD_set_ne false (Ne.symm hji)] at hjl; exact hjl
            cases hdo : o.dst with
            | none => exact hA j oj d hjl' hoj hd
            | some di =>
              show A j (put ρ di v d)
              unfold put
              rw [show Nat.beq di d = false from beq_ne (fun he => hfact i j o oj di d ho hoj hdo hd hji he.symm)]
              exact hA j oj d hjl' hoj hd
      · obtain ⟨h1, v, rfl, h2⟩ := h; exact ⟨h1, v, rfl, h2⟩
  refine key _ _ ρ0 _ (by simp) ?_ Edown.start hJ (fun _ _ => rfl) (fun j oj d hj => ?_)
  · unfold unC
    rw [List.countP_eq_length.2]
    · simp
    · intro i hi
      have := List.mem_range.1 hi
      simp [this]
  · rw [getD_replicate_false] at hj; cases hj
theorem W_inv {id : Nat} {w : World} (J : World → Prop) (A : Nat → Value → Prop) (hm : P.follows .mixedOrders = true) (hB : invB n ops = true) (hJ : J { w with drawn := w.drawn + 1 })
    (hstep : ∀ i o, ops[i]? = some o → ∀ ρ w', J w' → keepF ops ρ0 ρ → (∀ j oj d, j ∈ directB ops i → ops[j]? = some oj → oj.dst = some d → A j (ρ d)) → WO P ops o false (fun ρ' w'' => J w'' ∧ ∃ v, ρ' = puto ρ o.dst v ∧ A i v) ρ w')
    (hend : ∀ ρ w', J w' → keepF ops ρ0 ρ → (∀ (j : Nat) (oj : Oper) (d : Nat), ops[j]? = some oj → oj.dst = some d → A j (ρ d)) → Q .normal ρ w') : WC P n (.region id ops true) Q ρ0 w :=
  ⟨C_inv J A hm hB hJ (fun i o h1 ρ w' h2 h3 h4 => (hstep i o h1 ρ w' h2 h3 h4).out) hend⟩
end
end Go.Proofs.Ygcsam
