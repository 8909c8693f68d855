/-
  REGIONS THAT DRAW THEIR ORDER AND WHOSE OPERATIONS, BUT FOR THE LAST, ONLY MAKE THE WORLD GROW: each operation by itself, under what is said of those that it waits for. Own work.
-/
import Derived.Test.YgcsamRule3
namespace Go.Proofs.Ygcsam
set_option linter.unusedVariables false
set_option linter.unusedSimpArgs false

theorem beq_ne {j i : Nat} (h : j ≠ i) : Nat.beq j i = false := by
  cases hb : Nat.beq j i with
  | false => rfl
  | true => exact absurd (Nat.eq_of_beq_eq_true hb) h

def unC (n : Nat) (listed : Array Bool) : Nat := (List.range n).countP fun i => !listed.getD i true

theorem countP_out (f : Nat → Bool) (i : Nat) : ∀ n, i < n → f i = true → (List.range n).countP (fun j => f j && !(Nat.beq j i)) + 1 = (List.range n).countP f
  | 0, h, _ => by omega
  | n + 1, h, hf => by
    rw [List.range_succ, List.countP_append, List.countP_append]
    by_cases hi : i = n
    · subst hi
      have h1 : (List.range i).countP (fun j => f j && !(Nat.beq j i)) = (List.range i).countP f := by
        apply List.countP_congr
        intro j hj
        have : j ≠ i := by have := List.mem_range.1 hj; omega
        simp [beq_ne this]
      rw [h1]; simp [hf]
    · have ih := countP_out f i n (by omega) hf
      have h2 : List.countP (fun j => f j && !(Nat.beq j i)) [n] = List.countP f [n] := by
        have : n ≠ i := fun h => hi h.symm
        simp [List.countP_cons, beq_ne this]
      rw [h2]; omega

theorem unC_set {n i : Nat} {listed : Array Bool} (hs : listed.size = n) (hi : i < n) (h : listed.getD i true = false) : unC n (listed.setIfInBounds i true) + 1 = unC n listed := by
  unfold unC
  have := countP_out (fun j => !listed.getD j true) i n hi (by simp only [h]; rfl)
  rw [← this]
  congr 1
  apply List.countP_congr
  intro j hj
  have hj' := List.mem_range.1 hj
  by_cases hji : j = i
  · subst hji; simp [hs, hi]
  · rw [getD_set_ne true (Ne.symm hji)]; simp [beq_ne hji]

def dstOf (ops : Array Oper) (j : Nat) : Nat := ((ops[j]?).bind (·.dst)).getD 0

def backB (ops : Array Oper) : Bool := (List.range ops.size).all fun i => (directB ops i).all fun e => Nat.blt e i

theorem ready_some {ops : Array Oper} {listed : Array Bool} (hb : backB ops = true) (hs : listed.size = ops.size) : ∀ i, i < ops.size → listed.getD i true = false → Region.ready .any ops listed ≠ [] := by
  intro i
  induction i using Nat.strongRecOn with
  | _ i ih =>
    intro hi hu
    by_cases hlo : ∀ e, e < i → listed.getD e false = true
    · have : i ∈ Region.ready .any ops listed := by
        rw [mem_ready]
        obtain ⟨o, ho⟩ : ∃ o, ops[i]? = some o := ⟨ops[i], by simp [hi]⟩
        refine ⟨hu, o, ho, fun e he hbind => hlo _ ?_⟩
        have h1 := List.all_eq_true.1 hb i (List.mem_range.2 hi)
        have h2 := List.all_eq_true.1 h1 e.on (by
          unfold directB; rw [ho]
          simp only [List.mem_map, List.mem_filter, Array.mem_toList_iff]
          exact ⟨e, ⟨he, hbind⟩, rfl⟩)
        simpa [Nat.blt_eq] using h2
      intro h0; rw [h0] at this; cases this
    · obtain ⟨e, he⟩ := Classical.not_forall.1 hlo
      obtain ⟨he1, he2⟩ := Classical.not_imp.1 he
      have hes : e < listed.size := by omega
      exact ih e he1 (by omega) (by simp [hes] at he2 ⊢; exact he2)

/-- What must hold of the region, to be reckoned. -/
def indepB (n : Nat) (ops : Array Oper) (last : Nat) : Bool :=
  okB n ops && backB ops && decide (ops.size = last + 1) &&
  ((List.range last).all fun i => match ops[i]? with
    | some o => o.dst.isSome && (directB ops last).contains i && ((List.range last).all fun j => Nat.beq j i || !(Nat.beq (dstOf ops j) (dstOf ops i)))
    | none => false)

/-- Slots that the region does not write are as they were. -/
def keepF (ops : Array Oper) (ρ0 ρ : Env) : Prop := ∀ t, (∀ (j : Nat) (o : Oper), ops[j]? = some o → o.dst ≠ some t) → ρ t = ρ0 t

section
variable {P : Program} {ops : Array Oper} {Q : Exit → Env → World → Prop} {n last : Nat} {ρ0 : Env} {w0 : World} {A : Nat → Value → World → Prop}

/-- A step that may be one of those that must grow: that it has grown may be asked behind it. -/
theorem opR_ext {o : Oper} {K : Env → World → Prop} {ρ : Env} {w : World} (h : opR P ops o true K ρ w) : opR P ops o true (fun ρ' w' => Ext w w' ∧ K ρ' w') ρ w := by
  unfold opR at *
  split
  · rename_i hg; rw [if_pos hg] at h
    unfold opN at *
    split
    · rename_i hc; rw [if_pos hc] at h; exact tU_mono h fun ρ w' h => ⟨h.1, h.1 rfl, h.2⟩
    · rename_i hc; rw [if_neg hc] at h; obtain ⟨v, hv, h⟩ := h; exact ⟨v, hv, Ext.refl w, h⟩
  · rename_i hg; rw [if_neg hg] at h; exact ⟨Ext.refl w, h⟩

theorem C_indep {id : Nat} {w : World} (last : Nat) (A : Nat → Value → World → Prop) (hm : P.follows .mixedOrders = true) (hB : indepB n ops last = true)
    (hmono : ∀ i v w w', A i v w → Ext w w' → A i v w')
    (hstep : ∀ i o, i < last → ops[i]? = some o → ∀ ρ w', Ext w w' → keepF ops ρ0 ρ → (∀ j, j ∈ directB ops i → A j (ρ (dstOf ops j)) w') →
      opR P ops o true (fun ρ' w'' => ∃ v, ρ' = puto ρ o.dst v ∧ A i v w'') ρ w')
    (hend : ∀ o, ops[last]? = some o → ∀ ρ w', Ext w w' → keepF ops ρ0 ρ → (∀ j, j < last → A j (ρ (dstOf ops j)) w') → opR P ops o false (Q .normal) ρ w') :
    wpc P n (.region id ops true) Q ρ0 w := by
  simp only [indepB, Bool.and_eq_true, decide_eq_true_eq] at hB
  obtain ⟨⟨⟨hok, hback⟩, hsz⟩, hall⟩ := hB
  have hfact : ∀ i o, i < last → ops[i]? = some o → o.dst = some (dstOf ops i) ∧ i ∈ directB ops last ∧ ∀ j, j < last → j ≠ i → dstOf ops j ≠ dstOf ops i := by
    intro i o hi ho
    have h1 := List.all_eq_true.1 hall i (List.mem_range.2 hi)
    simp only [ho, Bool.and_eq_true, List.contains_iff_mem, List.all_eq_true] at h1
    obtain ⟨⟨hd, hl⟩, hne⟩ := h1
    refine ⟨?_, hl, fun j hj hji => ?_⟩
    · obtain ⟨d, hd⟩ := Option.isSome_iff_exists.1 hd
      simp [dstOf, ho, hd]
    · have := hne j (List.mem_range.2 hj)
      simp only [Bool.or_eq_true, Bool.not_eq_true'] at this
      rcases this with h | h
      · exact absurd (Nat.eq_of_beq_eq_true h) hji
      · intro he; rw [he] at h; simp at h
  refine wp_region_any hm ?_
  have key : ∀ (fuel : Nat) (listed : Array Bool) (ρ : Env) (w' : World), listed.size = ops.size → unC ops.size listed = fuel → Edown ops listed → listed.getD last true = false → Ext w w' → keepF ops ρ0 ρ →
      (∀ j, j < last → listed.getD j false = true → A j (ρ (dstOf ops j)) w') → wpAny P .any ops (lift n Q) fuel listed (Fr n ρ) w' := by
    intro fuel
    induction fuel with
    | zero =>
      intro listed ρ w' hls hun _ hl _ _ _
      exfalso
      have := unC_set (n := ops.size) (i := last) hls (by omega) hl
      omega
    | succ fuel ih =>
      intro listed ρ w' hls hun hdown hl hE hk hA
      refine ⟨fun h0 => absurd h0 (ready_some hback hls last (by omega) hl), fun i hi => ?_⟩
      obtain ⟨hiu, o, ho, hdeps⟩ := mem_ready.1 hi
      have hilt : i < ops.size := (Array.getElem?_eq_some_iff.1 ho).1
      have hdown' := hdown.set hi
      have hcnt := unC_set (n := ops.size) (i := i) hls hilt hiu
      have hdir : ∀ j, j ∈ directB ops i → listed.getD j false = true := fun j hj => ready_direct hi hj
      by_cases hil : i = last
      · -- the last
        subst hil
        have hallA : ∀ j, j < i → A j (ρ (dstOf ops j)) w' := by
          intro j hj
          obtain ⟨oj, hoj⟩ : ∃ oj, ops[j]? = some oj := ⟨ops[j], by simp⟩
          exact hA j hj (hdir j (hfact j oj hj hoj).2.1)
        have hlisted : ∀ j, j < ops.size → (listed.setIfInBounds i true).getD j true = true := by
          intro j hj
          by_cases hji : j = i
          · subst hji; simp [hls, hj]
          · obtain ⟨oj, hoj⟩ : ∃ oj, ops[j]? = some oj := ⟨ops[j], by simp⟩
            have h1 := hdir j (hfact j oj (by omega) hoj).2.1
            rw [getD_set_ne true (Ne.symm hji)]
            have hjs : j < listed.size := by omega
            simp [hjs] at h1 ⊢; exact h1
        have hready : Region.ready .any ops (listed.setIfInBounds i true) = [] := by
          apply List.eq_nil_iff_forall_not_mem.2
          intro j hj
          obtain ⟨hju, oj, hoj, _⟩ := mem_ready.1 hj
          have hjlt : j < ops.size := (Array.getElem?_eq_some_iff.1 hoj).1
          rw [hlisted j hjlt] at hju
          cases hju
        refine wpOp_of_stepX (ext := []) (K := fun a w => lift n Q .normal a w) (fun a' w'' h => ?_) (stepX_of_opR (ext := []) hok ho (fun ρ' w'' h => ⟨ρ', rfl, h⟩) (hend o ho ρ w' hE hk hallA))
        cases fuel with
        | zero => exact ⟨hready, h⟩
        | succ f => exact ⟨fun _ => h, fun k hkk => by rw [hready] at hkk; cases hkk⟩
      · have hlt : i < last := by omega
        obtain ⟨hd, _, hne⟩ := hfact i o hlt ho
        have hs := hstep i o hlt ho ρ w' hE hk (fun j hj => by
          have hjlt : j < i := by
            have h1 := List.all_eq_true.1 hback i (List.mem_range.2 hilt)
            have h2 := List.all_eq_true.1 h1 j hj
            simpa [Nat.blt_eq] using h2
          exact hA j (by omega) (hdir j hj))
        refine wpOp_of_stepX (ext := [i]) (K := fun a'' w'' => Ext w' w'' ∧ ∃ v, a'' = Fr n (puto ρ o.dst v) ∧ A i v w'') (fun a' w'' h => ?_) ?_
        · obtain ⟨hE2, v, rfl, hv⟩ := h
          refine ih _ _ _ (by simp [hls]) (by omega) hdown' (by rw [getD_set_ne true hil]; exact hl) (hE.trans hE2) ?_ ?_
          · intro t ht
            rw [hd]
            have : dstOf ops i ≠ t := fun he => ht i o ho (by rw [hd, he])
            show put ρ (dstOf ops i) v t = ρ0 t
            unfold put
            rw [show Nat.beq (dstOf ops i) t = false from by
              cases hb : Nat.beq (dstOf ops i) t with
              | false => rfl
              | true => exact absurd (Nat.eq_of_beq_eq_true hb) this]
            exact hk t ht
          · intro j hj hjl
            rw [hd]
            show A j (put ρ (dstOf ops i) v (dstOf ops j)) w''
            unfold put
            by_cases hji : j = i
            · subst hji; simp; exact hv
            · rw [show Nat.beq (dstOf ops i) (dstOf ops j) = false from by
                cases hb : Nat.beq (dstOf ops i) (dstOf ops j) with
                | false => rfl
                | true => exact absurd (Nat.eq_of_beq_eq_true hb).symm (hne j hj hji)]
              rw [getD_set_ne false (Ne.symm hji)] at hjl
              exact hmono _ _ _ _ (hA j hj hjl) hE2
        · have hadd : opR P ops o true (fun ρ' w'' => Ext w' w'' ∧ ∃ v, ρ' = puto ρ o.dst v ∧ A i v w'') ρ w' := opR_ext hs
          refine stepX_of_opR (ext := [i]) hok ho (fun ρ' w'' h => ?_) (K := fun ρ' w'' => Ext w' w'' ∧ ∃ v, ρ' = puto ρ o.dst v ∧ A i v w'') ?_
          · obtain ⟨h1, v, rfl, h2⟩ := h; exact ⟨h1, v, rfl, h2⟩
          · have hc : [i].contains i = true := by simp
            rw [hc]; exact hadd
  refine key _ _ ρ0 _ (by simp) ?_ Edown.start ?_ ⟨rfl, rfl, rfl, Nat.le_refl _, fun _ _ => rfl⟩ (fun _ _ => rfl) (fun j _ hj => ?_)
  · unfold unC
    rw [List.countP_eq_length.2]
    · simp
    · intro i hi
      have := List.mem_range.1 hi
      simp [this]
  · have : last < ops.size := by omega
    simp [this]
  · rw [getD_replicate_false] at hj; cases hj
end
end Go.Proofs.Ygcsam
namespace Go.Proofs.Ygcsam
set_option linter.unusedVariables false
set_option linter.unusedSimpArgs false
section
variable {P : Program} {ops : Array Oper} {Q : Exit → Env → World → Prop} {n last : Nat} {ρ0 : Env}
theorem W_indep {id : Nat} {w : World} (last : Nat) (A : Nat → Value → World → Prop) (hm : P.follows .mixedOrders = true) (hB : indepB n ops last = true)
    (hmono : ∀ i v w w', A i v w → Ext w w' → A i v w')
    (hstep : ∀ i o, i < last → ops[i]? = some o → ∀ ρ w', Ext w w' → keepF ops ρ0 ρ → (∀ j, j ∈ directB ops i → A j (ρ (dstOf ops j)) w') →
      WO P ops o true (fun ρ' w'' => ∃ v, ρ' = puto ρ o.dst v ∧ A i v w'') ρ w')
    (hend : ∀ o, ops[last]? = some o → ∀ ρ w', Ext w w' → keepF ops ρ0 ρ → (∀ j, j < last → A j (ρ (dstOf ops j)) w') → WO P ops o false (Q .normal) ρ w') :
    WC P n (.region id ops true) Q ρ0 w :=
  ⟨C_indep last A hm hB hmono (fun i o h1 h2 ρ w' h3 h4 h5 => (hstep i o h1 h2 ρ w' h3 h4 h5).out) (fun o h1 ρ w' h3 h4 h5 => (hend o h1 ρ w' h3 h4 h5).out)⟩
def notDst (ops : Array Oper) (t : Nat) : Bool := ops.toList.all fun o => match o.dst with | some d => !(Nat.beq d t) | none => true
theorem keepF.get {ρ : Env} (h : keepF ops ρ0 ρ) {t : Nat} (hb : notDst ops t = true) : ρ t = ρ0 t := by
  refine h t fun j o ho hd => ?_
  have := List.all_eq_true.1 hb o (by simpa using Array.mem_of_getElem? ho)
  simp [hd] at this
theorem mem_direct {i j : Nat} (h : (directB ops i).contains j = true) : j ∈ directB ops i := List.contains_iff_mem.1 h
end

section
variable {P : Program} {ops : Array Oper} {e : Bool} {K : Env → World → Prop} {Q : Exit → Env → World → Prop} {ρ : Env} {w : World} {d : Nat} {ty : TypeId} {pos : String} {af : Array Edge} {n : Nat}

theorem growBy_le (newLen : Nat) : ∀ r c, c ≤ newLen → Builtin.growBy newLen r c ≤ 2 * newLen + 768
  | 0, c, h => by simp only [Builtin.growBy]; omega
  | r + 1, c, h => by
    simp only [Builtin.growBy]
    split
    · omega
    · by_cases h2 : c + (c + 768) / 4 ≤ newLen
      · exact growBy_le newLen r _ h2
      · cases r with
        | zero => simp only [Builtin.growBy]; omega
        | succ r => simp only [Builtin.growBy]; rw [if_pos (by omega)]; omega
theorem nextcap_le {need cap : Nat} (h : cap ≤ need) : Builtin.nextslicecap need cap ≤ 2 * need + 768 := by
  unfold Builtin.nextslicecap
  split
  · omega
  · split
    · omega
    · exact growBy_le need 4 cap h

theorem zero_one : (Array.range 0).map ((#[] : Array Value)[· % 0]!) = (#[] : Array Value) := by simp
theorem O_make0 {t el s by_ : Nat} {kl kc : IntKind} {x y : Operand} (ht : slcT P t el s) (hby : bytesT P el by_) (hx : ev ρ x = .int kl ((0 : Nat) : Int)) (hy : ev ρ y = .int kc ((0 : Nat) : Int))
    (k : ∀ w', Ext w w' → w'.heap.size = w.heap.size + 1 → Blk w' w.heap.size #[] el → K (put ρ d (.slice (some ⟨w.heap.size, 0, none⟩) 0 0)) w') : WO P ops ⟨some d, .makeSlice t x y, ty, pos, af, none⟩ e K ρ w := by
  refine O_do (v := .slice (some ⟨w.heap.size, 0, none⟩) 0 0) (w' := { w with heap := w.heap.push (.cells #[] el) }) rfl ?_ (fun _ => ext_push w _) (k _ (ext_push w _) (by simp) (blk_push w _ _))
  have e1 : IntKind.i64.wrap ((0 : Nat) : Int) = ((0 : Nat) : Int) := wrapN (fit_i64 (by omega))
  cases hi : P.info? el with
  | none => unfold bytesT at hby; rw [hi] at hby; cases hby
  | some i =>
    simp only [execOp, hx, hy, Instr.makeSlice, Sem.run_bind, run_underlying' ht.1, Result.andThen_ok, asInt, asIntOf, Sem.run_pure, typeInfo, run_program, hi, e1]
    simp [run_sizeOf ht.2, newRow]
    have h0 : Array.map (fun _ : Nat => (default : Value)) (Array.range 0) = #[] := by simp [Array.range]
    rw [h0]

/-- The cells of a slice, whatever its address. -/
def oldCells (w : World) (base : Option Addr) (l s : Nat) (c : Array Value) : Prop :=
  (base = none ∧ l = 0 ∧ c = #[]) ∨ ∃ b o c1 t1, base = some ⟨b, o, none⟩ ∧ Blk w b c1 t1 ∧ o + l * s ≤ c1.size ∧ c = c1.extract o (o + l * s)

theorem run_oldCells {base : Option Addr} {l s cap : Nat} {c : Array Value} (h : oldCells w base l s c) : (Builtin.firstCells s l (.slice base l cap)).run P w = .ok c w := by
  rcases h with ⟨rfl, rfl, rfl⟩ | ⟨b, o, c1, t1, rfl, hb, hs, rfl⟩
  · simp [Builtin.firstCells]
  · exact run_firstCells hb hs
theorem oldCells.drew {base : Option Addr} {l s k : Nat} {c : Array Value} (h : oldCells w base l s c) : oldCells { w with drawn := k } base l s c := by
  rcases h with h | ⟨b, o, c1, t1, h1, hb, hs, h2⟩
  · exact .inl h
  · exact .inr ⟨b, o, c1, t1, h1, hb, hs, h2⟩

/-- append where there is no room: a new row, as long as the tape says. -/
theorem O_append_grow {t t2 el s by_ l cap m c2 : Nat} {el2 : Nat} {base src : Option Addr} {cd cs : Array Value} {z : Value} {x y : Operand} {ats : Array TypeId} (hat : ats[0]? = some t) (hat2 : ats[1]? = some t2) (ht : slcT P t el s) (ht2 : P.underlying t2 = some (.slice el2)) (hby : bytesT P el by_) (hb0 : by_ ≠ 0) (hz : zeroT P el z)
    (hx : ev ρ x = .slice base l cap) (hy : ev ρ y = .slice src m c2) (hgrow : cap < l + m) (hlc : l ≤ cap) (hbytes : (2 * (l + m) + 768) * by_ ≤ 281474976710656) (hD : oldCells w base l s cd) (hS : oldCells w src m s cs)
    (k : ∀ w' N, Ext w w' → w'.heap.size = w.heap.size + 1 → l + m ≤ N → Blk w' w.heap.size (cd ++ cs ++ zs ((N - (l + m)) * z.cells.size) z.cells) el → K (put ρ d (.slice (some ⟨w.heap.size, 0, none⟩) (l + m) N)) w') :
    WO P ops ⟨some d, .call ⟨.builtin .append, #[x, y], ats⟩, ty, pos, af, none⟩ e K ρ w := by
  obtain ⟨N, hN⟩ : ∃ N, N = (Question.appendCap (l + m) cap el).cut (w.tape w.drawn (.appendCap (l + m) cap el)) := ⟨_, rfl⟩
  have hNge : l + m ≤ N := by rw [hN]; simp only [Question.cut]; omega
  have hE : Ext w { w with drawn := w.drawn + 1, heap := w.heap.push (.cells (cd ++ cs ++ zs ((N - (l + m)) * z.cells.size) z.cells) el) } :=
    ⟨rfl, rfl, rfl, by simp, fun k hk => by simp only [Array.getElem?_push]; rw [if_neg (by omega)]⟩
  refine O_do (v := .slice (some ⟨w.heap.size, 0, none⟩) (l + m) N) (w' := { w with drawn := w.drawn + 1, heap := w.heap.push (.cells (cd ++ cs ++ zs ((N - (l + m)) * z.cells.size) z.cells) el) }) rfl ?_ (fun _ => hE) (k _ N hE (by simp) hNge (by unfold Blk; simp))
  have hnf : ¬ (l + m ≤ cap) := by omega
  cases hi : P.info? el with
  | none => unfold bytesT at hby; rw [hi] at hby; cases hby
  | some i =>
    have hbi : i.bytes = by_ := by unfold bytesT at hby; rw [hi] at hby; simpa using hby
    have hcap : ¬ (Builtin.nextslicecap (l + m) cap * i.bytes > 2 ^ 48) := by
      rw [hbi]
      have h1 := nextcap_le (need := l + m) (cap := cap) (by omega)
      have h2 := Nat.mul_le_mul_right by_ h1
      omega
    have d1 := run_oldCells (P := P) (cap := cap) hD.drew (w := { w with drawn := w.drawn + 1 })
    have d2 := run_oldCells (P := P) (cap := c2) hS.drew (w := { w with drawn := w.drawn + 1 })
    have hforced : (Question.appendCap (l + m) cap el).forced = false := rfl
    simp only [execOp, resolve, List.map_toArray, List.map_cons, List.map_nil, invoke, builtin, Builtin.append_, Sem.run_bind, Sem.run_pure, Result.andThen_ok, hat, hat2, hx, hy, List.getElem?_toArray, List.getElem?_cons_zero, List.getElem?_cons_succ,
      run_underlying' ht.1, run_underlying' ht2, lenOf_s, run_sizeOf ht.2, Bool.false_eq_true, if_false, hnf, typeInfo, run_program, hi, false_or, hbi, hb0, and_false, Sem.run_ite]
    rw [if_neg (by simp [hbi] at hcap ⊢; omega)]
    simp only [Result.andThen_ok, Sem.run_pure, run_choose, hforced, Bool.false_eq_true, if_false, Sem.run_bind, run_askRoom, Bool.not_false, if_true, ← hN, d1, d2, run_zeroValue hz, newRow, run_newObj]
    rfl

/-- A slice of bytes that reads g 0 .. g (len - 1). -/
def BS (w : World) (v : Value) (len : Nat) (g : Nat → Nat) : Prop :=
  ∃ b o cap c t, v = .slice (some ⟨b, o, none⟩) len cap ∧ Blk w b c t ∧ o + len ≤ c.size ∧ ∀ i, i < len → c[o + i]? = some (.int .u8 (g i : Nat))
theorem BS.ext {w w' : World} {v : Value} {len : Nat} {g : Nat → Nat} (h : BS w v len g) (hE : Ext w w') : BS w' v len g := by
  obtain ⟨b, o, cap, c, t, h1, h2, h3, h4⟩ := h
  exact ⟨b, o, cap, c, t, h1, h2.ext hE, h3, h4⟩
theorem BS.cells {c : Array Value} {o len : Nat} {g : Nat → Nat} (h3 : o + len ≤ c.size) (h4 : ∀ i, i < len → c[o + i]? = some (.int .u8 (g i : Nat))) : c.extract o (o + len) = ns .u8 len g := by
  refine ns_ext (by simp; omega) fun i hi => ?_
  rw [Array.getElem?_extract, if_pos (by omega), h4 i hi]
theorem BS.ns {w : World} {b n : Nat} {g : Nat → Nat} {t len cap : Nat} (h : Blk w b (ns .u8 n g) t) (hl : len ≤ n) : BS w (.slice (some ⟨b, 0, none⟩) len cap) len g :=
  ⟨b, 0, cap, _, t, rfl, h, by rw [ns_size]; omega, fun i hi => by rw [Nat.zero_add]; exact ns_get (by omega)⟩

/-- append of bytes to a row of the call's own, where there is room. -/
theorem O_append_by {t t2 el b l cap m : Nat} {el2 : Nat} {f g : Nat → Nat} {td : TypeId} {x y : Operand} {ats : Array TypeId} {v : Value} (hat : ats[0]? = some t) (hat2 : ats[1]? = some t2) (ht : slcT P t el 1) (ht2 : P.underlying t2 = some (.slice el2)) (hx : ev ρ x = .slice (some ⟨b, 0, none⟩) l cap) (hy : ev ρ y = v) (hv : BS w v m g)
    (hfit : l + m ≤ cap) (hD : Blk w b (ns .u8 n f) td) (hd : l + m ≤ n) (he : e = false)
    (k : ∀ w', Upd w w' b (ns .u8 n (fun j => if l ≤ j ∧ j < l + m then g (j - l) else f j)) td → K (put ρ d (.slice (some ⟨b, 0, none⟩) (l + m) cap)) w') : WO P ops ⟨some d, .call ⟨.builtin .append, #[x, y], ats⟩, ty, pos, af, none⟩ e K ρ w := by
  obtain ⟨b2, o2, c2, c, t', rfl, hS, h3, h4⟩ := hv
  refine O_append_fit hat hat2 ht ht2 hx hy hfit hS (by omega) hD (by rw [ns_size]; omega) ?_ he fun w' hU => k w' ?_
  · rw [Nat.mul_one, BS.cells h3 h4]; exact ns_one
  · simp only [Nat.mul_one, Nat.zero_add] at hU
    rw [BS.cells h3 h4, ns_spl hd] at hU
    exact hU
end
end Go.Proofs.Ygcsam
