/-
  REGIONS THAT DRAW THEIR ORDER, WITH FACTS ON THE WORLD; logOf, todoOf, Wide. Own work.
-/
import Derived.Test.YgcsamC2
import Derived.Test.YgcsamU4
import Derived.Test.YgcsamF5
import Derived.Test.YgcsamE5
namespace Go.Proofs.Ygcsam
set_option linter.unusedVariables false
set_option linter.unusedSimpArgs false
set_option maxRecDepth 4000
section
variable {P : Program} {ops : Array Oper} {Q : Exit → Env → World → Prop} {n : Nat} {ρ0 : Env}
theorem C_invL {id : Nat} {w : World} (J : World → Prop) (last : Nat) (A : Nat → Value → World → Prop) (hm : P.follows .mixedOrders = true) (hB : indepB n ops last = true)
    (hmono : ∀ i v w w', A i v w → Shp w w' → A i v w') (hJ0 : J { w with drawn := w.drawn + 1 })
    (hstep : ∀ i o, i < last → ops[i]? = some o → ∀ ρ w', J w' → keepF ops ρ0 ρ → (∀ j, j ∈ directB ops i → A j (ρ (dstOf ops j)) w') →
      opR P ops o false (fun ρ' w'' => J w'' ∧ Shp w' w'' ∧ ∃ v, ρ' = puto ρ o.dst v ∧ A i v w'') ρ w')
    (hend : ∀ o, ops[last]? = some o → ∀ ρ w', J w' → keepF ops ρ0 ρ → (∀ j, j < last → A j (ρ (dstOf ops j)) w') → opR P ops o false (Q .normal) ρ w') :
    wpc P n (.region id ops true) Q ρ0 w := by
  simp only [indepB, Bool.and_eq_true, decide_eq_true_eq] at hB
  obtain ⟨⟨⟨hok, hback⟩, hsz⟩, hall⟩ := hB
  have hfact : ∀ i o, i < last → ops[i]? = some o → o.dst = some (dstOf ops i) ∧ i ∈ directB ops last ∧ ∀ j, j < last → j ≠ i → dstOf ops j ≠ dstOf ops i := by
    intro i o hi ho
    have h1 := List.all_eq_true.1 hall i (List.mem_range.2 hi)
    simp only [ho, Bool.and_eq_true, List.contains_iff_mem, List.all_eq_true] at h1
    obtain ⟨⟨hd, hl⟩, hne⟩ := h1
    refine ⟨?_, hl, fun j hj hji => ?_⟩
    · obtain ⟨d, hd⟩ := Option.isSome_iff_exists.1 hd
      simp [dstOf, ho, hd]
    · have := hne j (List.mem_range.2 hj)
      simp only [Bool.or_eq_true, Bool.not_eq_true'] at this
      rcases this with h | h
      · exact absurd (Nat.eq_of_beq_eq_true h) hji
      · intro he; rw [he] at h; simp at h
  refine wp_region_any hm ?_
  have key : ∀ (fuel : Nat) (listed : Array Bool) (ρ : Env) (w' : World), listed.size = ops.size → unC ops.size listed = fuel → Edown ops listed → listed.getD last true = false → J w' → keepF ops ρ0 ρ →
      (∀ j, j < last → listed.getD j false = true → A j (ρ (dstOf ops j)) w') → wpAny P .any ops (lift n Q) fuel listed (Fr n ρ) w' := by
    intro fuel
    induction fuel with
    | zero =>
      intro listed ρ w' hls hun _ hl _ _ _
      exfalso
      have := unC_set (n := ops.size) (i := last) hls (by omega) hl
      omega
    | succ fuel ih =>
      intro listed ρ w' hls hun hdown hl hE hk hA
      refine ⟨fun h0 => absurd h0 (ready_some hback hls last (by omega) hl), fun i hi => ?_⟩
      obtain ⟨hiu, o, ho, hdeps⟩ := mem_ready.1 hi
      have hilt : i < ops.size := (Array.getElem?_eq_some_iff.1 ho).1
      have hdown' := hdown.set hi
      have hcnt := unC_set (n := ops.size) (i := i) hls hilt hiu
      have hdir : ∀ j, j ∈ directB ops i → listed.getD j false = true := fun j hj => ready_direct hi hj
      by_cases hil : i = last
      · -- the last
        subst hil
        have hallA : ∀ j, j < i → A j (ρ (dstOf ops j)) w' := by
          intro j hj
          obtain ⟨oj, hoj⟩ : ∃ oj, ops[j]? = some oj := ⟨ops[j], by simp⟩
          exact hA j hj (hdir j (hfact j oj hj hoj).2.1)
        have hlisted : ∀ j, j < ops.size → (listed.setIfInBounds i true).getD j true = true := by
          intro j hj
          by_cases hji : j = i
          · subst hji; simp [hls, hj]
          · obtain ⟨oj, hoj⟩ : ∃ oj, ops[j]? = some oj := ⟨ops[j], by simp⟩
            have h1 := hdir j (hfact j oj (by omega) hoj).2.1
            rw [getD_set_ne true (Ne.symm hji)]
            have hjs : j < listed.size := by omega
            simp [hjs] at h1 ⊢; exact h1
        have hready : Region.ready .any ops (listed.setIfInBounds i true) = [] := by
          apply List.eq_nil_iff_forall_not_mem.2
          intro j hj
          obtain ⟨hju, oj, hoj, _⟩ := mem_ready.1 hj
          have hjlt : j < ops.size := (Array.getElem?_eq_some_iff.1 hoj).1
          rw [hlisted j hjlt] at hju
          cases hju
        refine wpOp_of_stepX (ext := []) (K := fun a w => lift n Q .normal a w) (fun a' w'' h => ?_) (stepX_of_opR (ext := []) hok ho (fun ρ' w'' h => ⟨ρ', rfl, h⟩) (hend o ho ρ w' hE hk hallA))
        cases fuel with
        | zero => exact ⟨hready, h⟩
        | succ f => exact ⟨fun _ => h, fun k hkk => by rw [hready] at hkk; cases hkk⟩
      · have hlt : i < last := by omega
        obtain ⟨hd, _, hne⟩ := hfact i o hlt ho
        have hs := hstep i o hlt ho ρ w' hE hk (fun j hj => by
          have hjlt : j < i := by
            have h1 := List.all_eq_true.1 hback i (List.mem_range.2 hilt)
            have h2 := List.all_eq_true.1 h1 j hj
            simpa [Nat.blt_eq] using h2
          exact hA j (by omega) (hdir j hj))
        refine wpOp_of_stepX (ext := []) (K := fun a'' w'' => J w'' ∧ Shp w' w'' ∧ ∃ v, a'' = Fr n (puto ρ o.dst v) ∧ A i v w'') (fun a' w'' h => ?_) ?_
        · obtain ⟨hJ2, hE2, v, rfl, hv⟩ := h
          refine ih _ _ _ (by simp [hls]) (by omega) hdown' (by rw [getD_set_ne true hil]; exact hl) hJ2 ?_ ?_
          · intro t ht
            rw [hd]
            have : dstOf ops i ≠ t := fun he => ht i o ho (by rw [hd, he])
            show put ρ (dstOf ops i) v t = ρ0 t
            unfold put
            rw [show Nat.beq (dstOf ops i) t = false from by
              cases hb : Nat.beq (dstOf ops i) t with
              | false => rfl
              | true => exact absurd (Nat.eq_of_beq_eq_true hb) this]
            exact hk t ht
          · intro j hj hjl
            rw [hd]
            show A j (put ρ (dstOf ops i) v (dstOf ops j)) w''
            unfold put
            by_cases hji : j = i
            · subst hji; simp; exact hv
            · rw [show Nat.beq (dstOf ops i) (dstOf ops j) = false from by
                cases hb : Nat.beq (dstOf ops i) (dstOf ops j) with
                | false => rfl
                | true => exact absurd (Nat.eq_of_beq_eq_true hb).symm (hne j hj hji)]
              rw [getD_set_ne false (Ne.symm hji)] at hjl
              exact hmono _ _ _ _ (hA j hj hjl) hE2
        · refine stepX_of_opR (ext := []) hok ho (fun ρ' w'' h => ?_) hs
          obtain ⟨h1, h3, v, rfl, h2⟩ := h; exact ⟨h1, h3, v, rfl, h2⟩
  refine key _ _ ρ0 _ (by simp) ?_ Edown.start ?_ hJ0 (fun _ _ => rfl) (fun j _ hj => ?_)
  · unfold unC
    rw [List.countP_eq_length.2]
    · simp
    · intro i hi
      have := List.mem_range.1 hi
      simp [this]
  · have : last < ops.size := by omega
    simp [this]
  · rw [getD_replicate_false] at hj; cases hj
theorem W_invL {id : Nat} {w : World} (J : World → Prop) (last : Nat) (A : Nat → Value → World → Prop) (hm : P.follows .mixedOrders = true) (hB : indepB n ops last = true)
    (hmono : ∀ i v w w', A i v w → Shp w w' → A i v w') (hJ0 : J { w with drawn := w.drawn + 1 })
    (hstep : ∀ i o, i < last → ops[i]? = some o → ∀ ρ w', J w' → keepF ops ρ0 ρ → (∀ j, j ∈ directB ops i → A j (ρ (dstOf ops j)) w') →
      WO P ops o false (fun ρ' w'' => J w'' ∧ Shp w' w'' ∧ ∃ v, ρ' = puto ρ o.dst v ∧ A i v w'') ρ w')
    (hend : ∀ o, ops[last]? = some o → ∀ ρ w', J w' → keepF ops ρ0 ρ → (∀ j, j < last → A j (ρ (dstOf ops j)) w') → WO P ops o false (Q .normal) ρ w') :
    WC P n (.region id ops true) Q ρ0 w :=
  ⟨C_invL J last A hm hB hmono hJ0 (fun i o h1 h2 ρ w' h3 h4 h5 => (hstep i o h1 h2 ρ w' h3 h4 h5).out) (fun o h1 ρ w' h3 h4 h5 => (hend o h1 ρ w' h3 h4 h5).out)⟩
end
section
variable {P : Program} {ops : Array Oper} {e : Bool} {K : Env → World → Prop} {ρ : Env} {w w0 : World} {d : Nat} {ty : TypeId} {pos : String} {af : Array Edge} {B : Nat} {L : List Fact} {M : List (Nat × Array Value)}
theorem O_slp {t nn el s b o : Nat} {z : Int} {kd : IntKind} {x x2 : Operand} (ht : arrT P t nn el s) (hx : ev ρ x = .pointer (some ⟨b, o, none⟩)) (hh : ev ρ x2 = .int kd z) (h1 : 0 ≤ z) (h2 : z ≤ nn) (h0 : nn ≠ 0) (k : ∀ m : Nat, z = m → K (put ρ d (.slice (some ⟨b, o, none⟩) m nn)) w) : WO P ops ⟨some d, .slice t x none (some x2) none, ty, pos, af, none⟩ e K ρ w := by
  obtain ⟨m, rfl⟩ := Int.eq_ofNat_of_zero_le h1
  exact O_slice_a (l := 0) (h := m) (m := nn) ht hx rfl ⟨_, hh⟩ rfl (fun h => by cases h) (Nat.zero_le _) (by omega) (Nat.le_refl _) (by
    rw [if_neg h0, Nat.zero_mul, Nat.add_zero, Nat.sub_zero, Nat.sub_zero]; exact k m rfl)
theorem TS.byF {T b n cap o m : Nat} (h : TS B w0 w L M) (hm : (T, some ⟨b, 0, none⟩, n, cap) ∈ L) (ho : o + m ≤ cap * csz T) (hc : ∀ j, j < m → lay T ((o + j) % csz T) = 1) : ∃ f : Nat → Nat, (∀ j, f j < 256) ∧ By w b o m f := by
  obtain ⟨hB, c, hb, hs⟩ := h.row hm
  have h1 : (c.extract o (o + m)).size = m := by simp; omega
  obtain ⟨f, e1, e2⟩ := row8 (B := B) (w := w) h1 (fun j v hj => by
    rw [Array.getElem?_extract] at hj
    split at hj
    · have hj' : j < m := by omega
      have := h.t.ok b c T hB hb (o + j) v hj
      rw [hc j hj'] at this; exact this
    · cases hj)
  refine ⟨f, e2, fun j hj => ?_⟩
  have h2 : (c.extract o (o + m))[j]? = some (.int .u8 ((f j : Nat) : Int)) := by rw [e1, ns_get hj]
  rw [Array.getElem?_extract] at h2
  split at h2
  · rw [hb.cellq]; exact h2
  · cases h2
theorem O_bdn8 {t m el : Nat} {parts : Array (Nat × Operand)} {l : List (Nat × Value)} {lo : List (Nat × Array Value)} (h : TS B w0 w L M) (hp : arrT P t m el 1) (hz : zchk P t = true) (hm : csz t = m) (hr : runB t 0 m 1 = true) (hl : parts.toList.map (fun p => (p.1, ev ρ p.2)) = l) (hf : Fits (fun i => some (i * 1, 1)) (csz t) l lo) (hT : TyP B w t lo)
    (k : ∀ f : Nat → Nat, (∀ i, f i < 256) → K (put ρ d (.agg (ns .u8 m f))) w) : WO P ops ⟨some d, .build t parts, ty, pos, af, none⟩ e K ρ w := by
  obtain ⟨v, h1, h2, h3⟩ := zchk.ok hz
  have hsz : (fl v.cells lo).size = m := by rw [fl_size, h2, hm]
  have h4 := fill_fl _ v.cells _ (by rw [h2]; exact hf)
  have h5 := fl_ok (B := B) (w := w) _ v.cells _ h2 hf hT (fun o u hu => by
    obtain ⟨u', e1, e2⟩ := h3 o (by have := get_lt hu; omega)
    rw [e1] at hu; cases hu; exact okZ.ok e2)
  obtain ⟨f, e1, e2⟩ := row8 (B := B) (w := w) hsz (fun o u hu => by
    have ho : o < m := by have := get_lt hu; omega
    have := h5 o u hu
    rw [show lay t o = 1 by have := Nat.eq_of_beq_eq_true (List.all_eq_true.1 hr o (List.mem_range.2 ho)); rw [Nat.zero_add] at this; exact this] at this
    exact this)
  refine O_pure rfl (fun w' => ?_) (by have := k f e2; rw [← e1] at this; exact this)
  have h6 : (parts.map fun (i, x) => (i, ev ρ x)).toList = l := by rw [← hl, Array.toList_map]
  simp only [execOp, Instr.build, Sem.run_bind, run_zeroValue h1, Result.andThen_ok, run_underlying' hp.1, run_sizeOf hp.2, h6, h4]
  rfl
end
theorem todoOf_ok {B : Nat} {w : World} (hT : WT B w) {cs : Array Value} (hA : okA B w 55 cs) : Rd B Samg.prog 50 [.agg cs] w fun v w' => ∃ z : Int, v = .int .i32 z ∧ -2147483648 ≤ z ∧ z < 2147483648 := by
  refine W_enter (l := [_]) Samg.func50 rfl rfl rfl ?_
  have hS := (TS.start hT).addM hA
  repeat' (first
    | (refine L_cons ?_)
    | (refine R_cons rfl ?_)
    | (refine W_seq ?_)
    | (refine W_region (by kernel_rfl) ?_)
    | (refine L_nil ?_)
    | (refine R_nil ?_)
    | (refine W_block ?_)
    | (refine W_skip ?_)
    | (refine W_exit ?_)
    | (refine W_ret ?_)
    | (guard_target =~ thenQ _ _ _ _ _; first | (refine T_next ?_) | (refine T_exit ?_) | (refine T_ret ?_))
    | (guard_target =~ blockQ _ _ _ _ _; first | (refine B_next ?_) | (refine B_same ?_) | (refine B_other (by kernel_rfl) ?_) | (refine B_ret ?_))
    | (refine W_true rfl rfl ?_)
    | (refine W_false rfl rfl ?_)
    | (guard_target =~ WO _ _ (Oper.mk _ (Op.box 55 _) _ _ _ none) _ _ _ _; first | (refine O_bxs (by assumption) (by repeat (first | exact List.Mem.head _ | refine List.Mem.tail _ ?_)) rfl ?_; intro _ _ _ _))
    | (guard_target =~ WO _ _ (Oper.mk _ (Op.assign _) _ _ _ none) _ _ _ _; first | (refine O_assign (v := (.int _ _)) rfl ?_) | (refine O_assign (v := (.bool _)) rfl ?_) | (refine O_assign (v := (.pointer _)) rfl ?_) | (refine O_assign (v := (.slice _ _ _)) rfl ?_) | (refine O_assign (v := (.agg _)) rfl ?_) | (refine O_assign (v := (.tuple _)) rfl ?_))
    | (guard_target =~ WO _ _ (Oper.mk _ (Op.fieldAddr 55 _ 4) _ _ _ none) _ _ _ _; first | (refine O_fdT fd55_4 (by decide) rfl ?_) | (refine O_field fd55_4 (by decide) rfl ?_))
    | (guard_target =~ WO _ _ (Oper.mk _ (Op.load 27 _) _ _ _ none) _ _ _ _; first | (refine O_ld64 (by assumption) (by repeat (first | exact List.Mem.head _ | refine List.Mem.tail _ ?_)) on27 rfl (by first | omega | (simp only [csz]; omega)) (by first | rfl | exact layMod rfl rfl) ?_; intro _ _))
    | (guard_target =~ WO _ _ (Oper.mk _ (Op.binOp BinOp.rem 27 _ _ _) _ _ _ none) _ _ _ _; first | (refine O_remZ rfl rfl (by omega) (by omega) ?_))
    | (guard_target =~ WO _ _ (Oper.mk _ (Op.convert 27 21 _) _ _ _ none) _ _ _ _; first | (refine O_convZ Samg.underlying27 Samg.underlying21 rfl (by simp only [rngZ]; omega) ?_) | (refine O_convA Samg.underlying27 Samg.underlying21 rfl rfl ?_; intro _ hr; simp only [rngZ] at hr)))
  exact E_ret1T (by assumption) rfl rfl rfl ⟨_, rfl, by omega, by omega⟩
theorem wide_ok {B : Nat} {w : World} (hT : WT B w) {cs : Array Value} (hA : okA B w 38 cs) : Rd B Samg.prog 16 [.agg cs] w fun v w' => ∃ cs', v = .agg cs' ∧ okA B w' 55 cs' := by
  refine W_enter (l := [_]) Samg.func16 rfl rfl rfl ?_
  have hS := (TS.start hT).addM hA
  repeat' (first
    | (refine L_cons ?_)
    | (refine R_cons rfl ?_)
    | (refine W_seq ?_)
    | (refine W_region (by kernel_rfl) ?_)
    | (refine L_nil ?_)
    | (refine R_nil ?_)
    | (refine W_block ?_)
    | (refine W_skip ?_)
    | (refine W_exit ?_)
    | (refine W_ret ?_)
    | (guard_target =~ thenQ _ _ _ _ _; first | (refine T_next ?_) | (refine T_exit ?_) | (refine T_ret ?_))
    | (guard_target =~ blockQ _ _ _ _ _; first | (refine B_next ?_) | (refine B_same ?_) | (refine B_other (by kernel_rfl) ?_) | (refine B_ret ?_))
    | (refine W_true rfl rfl ?_)
    | (refine W_false rfl rfl ?_)
    | (guard_target =~ WO _ _ (Oper.mk _ (Op.build 24 #[(19, _)]) _ _ _ none) _ _ _ _; first | (refine O_bdn8 (l := [(19, .int .u8 (Nat.cast _))]) (by assumption) ar24 zc24 rfl rfl rfl ⟨_, _, rfl, rfl, rfl, rfl⟩ ⟨one_ok (c' := 1) rfl (ok8 (by omega)), trivial⟩ ?_; intro _ _))
    | (guard_target =~ WO _ _ (Oper.mk _ (Op.build 30 #[(31, _)]) _ _ _ none) _ _ _ _; first | (refine O_bdn8 (l := [(31, .int .u8 (Nat.cast _))]) (by assumption) ar30 zc30 rfl rfl rfl ⟨_, _, rfl, rfl, rfl, rfl⟩ ⟨one_ok (c' := 1) rfl (ok8 (by omega)), trivial⟩ ?_; intro _ _))
    | (guard_target =~ WO _ _ (Oper.mk _ (Op.slice 30 _ none (some _) none) _ _ _ none) _ _ _ _; first | (refine O_slp ar30 rfl rfl (by omega) (by omega) (by decide) ?_; intro m hm))
    | (guard_target =~ WO _ _ (Oper.mk _ (Op.call (Call.mk (Callee.value (Operand.func 55)) _ _)) _ _ _ none) _ _ _ _; first | (obtain ⟨f, hf, hby⟩ := TS.byF (T := 38) (o := 0 + 3) (m := m) (by assumption) (by repeat (first | exact List.Mem.head _ | refine List.Mem.tail _ ?_)) (by simp only [csz]; omega) (fun j hj => (by have : 0 + 3 + j < 36 := (by omega); rw [show (0 + 3 + j) % csz 38 = 0 + 3 + j from Nat.mod_eq_of_lt this]; simp only [lay]; rw [if_pos (by omega)])); refine O_rd (l := [.slice _ _ _]) (by assumption) cl55 rfl (copyBytes_arg (TS.t (by assumption)) (by omega) hf hby) ?_; rintro _ _ ⟨_, _, _, rfl, hs1⟩ hS1 _; replace hS1 := hS1.addL hs1))
    | (guard_target =~ WC _ _ (Code.region 1 _ true) _ _ _; first | (refine W_drawnT (id := 1) [20] [0, 1, 2, 3, 4, 5, 6, 7, 8, 9, 10, 11, 12, 13, 14, 15, 16, 17, 18, 19, 20, 21, 22] mixed (by kernel_rfl) (by kernel_rfl) (by assumption) ?_; intro _ _ _))
    | (guard_target =~ WO _ _ (Oper.mk _ (Op.box 38 _) _ _ _ none) _ _ _ _; first | (refine O_bxs (by assumption) (by repeat (first | exact List.Mem.head _ | refine List.Mem.tail _ ?_)) rfl ?_; intro _ _ _ _))
    | (guard_target =~ WO _ _ (Oper.mk _ (Op.alloc 55) _ _ _ none) _ _ _ _; first | (refine O_al (by assumption) zc55 (by decide) ?_; intro _ _ _ _))
    | (guard_target =~ WO _ _ (Oper.mk _ (Op.fieldAddr 38 _ 0) _ _ _ none) _ _ _ _; first | (refine O_fdT fd38_0 (by decide) rfl ?_) | (refine O_field fd38_0 (by decide) rfl ?_))
    | (guard_target =~ WO _ _ (Oper.mk _ (Op.load 5 _) _ _ _ none) _ _ _ _; first | (refine O_ld8 (by assumption) (by repeat (first | exact List.Mem.head _ | refine List.Mem.tail _ ?_)) on5 rfl (by first | omega | (simp only [csz]; omega)) (by first | rfl | exact layMod rfl rfl) ?_; intro _ _))
    | (guard_target =~ WO _ _ (Oper.mk _ (Op.fieldAddr 38 _ 1) _ _ _ none) _ _ _ _; first | (refine O_fdT fd38_1 (by decide) rfl ?_) | (refine O_field fd38_1 (by decide) rfl ?_))
    | (guard_target =~ WO _ _ (Oper.mk _ (Op.fieldAddr 38 _ 2) _ _ _ none) _ _ _ _; first | (refine O_fdT fd38_2 (by decide) rfl ?_) | (refine O_field fd38_2 (by decide) rfl ?_))
    | (guard_target =~ WO _ _ (Oper.mk _ (Op.fieldAddr 38 _ 3) _ _ _ none) _ _ _ _; first | (refine O_fdT fd38_3 (by decide) rfl ?_) | (refine O_field fd38_3 (by decide) rfl ?_))
    | (guard_target =~ WO _ _ (Oper.mk _ (Op.load 30 _) _ _ _ none) _ _ _ _; first | (refine O_ldn8 (by assumption) (by repeat (first | exact List.Mem.head _ | refine List.Mem.tail _ ?_)) ag30 rfl (by first | omega | (simp only [csz]; omega)) (by first | exact layRun0 rfl rfl | exact layRun rfl rfl rfl) ?_; intro _ _))
    | (guard_target =~ WO _ _ (Oper.mk _ (Op.fieldAddr 38 _ 4) _ _ _ none) _ _ _ _; first | (refine O_fdT fd38_4 (by decide) rfl ?_) | (refine O_field fd38_4 (by decide) rfl ?_))
    | (guard_target =~ WO _ _ (Oper.mk _ (Op.load 27 _) _ _ _ none) _ _ _ _; first | (refine O_ld64 (by assumption) (by repeat (first | exact List.Mem.head _ | refine List.Mem.tail _ ?_)) on27 rfl (by first | omega | (simp only [csz]; omega)) (by first | rfl | exact layMod rfl rfl) ?_; intro _ _))
    | (guard_target =~ WO _ _ (Oper.mk _ (Op.convert 5 21 _) _ _ _ none) _ _ _ _; first | (refine O_convZ Samg.underlying5 Samg.underlying21 rfl (by simp only [rngZ]; omega) ?_) | (refine O_convA Samg.underlying5 Samg.underlying21 rfl rfl ?_; intro _ hr; simp only [rngZ] at hr))
    | (guard_target =~ WO _ _ (Oper.mk _ (Op.binOp BinOp.rem 5 _ _ _) _ _ _ none) _ _ _ _; first | (refine O_remZ rfl rfl (by omega) (by omega) ?_))
    | (guard_target =~ WO _ _ (Oper.mk _ (Op.build 55 #[(0, _), (1, _), (2, _), (3, _), (4, _), (5, _), (6, _)]) _ _ _ none) _ _ _ _; first | (refine O_bd (l := [(0, .int .u8 (Nat.cast _)), (1, .agg (ns .u8 20 _)), (2, .agg (ns .u8 32 _)), (3, .agg (ns .u8 32 _)), (4, .int .u64 (Nat.cast _)), (5, .int .i32 _), (6, .slice _ _ _)]) (by assumption) st55 zc55 rfl ⟨_, _, rfl, rfl, rfl, ⟨_, _, rfl, rfl, rfl, ⟨_, _, rfl, rfl, rfl, ⟨_, _, rfl, rfl, rfl, ⟨_, _, rfl, rfl, rfl, ⟨_, _, rfl, rfl, rfl, ⟨_, _, rfl, rfl, rfl, rfl⟩⟩⟩⟩⟩⟩⟩ ⟨one_ok (c' := 1) rfl (ok8 (by omega)), ⟨run8_ok (by assumption) rfl, ⟨run8_ok (by assumption) rfl, ⟨run8_ok (by assumption) rfl, ⟨one_ok (c' := 2) rfl (ok64 (by omega)), ⟨one_ok (c' := 3) rfl (ok32 (by omega) (by omega)), ⟨one_ok (c' := 100 + 5) rfl (okS (by first | exact Sl.nil _ | exact TS.slN (by assumption) (by repeat (first | exact List.Mem.head _ | refine List.Mem.tail _ ?_)))), trivial⟩⟩⟩⟩⟩⟩⟩ ?_; intro _ _ _))
    | (guard_target =~ WO _ _ (Oper.mk _ (Op.store 55 _ _) _ _ _ none) _ _ _ _; first | (refine O_sts (by assumption) (by repeat (first | exact List.Mem.head _ | refine List.Mem.tail _ ?_)) (by omega) (by repeat (first | exact List.Mem.head _ | refine List.Mem.tail _ ?_)) ag55 rfl rfl (by first | omega | (simp only [csz]; omega)) (by first | exact laySub0 rfl rfl | exact laySub rfl rfl rfl | exact laySame (by decide)) rfl ?_; intro _ _)))
  refine E_cell1T (by assumption) rfl rfl ag55 rfl (by repeat (first | exact List.Mem.head _ | refine List.Mem.tail _ ?_)) ?_
  intro cs hc
  exact ⟨cs, rfl, hc⟩
def logA (B b1 sz : Nat) (j : Nat) (v : Value) (w : World) : Prop := match j with
  | 0 => v = .pointer (some ⟨b1, 0 + 1, none⟩)
  | 1 => ∃ f : Nat → Nat, (∀ i, f i < 256) ∧ v = .agg (ns .u8 20 f)
  | 2 => v = .pointer (some ⟨b1, 0 + 87, none⟩)
  | 3 => ∃ a n c, v = .slice a n c ∧ Sl B w 5 a n c
  | 4 => ∃ a n c, v = .slice a n c ∧ Sl B w 5 a n c
  | 5 => ∃ cs : Array Value, v = .agg cs ∧ okA B w 126 cs ∧ cs[20]? = some (.slice none 0 0)
  | 6 => ∃ b, v = .pointer (some ⟨b, 0, none⟩) ∧ sz ≤ b ∧ Sl B w 126 (some ⟨b, 0, none⟩) 1 1
  | _ => True
theorem logA.mono {B b1 sz : Nat} : ∀ (j : Nat) (v : Value) (w w' : World), logA B b1 sz j v w → Shp w w' → logA B b1 sz j v w'
  | 0, _, _, _, h, _ => h
  | 1, _, _, _, h, _ => h
  | 2, _, _, _, h, _ => h
  | 3, _, _, _, ⟨a, n, c, h1, h2⟩, e => ⟨a, n, c, h1, h2.shp e⟩
  | 4, _, _, _, ⟨a, n, c, h1, h2⟩, e => ⟨a, n, c, h1, h2.shp e⟩
  | 5, _, _, _, ⟨cs, h1, h2, h3⟩, e => ⟨cs, h1, h2.shp e, h3⟩
  | 6, _, _, _, ⟨b, h1, h2, h3⟩, e => ⟨b, h1, h2, h3.shp e⟩
  | _ + 7, _, _, _, _, _ => trivial
theorem okZS {t : Nat} {u : Value} (h : okZ (100 + t) u = true) : u = .slice none 0 0 := by
  unfold okZ at h
  split at h
  · have := eq_of_beq h; omega
  · have := eq_of_beq h; omega
  · have := eq_of_beq h; omega
  · have := eq_of_beq h; omega
  · rfl
  · cases h
theorem log20 {z : Array Value} {f : Nat → Nat} {v : Value} (hz : z.size = csz 126) (h0 : ∀ j, j < csz 126 → ∃ u, z[j]? = some u ∧ okZ (lay 126 j) u = true) : (fl z [(0, ns .u8 20 f), (21, #[v])])[20]? = some (.slice none 0 0) := by
  have hz22 : z.size = 22 := hz
  simp only [fl]
  rw [spl_get _ _ _ _ (by rw [spl_size, hz22]; simp), if_neg (by simp), spl_get _ _ _ _ (by rw [hz22, Array.length_toList, ns_size]; omega), if_neg (by rw [Array.length_toList, ns_size]; omega)]
  obtain ⟨u, e1, e2⟩ := h0 20 (by decide)
  rw [e1, okZS (t := 87) e2]
theorem logOf_ok {B : Nat} {w : World} (hT : WT B w) {cs : Array Value} (hA : okA B w 55 cs) : Rd B Samg.prog 62 [.agg cs] w fun v w' => ∃ cs', v = .agg cs' ∧ okA B w' 126 cs' := by
  refine W_enter (l := [_]) Samg.func62 rfl rfl rfl ?_
  have hS := (TS.start hT).addM hA
  refine W_cut2 (fun ρ w' => ∃ b1 b2 b3, w.heap.size ≤ b2 ∧ w.heap.size ≤ b3 ∧ w'.cell? ⟨b3, 20, none⟩ = some (.slice none 0 0) ∧ TS B w w' [(126, some ⟨b3, 0, none⟩, 1, 1), (55, some ⟨b1, 0, none⟩, 1, 1), (126, some ⟨b2, 0, none⟩, 1, 1)] [] ∧ Has ρ [(1, .pointer (some ⟨b1, 0, none⟩)), (2, .pointer (some ⟨b2, 0, none⟩)), (3, .pointer (some ⟨b3, 0, none⟩))]) ?_ ?_
  · repeat' (first
      | (refine L_cons ?_)
      | (refine R_cons rfl ?_)
      | (refine W_seq ?_)
      | (refine W_region (by kernel_rfl) ?_)
      | (refine L_nil ?_)
      | (refine R_nil ?_)
      | (refine W_block ?_)
      | (refine W_skip ?_)
      | (refine W_exit ?_)
      | (refine W_ret ?_)
      | (guard_target =~ thenQ _ _ _ _ _; first | (refine T_next ?_) | (refine T_exit ?_) | (refine T_ret ?_))
      | (guard_target =~ blockQ _ _ _ _ _; first | (refine B_next ?_) | (refine B_same ?_) | (refine B_other (by kernel_rfl) ?_) | (refine B_ret ?_))
      | (refine W_true rfl rfl ?_)
      | (refine W_false rfl rfl ?_)
      | (guard_target =~ WO _ _ (Oper.mk _ (Op.box 55 _) _ _ _ none) _ _ _ _; first | (refine O_bxs (by assumption) (by repeat (first | exact List.Mem.head _ | refine List.Mem.tail _ ?_)) rfl ?_; intro w1 b1 hn1 hS1) | (refine O_bxs (by assumption) (by repeat (first | exact List.Mem.head _ | refine List.Mem.tail _ ?_)) rfl ?_; intro _ _ _ _))
      | (guard_target =~ WO _ _ (Oper.mk _ (Op.alloc 126) _ _ _ none) _ _ _ _; first | (refine O_al (by assumption) zc126 (by decide) ?_; intro w2 b2 hn2 hS2) | (refine O_al (by assumption) zc126 (by decide) ?_; intro _ _ _ _))
      | (guard_target =~ WO _ _ (Oper.mk _ (Op.fieldAddr 55 _ 1) _ _ _ none) _ _ _ _; first | (refine O_fdT fd55_1 (by decide) rfl ?_) | (refine O_field fd55_1 (by decide) rfl ?_))
      | (guard_target =~ WO _ _ (Oper.mk _ (Op.load 24 _) _ _ _ none) _ _ _ _; first | (refine O_ldn8 (by assumption) (by repeat (first | exact List.Mem.head _ | refine List.Mem.tail _ ?_)) ag24 rfl (by first | omega | (simp only [csz]; omega)) (by first | exact layRun0 rfl rfl | exact layRun rfl rfl rfl) ?_; intro _ _))
      | (guard_target =~ WO _ _ (Oper.mk _ (Op.fieldAddr 55 _ 6) _ _ _ none) _ _ _ _; first | (refine O_fdT fd55_6 (by decide) rfl ?_) | (refine O_field fd55_6 (by decide) rfl ?_))
      | (guard_target =~ WO _ _ (Oper.mk _ (Op.load 31 _) _ _ _ none) _ _ _ _; first | (refine O_lds (t' := 5) (by assumption) (by repeat (first | exact List.Mem.head _ | refine List.Mem.tail _ ?_)) on31 rfl (by first | omega | (simp only [csz]; omega)) (by first | rfl | exact layMod rfl rfl) ?_; intro _ _ _ _ _ _))
      | (guard_target =~ WO _ _ (Oper.mk _ (Op.build 126 #[(0, _), (2, _)]) _ _ _ none) _ _ _ _; first | (refine O_bd (l := [(0, .agg (ns .u8 20 _)), (2, .slice _ _ _)]) (by assumption) st126 zc126 rfl ⟨_, _, rfl, rfl, rfl, ⟨_, _, rfl, rfl, rfl, rfl⟩⟩ ⟨run8_ok (by assumption) rfl, ⟨one_ok (c' := 100 + 5) rfl (okS (by first | exact Sl.nil _ | exact TS.slN (by assumption) (by repeat (first | exact List.Mem.head _ | refine List.Mem.tail _ ?_)))), trivial⟩⟩ ?_; intro _ _ _))
      | (guard_target =~ WO _ _ (Oper.mk _ (Op.store 126 _ _) _ _ _ none) _ _ _ _; first | (refine O_sts (by assumption) (by repeat (first | exact List.Mem.head _ | refine List.Mem.tail _ ?_)) (by omega) (by repeat (first | exact List.Mem.head _ | refine List.Mem.tail _ ?_)) ag126 rfl rfl (by first | omega | (simp only [csz]; omega)) (by first | exact laySub0 rfl rfl | exact laySub rfl rfl rfl | exact laySame (by decide)) rfl ?_; intro _ _))
      | (guard_target =~ WO _ _ (Oper.mk _ (Op.fieldAddr 55 _ 7) _ _ _ none) _ _ _ _; first | (refine O_fdT fd55_7 (by decide) rfl ?_) | (refine O_field fd55_7 (by decide) rfl ?_))
      | (guard_target =~ WO _ _ (Oper.mk _ (Op.load 53 _) _ _ _ none) _ _ _ _; first | (refine O_lds (t' := 30) (by assumption) (by repeat (first | exact List.Mem.head _ | refine List.Mem.tail _ ?_)) on53 rfl (by first | omega | (simp only [csz]; omega)) (by first | rfl | exact layMod rfl rfl) ?_; intro _ _ _ _ _ _))
      | (guard_target =~ WO _ _ (Oper.mk _ (Op.call _) _ _ _ none) _ _ _ _; first | (refine O_len Samg.underlying53 rfl rfl ?_))
      | (guard_target =~ WO _ _ (Oper.mk _ (Op.move _) _ _ _ none) _ _ _ _; first | (refine O_move (v := (.int _ _)) rfl ?_) | (refine O_move (v := (.bool _)) rfl ?_) | (refine O_move (v := (.pointer _)) rfl ?_) | (refine O_move (v := (.slice _ _ _)) rfl ?_) | (refine O_move (v := (.agg _)) rfl ?_) | (refine O_move (v := (.tuple _)) rfl ?_))
      | (guard_target =~ WO _ _ (Oper.mk _ (Op.binOp BinOp.lss 3 _ _ _) _ _ _ none) _ _ _ _; first | (first | (refine O_lssS rfl rfl (fun h => absurd h (by omega)) ?_; intro _) | (refine O_lssS rfl rfl ?_ (fun h => absurd h (by omega)); intro _) | (refine O_lssS rfl rfl ?_ ?_ <;> intro _)))
      | (guard_target =~ WO _ _ (Oper.mk _ (Op.indexAddr 53 _ _) _ _ _ none) _ _ _ _; first | (refine O_ixK (by assumption) (by repeat (first | exact List.Mem.head _ | refine List.Mem.tail _ ?_)) sl53 rfl rfl (by omega) (by omega) ?_; rintro _ _ _) | (refine O_ixN (by assumption) (by repeat (first | exact List.Mem.head _ | refine List.Mem.tail _ ?_)) sl53 rfl rfl (by omega) (by omega) ?_; rintro _ _ _ _ _ _))
      | (guard_target =~ WO _ _ (Oper.mk _ (Op.load 30 _) _ _ _ none) _ _ _ _; first | (refine O_ldn8 (by assumption) (by repeat (first | exact List.Mem.head _ | refine List.Mem.tail _ ?_)) ag30 rfl (by first | omega | (simp only [csz]; omega)) (by first | exact layRun0 rfl rfl | exact layRun rfl rfl rfl) ?_; intro _ _))
      | (guard_target =~ WO _ _ (Oper.mk _ (Op.alloc 30) _ _ _ none) _ _ _ _; first | (refine O_al (by assumption) zc30 (by decide) ?_; intro _ _ _ _))
      | (guard_target =~ WO _ _ (Oper.mk _ (Op.store 30 _ _) _ _ _ none) _ _ _ _; first | (refine O_stn8 (by assumption) (by repeat (first | exact List.Mem.head _ | refine List.Mem.tail _ ?_)) (by omega) ag30 rfl rfl (by assumption) (by first | omega | (simp only [csz]; omega)) (by first | exact layRun0 rfl rfl | exact layRun rfl rfl rfl) rfl ?_; intro _ _))
      | (guard_target =~ WO _ _ (Oper.mk _ (Op.fieldAddr 126 _ 1) _ _ _ none) _ _ _ _; first | (refine O_fdT fd126_1 (by decide) rfl ?_) | (refine O_field fd126_1 (by decide) rfl ?_))
      | (guard_target =~ WO _ _ (Oper.mk _ (Op.load 124 _) _ _ _ none) _ _ _ _; first | (refine O_lds (t' := 87) (by assumption) (by repeat (first | exact List.Mem.head _ | refine List.Mem.tail _ ?_)) on124 rfl (by first | omega | (simp only [csz]; omega)) (by first | rfl | exact layMod rfl rfl) ?_; intro _ _ _ _ _ _))
      | (guard_target =~ WO _ _ (Oper.mk _ (Op.store 124 _ _) _ _ _ none) _ _ _ _; first | (refine O_st (by assumption) (by repeat (first | exact List.Mem.head _ | refine List.Mem.tail _ ?_)) (by omega) on124 rfl rfl (by first | omega | (simp only [csz]; omega)) (okp (c' := 100 + 87) (by first | rfl | exact layMod rfl rfl) (okS (by first | exact Sl.nil _ | exact TS.slN (by assumption) (by repeat (first | exact List.Mem.head _ | refine List.Mem.tail _ ?_))))) rfl ?_; intro _ _))
      | (guard_target =~ WO _ _ (Oper.mk _ (Op.binOp BinOp.add 3 _ _ _) _ _ _ none) _ _ _ _; first | (refine O_addZ rfl rfl (by simp only [rngZ]; omega) ?_))
      | (guard_target =~ WO _ _ (Oper.mk _ (Op.load 126 _) _ _ _ none) _ _ _ _; first | (refine O_lda (by assumption) (by repeat (first | exact List.Mem.head _ | refine List.Mem.tail _ ?_)) ag126 rfl (by first | omega | (simp only [csz]; omega)) (by first | exact laySub0 rfl rfl | exact laySub rfl rfl rfl | exact laySame (by decide)) ?_; intro _ _ _)))
    refine W_invL (fun w' => TS B w w' [(55, some ⟨b1, 0, none⟩, 1, 1), (126, some ⟨b2, 0, none⟩, 1, 1)] []) 7 (logA B b1 w.heap.size) mixed (by kernel_rfl) logA.mono (TS.drew (TS.pick (by assumption) (by repeat (first | exact List.Mem.head _ | refine List.Mem.tail _ ?_)) (TS.pick (by assumption) (by repeat (first | exact List.Mem.head _ | refine List.Mem.tail _ ?_)) ⟨hS2.t, hS2.e, fun x hx => (by cases hx), fun x hx => (by cases hx)⟩))) ?_ ?_
    · intro i o hi ho ρ w5 hJ2 hk hA
      have e1 : ρ 1 = .pointer (some ⟨b1, 0, none⟩) := (hk.get (by kernel_rfl)).trans rfl
      have hor : i = 0 ∨ i = 1 ∨ i = 2 ∨ i = 3 ∨ i = 4 ∨ i = 5 ∨ i = 6 := by omega
      rcases hor with rfl | rfl | rfl | rfl | rfl | rfl | rfl
      · cases Option.some.inj ho
        exact O_field fd55_1 (by decide) e1 ⟨hJ2, Shp.refl _, _, rfl, rfl⟩
      · cases Option.some.inj ho
        exact O_ldn8 hJ2 (by repeat (first | exact List.Mem.head _ | refine List.Mem.tail _ ?_)) ag24 (hA 0 (mem_direct (by kernel_rfl))) (by simp only [csz]; omega) (layRun0 rfl rfl) fun f hf => ⟨hJ2, Shp.refl _, _, rfl, f, hf, rfl⟩
      · cases Option.some.inj ho
        exact O_field fd55_6 (by decide) e1 ⟨hJ2, Shp.refl _, _, rfl, rfl⟩
      · cases Option.some.inj ho
        exact O_lds (t' := 5) hJ2 (by repeat (first | exact List.Mem.head _ | refine List.Mem.tail _ ?_)) on31 (hA 2 (mem_direct (by kernel_rfl))) (by simp only [csz]; omega) rfl fun a n c h1 h2 h3 => ⟨hJ2, Shp.refl _, _, rfl, a, n, c, rfl, TS.slN h3 (by repeat (first | exact List.Mem.head _ | refine List.Mem.tail _ ?_))⟩
      · cases Option.some.inj ho
        obtain ⟨a, n, c, ea, hs⟩ := hA 3 (mem_direct (by kernel_rfl))
        exact O_rd (l := [.slice a n c]) hJ2 cl55 (congrArg (fun x => [x]) ea) (copyBytes_ok hJ2.t hs) fun v w6 ⟨a', n', c', ev', hs'⟩ hS6 hx6 => ⟨hS6, hx6.shp, _, rfl, a', n', c', ev', hs'⟩
      · cases Option.some.inj ho
        obtain ⟨f, hf, ef⟩ := hA 1 (mem_direct (by kernel_rfl))
        obtain ⟨a, n, c, ea, hs⟩ := hA 4 (mem_direct (by kernel_rfl))
        exact O_bdE (l := [(0, .agg (ns .u8 20 f)), (2, .slice a n c)]) hJ2 st126 zc126 (show [((0 : Nat), ρ 7), ((2 : Nat), ρ 10)] = _ by rw [show ρ 7 = _ from ef, show ρ 10 = _ from ea]) ⟨_, _, rfl, rfl, rfl, ⟨_, _, rfl, rfl, rfl, rfl⟩⟩ ⟨run8_ok hf rfl, ⟨one_ok (c' := 100 + 5) rfl (okS hs), trivial⟩⟩ fun cs z hcs hz hz0 hfl h5 => ⟨hJ2, Shp.refl _, _, rfl, cs, rfl, h5.m _ (by repeat (first | exact List.Mem.head _ | refine List.Mem.tail _ ?_)), by rw [hfl]; exact log20 hz hz0⟩
      · cases Option.some.inj ho
        exact O_alE hJ2 zc126 (by decide) fun w6 b hx6 _ hn6 hS6 => ⟨hS6.dropL, hx6.shp, _, rfl, b, rfl, hn6, TS.slN hS6 (List.mem_cons_self ..)⟩
    · intro o ho ρ w5 hJ2 hk hA
      have e1 : ρ 1 = .pointer (some ⟨b1, 0, none⟩) := (hk.get (by kernel_rfl)).trans rfl
      have e2 : ρ 2 = .pointer (some ⟨b2, 0, none⟩) := (hk.get (by kernel_rfl)).trans rfl
      obtain ⟨cs5, e5, ok5, c20⟩ := hA 5 (by omega)
      obtain ⟨b3, e3, hn3, hs3⟩ := hA 6 (by omega)
      cases Option.some.inj ho
      have hJ3 := (hJ2.addL hs3).addM ok5
      refine O_stsW (b := b3) (o := 0) (T := 126) (n := 1) (cap := 1) (cs := cs5) hJ3 (List.mem_cons_self ..) hn3 (List.mem_cons_self ..) ag126 e3 e5 (by decide) laySame0 rfl fun w6 hS6 hW6 => ?_
      refine T_next ?_
      refine ⟨b1, b2, b3, hn2, hn3, ?_, hS6.dropM, Has.mk ⟨e1, e2, e3, trivial⟩⟩
      rw [hW6, if_pos ⟨rfl, Nat.zero_le _, by rw [ok5.1]; decide⟩]
      exact c20
  · rintro ρ w1 ⟨b1, b2, b3, hn2, hn3, h20, hS1, σ', rfl⟩
    repeat' (first
      | (refine L_cons ?_)
      | (refine R_cons rfl ?_)
      | (refine W_seq ?_)
      | (refine W_region (by kernel_rfl) ?_)
      | (refine L_nil ?_)
      | (refine R_nil ?_)
      | (refine W_block ?_)
      | (refine W_skip ?_)
      | (refine W_exit ?_)
      | (refine W_ret ?_)
      | (guard_target =~ thenQ _ _ _ _ _; first | (refine T_next ?_) | (refine T_exit ?_) | (refine T_ret ?_))
      | (guard_target =~ blockQ _ _ _ _ _; first | (refine B_next ?_) | (refine B_same ?_) | (refine B_other (by kernel_rfl) ?_) | (refine B_ret ?_))
      | (refine W_true rfl rfl ?_)
      | (refine W_false rfl rfl ?_)
      | (guard_target =~ WO _ _ (Oper.mk _ (Op.load 53 _) _ _ _ none) _ _ _ _; first | (refine O_lds (t' := 30) (by assumption) (by repeat (first | exact List.Mem.head _ | refine List.Mem.tail _ ?_)) on53 rfl (by simp only [csz]; omega) rfl ?_; intro aN nN cN hNc hN2 hS2) | (refine O_lds (t' := 30) (by assumption) (by repeat (first | exact List.Mem.head _ | refine List.Mem.tail _ ?_)) on53 rfl (by first | omega | (simp only [csz]; omega)) (by first | rfl | exact layMod rfl rfl) ?_; intro _ _ _ _ _ _))
      | (guard_target =~ WO _ _ (Oper.mk _ (Op.box 55 _) _ _ _ none) _ _ _ _; first | (refine O_bxs (by assumption) (by repeat (first | exact List.Mem.head _ | refine List.Mem.tail _ ?_)) rfl ?_; intro _ _ _ _))
      | (guard_target =~ WO _ _ (Oper.mk _ (Op.alloc 126) _ _ _ none) _ _ _ _; first | (refine O_al (by assumption) zc126 (by decide) ?_; intro _ _ _ _))
      | (guard_target =~ WO _ _ (Oper.mk _ (Op.fieldAddr 55 _ 1) _ _ _ none) _ _ _ _; first | (refine O_fdT fd55_1 (by decide) rfl ?_) | (refine O_field fd55_1 (by decide) rfl ?_))
      | (guard_target =~ WO _ _ (Oper.mk _ (Op.load 24 _) _ _ _ none) _ _ _ _; first | (refine O_ldn8 (by assumption) (by repeat (first | exact List.Mem.head _ | refine List.Mem.tail _ ?_)) ag24 rfl (by first | omega | (simp only [csz]; omega)) (by first | exact layRun0 rfl rfl | exact layRun rfl rfl rfl) ?_; intro _ _))
      | (guard_target =~ WO _ _ (Oper.mk _ (Op.fieldAddr 55 _ 6) _ _ _ none) _ _ _ _; first | (refine O_fdT fd55_6 (by decide) rfl ?_) | (refine O_field fd55_6 (by decide) rfl ?_))
      | (guard_target =~ WO _ _ (Oper.mk _ (Op.load 31 _) _ _ _ none) _ _ _ _; first | (refine O_lds (t' := 5) (by assumption) (by repeat (first | exact List.Mem.head _ | refine List.Mem.tail _ ?_)) on31 rfl (by first | omega | (simp only [csz]; omega)) (by first | rfl | exact layMod rfl rfl) ?_; intro _ _ _ _ _ _))
      | (guard_target =~ WO _ _ (Oper.mk _ (Op.build 126 #[(0, _), (2, _)]) _ _ _ none) _ _ _ _; first | (refine O_bd (l := [(0, .agg (ns .u8 20 _)), (2, .slice _ _ _)]) (by assumption) st126 zc126 rfl ⟨_, _, rfl, rfl, rfl, ⟨_, _, rfl, rfl, rfl, rfl⟩⟩ ⟨run8_ok (by assumption) rfl, ⟨one_ok (c' := 100 + 5) rfl (okS (by first | exact Sl.nil _ | exact TS.slN (by assumption) (by repeat (first | exact List.Mem.head _ | refine List.Mem.tail _ ?_)))), trivial⟩⟩ ?_; intro _ _ _))
      | (guard_target =~ WO _ _ (Oper.mk _ (Op.store 126 _ _) _ _ _ none) _ _ _ _; first | (refine O_sts (by assumption) (by repeat (first | exact List.Mem.head _ | refine List.Mem.tail _ ?_)) (by omega) (by repeat (first | exact List.Mem.head _ | refine List.Mem.tail _ ?_)) ag126 rfl rfl (by first | omega | (simp only [csz]; omega)) (by first | exact laySub0 rfl rfl | exact laySub rfl rfl rfl | exact laySame (by decide)) rfl ?_; intro _ _))
      | (guard_target =~ WO _ _ (Oper.mk _ (Op.fieldAddr 55 _ 7) _ _ _ none) _ _ _ _; first | (refine O_fdT fd55_7 (by decide) rfl ?_) | (refine O_field fd55_7 (by decide) rfl ?_))
      | (guard_target =~ WO _ _ (Oper.mk _ (Op.call _) _ _ _ none) _ _ _ _; first | (refine O_len Samg.underlying53 rfl rfl ?_))
      | (guard_target =~ WO _ _ (Oper.mk _ (Op.move _) _ _ _ none) _ _ _ _; first | (refine O_move (v := (.int _ _)) rfl ?_) | (refine O_move (v := (.bool _)) rfl ?_) | (refine O_move (v := (.pointer _)) rfl ?_) | (refine O_move (v := (.slice _ _ _)) rfl ?_) | (refine O_move (v := (.agg _)) rfl ?_) | (refine O_move (v := (.tuple _)) rfl ?_))
      | (guard_target =~ WO _ _ (Oper.mk _ (Op.binOp BinOp.lss 3 _ _ _) _ _ _ none) _ _ _ _; first | (first | (refine O_lssS rfl rfl (fun h => absurd h (by omega)) ?_; intro _) | (refine O_lssS rfl rfl ?_ (fun h => absurd h (by omega)); intro _) | (refine O_lssS rfl rfl ?_ ?_ <;> intro _)))
      | (guard_target =~ WO _ _ (Oper.mk _ (Op.indexAddr 53 _ _) _ _ _ none) _ _ _ _; first | (refine O_ixK (by assumption) (by repeat (first | exact List.Mem.head _ | refine List.Mem.tail _ ?_)) sl53 rfl rfl (by omega) (by omega) ?_; rintro _ _ _) | (refine O_ixN (by assumption) (by repeat (first | exact List.Mem.head _ | refine List.Mem.tail _ ?_)) sl53 rfl rfl (by omega) (by omega) ?_; rintro _ _ _ _ _ _))
      | (guard_target =~ WO _ _ (Oper.mk _ (Op.load 30 _) _ _ _ none) _ _ _ _; first | (refine O_ldn8 (by assumption) (by repeat (first | exact List.Mem.head _ | refine List.Mem.tail _ ?_)) ag30 rfl (by first | omega | (simp only [csz]; omega)) (by first | exact layRun0 rfl rfl | exact layRun rfl rfl rfl) ?_; intro _ _))
      | (guard_target =~ WO _ _ (Oper.mk _ (Op.alloc 30) _ _ _ none) _ _ _ _; first | (refine O_al (by assumption) zc30 (by decide) ?_; intro _ _ _ _))
      | (guard_target =~ WO _ _ (Oper.mk _ (Op.store 30 _ _) _ _ _ none) _ _ _ _; first | (refine O_stn8 (by assumption) (by repeat (first | exact List.Mem.head _ | refine List.Mem.tail _ ?_)) (by omega) ag30 rfl rfl (by assumption) (by first | omega | (simp only [csz]; omega)) (by first | exact layRun0 rfl rfl | exact layRun rfl rfl rfl) rfl ?_; intro _ _))
      | (guard_target =~ WO _ _ (Oper.mk _ (Op.fieldAddr 126 _ 1) _ _ _ none) _ _ _ _; first | (refine O_fdT fd126_1 (by decide) rfl ?_) | (refine O_field fd126_1 (by decide) rfl ?_))
      | (guard_target =~ WO _ _ (Oper.mk _ (Op.load 124 _) _ _ _ none) _ _ _ _; first | (refine O_lds (t' := 87) (by assumption) (by repeat (first | exact List.Mem.head _ | refine List.Mem.tail _ ?_)) on124 rfl (by first | omega | (simp only [csz]; omega)) (by first | rfl | exact layMod rfl rfl) ?_; intro _ _ _ _ _ _))
      | (guard_target =~ WO _ _ (Oper.mk _ (Op.store 124 _ _) _ _ _ none) _ _ _ _; first | (refine O_st (by assumption) (by repeat (first | exact List.Mem.head _ | refine List.Mem.tail _ ?_)) (by omega) on124 rfl rfl (by first | omega | (simp only [csz]; omega)) (okp (c' := 100 + 87) (by first | rfl | exact layMod rfl rfl) (okS (by first | exact Sl.nil _ | exact TS.slN (by assumption) (by repeat (first | exact List.Mem.head _ | refine List.Mem.tail _ ?_))))) rfl ?_; intro _ _))
      | (guard_target =~ WO _ _ (Oper.mk _ (Op.binOp BinOp.add 3 _ _ _) _ _ _ none) _ _ _ _; first | (refine O_addZ rfl rfl (by simp only [rngZ]; omega) ?_))
      | (guard_target =~ WO _ _ (Oper.mk _ (Op.load 126 _) _ _ _ none) _ _ _ _; first | (refine O_lda (by assumption) (by repeat (first | exact List.Mem.head _ | refine List.Mem.tail _ ?_)) ag126 rfl (by first | omega | (simp only [csz]; omega)) (by first | exact laySub0 rfl rfl | exact laySub rfl rfl rfl | exact laySame (by decide)) ?_; intro _ _ _)))
    refine W_loop (fun m ρ w' => ∃ (i : Nat) (a : Option Addr) (n c : Nat), m = nN - i ∧ i ≤ nN ∧ n ≤ i ∧ w'.cell? ⟨b3, 20, none⟩ = some (.slice a n c) ∧ (∀ b, a = some ⟨b, 0, none⟩ → w.heap.size ≤ b) ∧ TS B w w' [(87, a, n, c), (30, aN, nN, cN), (126, some ⟨b3, 0, none⟩, 1, 1), (55, some ⟨b1, 0, none⟩, 1, 1), (126, some ⟨b2, 0, none⟩, 1, 1)] [] ∧ Has ρ [(2, .pointer (some ⟨b2, 0, none⟩)), (3, .pointer (some ⟨b3, 0, none⟩)), (13, .slice aN nN cN), (14, .int .i64 ((nN : Nat) : Int)), (15, .int .i64 ((i : Nat) : Int))]) nN ⟨0, none, 0, 0, by omega, by omega, Nat.le_refl _, h20, fun b hb => (by cases hb), hS2.addL (Sl.nil 87), Has.mk ⟨rfl, rfl, rfl, rfl, rfl, trivial⟩⟩ ?_
    clear hS2 hS1 h20 hS
    rintro m ρ w3 ⟨i, a, n, c, rfl, hi, hn, h20, hfr, hS3, σ', rfl⟩
    by_cases hin : i < nN
    · repeat' (first
        | (refine L_cons ?_)
        | (refine R_cons rfl ?_)
        | (refine W_seq ?_)
        | (refine W_region (by kernel_rfl) ?_)
        | (refine L_nil ?_)
        | (refine R_nil ?_)
        | (refine W_block ?_)
        | (refine W_skip ?_)
        | (refine W_exit ?_)
        | (refine W_ret ?_)
        | (guard_target =~ thenQ _ _ _ _ _; first | (refine T_next ?_) | (refine T_exit ?_) | (refine T_ret ?_))
        | (guard_target =~ blockQ _ _ _ _ _; first | (refine B_next ?_) | (refine B_same ?_) | (refine B_other (by kernel_rfl) ?_) | (refine B_ret ?_))
        | (refine W_true rfl rfl ?_)
        | (refine W_false rfl rfl ?_)
        | (guard_target =~ WO _ _ (Oper.mk _ (Op.alloc 30) _ _ _ none) _ _ _ _; first | (refine O_alE (by assumption) zc30 (by decide) ?_; intro w4 b5 hx4 _ hn5 hS4; replace h20 := cell_ext h20 hx4) | (refine O_al (by assumption) zc30 (by decide) ?_; intro _ _ _ _))
        | (guard_target =~ WO _ _ (Oper.mk _ (Op.store 30 _ _) _ _ _ none) _ _ _ _; first | (refine O_stn8W (by assumption) (by repeat (first | exact List.Mem.head _ | refine List.Mem.tail _ ?_)) (by omega) ag30 rfl rfl (by assumption) (by simp only [csz]; omega) (layRun0 rfl rfl) rfl ?_; intro w5 hS5 hW5; replace h20 := hW5.keep (TS.ne hS5 (t := 126) (t' := 30) (by repeat (first | exact List.Mem.head _ | refine List.Mem.tail _ ?_)) (by repeat (first | exact List.Mem.head _ | refine List.Mem.tail _ ?_)) (by decide)) h20) | (refine O_stn8 (by assumption) (by repeat (first | exact List.Mem.head _ | refine List.Mem.tail _ ?_)) (by omega) ag30 rfl rfl (by assumption) (by first | omega | (simp only [csz]; omega)) (by first | exact layRun0 rfl rfl | exact layRun rfl rfl rfl) rfl ?_; intro _ _))
        | (guard_target =~ WO _ _ (Oper.mk _ (Op.load 124 _) _ _ _ none) _ _ _ _; first | (refine O_ldC (v := .slice a n c) on124 rfl h20 ?_) | (refine O_lds (t' := 87) (by assumption) (by repeat (first | exact List.Mem.head _ | refine List.Mem.tail _ ?_)) on124 rfl (by first | omega | (simp only [csz]; omega)) (by first | rfl | exact layMod rfl rfl) ?_; intro _ _ _ _ _ _))
        | (guard_target =~ WO _ _ (Oper.mk _ (Op.buildSlice 124 1 _) _ _ _ none) _ _ _ _; first | (refine O_one (v := .agg (ns .u8 32 _)) (by assumption) sl124 zc87 (by decide) rfl rfl (ns_size _ _ _) (fun j u hu => ns_ok8 (by assumption) j u hu) ?_; intro w6 b6 hx6 _ _ hb6 hS6; replace h20 := cell_ext h20 hx6))
        | (guard_target =~ WO _ _ (Oper.mk _ (Op.call (Call.mk (Callee.builtin Builtin.append) _ _)) _ _ _ none) _ _ _ _; first | (refine O_app (t := 124) (el := 87) rfl rfl (TS.t (by assumption)) sl124 by87 (by decide) zc87 (by decide) rfl rfl (by omega) (by omega) (TS.slN (by assumption) (by repeat (first | exact List.Mem.head _ | refine List.Mem.tail _ ?_))) (TS.row (by assumption) (List.mem_cons_self ..)).1 hb6 (ns_size _ _ _) ?_; intro w7 b7 c7 hA7; have hS7 := TS.app hS6 hA7 hfr; replace h20 := hA7.cell h20 (.inl (TS.ne hS7 (t := 126) (t' := 87) (by repeat (first | exact List.Mem.head _ | refine List.Mem.tail _ ?_)) (by repeat (first | exact List.Mem.head _ | refine List.Mem.tail _ ?_)) (by decide)))))
        | (guard_target =~ WO _ _ (Oper.mk _ (Op.store 124 _ _) _ _ _ none) _ _ _ _; first | (refine O_stW (T := 126) (n := 1) (cap := 1) (b := b3) (by assumption) (by repeat (first | exact List.Mem.head _ | refine List.Mem.tail _ ?_)) (by omega) on124 rfl rfl (by decide) (okp (c' := 100 + 87) rfl (okS (TS.slN (by assumption) (List.mem_cons_self ..)))) rfl ?_; intro w8 hS8 hW8) | (refine O_st (by assumption) (by repeat (first | exact List.Mem.head _ | refine List.Mem.tail _ ?_)) (by omega) on124 rfl rfl (by first | omega | (simp only [csz]; omega)) (okp (c' := 100 + 87) (by first | rfl | exact layMod rfl rfl) (okS (by first | exact Sl.nil _ | exact TS.slN (by assumption) (by repeat (first | exact List.Mem.head _ | refine List.Mem.tail _ ?_))))) rfl ?_; intro _ _))
        | (guard_target =~ WO _ _ (Oper.mk _ (Op.box 55 _) _ _ _ none) _ _ _ _; first | (refine O_bxs (by assumption) (by repeat (first | exact List.Mem.head _ | refine List.Mem.tail _ ?_)) rfl ?_; intro _ _ _ _))
        | (guard_target =~ WO _ _ (Oper.mk _ (Op.alloc 126) _ _ _ none) _ _ _ _; first | (refine O_al (by assumption) zc126 (by decide) ?_; intro _ _ _ _))
        | (guard_target =~ WO _ _ (Oper.mk _ (Op.fieldAddr 55 _ 1) _ _ _ none) _ _ _ _; first | (refine O_fdT fd55_1 (by decide) rfl ?_) | (refine O_field fd55_1 (by decide) rfl ?_))
        | (guard_target =~ WO _ _ (Oper.mk _ (Op.load 24 _) _ _ _ none) _ _ _ _; first | (refine O_ldn8 (by assumption) (by repeat (first | exact List.Mem.head _ | refine List.Mem.tail _ ?_)) ag24 rfl (by first | omega | (simp only [csz]; omega)) (by first | exact layRun0 rfl rfl | exact layRun rfl rfl rfl) ?_; intro _ _))
        | (guard_target =~ WO _ _ (Oper.mk _ (Op.fieldAddr 55 _ 6) _ _ _ none) _ _ _ _; first | (refine O_fdT fd55_6 (by decide) rfl ?_) | (refine O_field fd55_6 (by decide) rfl ?_))
        | (guard_target =~ WO _ _ (Oper.mk _ (Op.load 31 _) _ _ _ none) _ _ _ _; first | (refine O_lds (t' := 5) (by assumption) (by repeat (first | exact List.Mem.head _ | refine List.Mem.tail _ ?_)) on31 rfl (by first | omega | (simp only [csz]; omega)) (by first | rfl | exact layMod rfl rfl) ?_; intro _ _ _ _ _ _))
        | (guard_target =~ WO _ _ (Oper.mk _ (Op.build 126 #[(0, _), (2, _)]) _ _ _ none) _ _ _ _; first | (refine O_bd (l := [(0, .agg (ns .u8 20 _)), (2, .slice _ _ _)]) (by assumption) st126 zc126 rfl ⟨_, _, rfl, rfl, rfl, ⟨_, _, rfl, rfl, rfl, rfl⟩⟩ ⟨run8_ok (by assumption) rfl, ⟨one_ok (c' := 100 + 5) rfl (okS (by first | exact Sl.nil _ | exact TS.slN (by assumption) (by repeat (first | exact List.Mem.head _ | refine List.Mem.tail _ ?_)))), trivial⟩⟩ ?_; intro _ _ _))
        | (guard_target =~ WO _ _ (Oper.mk _ (Op.store 126 _ _) _ _ _ none) _ _ _ _; first | (refine O_sts (by assumption) (by repeat (first | exact List.Mem.head _ | refine List.Mem.tail _ ?_)) (by omega) (by repeat (first | exact List.Mem.head _ | refine List.Mem.tail _ ?_)) ag126 rfl rfl (by first | omega | (simp only [csz]; omega)) (by first | exact laySub0 rfl rfl | exact laySub rfl rfl rfl | exact laySame (by decide)) rfl ?_; intro _ _))
        | (guard_target =~ WO _ _ (Oper.mk _ (Op.fieldAddr 55 _ 7) _ _ _ none) _ _ _ _; first | (refine O_fdT fd55_7 (by decide) rfl ?_) | (refine O_field fd55_7 (by decide) rfl ?_))
        | (guard_target =~ WO _ _ (Oper.mk _ (Op.load 53 _) _ _ _ none) _ _ _ _; first | (refine O_lds (t' := 30) (by assumption) (by repeat (first | exact List.Mem.head _ | refine List.Mem.tail _ ?_)) on53 rfl (by first | omega | (simp only [csz]; omega)) (by first | rfl | exact layMod rfl rfl) ?_; intro _ _ _ _ _ _))
        | (guard_target =~ WO _ _ (Oper.mk _ (Op.call _) _ _ _ none) _ _ _ _; first | (refine O_len Samg.underlying53 rfl rfl ?_))
        | (guard_target =~ WO _ _ (Oper.mk _ (Op.move _) _ _ _ none) _ _ _ _; first | (refine O_move (v := (.int _ _)) rfl ?_) | (refine O_move (v := (.bool _)) rfl ?_) | (refine O_move (v := (.pointer _)) rfl ?_) | (refine O_move (v := (.slice _ _ _)) rfl ?_) | (refine O_move (v := (.agg _)) rfl ?_) | (refine O_move (v := (.tuple _)) rfl ?_))
        | (guard_target =~ WO _ _ (Oper.mk _ (Op.binOp BinOp.lss 3 _ _ _) _ _ _ none) _ _ _ _; first | (first | (refine O_lssS rfl rfl (fun h => absurd h (by omega)) ?_; intro _) | (refine O_lssS rfl rfl ?_ (fun h => absurd h (by omega)); intro _) | (refine O_lssS rfl rfl ?_ ?_ <;> intro _)))
        | (guard_target =~ WO _ _ (Oper.mk _ (Op.indexAddr 53 _ _) _ _ _ none) _ _ _ _; first | (refine O_ixK (by assumption) (by repeat (first | exact List.Mem.head _ | refine List.Mem.tail _ ?_)) sl53 rfl rfl (by omega) (by omega) ?_; rintro _ _ _) | (refine O_ixN (by assumption) (by repeat (first | exact List.Mem.head _ | refine List.Mem.tail _ ?_)) sl53 rfl rfl (by omega) (by omega) ?_; rintro _ _ _ _ _ _))
        | (guard_target =~ WO _ _ (Oper.mk _ (Op.load 30 _) _ _ _ none) _ _ _ _; first | (refine O_ldn8 (by assumption) (by repeat (first | exact List.Mem.head _ | refine List.Mem.tail _ ?_)) ag30 rfl (by first | omega | (simp only [csz]; omega)) (by first | exact layRun0 rfl rfl | exact layRun rfl rfl rfl) ?_; intro _ _))
        | (guard_target =~ WO _ _ (Oper.mk _ (Op.fieldAddr 126 _ 1) _ _ _ none) _ _ _ _; first | (refine O_fdT fd126_1 (by decide) rfl ?_) | (refine O_field fd126_1 (by decide) rfl ?_))
        | (guard_target =~ WO _ _ (Oper.mk _ (Op.binOp BinOp.add 3 _ _ _) _ _ _ none) _ _ _ _; first | (refine O_addZ rfl rfl (by simp only [rngZ]; omega) ?_))
        | (guard_target =~ WO _ _ (Oper.mk _ (Op.load 126 _) _ _ _ none) _ _ _ _; first | (refine O_lda (by assumption) (by repeat (first | exact List.Mem.head _ | refine List.Mem.tail _ ?_)) ag126 rfl (by first | omega | (simp only [csz]; omega)) (by first | exact laySub0 rfl rfl | exact laySub rfl rfl rfl | exact laySame (by decide)) ?_; intro _ _ _)))
      exact ⟨nN - (i + 1), by omega, i + 1, some ⟨b7, 0, none⟩, n + 1, c7, rfl, by omega, by omega, hW8.at1, fun b hb => (by cases hb; rcases hA7.isold with h | h; have := hS6.e.size; omega; exact hfr _ h), TS.pick (by assumption) (by repeat (first | exact List.Mem.head _ | refine List.Mem.tail _ ?_)) (TS.pick (by assumption) (by repeat (first | exact List.Mem.head _ | refine List.Mem.tail _ ?_)) (TS.pick (by assumption) (by repeat (first | exact List.Mem.head _ | refine List.Mem.tail _ ?_)) (TS.pick (by assumption) (by repeat (first | exact List.Mem.head _ | refine List.Mem.tail _ ?_)) (TS.pick (by assumption) (by repeat (first | exact List.Mem.head _ | refine List.Mem.tail _ ?_)) ⟨hS8.t, hS8.e, fun x hx => (by cases hx), fun x hx => (by cases hx)⟩)))), Has.mk ⟨rfl, rfl, rfl, rfl, rfl, trivial⟩⟩
    · repeat' (first
        | (refine L_cons ?_)
        | (refine R_cons rfl ?_)
        | (refine W_seq ?_)
        | (refine W_region (by kernel_rfl) ?_)
        | (refine L_nil ?_)
        | (refine R_nil ?_)
        | (refine W_block ?_)
        | (refine W_skip ?_)
        | (refine W_exit ?_)
        | (refine W_ret ?_)
        | (guard_target =~ thenQ _ _ _ _ _; first | (refine T_next ?_) | (refine T_exit ?_) | (refine T_ret ?_))
        | (guard_target =~ blockQ _ _ _ _ _; first | (refine B_next ?_) | (refine B_same ?_) | (refine B_other (by kernel_rfl) ?_) | (refine B_ret ?_))
        | (refine W_true rfl rfl ?_)
        | (refine W_false rfl rfl ?_)
        | (guard_target =~ WO _ _ (Oper.mk _ (Op.box 55 _) _ _ _ none) _ _ _ _; first | (refine O_bxs (by assumption) (by repeat (first | exact List.Mem.head _ | refine List.Mem.tail _ ?_)) rfl ?_; intro _ _ _ _))
        | (guard_target =~ WO _ _ (Oper.mk _ (Op.alloc 126) _ _ _ none) _ _ _ _; first | (refine O_al (by assumption) zc126 (by decide) ?_; intro _ _ _ _))
        | (guard_target =~ WO _ _ (Oper.mk _ (Op.fieldAddr 55 _ 1) _ _ _ none) _ _ _ _; first | (refine O_fdT fd55_1 (by decide) rfl ?_) | (refine O_field fd55_1 (by decide) rfl ?_))
        | (guard_target =~ WO _ _ (Oper.mk _ (Op.load 24 _) _ _ _ none) _ _ _ _; first | (refine O_ldn8 (by assumption) (by repeat (first | exact List.Mem.head _ | refine List.Mem.tail _ ?_)) ag24 rfl (by first | omega | (simp only [csz]; omega)) (by first | exact layRun0 rfl rfl | exact layRun rfl rfl rfl) ?_; intro _ _))
        | (guard_target =~ WO _ _ (Oper.mk _ (Op.fieldAddr 55 _ 6) _ _ _ none) _ _ _ _; first | (refine O_fdT fd55_6 (by decide) rfl ?_) | (refine O_field fd55_6 (by decide) rfl ?_))
        | (guard_target =~ WO _ _ (Oper.mk _ (Op.load 31 _) _ _ _ none) _ _ _ _; first | (refine O_lds (t' := 5) (by assumption) (by repeat (first | exact List.Mem.head _ | refine List.Mem.tail _ ?_)) on31 rfl (by first | omega | (simp only [csz]; omega)) (by first | rfl | exact layMod rfl rfl) ?_; intro _ _ _ _ _ _))
        | (guard_target =~ WO _ _ (Oper.mk _ (Op.build 126 #[(0, _), (2, _)]) _ _ _ none) _ _ _ _; first | (refine O_bd (l := [(0, .agg (ns .u8 20 _)), (2, .slice _ _ _)]) (by assumption) st126 zc126 rfl ⟨_, _, rfl, rfl, rfl, ⟨_, _, rfl, rfl, rfl, rfl⟩⟩ ⟨run8_ok (by assumption) rfl, ⟨one_ok (c' := 100 + 5) rfl (okS (by first | exact Sl.nil _ | exact TS.slN (by assumption) (by repeat (first | exact List.Mem.head _ | refine List.Mem.tail _ ?_)))), trivial⟩⟩ ?_; intro _ _ _))
        | (guard_target =~ WO _ _ (Oper.mk _ (Op.store 126 _ _) _ _ _ none) _ _ _ _; first | (refine O_sts (by assumption) (by repeat (first | exact List.Mem.head _ | refine List.Mem.tail _ ?_)) (by omega) (by repeat (first | exact List.Mem.head _ | refine List.Mem.tail _ ?_)) ag126 rfl rfl (by first | omega | (simp only [csz]; omega)) (by first | exact laySub0 rfl rfl | exact laySub rfl rfl rfl | exact laySame (by decide)) rfl ?_; intro _ _))
        | (guard_target =~ WO _ _ (Oper.mk _ (Op.fieldAddr 55 _ 7) _ _ _ none) _ _ _ _; first | (refine O_fdT fd55_7 (by decide) rfl ?_) | (refine O_field fd55_7 (by decide) rfl ?_))
        | (guard_target =~ WO _ _ (Oper.mk _ (Op.load 53 _) _ _ _ none) _ _ _ _; first | (refine O_lds (t' := 30) (by assumption) (by repeat (first | exact List.Mem.head _ | refine List.Mem.tail _ ?_)) on53 rfl (by first | omega | (simp only [csz]; omega)) (by first | rfl | exact layMod rfl rfl) ?_; intro _ _ _ _ _ _))
        | (guard_target =~ WO _ _ (Oper.mk _ (Op.call _) _ _ _ none) _ _ _ _; first | (refine O_len Samg.underlying53 rfl rfl ?_))
        | (guard_target =~ WO _ _ (Oper.mk _ (Op.move _) _ _ _ none) _ _ _ _; first | (refine O_move (v := (.int _ _)) rfl ?_) | (refine O_move (v := (.bool _)) rfl ?_) | (refine O_move (v := (.pointer _)) rfl ?_) | (refine O_move (v := (.slice _ _ _)) rfl ?_) | (refine O_move (v := (.agg _)) rfl ?_) | (refine O_move (v := (.tuple _)) rfl ?_))
        | (guard_target =~ WO _ _ (Oper.mk _ (Op.binOp BinOp.lss 3 _ _ _) _ _ _ none) _ _ _ _; first | (first | (refine O_lssS rfl rfl (fun h => absurd h (by omega)) ?_; intro _) | (refine O_lssS rfl rfl ?_ (fun h => absurd h (by omega)); intro _) | (refine O_lssS rfl rfl ?_ ?_ <;> intro _)))
        | (guard_target =~ WO _ _ (Oper.mk _ (Op.indexAddr 53 _ _) _ _ _ none) _ _ _ _; first | (refine O_ixK (by assumption) (by repeat (first | exact List.Mem.head _ | refine List.Mem.tail _ ?_)) sl53 rfl rfl (by omega) (by omega) ?_; rintro _ _ _) | (refine O_ixN (by assumption) (by repeat (first | exact List.Mem.head _ | refine List.Mem.tail _ ?_)) sl53 rfl rfl (by omega) (by omega) ?_; rintro _ _ _ _ _ _))
        | (guard_target =~ WO _ _ (Oper.mk _ (Op.load 30 _) _ _ _ none) _ _ _ _; first | (refine O_ldn8 (by assumption) (by repeat (first | exact List.Mem.head _ | refine List.Mem.tail _ ?_)) ag30 rfl (by first | omega | (simp only [csz]; omega)) (by first | exact layRun0 rfl rfl | exact layRun rfl rfl rfl) ?_; intro _ _))
        | (guard_target =~ WO _ _ (Oper.mk _ (Op.alloc 30) _ _ _ none) _ _ _ _; first | (refine O_al (by assumption) zc30 (by decide) ?_; intro _ _ _ _))
        | (guard_target =~ WO _ _ (Oper.mk _ (Op.store 30 _ _) _ _ _ none) _ _ _ _; first | (refine O_stn8 (by assumption) (by repeat (first | exact List.Mem.head _ | refine List.Mem.tail _ ?_)) (by omega) ag30 rfl rfl (by assumption) (by first | omega | (simp only [csz]; omega)) (by first | exact layRun0 rfl rfl | exact layRun rfl rfl rfl) rfl ?_; intro _ _))
        | (guard_target =~ WO _ _ (Oper.mk _ (Op.fieldAddr 126 _ 1) _ _ _ none) _ _ _ _; first | (refine O_fdT fd126_1 (by decide) rfl ?_) | (refine O_field fd126_1 (by decide) rfl ?_))
        | (guard_target =~ WO _ _ (Oper.mk _ (Op.load 124 _) _ _ _ none) _ _ _ _; first | (refine O_lds (t' := 87) (by assumption) (by repeat (first | exact List.Mem.head _ | refine List.Mem.tail _ ?_)) on124 rfl (by first | omega | (simp only [csz]; omega)) (by first | rfl | exact layMod rfl rfl) ?_; intro _ _ _ _ _ _))
        | (guard_target =~ WO _ _ (Oper.mk _ (Op.store 124 _ _) _ _ _ none) _ _ _ _; first | (refine O_st (by assumption) (by repeat (first | exact List.Mem.head _ | refine List.Mem.tail _ ?_)) (by omega) on124 rfl rfl (by first | omega | (simp only [csz]; omega)) (okp (c' := 100 + 87) (by first | rfl | exact layMod rfl rfl) (okS (by first | exact Sl.nil _ | exact TS.slN (by assumption) (by repeat (first | exact List.Mem.head _ | refine List.Mem.tail _ ?_))))) rfl ?_; intro _ _))
        | (guard_target =~ WO _ _ (Oper.mk _ (Op.binOp BinOp.add 3 _ _ _) _ _ _ none) _ _ _ _; first | (refine O_addZ rfl rfl (by simp only [rngZ]; omega) ?_))
        | (guard_target =~ WO _ _ (Oper.mk _ (Op.load 126 _) _ _ _ none) _ _ _ _; first | (refine O_lda (by assumption) (by repeat (first | exact List.Mem.head _ | refine List.Mem.tail _ ?_)) ag126 rfl (by first | omega | (simp only [csz]; omega)) (by first | exact laySub0 rfl rfl | exact laySub rfl rfl rfl | exact laySame (by decide)) ?_; intro _ _ _)))
      refine E_cell1T (by assumption) rfl rfl ag126 rfl (by repeat (first | exact List.Mem.head _ | refine List.Mem.tail _ ?_)) ?_
      intro cs hc
      exact ⟨cs, rfl, hc⟩
end Go.Proofs.Ygcsam
