/-
  WorldOK. Own work.
-/
import Derived.Test.YgcsamF6
namespace Go.Proofs.Ygcsam
set_option linter.unusedVariables false
set_option linter.unusedSimpArgs false
set_option maxRecDepth 4000
section
variable {P : Program} {ops : Array Oper} {e : Bool} {K : Env → World → Prop} {ρ : Env} {w w0 : World} {d : Nat} {ty : TypeId} {pos : String} {af : Array Edge} {B : Nat} {L : List Fact} {M : List (Nat × Array Value)}
theorem O_al87 (h : TS B w0 w L M) (hz : zchk P 87 = true) (k : ∀ w' b, Ext w w' → w0.heap.size ≤ b → By w' b 0 32 (fun _ => 0) → TS B w0 w' ((87, some ⟨b, 0, none⟩, 1, 1) :: L) M → K (put ρ d (.pointer (some ⟨b, 0, none⟩))) w') : WO P ops ⟨some d, .alloc 87, ty, pos, af, none⟩ e K ρ w := by
  obtain ⟨v, h1, h2, h3⟩ := zchk.ok hz
  have h32 : csz 87 = 32 := rfl
  refine O_alloc h1 fun w' hE hs hb => k w' _ hE h.e.size (fun j hj => ?_) ((h.next hE (h.t.grow hE hs hb fun j u hj => ?_)).addL (Sl.new h.t.sz hb (by rw [h2, Nat.one_mul]) (Nat.le_refl _) (by omega)))
  · obtain ⟨u', e1, e2⟩ := h3 j (by omega)
    rw [hb.cellq, Nat.zero_add, e1]
    have e2 : okZ 1 u' = true := e2
    unfold okZ at e2
    split at e2 <;> simp_all
  · have hj' : j < csz 87 := by have := get_lt hj; omega
    obtain ⟨u', e1, e2⟩ := h3 j hj'
    rw [e1] at hj; cases hj
    rw [Nat.mod_eq_of_lt hj']; exact okZ.ok e2
end
theorem worldOK_ok {B cap : Nat} {a : Option Addr} {ω : WA} {w : World} (hT : WT B w) (hA : AW w a cap ω) : Rd B Samg.prog 12 [.slice a ω.n cap] w fun v w' => ∃ p : Bool, v = .bool p ∧ (p = true ↔ WOK ω) := by
  refine W_enter (l := [_]) Samg.func12 rfl rfl rfl ?_
  have hS := TS.start hT
  have hcap := hA.cap
  have hle := hA.le
  repeat' (first
    | (refine L_cons ?_)
    | (refine R_cons rfl ?_)
    | (refine W_seq ?_)
    | (refine W_region (by kernel_rfl) ?_)
    | (refine L_nil ?_)
    | (refine R_nil ?_)
    | (refine W_block ?_)
    | (refine W_skip ?_)
    | (refine W_exit ?_)
    | (refine W_ret ?_)
    | (guard_target =~ thenQ _ _ _ _ _; first | (refine T_next ?_) | (refine T_exit ?_) | (refine T_ret ?_))
    | (guard_target =~ blockQ _ _ _ _ _; first | (refine B_next ?_) | (refine B_same ?_) | (refine B_other (by kernel_rfl) ?_) | (refine B_ret ?_))
    | (refine W_true rfl rfl ?_)
    | (refine W_false rfl rfl ?_)
    | (guard_target =~ WO _ _ (Oper.mk _ (Op.alloc 87) _ _ _ none) _ _ _ _; first | (refine O_al87 (by assumption) zc87 ?_; intro w1 bt hx1 hbt ht hS1) | (refine O_al (by assumption) zc87 (by decide) ?_; intro _ _ _ _))
    | (guard_target =~ WO _ _ (Oper.mk _ _ _ _ _ (some _)) _ _ _ _; first | (refine G_yes rfl ?_) | (refine G_no rfl ?_))
    | (guard_target =~ WC _ _ (Code.region 7 _ true) _ _ _; first | (refine W_drawnT (id := 7) [] [0, 1, 2, 3, 4, 5, 6, 7, 8, 9, 10, 11, 12, 13, 14, 15, 16, 17] mixed (by kernel_rfl) (by kernel_rfl) (by assumption) ?_; intro _ _ _))
    | (guard_target =~ WO _ _ (Oper.mk _ (Op.assign _) _ _ _ none) _ _ _ _; first | (refine O_assign (v := (.int _ _)) rfl ?_) | (refine O_assign (v := (.bool _)) rfl ?_) | (refine O_assign (v := (.pointer _)) rfl ?_) | (refine O_assign (v := (.slice _ _ _)) rfl ?_) | (refine O_assign (v := (.agg _)) rfl ?_) | (refine O_assign (v := (.tuple _)) rfl ?_))
    | (guard_target =~ WO _ _ (Oper.mk _ (Op.move _) _ _ _ none) _ _ _ _; first | (refine O_move (v := (.int _ _)) rfl ?_) | (refine O_move (v := (.bool _)) rfl ?_) | (refine O_move (v := (.pointer _)) rfl ?_) | (refine O_move (v := (.slice _ _ _)) rfl ?_) | (refine O_move (v := (.agg _)) rfl ?_) | (refine O_move (v := (.tuple _)) rfl ?_))
    | (guard_target =~ WO _ _ (Oper.mk _ (Op.call _) _ _ _ none) _ _ _ _; first | (refine O_len Samg.underlying35 rfl rfl ?_))
    | (guard_target =~ WO _ _ (Oper.mk _ (Op.binOp BinOp.gtr 3 _ _ _) _ _ _ none) _ _ _ _; first | (first | (refine O_gtrS rfl rfl (fun h => absurd h (by omega)) ?_; intro _) | (refine O_gtrS rfl rfl ?_ (fun h => absurd h (by omega)); intro _) | (refine O_gtrS rfl rfl ?_ ?_ <;> intro _)))
    | (guard_target =~ WO _ _ (Oper.mk _ (Op.binOp BinOp.lss 3 _ _ _) _ _ _ none) _ _ _ _; first | (first | (refine O_lssS rfl rfl (fun h => absurd h (by omega)) ?_; intro _) | (refine O_lssS rfl rfl ?_ (fun h => absurd h (by omega)); intro _) | (refine O_lssS rfl rfl ?_ ?_ <;> intro _)))
    | (guard_target =~ WO _ _ (Oper.mk _ (Op.binOp BinOp.sub 3 _ _ _) _ _ _ none) _ _ _ _; first | (refine O_subZ rfl rfl (by simp only [rngZ]; omega) ?_))
    | (guard_target =~ WO _ _ (Oper.mk _ (Op.indexAddr 35 _ _) _ _ _ none) _ _ _ _; first | (refine O_ixK (by assumption) (by repeat (first | exact List.Mem.head _ | refine List.Mem.tail _ ?_)) sl35 rfl rfl (by omega) (by omega) ?_; rintro _ _ _) | (refine O_ixN (by assumption) (by repeat (first | exact List.Mem.head _ | refine List.Mem.tail _ ?_)) sl35 rfl rfl (by omega) (by omega) ?_; rintro _ _ _ _ _ _))
    | (guard_target =~ WO _ _ (Oper.mk _ (Op.fieldAddr 90 _ 0) _ _ _ none) _ _ _ _; first | (refine O_fdT fd90_0 (by decide) rfl ?_) | (refine O_field fd90_0 (by decide) rfl ?_))
    | (guard_target =~ WO _ _ (Oper.mk _ (Op.slice 24 _ none none none) _ _ _ none) _ _ _ _; first | (refine O_sla ar24 rfl (by decide) ?_))
    | (guard_target =~ WO _ _ (Oper.mk _ (Op.pick _ _ _) _ _ _ none) _ _ _ _; first | (refine O_pick_t (v := (.bool _)) rfl rfl ?_) | (refine O_pick_f (v := (.bool _)) rfl rfl ?_))
    | (guard_target =~ WO _ _ (Oper.mk _ (Op.unOp _ _ _) _ _ _ none) _ _ _ _; first | (refine O_not rfl ?_))
    | (guard_target =~ WO _ _ (Oper.mk _ (Op.fieldAddr 90 _ 2) _ _ _ none) _ _ _ _; first | (refine O_fdT fd90_2 (by decide) rfl ?_) | (refine O_field fd90_2 (by decide) rfl ?_))
    | (guard_target =~ WO _ _ (Oper.mk _ (Op.binOp BinOp.add 3 _ _ _) _ _ _ none) _ _ _ _; first | (refine O_addZ rfl rfl (by simp only [rngZ]; omega) ?_)))
  · exact E_ret1T (by assumption) rfl rfl rfl ⟨false, rfl, fun h => (by cases h), fun h => absurd h.1 (by omega)⟩
  · have hn8 : ω.n ≤ 8 := by omega
    refine W_loop (fun m ρ w' => ∃ i : Nat, m = ω.n - i ∧ i ≤ ω.n ∧ TS B w w' [(87, some ⟨bt, 0, none⟩, 1, 1)] [] ∧ By w' bt 0 32 (totS ω i) ∧ (∀ q, q < i → (0 < q → sge (strF 20 (ω.ad (q - 1))) (strF 20 (ω.ad q)) = false) ∧ AOK ω q ∧ (addS (totS ω q) (ω.bl q) 32).2 = 0) ∧ Has ρ [(0, .slice a ω.n cap), (3, .pointer (some ⟨bt, 0, none⟩)), (9, .int .i64 ((ω.n : Nat) : Int)), (10, .int .i64 ((i : Nat) : Int))]) ω.n ⟨0, by omega, by omega, hS1, ht, fun q hq => by omega, Has.mk ⟨rfl, rfl, rfl, rfl, trivial⟩⟩ ?_
    clear hS1 ht hS
    rintro m ρ w2 ⟨i, rfl, hi, hS2, ht, hP, σ', rfl⟩
    by_cases hin : i < ω.n
    · obtain ⟨b, o, rfl, hr⟩ := hA.rows.resolve_left (by omega)
      have hri := hr i hin
      have hlt : b < w.heap.size := cell_lt hri.no
      have rt := totS_lt hA.rbl i
      rcases Nat.eq_zero_or_pos i with rfl | hi0
      · repeat' (first
          | (refine L_cons ?_)
          | (refine R_cons rfl ?_)
          | (refine W_seq ?_)
          | (refine W_region (by kernel_rfl) ?_)
          | (refine L_nil ?_)
          | (refine R_nil ?_)
          | (refine W_block ?_)
          | (refine W_skip ?_)
          | (refine W_exit ?_)
          | (refine W_ret ?_)
          | (guard_target =~ thenQ _ _ _ _ _; first | (refine T_next ?_) | (refine T_exit ?_) | (refine T_ret ?_))
          | (guard_target =~ blockQ _ _ _ _ _; first | (refine B_next ?_) | (refine B_same ?_) | (refine B_other (by kernel_rfl) ?_) | (refine B_ret ?_))
          | (refine W_true rfl rfl ?_)
          | (refine W_false rfl rfl ?_)
          | (refine Cv.R_cons rfl ?_)
          | (refine Cv.R_nil ?_)
          | (refine Cv.O_old ?_)
          | (guard_target =~ WC _ _ (Code.region 7 _ true) _ _ _; first | (refine W_drawnC (id := 7) [] [0, 1, 2, 3, 4, 5, 6, 7, 8, 9, 10, 11, 12, 13, 14, 15, 16, 17] mixed (by kernel_rfl) (by kernel_rfl) (by assumption) ?_; intro w3 hS3 hh3; replace ht := ht.heap hh3) | (refine W_drawnT (id := 7) [] [0, 1, 2, 3, 4, 5, 6, 7, 8, 9, 10, 11, 12, 13, 14, 15, 16, 17] mixed (by kernel_rfl) (by kernel_rfl) (by assumption) ?_; intro _ _ _))
          | (guard_target =~ WO _ _ (Oper.mk _ (Op.indexAddr 35 _ _) _ _ _ none) _ _ _ _; first | (refine O_index_s (m := 0) sl35 rfl rfl (by omega) ?_) | (refine O_ixK (by assumption) (by repeat (first | exact List.Mem.head _ | refine List.Mem.tail _ ?_)) sl35 rfl rfl (by omega) (by omega) ?_; rintro _ _ _) | (refine O_ixN (by assumption) (by repeat (first | exact List.Mem.head _ | refine List.Mem.tail _ ?_)) sl35 rfl rfl (by omega) (by omega) ?_; rintro _ _ _ _ _ _))
          | (guard_target =~ WO _ _ (Oper.mk _ (Op.call (Call.mk (Callee.value (Operand.func 28)) _ _)) _ _ _ none) _ _ _ _; first | (refine O_rd (l := [.pointer (some ⟨b, o + 0 * 55, none⟩)]) (by assumption) cl28 rfl (accountOK_ok (i := 0) (TS.t (by assumption)) (hA.ext (TS.e (by assumption))) hin (hri.ext (TS.e (by assumption)))) ?_; rintro _ w4 ⟨p, rfl, hp⟩ hS4 hx4; replace ht := ht.ext hx4; cases p))
          | (guard_target =~ WO _ _ (Oper.mk _ (Op.call (Call.mk (Callee.value (Operand.func 29)) _ _)) _ _ _ none) _ _ _ _; first | (refine O_call (l := [.pointer (some ⟨bt, 0, none⟩), .pointer (some ⟨b, o + 0 * 55 + 21, none⟩)]) cl29 rfl (Ret.mono (addTo_ok hS4 (by repeat (first | exact List.Mem.head _ | refine List.Mem.tail _ ?_)) hbt ht hlt (hri.bl.ext (TS.e hS4)) rt (hA.rbl 0)) ?_); rintro _ w5 ⟨hS5, ht5, p2, rfl, hp2⟩; refine ⟨nof, ?_⟩; cases p2))
          | (guard_target =~ WO _ _ (Oper.mk _ _ _ _ _ (some _)) _ _ _ _; first | (refine G_yes rfl ?_) | (refine G_no rfl ?_))
          | (guard_target =~ WO _ _ (Oper.mk _ (Op.assign _) _ _ _ none) _ _ _ _; first | (refine O_assign (v := (.int _ _)) rfl ?_) | (refine O_assign (v := (.bool _)) rfl ?_) | (refine O_assign (v := (.pointer _)) rfl ?_) | (refine O_assign (v := (.slice _ _ _)) rfl ?_) | (refine O_assign (v := (.agg _)) rfl ?_) | (refine O_assign (v := (.tuple _)) rfl ?_))
          | (guard_target =~ WO _ _ (Oper.mk _ (Op.move _) _ _ _ none) _ _ _ _; first | (refine O_move (v := (.int _ _)) rfl ?_) | (refine O_move (v := (.bool _)) rfl ?_) | (refine O_move (v := (.pointer _)) rfl ?_) | (refine O_move (v := (.slice _ _ _)) rfl ?_) | (refine O_move (v := (.agg _)) rfl ?_) | (refine O_move (v := (.tuple _)) rfl ?_))
          | (guard_target =~ WO _ _ (Oper.mk _ (Op.call _) _ _ _ none) _ _ _ _; first | (refine O_len Samg.underlying35 rfl rfl ?_))
          | (guard_target =~ WO _ _ (Oper.mk _ (Op.binOp BinOp.gtr 3 _ _ _) _ _ _ none) _ _ _ _; first | (first | (refine O_gtrS rfl rfl (fun h => absurd h (by omega)) ?_; intro _) | (refine O_gtrS rfl rfl ?_ (fun h => absurd h (by omega)); intro _) | (refine O_gtrS rfl rfl ?_ ?_ <;> intro _)))
          | (guard_target =~ WO _ _ (Oper.mk _ (Op.alloc 87) _ _ _ none) _ _ _ _; first | (refine O_al (by assumption) zc87 (by decide) ?_; intro _ _ _ _))
          | (guard_target =~ WO _ _ (Oper.mk _ (Op.binOp BinOp.lss 3 _ _ _) _ _ _ none) _ _ _ _; first | (first | (refine O_lssS rfl rfl (fun h => absurd h (by omega)) ?_; intro _) | (refine O_lssS rfl rfl ?_ (fun h => absurd h (by omega)); intro _) | (refine O_lssS rfl rfl ?_ ?_ <;> intro _)))
          | (guard_target =~ WO _ _ (Oper.mk _ (Op.binOp BinOp.sub 3 _ _ _) _ _ _ none) _ _ _ _; first | (refine O_subZ rfl rfl (by simp only [rngZ]; omega) ?_))
          | (guard_target =~ WO _ _ (Oper.mk _ (Op.fieldAddr 90 _ 0) _ _ _ none) _ _ _ _; first | (refine O_fdT fd90_0 (by decide) rfl ?_) | (refine O_field fd90_0 (by decide) rfl ?_))
          | (guard_target =~ WO _ _ (Oper.mk _ (Op.slice 24 _ none none none) _ _ _ none) _ _ _ _; first | (refine O_sla ar24 rfl (by decide) ?_))
          | (guard_target =~ WO _ _ (Oper.mk _ (Op.pick _ _ _) _ _ _ none) _ _ _ _; first | (refine O_pick_t (v := (.bool _)) rfl rfl ?_) | (refine O_pick_f (v := (.bool _)) rfl rfl ?_))
          | (guard_target =~ WO _ _ (Oper.mk _ (Op.unOp _ _ _) _ _ _ none) _ _ _ _; first | (refine O_not rfl ?_))
          | (guard_target =~ WO _ _ (Oper.mk _ (Op.fieldAddr 90 _ 2) _ _ _ none) _ _ _ _; first | (refine O_fdT fd90_2 (by decide) rfl ?_) | (refine O_field fd90_2 (by decide) rfl ?_))
          | (guard_target =~ WO _ _ (Oper.mk _ (Op.binOp BinOp.add 3 _ _ _) _ _ _ none) _ _ _ _; first | (refine O_addZ rfl rfl (by simp only [rngZ]; omega) ?_)))
        all_goals first
          | exact E_ret1T (by assumption) rfl rfl rfl ⟨false, rfl, fun h => (by cases h), fun h => absurd (hp.2 (h.2 0 hin).2.1) Bool.false_ne_true⟩
          | exact E_ret1T (by assumption) rfl rfl rfl ⟨false, rfl, fun h => (by cases h), fun h => absurd (hp2.2 (h.2 0 hin).2.2) Bool.false_ne_true⟩
          | exact ⟨ω.n - 1, by omega, 1, rfl, by omega, hS5, ht5, fun q hq => (by obtain rfl : q = 0 := (by omega); exact ⟨fun h => absurd h (by omega), hp.1 rfl, hp2.1 rfl⟩), Has.mk ⟨rfl, rfl, rfl, rfl, trivial⟩⟩
      · obtain ⟨q, rfl⟩ : ∃ q, i = q + 1 := ⟨i - 1, by omega⟩
        have hrq := hr q (by omega)
        repeat' (first
          | (refine L_cons ?_)
          | (refine R_cons rfl ?_)
          | (refine W_seq ?_)
          | (refine W_region (by kernel_rfl) ?_)
          | (refine L_nil ?_)
          | (refine R_nil ?_)
          | (refine W_block ?_)
          | (refine W_skip ?_)
          | (refine W_exit ?_)
          | (refine W_ret ?_)
          | (guard_target =~ thenQ _ _ _ _ _; first | (refine T_next ?_) | (refine T_exit ?_) | (refine T_ret ?_))
          | (guard_target =~ blockQ _ _ _ _ _; first | (refine B_next ?_) | (refine B_same ?_) | (refine B_other (by kernel_rfl) ?_) | (refine B_ret ?_))
          | (refine W_true rfl rfl ?_)
          | (refine W_false rfl rfl ?_)
          | (refine Cv.R_cons rfl ?_)
          | (refine Cv.R_nil ?_)
          | (refine Cv.G_yes rfl ?_)
          | (refine O_cvS (f := ω.ad q) Samg.underlying31 Samg.underlying5 Samg.underlying9 rfl hh7 ?_)
          | (refine O_cvS (f := ω.ad (q + 1)) Samg.underlying31 Samg.underlying5 Samg.underlying9 rfl hh5 ?_)
          | (refine Cv.O_old ?_)
          | (guard_target =~ WC _ _ (Code.region 7 _ true) _ _ _; first | (refine W_drawnC (id := 7) [] [0, 1, 2, 3, 4, 5, 6, 7, 8, 9, 10, 11, 12, 13, 14, 15, 16, 17] mixed (by kernel_rfl) (by kernel_rfl) (by assumption) ?_; intro w3 hS3 hh3; replace ht := ht.heap hh3; have hh7 := hrq.ad.ext (TS.e hS3); have hh5 := hri.ad.ext (TS.e hS3)) | (refine W_drawnT (id := 7) [] [0, 1, 2, 3, 4, 5, 6, 7, 8, 9, 10, 11, 12, 13, 14, 15, 16, 17] mixed (by kernel_rfl) (by kernel_rfl) (by assumption) ?_; intro _ _ _))
          | (guard_target =~ WO _ _ (Oper.mk _ (Op.slice 24 _ none none none) _ _ _ none) _ _ _ _; first | (refine O_sla2 ar24 rfl (by decide) ?_) | (refine O_sla ar24 rfl (by decide) ?_))
          | (guard_target =~ WO _ _ (Oper.mk _ (Op.binOp BinOp.geq 9 _ _ _) _ _ _ none) _ _ _ _; first | (refine O_sgeq Samg.underlying9 rfl rfl ?_; (rcases hsg : sge (strF 20 (ω.ad q)) (strF 20 (ω.ad (q + 1))))))
          | (guard_target =~ WO _ _ (Oper.mk _ (Op.indexAddr 35 (Operand.tmp 16) _) _ _ _ none) _ _ _ _; first | (refine O_index_s (m := q) sl35 rfl (congrArg (Value.int .i64) (by omega)) (by omega) ?_))
          | (guard_target =~ WO _ _ (Oper.mk _ (Op.indexAddr 35 _ _) _ _ _ none) _ _ _ _; first | (refine O_index_s (m := q + 1) sl35 rfl rfl (by omega) ?_) | (refine O_ixK (by assumption) (by repeat (first | exact List.Mem.head _ | refine List.Mem.tail _ ?_)) sl35 rfl rfl (by omega) (by omega) ?_; rintro _ _ _) | (refine O_ixN (by assumption) (by repeat (first | exact List.Mem.head _ | refine List.Mem.tail _ ?_)) sl35 rfl rfl (by omega) (by omega) ?_; rintro _ _ _ _ _ _))
          | (guard_target =~ WO _ _ (Oper.mk _ (Op.call (Call.mk (Callee.value (Operand.func 28)) _ _)) _ _ _ none) _ _ _ _; first | (refine O_rd (l := [.pointer (some ⟨b, o + (q + 1) * 55, none⟩)]) (by assumption) cl28 rfl (accountOK_ok (i := q + 1) (TS.t (by assumption)) (hA.ext (TS.e (by assumption))) hin (hri.ext (TS.e (by assumption)))) ?_; rintro _ w4 ⟨p, rfl, hp⟩ hS4 hx4; replace ht := ht.ext hx4; cases p))
          | (guard_target =~ WO _ _ (Oper.mk _ (Op.call (Call.mk (Callee.value (Operand.func 29)) _ _)) _ _ _ none) _ _ _ _; first | (refine O_call (l := [.pointer (some ⟨bt, 0, none⟩), .pointer (some ⟨b, o + (q + 1) * 55 + 21, none⟩)]) cl29 rfl (Ret.mono (addTo_ok hS4 (by repeat (first | exact List.Mem.head _ | refine List.Mem.tail _ ?_)) hbt ht hlt (hri.bl.ext (TS.e hS4)) rt (hA.rbl (q + 1))) ?_); rintro _ w5 ⟨hS5, ht5, p2, rfl, hp2⟩; refine ⟨nof, ?_⟩; cases p2))
          | (guard_target =~ WO _ _ (Oper.mk _ _ _ _ _ (some _)) _ _ _ _; first | (refine G_yes rfl ?_) | (refine G_no rfl ?_))
          | (guard_target =~ WO _ _ (Oper.mk _ (Op.assign _) _ _ _ none) _ _ _ _; first | (refine O_assign (v := (.int _ _)) rfl ?_) | (refine O_assign (v := (.bool _)) rfl ?_) | (refine O_assign (v := (.pointer _)) rfl ?_) | (refine O_assign (v := (.slice _ _ _)) rfl ?_) | (refine O_assign (v := (.agg _)) rfl ?_) | (refine O_assign (v := (.tuple _)) rfl ?_))
          | (guard_target =~ WO _ _ (Oper.mk _ (Op.move _) _ _ _ none) _ _ _ _; first | (refine O_move (v := (.int _ _)) rfl ?_) | (refine O_move (v := (.bool _)) rfl ?_) | (refine O_move (v := (.pointer _)) rfl ?_) | (refine O_move (v := (.slice _ _ _)) rfl ?_) | (refine O_move (v := (.agg _)) rfl ?_) | (refine O_move (v := (.tuple _)) rfl ?_))
          | (guard_target =~ WO _ _ (Oper.mk _ (Op.call _) _ _ _ none) _ _ _ _; first | (refine O_len Samg.underlying35 rfl rfl ?_))
          | (guard_target =~ WO _ _ (Oper.mk _ (Op.binOp BinOp.gtr 3 _ _ _) _ _ _ none) _ _ _ _; first | (first | (refine O_gtrS rfl rfl (fun h => absurd h (by omega)) ?_; intro _) | (refine O_gtrS rfl rfl ?_ (fun h => absurd h (by omega)); intro _) | (refine O_gtrS rfl rfl ?_ ?_ <;> intro _)))
          | (guard_target =~ WO _ _ (Oper.mk _ (Op.alloc 87) _ _ _ none) _ _ _ _; first | (refine O_al (by assumption) zc87 (by decide) ?_; intro _ _ _ _))
          | (guard_target =~ WO _ _ (Oper.mk _ (Op.binOp BinOp.lss 3 _ _ _) _ _ _ none) _ _ _ _; first | (first | (refine O_lssS rfl rfl (fun h => absurd h (by omega)) ?_; intro _) | (refine O_lssS rfl rfl ?_ (fun h => absurd h (by omega)); intro _) | (refine O_lssS rfl rfl ?_ ?_ <;> intro _)))
          | (guard_target =~ WO _ _ (Oper.mk _ (Op.binOp BinOp.sub 3 _ _ _) _ _ _ none) _ _ _ _; first | (refine O_subZ rfl rfl (by simp only [rngZ]; omega) ?_))
          | (guard_target =~ WO _ _ (Oper.mk _ (Op.fieldAddr 90 _ 0) _ _ _ none) _ _ _ _; first | (refine O_fdT fd90_0 (by decide) rfl ?_) | (refine O_field fd90_0 (by decide) rfl ?_))
          | (guard_target =~ WO _ _ (Oper.mk _ (Op.pick _ _ _) _ _ _ none) _ _ _ _; first | (refine O_pick_t (v := (.bool _)) rfl rfl ?_) | (refine O_pick_f (v := (.bool _)) rfl rfl ?_))
          | (guard_target =~ WO _ _ (Oper.mk _ (Op.unOp _ _ _) _ _ _ none) _ _ _ _; first | (refine O_not rfl ?_))
          | (guard_target =~ WO _ _ (Oper.mk _ (Op.fieldAddr 90 _ 2) _ _ _ none) _ _ _ _; first | (refine O_fdT fd90_2 (by decide) rfl ?_) | (refine O_field fd90_2 (by decide) rfl ?_))
          | (guard_target =~ WO _ _ (Oper.mk _ (Op.binOp BinOp.add 3 _ _ _) _ _ _ none) _ _ _ _; first | (refine O_addZ rfl rfl (by simp only [rngZ]; omega) ?_)))
        all_goals first
          | exact E_ret1T (by assumption) rfl rfl rfl ⟨false, rfl, fun h => (by cases h), fun h => absurd (hp.2 (h.2 (q + 1) hin).2.1) Bool.false_ne_true⟩
          | exact E_ret1T (by assumption) rfl rfl rfl ⟨false, rfl, fun h => (by cases h), fun h => absurd (hp2.2 (h.2 (q + 1) hin).2.2) Bool.false_ne_true⟩
          | exact E_ret1T (by assumption) rfl rfl rfl ⟨false, rfl, fun h => (by cases h), fun h => (by have := (h.2 (q + 1) hin).1 (by omega); rw [Nat.add_sub_cancel, hsg] at this; cases this)⟩
          | exact ⟨ω.n - (q + 2), by omega, q + 2, rfl, by omega, hS5, ht5, fun r hr => (by by_cases hrq : r < q + 1; exact hP r hrq; obtain rfl : r = q + 1 := (by omega); exact ⟨fun _ => (by rw [Nat.add_sub_cancel]; exact hsg), hp.1 rfl, hp2.1 rfl⟩), Has.mk ⟨rfl, rfl, rfl, rfl, trivial⟩⟩
    · repeat' (first
        | (refine L_cons ?_)
        | (refine R_cons rfl ?_)
        | (refine W_seq ?_)
        | (refine W_region (by kernel_rfl) ?_)
        | (refine L_nil ?_)
        | (refine R_nil ?_)
        | (refine W_block ?_)
        | (refine W_skip ?_)
        | (refine W_exit ?_)
        | (refine W_ret ?_)
        | (guard_target =~ thenQ _ _ _ _ _; first | (refine T_next ?_) | (refine T_exit ?_) | (refine T_ret ?_))
        | (guard_target =~ blockQ _ _ _ _ _; first | (refine B_next ?_) | (refine B_same ?_) | (refine B_other (by kernel_rfl) ?_) | (refine B_ret ?_))
        | (refine W_true rfl rfl ?_)
        | (refine W_false rfl rfl ?_)
        | (guard_target =~ WO _ _ (Oper.mk _ _ _ _ _ (some _)) _ _ _ _; first | (refine G_yes rfl ?_) | (refine G_no rfl ?_))
        | (guard_target =~ WC _ _ (Code.region 7 _ true) _ _ _; first | (refine W_drawnT (id := 7) [] [0, 1, 2, 3, 4, 5, 6, 7, 8, 9, 10, 11, 12, 13, 14, 15, 16, 17] mixed (by kernel_rfl) (by kernel_rfl) (by assumption) ?_; intro _ _ _))
        | (guard_target =~ WO _ _ (Oper.mk _ (Op.assign _) _ _ _ none) _ _ _ _; first | (refine O_assign (v := (.int _ _)) rfl ?_) | (refine O_assign (v := (.bool _)) rfl ?_) | (refine O_assign (v := (.pointer _)) rfl ?_) | (refine O_assign (v := (.slice _ _ _)) rfl ?_) | (refine O_assign (v := (.agg _)) rfl ?_) | (refine O_assign (v := (.tuple _)) rfl ?_))
        | (guard_target =~ WO _ _ (Oper.mk _ (Op.move _) _ _ _ none) _ _ _ _; first | (refine O_move (v := (.int _ _)) rfl ?_) | (refine O_move (v := (.bool _)) rfl ?_) | (refine O_move (v := (.pointer _)) rfl ?_) | (refine O_move (v := (.slice _ _ _)) rfl ?_) | (refine O_move (v := (.agg _)) rfl ?_) | (refine O_move (v := (.tuple _)) rfl ?_))
        | (guard_target =~ WO _ _ (Oper.mk _ (Op.call _) _ _ _ none) _ _ _ _; first | (refine O_len Samg.underlying35 rfl rfl ?_))
        | (guard_target =~ WO _ _ (Oper.mk _ (Op.binOp BinOp.gtr 3 _ _ _) _ _ _ none) _ _ _ _; first | (first | (refine O_gtrS rfl rfl (fun h => absurd h (by omega)) ?_; intro _) | (refine O_gtrS rfl rfl ?_ (fun h => absurd h (by omega)); intro _) | (refine O_gtrS rfl rfl ?_ ?_ <;> intro _)))
        | (guard_target =~ WO _ _ (Oper.mk _ (Op.alloc 87) _ _ _ none) _ _ _ _; first | (refine O_al (by assumption) zc87 (by decide) ?_; intro _ _ _ _))
        | (guard_target =~ WO _ _ (Oper.mk _ (Op.binOp BinOp.lss 3 _ _ _) _ _ _ none) _ _ _ _; first | (first | (refine O_lssS rfl rfl (fun h => absurd h (by omega)) ?_; intro _) | (refine O_lssS rfl rfl ?_ (fun h => absurd h (by omega)); intro _) | (refine O_lssS rfl rfl ?_ ?_ <;> intro _)))
        | (guard_target =~ WO _ _ (Oper.mk _ (Op.binOp BinOp.sub 3 _ _ _) _ _ _ none) _ _ _ _; first | (refine O_subZ rfl rfl (by simp only [rngZ]; omega) ?_))
        | (guard_target =~ WO _ _ (Oper.mk _ (Op.indexAddr 35 _ _) _ _ _ none) _ _ _ _; first | (refine O_ixK (by assumption) (by repeat (first | exact List.Mem.head _ | refine List.Mem.tail _ ?_)) sl35 rfl rfl (by omega) (by omega) ?_; rintro _ _ _) | (refine O_ixN (by assumption) (by repeat (first | exact List.Mem.head _ | refine List.Mem.tail _ ?_)) sl35 rfl rfl (by omega) (by omega) ?_; rintro _ _ _ _ _ _))
        | (guard_target =~ WO _ _ (Oper.mk _ (Op.fieldAddr 90 _ 0) _ _ _ none) _ _ _ _; first | (refine O_fdT fd90_0 (by decide) rfl ?_) | (refine O_field fd90_0 (by decide) rfl ?_))
        | (guard_target =~ WO _ _ (Oper.mk _ (Op.slice 24 _ none none none) _ _ _ none) _ _ _ _; first | (refine O_sla ar24 rfl (by decide) ?_))
        | (guard_target =~ WO _ _ (Oper.mk _ (Op.pick _ _ _) _ _ _ none) _ _ _ _; first | (refine O_pick_t (v := (.bool _)) rfl rfl ?_) | (refine O_pick_f (v := (.bool _)) rfl rfl ?_))
        | (guard_target =~ WO _ _ (Oper.mk _ (Op.unOp _ _ _) _ _ _ none) _ _ _ _; first | (refine O_not rfl ?_))
        | (guard_target =~ WO _ _ (Oper.mk _ (Op.fieldAddr 90 _ 2) _ _ _ none) _ _ _ _; first | (refine O_fdT fd90_2 (by decide) rfl ?_) | (refine O_field fd90_2 (by decide) rfl ?_))
        | (guard_target =~ WO _ _ (Oper.mk _ (Op.binOp BinOp.add 3 _ _ _) _ _ _ none) _ _ _ _; first | (refine O_addZ rfl rfl (by simp only [rngZ]; omega) ?_)))
      exact E_ret1T (by assumption) rfl rfl rfl ⟨true, rfl, fun _ => ⟨hn8, fun q hq => hP q (by omega)⟩, fun _ => rfl⟩
end Go.Proofs.Ygcsam
