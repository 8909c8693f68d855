/-
  WideMid AND RoundWide. Own work.
-/
import Derived.Test.YgcsamN7
namespace Go.Proofs.Ygcsam
set_option linter.unusedVariables false
set_option maxHeartbeats 1000000

theorem val_above {B : Nat} {G : Nat → Nat} {n N i : Nat} (hB : 0 < B) (h : val B G N < B ^ n) (hi : n ≤ i) (hN : i < N) : G i = 0 := by
  rcases Nat.eq_zero_or_pos (G i) with h0 | h0
  · exact h0
  · exfalso
    have h1 : B ^ i ≤ val B G (i + 1) := val_ge hB (by omega)
    have h2 : val B G (i + 1) ≤ val B G N := val_mono hN
    have h3 : B ^ n ≤ B ^ i := Nat.pow_le_pow_right hB hi
    omega

theorem wideMid_ok {w : World} {bu bv n j : Nat} {tu tv : TypeId} {f g : Nat → Nat} (hu : Blk w bu (ns .u64 17 f) tu) (hv : Blk w bv (ns .u64 8 g) tv) (hf : ∀ i, i < 17 → f i < 18446744073709551616) (hg : ∀ i, i < 8 → g i < 18446744073709551616) (hn : n < 256) (hj : j < 256) :
    Ret Samg.prog 21 #[.pointer (some ⟨bu, 0, none⟩), .pointer (some ⟨bv, 0, none⟩), .int .u8 (n : Nat), .int .u8 (j : Nat)] w fun v w' => v = .bool (decide (MidB 18446744073709551616 f g n j)) ∧ Ext w w' := by
  have hB : 18446744073709551616 = 2 * 9223372036854775808 := by omega
  refine W_enter (l := [.pointer (some ⟨bu, 0, none⟩), .pointer (some ⟨bv, 0, none⟩), .int .u8 (n : Nat), .int .u8 (j : Nat)]) Samg.func21 rfl Samg.ntmps21 rfl ?_
  by_cases h2 : n < 2
  · repeat (first
      | (refine L_cons ?_)
      | (refine R_cons rfl ?_)
      | (refine W_seq ?_)
      | (refine W_region (by kernel_rfl) ?_)
      | (refine L_nil ?_)
      | (refine R_nil ?_)
      | (refine W_block ?_)
      | (refine W_skip ?_)
      | (refine W_exit ?_)
      | (refine W_ret ?_)
      | (guard_target =~ thenQ _ _ _ _ _; first | (refine T_next ?_) | (refine T_exit ?_) | (refine T_ret ?_))
      | (guard_target =~ blockQ _ _ _ _ _; first | (refine B_next ?_) | (refine B_same ?_) | (refine B_other (by kernel_rfl) ?_) | (refine B_ret ?_))
      | (refine W_true rfl rfl ?_)
      | (refine W_false rfl rfl ?_)
      | (guard_target =~ WO _ _ (Oper.mk _ (Op.binOp BinOp.eql 69 _ _ _) _ _ _ none) _ _ _ _; first | (refine O_eqnil Samg.underlying69 rfl rfl ?_))
      | (guard_target =~ WO _ _ (Oper.mk _ (Op.binOp BinOp.eql 70 _ _ _) _ _ _ none) _ _ _ _; first | (refine O_eqnil Samg.underlying70 rfl rfl ?_))
      | (guard_target =~ WO _ _ (Oper.mk _ _ _ _ _ (some _)) _ _ _ _; first | (refine G_yes rfl ?_) | (refine G_no rfl ?_))
      | (guard_target =~ WO _ _ (Oper.mk _ (Op.assign _) _ _ _ none) _ _ _ _; first | (refine O_assign (v := (.int _ (Nat.cast _))) rfl ?_) | (refine O_assign (v := (.bool _)) rfl ?_) | (refine O_assign (v := (.pointer _)) rfl ?_) | (refine O_assign (v := (.slice _ _ _)) rfl ?_) | (refine O_assign (v := (.agg _)) rfl ?_) | (refine O_assign (v := (.tuple _)) rfl ?_) | (refine O_assign (v := (.int _ _)) rfl ?_))
      | (guard_target =~ WO _ _ (Oper.mk _ (Op.move _) _ _ _ none) _ _ _ _; first | (refine O_move (v := (.int _ (Nat.cast _))) rfl ?_) | (refine O_move (v := (.bool _)) rfl ?_) | (refine O_move (v := (.pointer _)) rfl ?_) | (refine O_move (v := (.slice _ _ _)) rfl ?_) | (refine O_move (v := (.agg _)) rfl ?_) | (refine O_move (v := (.tuple _)) rfl ?_) | (refine O_move (v := (.int _ _)) rfl ?_))
      | (guard_target =~ WO _ _ (Oper.mk _ (Op.pick _ _ _) _ _ _ none) _ _ _ _; first | (refine O_pick_t (v := (.bool _)) rfl rfl ?_) | (refine O_pick_f (v := (.bool _)) rfl rfl ?_))
      | (guard_target =~ WO _ _ (Oper.mk _ (Op.binOp BinOp.lss _ _ _ _) _ _ _ none) _ _ _ _; first | (refine O_lss_t (b := 2) rfl rfl (by omega) ?_) | (refine O_lss_f (b := 2) rfl rfl (by omega) ?_) | (refine O_lss (b := 2) rfl rfl ?_))
      | (guard_target =~ WO _ _ (Oper.mk _ (Op.binOp BinOp.gtr _ _ _ _) _ _ _ none) _ _ _ _; first | (refine O_gtr_t (b := 8) rfl rfl (by omega) ?_) | (refine O_gtr_f (b := 8) rfl rfl (by omega) ?_) | (refine O_gtr (b := 8) rfl rfl ?_) | (refine O_gtr_t rfl rfl (by omega) ?_) | (refine O_gtr_f rfl rfl (by omega) ?_) | (refine O_gtr rfl rfl ?_))
      | (guard_target =~ WO _ _ (Oper.mk _ (Op.binOp BinOp.sub _ _ _ _) _ _ _ none) _ _ _ _; first | (refine O_sub (a := 16) rfl rfl (by first | exact fit_i64 (by omega) | exact fit_u64 (by omega) | exact fit_u8 (by omega) | exact fit_i32 (by omega) | exact fit_u16 (by omega)) (by omega) ?_))
      | (guard_target =~ WO _ _ (Oper.mk _ (Op.binOp BinOp.neq _ _ _ _) _ _ _ none) _ _ _ _; first | (refine O_neq_t rfl rfl (by omega) ?_) | (refine O_neq_f rfl rfl (by omega) ?_) | (refine O_neq rfl rfl ?_))
      | (guard_target =~ WO _ _ (Oper.mk _ (Op.nilCheck _) _ _ _ none) _ _ _ _; first | (refine O_nil rfl ?_))
      | (guard_target =~ WO _ _ (Oper.mk _ (Op.slice 63 _ none none none) _ _ _ none) _ _ _ _; first | (refine O_slice_a ar63 rfl rfl rfl rfl (fun h => by cases h) (by omega) (by omega) (by omega) ?_))
      | (guard_target =~ WO _ _ (Oper.mk _ (Op.slice 66 _ none none none) _ _ _ none) _ _ _ _; first | (refine O_slice_a ar66 rfl rfl rfl rfl (fun h => by cases h) (by omega) (by omega) (by omega) ?_)))
    refine E_ret rfl rfl rfl ⟨?_, Ext.refl _⟩
    rw [decide_eq_false]
    · rfl
    · rintro ⟨_, _, _, _, _, _⟩
      omega
  by_cases h8 : 8 < n
  · repeat (first
      | (refine L_cons ?_)
      | (refine R_cons rfl ?_)
      | (refine W_seq ?_)
      | (refine W_region (by kernel_rfl) ?_)
      | (refine L_nil ?_)
      | (refine R_nil ?_)
      | (refine W_block ?_)
      | (refine W_skip ?_)
      | (refine W_exit ?_)
      | (refine W_ret ?_)
      | (guard_target =~ thenQ _ _ _ _ _; first | (refine T_next ?_) | (refine T_exit ?_) | (refine T_ret ?_))
      | (guard_target =~ blockQ _ _ _ _ _; first | (refine B_next ?_) | (refine B_same ?_) | (refine B_other (by kernel_rfl) ?_) | (refine B_ret ?_))
      | (refine W_true rfl rfl ?_)
      | (refine W_false rfl rfl ?_)
      | (guard_target =~ WO _ _ (Oper.mk _ (Op.binOp BinOp.eql 69 _ _ _) _ _ _ none) _ _ _ _; first | (refine O_eqnil Samg.underlying69 rfl rfl ?_))
      | (guard_target =~ WO _ _ (Oper.mk _ (Op.binOp BinOp.eql 70 _ _ _) _ _ _ none) _ _ _ _; first | (refine O_eqnil Samg.underlying70 rfl rfl ?_))
      | (guard_target =~ WO _ _ (Oper.mk _ _ _ _ _ (some _)) _ _ _ _; first | (refine G_yes rfl ?_) | (refine G_no rfl ?_))
      | (guard_target =~ WO _ _ (Oper.mk _ (Op.assign _) _ _ _ none) _ _ _ _; first | (refine O_assign (v := (.int _ (Nat.cast _))) rfl ?_) | (refine O_assign (v := (.bool _)) rfl ?_) | (refine O_assign (v := (.pointer _)) rfl ?_) | (refine O_assign (v := (.slice _ _ _)) rfl ?_) | (refine O_assign (v := (.agg _)) rfl ?_) | (refine O_assign (v := (.tuple _)) rfl ?_) | (refine O_assign (v := (.int _ _)) rfl ?_))
      | (guard_target =~ WO _ _ (Oper.mk _ (Op.move _) _ _ _ none) _ _ _ _; first | (refine O_move (v := (.int _ (Nat.cast _))) rfl ?_) | (refine O_move (v := (.bool _)) rfl ?_) | (refine O_move (v := (.pointer _)) rfl ?_) | (refine O_move (v := (.slice _ _ _)) rfl ?_) | (refine O_move (v := (.agg _)) rfl ?_) | (refine O_move (v := (.tuple _)) rfl ?_) | (refine O_move (v := (.int _ _)) rfl ?_))
      | (guard_target =~ WO _ _ (Oper.mk _ (Op.pick _ _ _) _ _ _ none) _ _ _ _; first | (refine O_pick_t (v := (.bool _)) rfl rfl ?_) | (refine O_pick_f (v := (.bool _)) rfl rfl ?_))
      | (guard_target =~ WO _ _ (Oper.mk _ (Op.binOp BinOp.lss _ _ _ _) _ _ _ none) _ _ _ _; first | (refine O_lss_t (b := 2) rfl rfl (by omega) ?_) | (refine O_lss_f (b := 2) rfl rfl (by omega) ?_) | (refine O_lss (b := 2) rfl rfl ?_))
      | (guard_target =~ WO _ _ (Oper.mk _ (Op.binOp BinOp.gtr _ _ _ _) _ _ _ none) _ _ _ _; first | (refine O_gtr_t (b := 8) rfl rfl (by omega) ?_) | (refine O_gtr_f (b := 8) rfl rfl (by omega) ?_) | (refine O_gtr (b := 8) rfl rfl ?_) | (refine O_gtr_t rfl rfl (by omega) ?_) | (refine O_gtr_f rfl rfl (by omega) ?_) | (refine O_gtr rfl rfl ?_))
      | (guard_target =~ WO _ _ (Oper.mk _ (Op.binOp BinOp.sub _ _ _ _) _ _ _ none) _ _ _ _; first | (refine O_sub (a := 16) rfl rfl (by first | exact fit_i64 (by omega) | exact fit_u64 (by omega) | exact fit_u8 (by omega) | exact fit_i32 (by omega) | exact fit_u16 (by omega)) (by omega) ?_))
      | (guard_target =~ WO _ _ (Oper.mk _ (Op.binOp BinOp.neq _ _ _ _) _ _ _ none) _ _ _ _; first | (refine O_neq_t rfl rfl (by omega) ?_) | (refine O_neq_f rfl rfl (by omega) ?_) | (refine O_neq rfl rfl ?_))
      | (guard_target =~ WO _ _ (Oper.mk _ (Op.nilCheck _) _ _ _ none) _ _ _ _; first | (refine O_nil rfl ?_))
      | (guard_target =~ WO _ _ (Oper.mk _ (Op.slice 63 _ none none none) _ _ _ none) _ _ _ _; first | (refine O_slice_a ar63 rfl rfl rfl rfl (fun h => by cases h) (by omega) (by omega) (by omega) ?_))
      | (guard_target =~ WO _ _ (Oper.mk _ (Op.slice 66 _ none none none) _ _ _ none) _ _ _ _; first | (refine O_slice_a ar66 rfl rfl rfl rfl (fun h => by cases h) (by omega) (by omega) (by omega) ?_)))
    refine E_ret rfl rfl rfl ⟨?_, Ext.refl _⟩
    rw [decide_eq_false]
    · rfl
    · rintro ⟨_, _, _, _, _, _⟩
      omega
  by_cases h16 : 16 - n < j
  · repeat (first
      | (refine L_cons ?_)
      | (refine R_cons rfl ?_)
      | (refine W_seq ?_)
      | (refine W_region (by kernel_rfl) ?_)
      | (refine L_nil ?_)
      | (refine R_nil ?_)
      | (refine W_block ?_)
      | (refine W_skip ?_)
      | (refine W_exit ?_)
      | (refine W_ret ?_)
      | (guard_target =~ thenQ _ _ _ _ _; first | (refine T_next ?_) | (refine T_exit ?_) | (refine T_ret ?_))
      | (guard_target =~ blockQ _ _ _ _ _; first | (refine B_next ?_) | (refine B_same ?_) | (refine B_other (by kernel_rfl) ?_) | (refine B_ret ?_))
      | (refine W_true rfl rfl ?_)
      | (refine W_false rfl rfl ?_)
      | (guard_target =~ WO _ _ (Oper.mk _ (Op.binOp BinOp.eql 69 _ _ _) _ _ _ none) _ _ _ _; first | (refine O_eqnil Samg.underlying69 rfl rfl ?_))
      | (guard_target =~ WO _ _ (Oper.mk _ (Op.binOp BinOp.eql 70 _ _ _) _ _ _ none) _ _ _ _; first | (refine O_eqnil Samg.underlying70 rfl rfl ?_))
      | (guard_target =~ WO _ _ (Oper.mk _ _ _ _ _ (some _)) _ _ _ _; first | (refine G_yes rfl ?_) | (refine G_no rfl ?_))
      | (guard_target =~ WO _ _ (Oper.mk _ (Op.assign _) _ _ _ none) _ _ _ _; first | (refine O_assign (v := (.int _ (Nat.cast _))) rfl ?_) | (refine O_assign (v := (.bool _)) rfl ?_) | (refine O_assign (v := (.pointer _)) rfl ?_) | (refine O_assign (v := (.slice _ _ _)) rfl ?_) | (refine O_assign (v := (.agg _)) rfl ?_) | (refine O_assign (v := (.tuple _)) rfl ?_) | (refine O_assign (v := (.int _ _)) rfl ?_))
      | (guard_target =~ WO _ _ (Oper.mk _ (Op.move _) _ _ _ none) _ _ _ _; first | (refine O_move (v := (.int _ (Nat.cast _))) rfl ?_) | (refine O_move (v := (.bool _)) rfl ?_) | (refine O_move (v := (.pointer _)) rfl ?_) | (refine O_move (v := (.slice _ _ _)) rfl ?_) | (refine O_move (v := (.agg _)) rfl ?_) | (refine O_move (v := (.tuple _)) rfl ?_) | (refine O_move (v := (.int _ _)) rfl ?_))
      | (guard_target =~ WO _ _ (Oper.mk _ (Op.pick _ _ _) _ _ _ none) _ _ _ _; first | (refine O_pick_t (v := (.bool _)) rfl rfl ?_) | (refine O_pick_f (v := (.bool _)) rfl rfl ?_))
      | (guard_target =~ WO _ _ (Oper.mk _ (Op.binOp BinOp.lss _ _ _ _) _ _ _ none) _ _ _ _; first | (refine O_lss_t (b := 2) rfl rfl (by omega) ?_) | (refine O_lss_f (b := 2) rfl rfl (by omega) ?_) | (refine O_lss (b := 2) rfl rfl ?_))
      | (guard_target =~ WO _ _ (Oper.mk _ (Op.binOp BinOp.gtr _ _ _ _) _ _ _ none) _ _ _ _; first | (refine O_gtr_t (b := 8) rfl rfl (by omega) ?_) | (refine O_gtr_f (b := 8) rfl rfl (by omega) ?_) | (refine O_gtr (b := 8) rfl rfl ?_) | (refine O_gtr_t rfl rfl (by omega) ?_) | (refine O_gtr_f rfl rfl (by omega) ?_) | (refine O_gtr rfl rfl ?_))
      | (guard_target =~ WO _ _ (Oper.mk _ (Op.binOp BinOp.sub _ _ _ _) _ _ _ none) _ _ _ _; first | (refine O_sub (a := 16) rfl rfl (by first | exact fit_i64 (by omega) | exact fit_u64 (by omega) | exact fit_u8 (by omega) | exact fit_i32 (by omega) | exact fit_u16 (by omega)) (by omega) ?_))
      | (guard_target =~ WO _ _ (Oper.mk _ (Op.binOp BinOp.neq _ _ _ _) _ _ _ none) _ _ _ _; first | (refine O_neq_t rfl rfl (by omega) ?_) | (refine O_neq_f rfl rfl (by omega) ?_) | (refine O_neq rfl rfl ?_))
      | (guard_target =~ WO _ _ (Oper.mk _ (Op.nilCheck _) _ _ _ none) _ _ _ _; first | (refine O_nil rfl ?_))
      | (guard_target =~ WO _ _ (Oper.mk _ (Op.slice 63 _ none none none) _ _ _ none) _ _ _ _; first | (refine O_slice_a ar63 rfl rfl rfl rfl (fun h => by cases h) (by omega) (by omega) (by omega) ?_))
      | (guard_target =~ WO _ _ (Oper.mk _ (Op.slice 66 _ none none none) _ _ _ none) _ _ _ _; first | (refine O_slice_a ar66 rfl rfl rfl rfl (fun h => by cases h) (by omega) (by omega) (by omega) ?_)))
    refine E_ret rfl rfl rfl ⟨?_, Ext.refl _⟩
    rw [decide_eq_false]
    · rfl
    · rintro ⟨_, _, _, _, _, _⟩
      omega
  repeat (first
    | (refine L_cons ?_)
    | (refine R_cons rfl ?_)
    | (refine W_seq ?_)
    | (refine W_region (by kernel_rfl) ?_)
    | (refine L_nil ?_)
    | (refine R_nil ?_)
    | (refine W_block ?_)
    | (refine W_skip ?_)
    | (refine W_exit ?_)
    | (refine W_ret ?_)
    | (guard_target =~ thenQ _ _ _ _ _; first | (refine T_next ?_) | (refine T_exit ?_) | (refine T_ret ?_))
    | (guard_target =~ blockQ _ _ _ _ _; first | (refine B_next ?_) | (refine B_same ?_) | (refine B_other (by kernel_rfl) ?_) | (refine B_ret ?_))
    | (refine W_true rfl rfl ?_)
    | (refine W_false rfl rfl ?_)
    | (guard_target =~ WO _ _ (Oper.mk _ (Op.binOp BinOp.eql 69 _ _ _) _ _ _ none) _ _ _ _; first | (refine O_eqnil Samg.underlying69 rfl rfl ?_))
    | (guard_target =~ WO _ _ (Oper.mk _ (Op.binOp BinOp.eql 70 _ _ _) _ _ _ none) _ _ _ _; first | (refine O_eqnil Samg.underlying70 rfl rfl ?_))
    | (guard_target =~ WO _ _ (Oper.mk _ _ _ _ _ (some _)) _ _ _ _; first | (refine G_yes rfl ?_) | (refine G_no rfl ?_))
    | (guard_target =~ WO _ _ (Oper.mk _ (Op.assign _) _ _ _ none) _ _ _ _; first | (refine O_assign (v := (.int _ (Nat.cast _))) rfl ?_) | (refine O_assign (v := (.bool _)) rfl ?_) | (refine O_assign (v := (.pointer _)) rfl ?_) | (refine O_assign (v := (.slice _ _ _)) rfl ?_) | (refine O_assign (v := (.agg _)) rfl ?_) | (refine O_assign (v := (.tuple _)) rfl ?_) | (refine O_assign (v := (.int _ _)) rfl ?_))
    | (guard_target =~ WO _ _ (Oper.mk _ (Op.move _) _ _ _ none) _ _ _ _; first | (refine O_move (v := (.int _ (Nat.cast _))) rfl ?_) | (refine O_move (v := (.bool _)) rfl ?_) | (refine O_move (v := (.pointer _)) rfl ?_) | (refine O_move (v := (.slice _ _ _)) rfl ?_) | (refine O_move (v := (.agg _)) rfl ?_) | (refine O_move (v := (.tuple _)) rfl ?_) | (refine O_move (v := (.int _ _)) rfl ?_))
    | (guard_target =~ WO _ _ (Oper.mk _ (Op.pick _ _ _) _ _ _ none) _ _ _ _; first | (refine O_pick_t (v := (.bool _)) rfl rfl ?_) | (refine O_pick_f (v := (.bool _)) rfl rfl ?_))
    | (guard_target =~ WO _ _ (Oper.mk _ (Op.binOp BinOp.lss _ _ _ _) _ _ _ none) _ _ _ _; first | (refine O_lss_t (b := 2) rfl rfl (by omega) ?_) | (refine O_lss_f (b := 2) rfl rfl (by omega) ?_) | (refine O_lss (b := 2) rfl rfl ?_))
    | (guard_target =~ WO _ _ (Oper.mk _ (Op.binOp BinOp.gtr _ _ _ _) _ _ _ none) _ _ _ _; first | (refine O_gtr_t (b := 8) rfl rfl (by omega) ?_) | (refine O_gtr_f (b := 8) rfl rfl (by omega) ?_) | (refine O_gtr (b := 8) rfl rfl ?_) | (refine O_gtr_t rfl rfl (by omega) ?_) | (refine O_gtr_f rfl rfl (by omega) ?_) | (refine O_gtr rfl rfl ?_))
    | (guard_target =~ WO _ _ (Oper.mk _ (Op.binOp BinOp.sub _ _ _ _) _ _ _ none) _ _ _ _; first | (refine O_sub (a := 16) rfl rfl (by first | exact fit_i64 (by omega) | exact fit_u64 (by omega) | exact fit_u8 (by omega) | exact fit_i32 (by omega) | exact fit_u16 (by omega)) (by omega) ?_))
    | (guard_target =~ WO _ _ (Oper.mk _ (Op.binOp BinOp.neq _ _ _ _) _ _ _ none) _ _ _ _; first | (refine O_neq_t rfl rfl (by omega) ?_) | (refine O_neq_f rfl rfl (by omega) ?_) | (refine O_neq rfl rfl ?_))
    | (guard_target =~ WO _ _ (Oper.mk _ (Op.nilCheck _) _ _ _ none) _ _ _ _; first | (refine O_nil rfl ?_))
    | (guard_target =~ WO _ _ (Oper.mk _ (Op.slice 63 _ none none none) _ _ _ none) _ _ _ _; first | (refine O_slice_a ar63 rfl rfl rfl rfl (fun h => by cases h) (by omega) (by omega) (by omega) ?_))
    | (guard_target =~ WO _ _ (Oper.mk _ (Op.slice 66 _ none none none) _ _ _ none) _ _ _ _; first | (refine O_slice_a ar66 rfl rfl rfl rfl (fun h => by cases h) (by omega) (by omega) (by omega) ?_)))
  refine O_call (l := [.pointer (some ⟨bv, 0, none⟩)]) cl70 (by rfl) ((limbs_ok hv).mono ?_)
  rintro v w1 ⟨rfl, L, rfl, hL, hz, ht⟩
  refine ⟨nof, ?_⟩
  by_cases hLn : L = n
  · subst hLn
    repeat (first
      | (refine L_cons ?_)
      | (refine R_cons rfl ?_)
      | (refine W_seq ?_)
      | (refine W_region (by kernel_rfl) ?_)
      | (refine L_nil ?_)
      | (refine R_nil ?_)
      | (refine W_block ?_)
      | (refine W_skip ?_)
      | (refine W_exit ?_)
      | (refine W_ret ?_)
      | (guard_target =~ thenQ _ _ _ _ _; first | (refine T_next ?_) | (refine T_exit ?_) | (refine T_ret ?_))
      | (guard_target =~ blockQ _ _ _ _ _; first | (refine B_next ?_) | (refine B_same ?_) | (refine B_other (by kernel_rfl) ?_) | (refine B_ret ?_))
      | (refine W_true rfl rfl ?_)
      | (refine W_false rfl rfl ?_)
      | (guard_target =~ WO _ _ (Oper.mk _ _ _ _ _ (some _)) _ _ _ _; first | (refine G_yes rfl ?_) | (refine G_no rfl ?_))
      | (guard_target =~ WO _ _ (Oper.mk _ (Op.assign _) _ _ _ none) _ _ _ _; first | (refine O_assign (v := (.int _ (Nat.cast _))) rfl ?_) | (refine O_assign (v := (.bool _)) rfl ?_) | (refine O_assign (v := (.pointer _)) rfl ?_) | (refine O_assign (v := (.slice _ _ _)) rfl ?_) | (refine O_assign (v := (.agg _)) rfl ?_) | (refine O_assign (v := (.tuple _)) rfl ?_) | (refine O_assign (v := (.int _ _)) rfl ?_))
      | (guard_target =~ WO _ _ (Oper.mk _ (Op.move _) _ _ _ none) _ _ _ _; first | (refine O_move (v := (.int _ (Nat.cast _))) rfl ?_) | (refine O_move (v := (.bool _)) rfl ?_) | (refine O_move (v := (.pointer _)) rfl ?_) | (refine O_move (v := (.slice _ _ _)) rfl ?_) | (refine O_move (v := (.agg _)) rfl ?_) | (refine O_move (v := (.tuple _)) rfl ?_) | (refine O_move (v := (.int _ _)) rfl ?_))
      | (guard_target =~ WO _ _ (Oper.mk _ (Op.pick _ _ _) _ _ _ none) _ _ _ _; first | (refine O_pick_t (v := (.bool _)) rfl rfl ?_) | (refine O_pick_f (v := (.bool _)) rfl rfl ?_))
      | (guard_target =~ WO _ _ (Oper.mk _ (Op.binOp BinOp.lss _ _ _ _) _ _ _ none) _ _ _ _; first | (refine O_lss_t (b := 2) rfl rfl (by omega) ?_) | (refine O_lss_f (b := 2) rfl rfl (by omega) ?_) | (refine O_lss (b := 2) rfl rfl ?_))
      | (guard_target =~ WO _ _ (Oper.mk _ (Op.binOp BinOp.gtr _ _ _ _) _ _ _ none) _ _ _ _; first | (refine O_gtr_t (b := 8) rfl rfl (by omega) ?_) | (refine O_gtr_f (b := 8) rfl rfl (by omega) ?_) | (refine O_gtr (b := 8) rfl rfl ?_) | (refine O_gtr_t rfl rfl (by omega) ?_) | (refine O_gtr_f rfl rfl (by omega) ?_) | (refine O_gtr rfl rfl ?_))
      | (guard_target =~ WO _ _ (Oper.mk _ (Op.binOp BinOp.sub _ _ _ _) _ _ _ none) _ _ _ _; first | (refine O_sub (a := 16) rfl rfl (by first | exact fit_i64 (by omega) | exact fit_u64 (by omega) | exact fit_u8 (by omega) | exact fit_i32 (by omega) | exact fit_u16 (by omega)) (by omega) ?_))
      | (guard_target =~ WO _ _ (Oper.mk _ (Op.binOp BinOp.neq _ _ _ _) _ _ _ none) _ _ _ _; first | (refine O_neq_t rfl rfl (by omega) ?_) | (refine O_neq_f rfl rfl (by omega) ?_) | (refine O_neq rfl rfl ?_))
      | (guard_target =~ WO _ _ (Oper.mk _ (Op.nilCheck _) _ _ _ none) _ _ _ _; first | (refine O_nil rfl ?_))
      | (guard_target =~ WO _ _ (Oper.mk _ (Op.slice 63 _ none none none) _ _ _ none) _ _ _ _; first | (refine O_slice_a ar63 rfl rfl rfl rfl (fun h => by cases h) (by omega) (by omega) (by omega) ?_))
      | (guard_target =~ WO _ _ (Oper.mk _ (Op.slice 66 _ none none none) _ _ _ none) _ _ _ _; first | (refine O_slice_a ar66 rfl rfl rfl rfl (fun h => by cases h) (by omega) (by omega) (by omega) ?_)))
    refine W_drawn [] [0, 1, 2, 3, 4, 5, 6, 7, 8, 9] mixed (by kernel_rfl) (by kernel_rfl) ?_
    repeat (first
      | (refine L_cons ?_)
      | (refine R_cons rfl ?_)
      | (refine W_seq ?_)
      | (refine W_region (by kernel_rfl) ?_)
      | (refine L_nil ?_)
      | (refine R_nil ?_)
      | (refine W_block ?_)
      | (refine W_skip ?_)
      | (refine W_exit ?_)
      | (refine W_ret ?_)
      | (guard_target =~ thenQ _ _ _ _ _; first | (refine T_next ?_) | (refine T_exit ?_) | (refine T_ret ?_))
      | (guard_target =~ blockQ _ _ _ _ _; first | (refine B_next ?_) | (refine B_same ?_) | (refine B_other (by kernel_rfl) ?_) | (refine B_ret ?_))
      | (refine W_true rfl rfl ?_)
      | (refine W_false rfl rfl ?_)
      | (guard_target =~ WO _ _ (Oper.mk _ _ _ _ _ (some _)) _ _ _ _; first | (refine G_yes rfl ?_) | (refine G_no rfl ?_))
      | (guard_target =~ WO _ _ (Oper.mk _ (Op.assign _) _ _ _ none) _ _ _ _; first | (refine O_assign (v := (.int _ (Nat.cast _))) rfl ?_) | (refine O_assign (v := (.bool _)) rfl ?_) | (refine O_assign (v := (.pointer _)) rfl ?_) | (refine O_assign (v := (.slice _ _ _)) rfl ?_) | (refine O_assign (v := (.agg _)) rfl ?_) | (refine O_assign (v := (.tuple _)) rfl ?_) | (refine O_assign (v := (.int _ _)) rfl ?_))
      | (guard_target =~ WO _ _ (Oper.mk _ (Op.move _) _ _ _ none) _ _ _ _; first | (refine O_move (v := (.int _ (Nat.cast _))) rfl ?_) | (refine O_move (v := (.bool _)) rfl ?_) | (refine O_move (v := (.pointer _)) rfl ?_) | (refine O_move (v := (.slice _ _ _)) rfl ?_) | (refine O_move (v := (.agg _)) rfl ?_) | (refine O_move (v := (.tuple _)) rfl ?_) | (refine O_move (v := (.int _ _)) rfl ?_))
      | (guard_target =~ WO _ _ (Oper.mk _ (Op.pick _ _ _) _ _ _ none) _ _ _ _; first | (refine O_pick_t (v := (.bool _)) rfl rfl ?_) | (refine O_pick_f (v := (.bool _)) rfl rfl ?_))
      | (guard_target =~ WO _ _ (Oper.mk _ (Op.binOp BinOp.lss _ _ _ _) _ _ _ none) _ _ _ _; first | (refine O_lss_t (b := 2) rfl rfl (by omega) ?_) | (refine O_lss_f (b := 2) rfl rfl (by omega) ?_) | (refine O_lss (b := 2) rfl rfl ?_))
      | (guard_target =~ WO _ _ (Oper.mk _ (Op.binOp BinOp.gtr _ _ _ _) _ _ _ none) _ _ _ _; first | (refine O_gtr_t (b := 8) rfl rfl (by omega) ?_) | (refine O_gtr_f (b := 8) rfl rfl (by omega) ?_) | (refine O_gtr (b := 8) rfl rfl ?_) | (refine O_gtr_t rfl rfl (by omega) ?_) | (refine O_gtr_f rfl rfl (by omega) ?_) | (refine O_gtr rfl rfl ?_))
      | (guard_target =~ WO _ _ (Oper.mk _ (Op.binOp BinOp.sub _ _ _ _) _ _ _ none) _ _ _ _; first | (refine O_sub (a := 16) rfl rfl (by first | exact fit_i64 (by omega) | exact fit_u64 (by omega) | exact fit_u8 (by omega) | exact fit_i32 (by omega) | exact fit_u16 (by omega)) (by omega) ?_))
      | (guard_target =~ WO _ _ (Oper.mk _ (Op.binOp BinOp.neq _ _ _ _) _ _ _ none) _ _ _ _; first | (refine O_neq_t rfl rfl (by omega) ?_) | (refine O_neq_f rfl rfl (by omega) ?_) | (refine O_neq rfl rfl ?_))
      | (guard_target =~ WO _ _ (Oper.mk _ (Op.nilCheck _) _ _ _ none) _ _ _ _; first | (refine O_nil rfl ?_))
      | (guard_target =~ WO _ _ (Oper.mk _ (Op.slice 63 _ none none none) _ _ _ none) _ _ _ _; first | (refine O_slice_a ar63 rfl rfl rfl rfl (fun h => by cases h) (by omega) (by omega) (by omega) ?_))
      | (guard_target =~ WO _ _ (Oper.mk _ (Op.slice 66 _ none none none) _ _ _ none) _ _ _ _; first | (refine O_slice_a ar66 rfl rfl rfl rfl (fun h => by cases h) (by omega) (by omega) (by omega) ?_)))
    refine O_call (l := [.slice (some ⟨bu, 0, none⟩) 17 17, .slice (some ⟨bv, 0, none⟩) 8 8, .int .u8 (L : Nat), .int .u8 (j : Nat)]) cl71 (by rfl) ((midHolds_ok hu.drew hv.drew hf hg (by omega) (by omega) (by omega) hz).mono ?_)
    rintro v w2 ⟨rfl, hE⟩
    refine ⟨nof, ?_⟩
    repeat (first
      | (refine L_cons ?_)
      | (refine R_cons rfl ?_)
      | (refine W_seq ?_)
      | (refine W_region (by kernel_rfl) ?_)
      | (refine L_nil ?_)
      | (refine R_nil ?_)
      | (refine W_block ?_)
      | (refine W_skip ?_)
      | (refine W_exit ?_)
      | (refine W_ret ?_)
      | (guard_target =~ thenQ _ _ _ _ _; first | (refine T_next ?_) | (refine T_exit ?_) | (refine T_ret ?_))
      | (guard_target =~ blockQ _ _ _ _ _; first | (refine B_next ?_) | (refine B_same ?_) | (refine B_other (by kernel_rfl) ?_) | (refine B_ret ?_))
      | (refine W_true rfl rfl ?_)
      | (refine W_false rfl rfl ?_)
      | (guard_target =~ WO _ _ (Oper.mk _ _ _ _ _ (some _)) _ _ _ _; first | (refine G_yes rfl ?_) | (refine G_no rfl ?_))
      | (guard_target =~ WO _ _ (Oper.mk _ (Op.assign _) _ _ _ none) _ _ _ _; first | (refine O_assign (v := (.int _ (Nat.cast _))) rfl ?_) | (refine O_assign (v := (.bool _)) rfl ?_) | (refine O_assign (v := (.pointer _)) rfl ?_) | (refine O_assign (v := (.slice _ _ _)) rfl ?_) | (refine O_assign (v := (.agg _)) rfl ?_) | (refine O_assign (v := (.tuple _)) rfl ?_) | (refine O_assign (v := (.int _ _)) rfl ?_))
      | (guard_target =~ WO _ _ (Oper.mk _ (Op.move _) _ _ _ none) _ _ _ _; first | (refine O_move (v := (.int _ (Nat.cast _))) rfl ?_) | (refine O_move (v := (.bool _)) rfl ?_) | (refine O_move (v := (.pointer _)) rfl ?_) | (refine O_move (v := (.slice _ _ _)) rfl ?_) | (refine O_move (v := (.agg _)) rfl ?_) | (refine O_move (v := (.tuple _)) rfl ?_) | (refine O_move (v := (.int _ _)) rfl ?_))
      | (guard_target =~ WO _ _ (Oper.mk _ (Op.pick _ _ _) _ _ _ none) _ _ _ _; first | (refine O_pick_t (v := (.bool _)) rfl rfl ?_) | (refine O_pick_f (v := (.bool _)) rfl rfl ?_))
      | (guard_target =~ WO _ _ (Oper.mk _ (Op.binOp BinOp.lss _ _ _ _) _ _ _ none) _ _ _ _; first | (refine O_lss_t (b := 2) rfl rfl (by omega) ?_) | (refine O_lss_f (b := 2) rfl rfl (by omega) ?_) | (refine O_lss (b := 2) rfl rfl ?_))
      | (guard_target =~ WO _ _ (Oper.mk _ (Op.binOp BinOp.gtr _ _ _ _) _ _ _ none) _ _ _ _; first | (refine O_gtr_t (b := 8) rfl rfl (by omega) ?_) | (refine O_gtr_f (b := 8) rfl rfl (by omega) ?_) | (refine O_gtr (b := 8) rfl rfl ?_) | (refine O_gtr_t rfl rfl (by omega) ?_) | (refine O_gtr_f rfl rfl (by omega) ?_) | (refine O_gtr rfl rfl ?_))
      | (guard_target =~ WO _ _ (Oper.mk _ (Op.binOp BinOp.sub _ _ _ _) _ _ _ none) _ _ _ _; first | (refine O_sub (a := 16) rfl rfl (by first | exact fit_i64 (by omega) | exact fit_u64 (by omega) | exact fit_u8 (by omega) | exact fit_i32 (by omega) | exact fit_u16 (by omega)) (by omega) ?_))
      | (guard_target =~ WO _ _ (Oper.mk _ (Op.binOp BinOp.neq _ _ _ _) _ _ _ none) _ _ _ _; first | (refine O_neq_t rfl rfl (by omega) ?_) | (refine O_neq_f rfl rfl (by omega) ?_) | (refine O_neq rfl rfl ?_))
      | (guard_target =~ WO _ _ (Oper.mk _ (Op.nilCheck _) _ _ _ none) _ _ _ _; first | (refine O_nil rfl ?_))
      | (guard_target =~ WO _ _ (Oper.mk _ (Op.slice 63 _ none none none) _ _ _ none) _ _ _ _; first | (refine O_slice_a ar63 rfl rfl rfl rfl (fun h => by cases h) (by omega) (by omega) (by omega) ?_))
      | (guard_target =~ WO _ _ (Oper.mk _ (Op.slice 66 _ none none none) _ _ _ none) _ _ _ _; first | (refine O_slice_a ar66 rfl rfl rfl rfl (fun h => by cases h) (by omega) (by omega) (by omega) ?_)))
    exact E_ret rfl rfl rfl ⟨rfl, (Ext.drew _).trans hE⟩
  · repeat (first
      | (refine L_cons ?_)
      | (refine R_cons rfl ?_)
      | (refine W_seq ?_)
      | (refine W_region (by kernel_rfl) ?_)
      | (refine L_nil ?_)
      | (refine R_nil ?_)
      | (refine W_block ?_)
      | (refine W_skip ?_)
      | (refine W_exit ?_)
      | (refine W_ret ?_)
      | (guard_target =~ thenQ _ _ _ _ _; first | (refine T_next ?_) | (refine T_exit ?_) | (refine T_ret ?_))
      | (guard_target =~ blockQ _ _ _ _ _; first | (refine B_next ?_) | (refine B_same ?_) | (refine B_other (by kernel_rfl) ?_) | (refine B_ret ?_))
      | (refine W_true rfl rfl ?_)
      | (refine W_false rfl rfl ?_)
      | (guard_target =~ WO _ _ (Oper.mk _ _ _ _ _ (some _)) _ _ _ _; first | (refine G_yes rfl ?_) | (refine G_no rfl ?_))
      | (guard_target =~ WO _ _ (Oper.mk _ (Op.assign _) _ _ _ none) _ _ _ _; first | (refine O_assign (v := (.int _ (Nat.cast _))) rfl ?_) | (refine O_assign (v := (.bool _)) rfl ?_) | (refine O_assign (v := (.pointer _)) rfl ?_) | (refine O_assign (v := (.slice _ _ _)) rfl ?_) | (refine O_assign (v := (.agg _)) rfl ?_) | (refine O_assign (v := (.tuple _)) rfl ?_) | (refine O_assign (v := (.int _ _)) rfl ?_))
      | (guard_target =~ WO _ _ (Oper.mk _ (Op.move _) _ _ _ none) _ _ _ _; first | (refine O_move (v := (.int _ (Nat.cast _))) rfl ?_) | (refine O_move (v := (.bool _)) rfl ?_) | (refine O_move (v := (.pointer _)) rfl ?_) | (refine O_move (v := (.slice _ _ _)) rfl ?_) | (refine O_move (v := (.agg _)) rfl ?_) | (refine O_move (v := (.tuple _)) rfl ?_) | (refine O_move (v := (.int _ _)) rfl ?_))
      | (guard_target =~ WO _ _ (Oper.mk _ (Op.pick _ _ _) _ _ _ none) _ _ _ _; first | (refine O_pick_t (v := (.bool _)) rfl rfl ?_) | (refine O_pick_f (v := (.bool _)) rfl rfl ?_))
      | (guard_target =~ WO _ _ (Oper.mk _ (Op.binOp BinOp.lss _ _ _ _) _ _ _ none) _ _ _ _; first | (refine O_lss_t (b := 2) rfl rfl (by omega) ?_) | (refine O_lss_f (b := 2) rfl rfl (by omega) ?_) | (refine O_lss (b := 2) rfl rfl ?_))
      | (guard_target =~ WO _ _ (Oper.mk _ (Op.binOp BinOp.gtr _ _ _ _) _ _ _ none) _ _ _ _; first | (refine O_gtr_t (b := 8) rfl rfl (by omega) ?_) | (refine O_gtr_f (b := 8) rfl rfl (by omega) ?_) | (refine O_gtr (b := 8) rfl rfl ?_) | (refine O_gtr_t rfl rfl (by omega) ?_) | (refine O_gtr_f rfl rfl (by omega) ?_) | (refine O_gtr rfl rfl ?_))
      | (guard_target =~ WO _ _ (Oper.mk _ (Op.binOp BinOp.sub _ _ _ _) _ _ _ none) _ _ _ _; first | (refine O_sub (a := 16) rfl rfl (by first | exact fit_i64 (by omega) | exact fit_u64 (by omega) | exact fit_u8 (by omega) | exact fit_i32 (by omega) | exact fit_u16 (by omega)) (by omega) ?_))
      | (guard_target =~ WO _ _ (Oper.mk _ (Op.binOp BinOp.neq _ _ _ _) _ _ _ none) _ _ _ _; first | (refine O_neq_t rfl rfl (by omega) ?_) | (refine O_neq_f rfl rfl (by omega) ?_) | (refine O_neq rfl rfl ?_))
      | (guard_target =~ WO _ _ (Oper.mk _ (Op.nilCheck _) _ _ _ none) _ _ _ _; first | (refine O_nil rfl ?_))
      | (guard_target =~ WO _ _ (Oper.mk _ (Op.slice 63 _ none none none) _ _ _ none) _ _ _ _; first | (refine O_slice_a ar63 rfl rfl rfl rfl (fun h => by cases h) (by omega) (by omega) (by omega) ?_))
      | (guard_target =~ WO _ _ (Oper.mk _ (Op.slice 66 _ none none none) _ _ _ none) _ _ _ _; first | (refine O_slice_a ar66 rfl rfl rfl rfl (fun h => by cases h) (by omega) (by omega) (by omega) ?_)))
    refine E_ret rfl rfl rfl ⟨?_, Ext.refl _⟩
    rw [decide_eq_false]
    · rfl
    · rintro ⟨_, h1, _, h3, h4, _⟩
      exact hLn (mid_limbs hB (by omega) hg (by omega) h1 hL hz ht h3 h4)

theorem roundWide_no {w : World} {bu bv n j : Nat} {tu tv : TypeId} {f g : Nat → Nat} (hu : Blk w bu (ns .u64 17 f) tu) (hv : Blk w bv (ns .u64 8 g) tv) (hf : ∀ i, i < 17 → f i < 18446744073709551616) (hg : ∀ i, i < 8 → g i < 18446744073709551616) (hn : n < 256) (hj : j < 256) (hM : ¬ MidB 18446744073709551616 f g n j) :
    Ret Samg.prog 23 #[.pointer (some ⟨bu, 0, none⟩), .pointer (some ⟨bv, 0, none⟩), .int .u8 (n : Nat), .int .u8 (j : Nat)] w fun v w' => v = .tuple #[.int .u64 ((0 : Nat) : Int), .int .u8 ((0 : Nat) : Int), .bool false] ∧ Ext w w' := by
  refine W_enter (l := [.pointer (some ⟨bu, 0, none⟩), .pointer (some ⟨bv, 0, none⟩), .int .u8 (n : Nat), .int .u8 (j : Nat)]) Samg.func23 rfl Samg.ntmps23 rfl ?_
  repeat (first
    | (refine L_cons ?_)
    | (refine R_cons rfl ?_)
    | (refine W_seq ?_)
    | (refine W_region (by kernel_rfl) ?_)
    | (refine L_nil ?_)
    | (refine R_nil ?_)
    | (refine W_block ?_)
    | (refine W_skip ?_)
    | (refine W_exit ?_)
    | (refine W_ret ?_)
    | (guard_target =~ thenQ _ _ _ _ _; first | (refine T_next ?_) | (refine T_exit ?_) | (refine T_ret ?_))
    | (guard_target =~ blockQ _ _ _ _ _; first | (refine B_next ?_) | (refine B_same ?_) | (refine B_other (by kernel_rfl) ?_) | (refine B_ret ?_))
    | (refine W_true rfl rfl ?_)
    | (refine W_false rfl rfl ?_)
    | (guard_target =~ WO _ _ (Oper.mk _ (Op.assign _) _ _ _ none) _ _ _ _; first | (refine O_assign (v := .int _ (Nat.cast (0 : Nat))) rfl ?_) | (refine O_assign (v := (.int _ (Nat.cast _))) rfl ?_) | (refine O_assign (v := (.bool _)) rfl ?_) | (refine O_assign (v := (.pointer _)) rfl ?_) | (refine O_assign (v := (.slice _ _ _)) rfl ?_) | (refine O_assign (v := (.agg _)) rfl ?_) | (refine O_assign (v := (.tuple _)) rfl ?_) | (refine O_assign (v := (.int _ _)) rfl ?_))
    | (guard_target =~ WO _ _ (Oper.mk _ (Op.move _) _ _ _ none) _ _ _ _; first | (refine O_move (v := (.int _ (Nat.cast _))) rfl ?_) | (refine O_move (v := (.bool _)) rfl ?_) | (refine O_move (v := (.pointer _)) rfl ?_) | (refine O_move (v := (.slice _ _ _)) rfl ?_) | (refine O_move (v := (.agg _)) rfl ?_) | (refine O_move (v := (.tuple _)) rfl ?_) | (refine O_move (v := (.int _ _)) rfl ?_))
    | (guard_target =~ WO _ _ (Oper.mk _ (Op.unOp _ _ _) _ _ _ none) _ _ _ _; first | (refine O_not rfl ?_))
    | (guard_target =~ WO _ _ (Oper.mk _ (Op.nilCheck _) _ _ _ none) _ _ _ _; first | (refine O_nil rfl ?_))
    | (guard_target =~ WO _ _ (Oper.mk _ (Op.binOp BinOp.add _ _ _ _) _ _ _ none) _ _ _ _; first | (refine O_add rfl rfl (by first | exact fit_i64 (by omega) | exact fit_u64 (by omega) | exact fit_u8 (by omega) | exact fit_i32 (by omega) | exact fit_u16 (by omega)) ?_) | (refine O_add (b := 1) rfl rfl (by first | exact fit_i64 (by omega) | exact fit_u64 (by omega) | exact fit_u8 (by omega) | exact fit_i32 (by omega) | exact fit_u16 (by omega)) ?_))
    | (guard_target =~ WO _ _ (Oper.mk _ (Op.slice 63 _ (some _) (some _) (some _)) _ _ _ none) _ _ _ _; first | (refine O_slice_a ar63 rfl ⟨_, rfl⟩ ⟨_, rfl⟩ ⟨_, rfl⟩ (fun _ => rfl) (by omega) (by omega) (by omega) ?_))
    | (guard_target =~ WO _ _ (Oper.mk _ (Op.slice 66 _ none (some _) (some _)) _ _ _ none) _ _ _ _; first | (refine O_slice_a ar66 rfl rfl ⟨_, rfl⟩ ⟨_, rfl⟩ (fun _ => rfl) (by omega) (by omega) (by omega) ?_))
    | (guard_target =~ WO _ _ (Oper.mk _ (Op.extract _ _) _ _ _ none) _ _ _ _; first | (refine O_extract rfl rfl ?_)))
  refine O_call (l := [.pointer (some ⟨bu, 0, none⟩), .pointer (some ⟨bv, 0, none⟩), .int .u8 (n : Nat), .int .u8 (j : Nat)]) cl21 (by rfl) ((wideMid_ok hu hv hf hg hn hj).mono ?_)
  rintro v w1 ⟨rfl, hE⟩
  refine ⟨nof, ?_⟩
  rw [decide_eq_false hM]
  repeat (first
    | (refine L_cons ?_)
    | (refine R_cons rfl ?_)
    | (refine W_seq ?_)
    | (refine W_region (by kernel_rfl) ?_)
    | (refine L_nil ?_)
    | (refine R_nil ?_)
    | (refine W_block ?_)
    | (refine W_skip ?_)
    | (refine W_exit ?_)
    | (refine W_ret ?_)
    | (guard_target =~ thenQ _ _ _ _ _; first | (refine T_next ?_) | (refine T_exit ?_) | (refine T_ret ?_))
    | (guard_target =~ blockQ _ _ _ _ _; first | (refine B_next ?_) | (refine B_same ?_) | (refine B_other (by kernel_rfl) ?_) | (refine B_ret ?_))
    | (refine W_true rfl rfl ?_)
    | (refine W_false rfl rfl ?_)
    | (guard_target =~ WO _ _ (Oper.mk _ (Op.assign _) _ _ _ none) _ _ _ _; first | (refine O_assign (v := .int _ (Nat.cast (0 : Nat))) rfl ?_) | (refine O_assign (v := (.int _ (Nat.cast _))) rfl ?_) | (refine O_assign (v := (.bool _)) rfl ?_) | (refine O_assign (v := (.pointer _)) rfl ?_) | (refine O_assign (v := (.slice _ _ _)) rfl ?_) | (refine O_assign (v := (.agg _)) rfl ?_) | (refine O_assign (v := (.tuple _)) rfl ?_) | (refine O_assign (v := (.int _ _)) rfl ?_))
    | (guard_target =~ WO _ _ (Oper.mk _ (Op.move _) _ _ _ none) _ _ _ _; first | (refine O_move (v := (.int _ (Nat.cast _))) rfl ?_) | (refine O_move (v := (.bool _)) rfl ?_) | (refine O_move (v := (.pointer _)) rfl ?_) | (refine O_move (v := (.slice _ _ _)) rfl ?_) | (refine O_move (v := (.agg _)) rfl ?_) | (refine O_move (v := (.tuple _)) rfl ?_) | (refine O_move (v := (.int _ _)) rfl ?_))
    | (guard_target =~ WO _ _ (Oper.mk _ (Op.unOp _ _ _) _ _ _ none) _ _ _ _; first | (refine O_not rfl ?_))
    | (guard_target =~ WO _ _ (Oper.mk _ (Op.nilCheck _) _ _ _ none) _ _ _ _; first | (refine O_nil rfl ?_))
    | (guard_target =~ WO _ _ (Oper.mk _ (Op.binOp BinOp.add _ _ _ _) _ _ _ none) _ _ _ _; first | (refine O_add rfl rfl (by first | exact fit_i64 (by omega) | exact fit_u64 (by omega) | exact fit_u8 (by omega) | exact fit_i32 (by omega) | exact fit_u16 (by omega)) ?_) | (refine O_add (b := 1) rfl rfl (by first | exact fit_i64 (by omega) | exact fit_u64 (by omega) | exact fit_u8 (by omega) | exact fit_i32 (by omega) | exact fit_u16 (by omega)) ?_))
    | (guard_target =~ WO _ _ (Oper.mk _ (Op.slice 63 _ (some _) (some _) (some _)) _ _ _ none) _ _ _ _; first | (refine O_slice_a ar63 rfl ⟨_, rfl⟩ ⟨_, rfl⟩ ⟨_, rfl⟩ (fun _ => rfl) (by omega) (by omega) (by omega) ?_))
    | (guard_target =~ WO _ _ (Oper.mk _ (Op.slice 66 _ none (some _) (some _)) _ _ _ none) _ _ _ _; first | (refine O_slice_a ar66 rfl rfl ⟨_, rfl⟩ ⟨_, rfl⟩ (fun _ => rfl) (by omega) (by omega) (by omega) ?_))
    | (guard_target =~ WO _ _ (Oper.mk _ (Op.extract _ _) _ _ _ none) _ _ _ _; first | (refine O_extract rfl rfl ?_)))
  exact E_ret3 rfl rfl rfl rfl rfl rfl rfl ⟨rfl, hE⟩

theorem mid_uv {f g : Nat → Nat} {n j : Nat} (hf : ∀ i, i < 17 → f i < 18446744073709551616) (hg : ∀ i, i < 8 → g i < 18446744073709551616) (hM : MidB 18446744073709551616 f g n j) : (∀ i, n ≤ i → i < 8 → g i = 0) ∧ val 18446744073709551616 g 8 = val 18446744073709551616 g n ∧ 9223372036854775808 ≤ g (n - 1) ∧ val 18446744073709551616 (fun i => f (j + i)) (n + 1) < val 18446744073709551616 g n * 18446744073709551616 := by
  obtain ⟨h2, h8, hjn, h4, h5, h6⟩ := hM
  have hB : 18446744073709551616 = 2 * 9223372036854775808 := by omega
  have hz : ∀ i, n ≤ i → i < 8 → g i = 0 := fun i h1 h3 => val_above (by omega) h4 h1 h3
  have hV : val 18446744073709551616 g 8 = val 18446744073709551616 g n := val_top h8 hz
  refine ⟨hz, hV, (mid_bit hB (by omega) hg (by omega) h8 hz).1 h5, ?_⟩
  have h7 : val 18446744073709551616 (fun i => f (j + 1 + i)) n ≤ val 18446744073709551616 (fun i => f (j + 1 + i)) (16 - j) := val_mono (by omega)
  have h9 : val 18446744073709551616 (fun i => f (j + i)) (1 + n) = val 18446744073709551616 (fun i => f (j + i)) 1 + val 18446744073709551616 (fun i => f (j + (1 + i))) n * 18446744073709551616 ^ 1 := val_add 1 n
  rw [val_congr (f := fun i => f (j + (1 + i))) (g := fun i => f (j + 1 + i)) fun i hi => by rw [Nat.add_assoc], Nat.pow_one, val_succ, val_zero, Nat.pow_zero, Nat.mul_one, Nat.add_comm 1 n] at h9
  have h10 := hf (j + 0) (by omega)
  rw [h9]
  omega

theorem roundWide_ok {w : World} {bu bv n j : Nat} {tu tv : TypeId} {f g : Nat → Nat} (hu : Blk w bu (ns .u64 17 f) tu) (hv : Blk w bv (ns .u64 8 g) tv) (hne : bv ≠ bu) (hf : ∀ i, i < 17 → f i < 18446744073709551616) (hg : ∀ i, i < 8 → g i < 18446744073709551616) (hM : MidB 18446744073709551616 f g n j) :
    Ret Samg.prog 23 #[.pointer (some ⟨bu, 0, none⟩), .pointer (some ⟨bv, 0, none⟩), .int .u8 (n : Nat), .int .u8 (j : Nat)] w fun v w' => ∃ f', Mod [bu] w w' ∧ Blk w' bu (ns .u64 17 f') tu ∧ (∀ i, ¬ (j ≤ i ∧ i < j + (n + 1)) → f' i = f i) ∧ (∀ i, i < 17 → f' i < 18446744073709551616) ∧
      val 18446744073709551616 (fun i => f' (j + i)) (n + 1) = val 18446744073709551616 (fun i => f (j + i)) (n + 1) % val 18446744073709551616 g n ∧
      v = .tuple #[.int .u64 ((val 18446744073709551616 (fun i => f (j + i)) (n + 1) / val 18446744073709551616 g n : Nat) : Int), .int .u8 (((trialOf (fun i => f (j + i)) g n).2 : Nat) : Int), .bool (decide ((trialOf (fun i => f (j + i)) g n).1 ≠ val 18446744073709551616 (fun i => f (j + i)) (n + 1) / val 18446744073709551616 g n))] := by
  obtain ⟨hz, hV, ht, hUV⟩ := mid_uv hf hg hM
  obtain ⟨h2, h8, hjn, h4, h5, h6⟩ := id hM
  refine W_enter (l := [.pointer (some ⟨bu, 0, none⟩), .pointer (some ⟨bv, 0, none⟩), .int .u8 (n : Nat), .int .u8 (j : Nat)]) Samg.func23 rfl Samg.ntmps23 rfl ?_
  repeat (first
    | (refine L_cons ?_)
    | (refine R_cons rfl ?_)
    | (refine W_seq ?_)
    | (refine W_region (by kernel_rfl) ?_)
    | (refine L_nil ?_)
    | (refine R_nil ?_)
    | (refine W_block ?_)
    | (refine W_skip ?_)
    | (refine W_exit ?_)
    | (refine W_ret ?_)
    | (guard_target =~ thenQ _ _ _ _ _; first | (refine T_next ?_) | (refine T_exit ?_) | (refine T_ret ?_))
    | (guard_target =~ blockQ _ _ _ _ _; first | (refine B_next ?_) | (refine B_same ?_) | (refine B_other (by kernel_rfl) ?_) | (refine B_ret ?_))
    | (refine W_true rfl rfl ?_)
    | (refine W_false rfl rfl ?_)
    | (guard_target =~ WO _ _ (Oper.mk _ (Op.assign _) _ _ _ none) _ _ _ _; first | (refine O_assign (v := .int _ (Nat.cast (0 : Nat))) rfl ?_) | (refine O_assign (v := (.int _ (Nat.cast _))) rfl ?_) | (refine O_assign (v := (.bool _)) rfl ?_) | (refine O_assign (v := (.pointer _)) rfl ?_) | (refine O_assign (v := (.slice _ _ _)) rfl ?_) | (refine O_assign (v := (.agg _)) rfl ?_) | (refine O_assign (v := (.tuple _)) rfl ?_) | (refine O_assign (v := (.int _ _)) rfl ?_))
    | (guard_target =~ WO _ _ (Oper.mk _ (Op.move _) _ _ _ none) _ _ _ _; first | (refine O_move (v := (.int _ (Nat.cast _))) rfl ?_) | (refine O_move (v := (.bool _)) rfl ?_) | (refine O_move (v := (.pointer _)) rfl ?_) | (refine O_move (v := (.slice _ _ _)) rfl ?_) | (refine O_move (v := (.agg _)) rfl ?_) | (refine O_move (v := (.tuple _)) rfl ?_) | (refine O_move (v := (.int _ _)) rfl ?_))
    | (guard_target =~ WO _ _ (Oper.mk _ (Op.unOp _ _ _) _ _ _ none) _ _ _ _; first | (refine O_not rfl ?_))
    | (guard_target =~ WO _ _ (Oper.mk _ (Op.nilCheck _) _ _ _ none) _ _ _ _; first | (refine O_nil rfl ?_))
    | (guard_target =~ WO _ _ (Oper.mk _ (Op.binOp BinOp.add _ _ _ _) _ _ _ none) _ _ _ _; first | (refine O_add rfl rfl (by first | exact fit_i64 (by omega) | exact fit_u64 (by omega) | exact fit_u8 (by omega) | exact fit_i32 (by omega) | exact fit_u16 (by omega)) ?_) | (refine O_add (b := 1) rfl rfl (by first | exact fit_i64 (by omega) | exact fit_u64 (by omega) | exact fit_u8 (by omega) | exact fit_i32 (by omega) | exact fit_u16 (by omega)) ?_))
    | (guard_target =~ WO _ _ (Oper.mk _ (Op.slice 63 _ (some _) (some _) (some _)) _ _ _ none) _ _ _ _; first | (refine O_slice_a ar63 rfl ⟨_, rfl⟩ ⟨_, rfl⟩ ⟨_, rfl⟩ (fun _ => rfl) (by omega) (by omega) (by omega) ?_))
    | (guard_target =~ WO _ _ (Oper.mk _ (Op.slice 66 _ none (some _) (some _)) _ _ _ none) _ _ _ _; first | (refine O_slice_a ar66 rfl rfl ⟨_, rfl⟩ ⟨_, rfl⟩ (fun _ => rfl) (by omega) (by omega) (by omega) ?_))
    | (guard_target =~ WO _ _ (Oper.mk _ (Op.extract _ _) _ _ _ none) _ _ _ _; first | (refine O_extract rfl rfl ?_)))
  refine O_call (l := [.pointer (some ⟨bu, 0, none⟩), .pointer (some ⟨bv, 0, none⟩), .int .u8 (n : Nat), .int .u8 (j : Nat)]) cl21 (by rfl) ((wideMid_ok hu hv hf hg (by omega) (by omega)).mono ?_)
  rintro v w1 ⟨rfl, hE⟩
  refine ⟨nof, ?_⟩
  rw [decide_eq_true hM]
  repeat (first
    | (refine L_cons ?_)
    | (refine R_cons rfl ?_)
    | (refine W_seq ?_)
    | (refine W_region (by kernel_rfl) ?_)
    | (refine L_nil ?_)
    | (refine R_nil ?_)
    | (refine W_block ?_)
    | (refine W_skip ?_)
    | (refine W_exit ?_)
    | (refine W_ret ?_)
    | (guard_target =~ thenQ _ _ _ _ _; first | (refine T_next ?_) | (refine T_exit ?_) | (refine T_ret ?_))
    | (guard_target =~ blockQ _ _ _ _ _; first | (refine B_next ?_) | (refine B_same ?_) | (refine B_other (by kernel_rfl) ?_) | (refine B_ret ?_))
    | (refine W_true rfl rfl ?_)
    | (refine W_false rfl rfl ?_)
    | (guard_target =~ WO _ _ (Oper.mk _ (Op.assign _) _ _ _ none) _ _ _ _; first | (refine O_assign (v := .int _ (Nat.cast (0 : Nat))) rfl ?_) | (refine O_assign (v := (.int _ (Nat.cast _))) rfl ?_) | (refine O_assign (v := (.bool _)) rfl ?_) | (refine O_assign (v := (.pointer _)) rfl ?_) | (refine O_assign (v := (.slice _ _ _)) rfl ?_) | (refine O_assign (v := (.agg _)) rfl ?_) | (refine O_assign (v := (.tuple _)) rfl ?_) | (refine O_assign (v := (.int _ _)) rfl ?_))
    | (guard_target =~ WO _ _ (Oper.mk _ (Op.move _) _ _ _ none) _ _ _ _; first | (refine O_move (v := (.int _ (Nat.cast _))) rfl ?_) | (refine O_move (v := (.bool _)) rfl ?_) | (refine O_move (v := (.pointer _)) rfl ?_) | (refine O_move (v := (.slice _ _ _)) rfl ?_) | (refine O_move (v := (.agg _)) rfl ?_) | (refine O_move (v := (.tuple _)) rfl ?_) | (refine O_move (v := (.int _ _)) rfl ?_))
    | (guard_target =~ WO _ _ (Oper.mk _ (Op.unOp _ _ _) _ _ _ none) _ _ _ _; first | (refine O_not rfl ?_))
    | (guard_target =~ WO _ _ (Oper.mk _ (Op.nilCheck _) _ _ _ none) _ _ _ _; first | (refine O_nil rfl ?_))
    | (guard_target =~ WO _ _ (Oper.mk _ (Op.binOp BinOp.add _ _ _ _) _ _ _ none) _ _ _ _; first | (refine O_add rfl rfl (by first | exact fit_i64 (by omega) | exact fit_u64 (by omega) | exact fit_u8 (by omega) | exact fit_i32 (by omega) | exact fit_u16 (by omega)) ?_) | (refine O_add (b := 1) rfl rfl (by first | exact fit_i64 (by omega) | exact fit_u64 (by omega) | exact fit_u8 (by omega) | exact fit_i32 (by omega) | exact fit_u16 (by omega)) ?_))
    | (guard_target =~ WO _ _ (Oper.mk _ (Op.slice 63 _ (some _) (some _) (some _)) _ _ _ none) _ _ _ _; first | (refine O_slice_a ar63 rfl ⟨_, rfl⟩ ⟨_, rfl⟩ ⟨_, rfl⟩ (fun _ => rfl) (by omega) (by omega) (by omega) ?_))
    | (guard_target =~ WO _ _ (Oper.mk _ (Op.slice 66 _ none (some _) (some _)) _ _ _ none) _ _ _ _; first | (refine O_slice_a ar66 rfl rfl ⟨_, rfl⟩ ⟨_, rfl⟩ (fun _ => rfl) (by omega) (by omega) (by omega) ?_))
    | (guard_target =~ WO _ _ (Oper.mk _ (Op.extract _ _) _ _ _ none) _ _ _ _; first | (refine O_extract rfl rfl ?_)))
  refine W_drawn [] [0, 1, 2, 3, 4, 5, 6, 7, 8, 9, 10, 11, 12, 13, 14, 15, 16, 17, 18, 19, 20, 21, 22, 23] mixed (by kernel_rfl) (by kernel_rfl) ?_
  repeat (first
    | (refine L_cons ?_)
    | (refine R_cons rfl ?_)
    | (refine W_seq ?_)
    | (refine W_region (by kernel_rfl) ?_)
    | (refine L_nil ?_)
    | (refine R_nil ?_)
    | (refine W_block ?_)
    | (refine W_skip ?_)
    | (refine W_exit ?_)
    | (refine W_ret ?_)
    | (guard_target =~ thenQ _ _ _ _ _; first | (refine T_next ?_) | (refine T_exit ?_) | (refine T_ret ?_))
    | (guard_target =~ blockQ _ _ _ _ _; first | (refine B_next ?_) | (refine B_same ?_) | (refine B_other (by kernel_rfl) ?_) | (refine B_ret ?_))
    | (refine W_true rfl rfl ?_)
    | (refine W_false rfl rfl ?_)
    | (guard_target =~ WO _ _ (Oper.mk _ (Op.assign _) _ _ _ none) _ _ _ _; first | (refine O_assign (v := .int _ (Nat.cast (0 : Nat))) rfl ?_) | (refine O_assign (v := (.int _ (Nat.cast _))) rfl ?_) | (refine O_assign (v := (.bool _)) rfl ?_) | (refine O_assign (v := (.pointer _)) rfl ?_) | (refine O_assign (v := (.slice _ _ _)) rfl ?_) | (refine O_assign (v := (.agg _)) rfl ?_) | (refine O_assign (v := (.tuple _)) rfl ?_) | (refine O_assign (v := (.int _ _)) rfl ?_))
    | (guard_target =~ WO _ _ (Oper.mk _ (Op.move _) _ _ _ none) _ _ _ _; first | (refine O_move (v := (.int _ (Nat.cast _))) rfl ?_) | (refine O_move (v := (.bool _)) rfl ?_) | (refine O_move (v := (.pointer _)) rfl ?_) | (refine O_move (v := (.slice _ _ _)) rfl ?_) | (refine O_move (v := (.agg _)) rfl ?_) | (refine O_move (v := (.tuple _)) rfl ?_) | (refine O_move (v := (.int _ _)) rfl ?_))
    | (guard_target =~ WO _ _ (Oper.mk _ (Op.unOp _ _ _) _ _ _ none) _ _ _ _; first | (refine O_not rfl ?_))
    | (guard_target =~ WO _ _ (Oper.mk _ (Op.nilCheck _) _ _ _ none) _ _ _ _; first | (refine O_nil rfl ?_))
    | (guard_target =~ WO _ _ (Oper.mk _ (Op.binOp BinOp.add _ _ _ _) _ _ _ none) _ _ _ _; first | (refine O_add rfl rfl (by first | exact fit_i64 (by omega) | exact fit_u64 (by omega) | exact fit_u8 (by omega) | exact fit_i32 (by omega) | exact fit_u16 (by omega)) ?_) | (refine O_add (b := 1) rfl rfl (by first | exact fit_i64 (by omega) | exact fit_u64 (by omega) | exact fit_u8 (by omega) | exact fit_i32 (by omega) | exact fit_u16 (by omega)) ?_))
    | (guard_target =~ WO _ _ (Oper.mk _ (Op.slice 63 _ (some _) (some _) (some _)) _ _ _ none) _ _ _ _; first | (refine O_slice_a ar63 rfl ⟨_, rfl⟩ ⟨_, rfl⟩ ⟨_, rfl⟩ (fun _ => rfl) (by omega) (by omega) (by omega) ?_))
    | (guard_target =~ WO _ _ (Oper.mk _ (Op.slice 66 _ none (some _) (some _)) _ _ _ none) _ _ _ _; first | (refine O_slice_a ar66 rfl rfl ⟨_, rfl⟩ ⟨_, rfl⟩ (fun _ => rfl) (by omega) (by omega) (by omega) ?_))
    | (guard_target =~ WO _ _ (Oper.mk _ (Op.extract _ _) _ _ _ none) _ _ _ _; first | (refine O_extract rfl rfl ?_)))
  refine O_call (l := [.slice (some ⟨bu, 0 + if j + n + 1 = j then 0 else j * 1, none⟩) (j + n + 1 - j) (j + n + 1 - j), .slice (some ⟨bv, 0 + if n = 0 then 0 else 0 * 1, none⟩) (n - 0) (n - 0)]) cl75 (by rfl) ?_
  rw [if_neg (show ¬ j + n + 1 = j by omega), if_neg (show ¬ n = 0 by omega), show j + n + 1 - j = n + 1 by omega, show 0 + j * 1 = j by omega]
  have ge : (fun i => g (0 + 0 * 1 + i)) = g := funext fun i => by rw [show 0 + 0 * 1 + i = i by omega]
  refine (round_ok (hu.ext hE).drew (hv.ext hE).drew hne (by omega) (by omega) (by omega) hf hg h2 (by rw [show 0 + 0 * 1 + (n - 1) = n - 1 by omega]; exact ht) (by rw [ge]; exact hUV)).mono ?_
  rw [ge]
  rintro v w2 ⟨f', m1, m2, m3, m4, m5, rfl⟩
  refine ⟨nof, ?_⟩
  replace hE := hE.trans (Ext.drew _)
  repeat (first
    | (refine L_cons ?_)
    | (refine R_cons rfl ?_)
    | (refine W_seq ?_)
    | (refine W_region (by kernel_rfl) ?_)
    | (refine L_nil ?_)
    | (refine R_nil ?_)
    | (refine W_block ?_)
    | (refine W_skip ?_)
    | (refine W_exit ?_)
    | (refine W_ret ?_)
    | (guard_target =~ thenQ _ _ _ _ _; first | (refine T_next ?_) | (refine T_exit ?_) | (refine T_ret ?_))
    | (guard_target =~ blockQ _ _ _ _ _; first | (refine B_next ?_) | (refine B_same ?_) | (refine B_other (by kernel_rfl) ?_) | (refine B_ret ?_))
    | (refine W_true rfl rfl ?_)
    | (refine W_false rfl rfl ?_)
    | (guard_target =~ WO _ _ (Oper.mk _ (Op.assign _) _ _ _ none) _ _ _ _; first | (refine O_assign (v := .int _ (Nat.cast (0 : Nat))) rfl ?_) | (refine O_assign (v := (.int _ (Nat.cast _))) rfl ?_) | (refine O_assign (v := (.bool _)) rfl ?_) | (refine O_assign (v := (.pointer _)) rfl ?_) | (refine O_assign (v := (.slice _ _ _)) rfl ?_) | (refine O_assign (v := (.agg _)) rfl ?_) | (refine O_assign (v := (.tuple _)) rfl ?_) | (refine O_assign (v := (.int _ _)) rfl ?_))
    | (guard_target =~ WO _ _ (Oper.mk _ (Op.move _) _ _ _ none) _ _ _ _; first | (refine O_move (v := (.int _ (Nat.cast _))) rfl ?_) | (refine O_move (v := (.bool _)) rfl ?_) | (refine O_move (v := (.pointer _)) rfl ?_) | (refine O_move (v := (.slice _ _ _)) rfl ?_) | (refine O_move (v := (.agg _)) rfl ?_) | (refine O_move (v := (.tuple _)) rfl ?_) | (refine O_move (v := (.int _ _)) rfl ?_))
    | (guard_target =~ WO _ _ (Oper.mk _ (Op.unOp _ _ _) _ _ _ none) _ _ _ _; first | (refine O_not rfl ?_))
    | (guard_target =~ WO _ _ (Oper.mk _ (Op.nilCheck _) _ _ _ none) _ _ _ _; first | (refine O_nil rfl ?_))
    | (guard_target =~ WO _ _ (Oper.mk _ (Op.binOp BinOp.add _ _ _ _) _ _ _ none) _ _ _ _; first | (refine O_add rfl rfl (by first | exact fit_i64 (by omega) | exact fit_u64 (by omega) | exact fit_u8 (by omega) | exact fit_i32 (by omega) | exact fit_u16 (by omega)) ?_) | (refine O_add (b := 1) rfl rfl (by first | exact fit_i64 (by omega) | exact fit_u64 (by omega) | exact fit_u8 (by omega) | exact fit_i32 (by omega) | exact fit_u16 (by omega)) ?_))
    | (guard_target =~ WO _ _ (Oper.mk _ (Op.slice 63 _ (some _) (some _) (some _)) _ _ _ none) _ _ _ _; first | (refine O_slice_a ar63 rfl ⟨_, rfl⟩ ⟨_, rfl⟩ ⟨_, rfl⟩ (fun _ => rfl) (by omega) (by omega) (by omega) ?_))
    | (guard_target =~ WO _ _ (Oper.mk _ (Op.slice 66 _ none (some _) (some _)) _ _ _ none) _ _ _ _; first | (refine O_slice_a ar66 rfl rfl ⟨_, rfl⟩ ⟨_, rfl⟩ (fun _ => rfl) (by omega) (by omega) (by omega) ?_))
    | (guard_target =~ WO _ _ (Oper.mk _ (Op.extract _ _) _ _ _ none) _ _ _ _; first | (refine O_extract rfl rfl ?_)))
  exact E_ret3 rfl rfl rfl rfl rfl rfl rfl ⟨f', (hE.mod _).trans m1, m2, m3, m4, m5, rfl⟩
end Go.Proofs.Ygcsam
