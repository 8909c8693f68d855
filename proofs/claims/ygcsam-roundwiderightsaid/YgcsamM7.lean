/-
  NUMBERS AS LISTS OF BYTES: DivMod. Own work.
-/
import Derived.Test.YgcsamM6
import Derived.Test.YgcsamV4
namespace Go.Proofs.Ygcsam
set_option linter.unusedVariables false
set_option maxHeartbeats 2000000

theorem pow_bytes (k : Nat) : 2 ^ (8 * k) = 256 ^ k := by rw [Nat.pow_mul]

theorem divMod_ok {w : World} {va vb : Value} {x y L L2 : Nat} (ha : NatV w va x L) (hb : NatV w vb y L2) (hL : L ≤ 4294967296) (hL2 : L2 ≤ 4294967296) (hy : 0 < y) :
    Ret Samg.prog 127 #[va, vb] w fun v w' => Ext w w' ∧ ∃ v1 v2, v = .tuple #[v1, v2, .bool true] ∧ NatV w' v1 (x / y) L ∧ NatV w' v2 (x % y) (L2 + 1) := by
  obtain ⟨a, len, cap, g, rfl, hD, hx, hlen⟩ := ha
  obtain ⟨a2, len2, cap2, g2, rfl, hD2, hx2, hlen2⟩ := hb
  refine W_enter (l := [.slice a len cap, .slice a2 len2 cap2]) Samg.func127 rfl Samg.ntmps127 rfl ?_
  repeat (first
    | (refine L_cons ?_)
    | (refine R_cons rfl ?_)
    | (refine W_seq ?_)
    | (refine W_region (by kernel_rfl) ?_)
    | (refine L_nil ?_)
    | (refine R_nil ?_)
    | (refine W_block ?_)
    | (refine W_skip ?_)
    | (refine W_exit ?_)
    | (refine W_ret ?_)
    | (guard_target =~ thenQ _ _ _ _ _; first | (refine T_next ?_) | (refine T_exit ?_) | (refine T_ret ?_))
    | (guard_target =~ blockQ _ _ _ _ _; first | (refine B_next ?_) | (refine B_same ?_) | (refine B_other (by kernel_rfl) ?_) | (refine B_ret ?_))
    | (refine W_true rfl rfl ?_)
    | (refine W_false rfl rfl ?_)
    | (guard_target =~ WO _ _ (Oper.mk _ (Op.assign _) _ _ _ none) _ _ _ _; first | (refine O_assign (v := .slice _ _ _) rfl ?_) | (refine O_assign (v := (.int _ (Nat.cast _))) rfl ?_) | (refine O_assign (v := (.bool _)) rfl ?_) | (refine O_assign (v := (.pointer _)) rfl ?_) | (refine O_assign (v := (.slice _ _ _)) rfl ?_) | (refine O_assign (v := (.agg _)) rfl ?_) | (refine O_assign (v := (.tuple _)) rfl ?_) | (refine O_assign (v := (.int _ _)) rfl ?_))
    | (guard_target =~ WO _ _ (Oper.mk _ (Op.move _) _ _ _ none) _ _ _ _; first | (refine O_move (v := .int _ (Nat.cast (0 : Nat))) rfl ?_) | (refine O_move (v := (.int _ (Nat.cast _))) rfl ?_) | (refine O_move (v := (.bool _)) rfl ?_) | (refine O_move (v := (.pointer _)) rfl ?_) | (refine O_move (v := (.slice _ _ _)) rfl ?_) | (refine O_move (v := (.agg _)) rfl ?_) | (refine O_move (v := (.tuple _)) rfl ?_) | (refine O_move (v := (.int _ _)) rfl ?_))
    | (guard_target =~ WO _ _ (Oper.mk _ (Op.call _) _ _ _ none) _ _ _ _; first | (refine O_len Samg.underlying134 rfl rfl ?_))
    | (guard_target =~ WO _ _ (Oper.mk _ (Op.binOp BinOp.eql _ _ _ _) _ _ _ none) _ _ _ _; first | (refine O_eql_t (b := 0) rfl rfl (by omega) ?_) | (refine O_eql_f (b := 0) rfl rfl (by omega) ?_) | (refine O_eql (b := 0) rfl rfl ?_))
    | (guard_target =~ WO _ _ (Oper.mk _ (Op.binOp BinOp.add _ _ _ _) _ _ _ none) _ _ _ _; first | (refine O_add (b := 1) rfl rfl (by first | exact fit_i64 (by omega) | exact fit_u64 (by omega) | exact fit_u8 (by omega) | exact fit_i32 (by omega) | exact fit_u16 (by omega) | exact fit_u32 (by omega)) ?_))
    | (guard_target =~ WO _ _ (Oper.mk _ (Op.binOp BinOp.mul _ _ _ _) _ _ _ none) _ _ _ _; first | (refine O_mul (a := 8) rfl rfl (by first | exact fit_i64 (by omega) | exact fit_u64 (by omega) | exact fit_u8 (by omega) | exact fit_i32 (by omega) | exact fit_u16 (by omega) | exact fit_u32 (by omega)) ?_))
    | (guard_target =~ WO _ _ (Oper.mk _ (Op.binOp BinOp.gtr _ _ _ _) _ _ _ none) _ _ _ _; first | (refine O_gtr_t (b := 0) rfl rfl (by omega) ?_) | (refine O_gtr_f (b := 0) rfl rfl (by omega) ?_) | (refine O_gtr (b := 0) rfl rfl ?_))
    | (guard_target =~ WO _ _ (Oper.mk _ (Op.binOp BinOp.sub _ _ _ _) _ _ _ none) _ _ _ _; first | (refine O_sub (b := 1) rfl rfl (by first | exact fit_i64 (by omega) | exact fit_u64 (by omega) | exact fit_u8 (by omega) | exact fit_i32 (by omega) | exact fit_u16 (by omega) | exact fit_u32 (by omega)) (by omega) ?_))
    | (guard_target =~ WO _ _ (Oper.mk _ (Op.binOp BinOp.quo _ _ _ _) _ _ _ none) _ _ _ _; first | (refine O_quo (b := 8) rfl rfl (by first | exact fit_i64 (by omega) | exact fit_u64 (by omega) | exact fit_u8 (by omega) | exact fit_i32 (by omega) | exact fit_u16 (by omega) | exact fit_u32 (by omega)) (by omega) ?_))
    | (guard_target =~ WO _ _ (Oper.mk _ (Op.binOp BinOp.rem _ _ _ _) _ _ _ none) _ _ _ _; first | (refine O_rem (b := 8) rfl rfl (by omega) ?_))
    | (guard_target =~ WO _ _ (Oper.mk _ (Op.convert 3 130 _) _ _ _ none) _ _ _ _; first | (refine O_conv Samg.underlying3 Samg.underlying130 rfl (by first | exact fit_i64 (by omega) | exact fit_u64 (by omega) | exact fit_u8 (by omega) | exact fit_i32 (by omega) | exact fit_u16 (by omega) | exact fit_u32 (by omega)) ?_))
    | (guard_target =~ WO _ _ (Oper.mk _ (Op.indexAddr 134 _ _) _ _ _ none) _ _ _ _; first | (refine O_index_s1 sl134 rfl rfl (by omega) ?_))
    | (guard_target =~ WO _ _ (Oper.mk _ (Op.binOp BinOp.shr _ _ _ _) _ _ _ none) _ _ _ _; first | (refine O_shr rfl rfl (by simp only [IntKind.bits]; omega) ?_) | (refine O_shr (b := 7) rfl rfl (by simp only [IntKind.bits]; omega) ?_))
    | (guard_target =~ WO _ _ (Oper.mk _ (Op.binOp BinOp.and _ _ _ _) _ _ _ none) _ _ _ _; first | (refine O_and (b := 1) rfl rfl rfl (by first | exact fit_i64 (by omega) | exact fit_u64 (by omega) | exact fit_u8 (by omega) | exact fit_i32 (by omega) | exact fit_u16 (by omega) | exact fit_u32 (by omega)) (by first | exact fit_i64 (by omega) | exact fit_u64 (by omega) | exact fit_u8 (by omega) | exact fit_i32 (by omega) | exact fit_u16 (by omega) | exact fit_u32 (by omega)) ?_))
    | (guard_target =~ WO _ _ (Oper.mk _ (Op.binOp BinOp.lss _ _ _ _) _ _ _ none) _ _ _ _; first | (refine O_lss_t rfl rfl (by omega) ?_) | (refine O_lss_f rfl rfl (by omega) ?_) | (refine O_lss rfl rfl ?_))
    | (guard_target =~ WO _ _ (Oper.mk _ (Op.binOp BinOp.shl _ _ _ _) _ _ _ none) _ _ _ _; first | (refine O_shl (b := 1) rfl rfl (by simp only [IntKind.bits]; omega) (by first | exact fit_i64 (by omega) | exact fit_u64 (by omega) | exact fit_u8 (by omega) | exact fit_i32 (by omega) | exact fit_u16 (by omega) | exact fit_u32 (by omega)) ?_) | (refine O_shl (a := 1) rfl rfl (by simp only [IntKind.bits]; omega) (by first | exact fit_i64 (by omega) | exact fit_u64 (by omega) | exact fit_u8 (by omega) | exact fit_i32 (by omega) | exact fit_u16 (by omega) | exact fit_u32 (by omega)) ?_))
    | (guard_target =~ WO _ _ (Oper.mk _ (Op.binOp BinOp.or _ _ _ _) _ _ _ none) _ _ _ _; first | (refine O_or rfl rfl rfl (by first | exact fit_i64 (by omega) | exact fit_u64 (by omega) | exact fit_u8 (by omega) | exact fit_i32 (by omega) | exact fit_u16 (by omega) | exact fit_u32 (by omega)) (by first | exact fit_i64 (by omega) | exact fit_u64 (by omega) | exact fit_u8 (by omega) | exact fit_i32 (by omega) | exact fit_u16 (by omega) | exact fit_u32 (by omega)) ?_))
    | (guard_target =~ WO _ _ (Oper.mk _ (Op.binOp BinOp.geq _ _ _ _) _ _ _ none) _ _ _ _; first | (refine O_geq_t (b := 0) rfl rfl (by omega) ?_) | (refine O_geq_f (b := 0) rfl rfl (by omega) ?_) | (refine O_geq (b := 0) rfl rfl ?_)))
  refine O_call (l := [.slice a len cap]) cl101 (by rfl) ((trim_ok hD (by omega)).mono ?_)
  rintro v w1 ⟨rfl, k, rfl, hk, hD, hv, ht⟩
  refine ⟨nof, ?_⟩
  repeat (first
    | (refine L_cons ?_)
    | (refine R_cons rfl ?_)
    | (refine W_seq ?_)
    | (refine W_region (by kernel_rfl) ?_)
    | (refine L_nil ?_)
    | (refine R_nil ?_)
    | (refine W_block ?_)
    | (refine W_skip ?_)
    | (refine W_exit ?_)
    | (refine W_ret ?_)
    | (guard_target =~ thenQ _ _ _ _ _; first | (refine T_next ?_) | (refine T_exit ?_) | (refine T_ret ?_))
    | (guard_target =~ blockQ _ _ _ _ _; first | (refine B_next ?_) | (refine B_same ?_) | (refine B_other (by kernel_rfl) ?_) | (refine B_ret ?_))
    | (refine W_true rfl rfl ?_)
    | (refine W_false rfl rfl ?_)
    | (guard_target =~ WO _ _ (Oper.mk _ (Op.move _) _ _ _ none) _ _ _ _; first | (refine O_move (v := .int _ (Nat.cast (0 : Nat))) rfl ?_) | (refine O_move (v := (.int _ (Nat.cast _))) rfl ?_) | (refine O_move (v := (.bool _)) rfl ?_) | (refine O_move (v := (.pointer _)) rfl ?_) | (refine O_move (v := (.slice _ _ _)) rfl ?_) | (refine O_move (v := (.agg _)) rfl ?_) | (refine O_move (v := (.tuple _)) rfl ?_) | (refine O_move (v := (.int _ _)) rfl ?_))
    | (guard_target =~ WO _ _ (Oper.mk _ (Op.assign _) _ _ _ none) _ _ _ _; first | (refine O_assign (v := (.int _ (Nat.cast _))) rfl ?_) | (refine O_assign (v := (.bool _)) rfl ?_) | (refine O_assign (v := (.pointer _)) rfl ?_) | (refine O_assign (v := (.slice _ _ _)) rfl ?_) | (refine O_assign (v := (.agg _)) rfl ?_) | (refine O_assign (v := (.tuple _)) rfl ?_) | (refine O_assign (v := (.int _ _)) rfl ?_))
    | (guard_target =~ WO _ _ (Oper.mk _ (Op.call _) _ _ _ none) _ _ _ _; first | (refine O_len Samg.underlying134 rfl rfl ?_))
    | (guard_target =~ WO _ _ (Oper.mk _ (Op.binOp BinOp.eql _ _ _ _) _ _ _ none) _ _ _ _; first | (refine O_eql_t (b := 0) rfl rfl (by omega) ?_) | (refine O_eql_f (b := 0) rfl rfl (by omega) ?_) | (refine O_eql (b := 0) rfl rfl ?_))
    | (guard_target =~ WO _ _ (Oper.mk _ (Op.binOp BinOp.add _ _ _ _) _ _ _ none) _ _ _ _; first | (refine O_add (b := 1) rfl rfl (by first | exact fit_i64 (by omega) | exact fit_u64 (by omega) | exact fit_u8 (by omega) | exact fit_i32 (by omega) | exact fit_u16 (by omega) | exact fit_u32 (by omega)) ?_))
    | (guard_target =~ WO _ _ (Oper.mk _ (Op.binOp BinOp.mul _ _ _ _) _ _ _ none) _ _ _ _; first | (refine O_mul (a := 8) rfl rfl (by first | exact fit_i64 (by omega) | exact fit_u64 (by omega) | exact fit_u8 (by omega) | exact fit_i32 (by omega) | exact fit_u16 (by omega) | exact fit_u32 (by omega)) ?_))
    | (guard_target =~ WO _ _ (Oper.mk _ (Op.binOp BinOp.gtr _ _ _ _) _ _ _ none) _ _ _ _; first | (refine O_gtr_t (b := 0) rfl rfl (by omega) ?_) | (refine O_gtr_f (b := 0) rfl rfl (by omega) ?_) | (refine O_gtr (b := 0) rfl rfl ?_))
    | (guard_target =~ WO _ _ (Oper.mk _ (Op.binOp BinOp.sub _ _ _ _) _ _ _ none) _ _ _ _; first | (refine O_sub (b := 1) rfl rfl (by first | exact fit_i64 (by omega) | exact fit_u64 (by omega) | exact fit_u8 (by omega) | exact fit_i32 (by omega) | exact fit_u16 (by omega) | exact fit_u32 (by omega)) (by omega) ?_))
    | (guard_target =~ WO _ _ (Oper.mk _ (Op.binOp BinOp.quo _ _ _ _) _ _ _ none) _ _ _ _; first | (refine O_quo (b := 8) rfl rfl (by first | exact fit_i64 (by omega) | exact fit_u64 (by omega) | exact fit_u8 (by omega) | exact fit_i32 (by omega) | exact fit_u16 (by omega) | exact fit_u32 (by omega)) (by omega) ?_))
    | (guard_target =~ WO _ _ (Oper.mk _ (Op.binOp BinOp.rem _ _ _ _) _ _ _ none) _ _ _ _; first | (refine O_rem (b := 8) rfl rfl (by omega) ?_))
    | (guard_target =~ WO _ _ (Oper.mk _ (Op.convert 3 130 _) _ _ _ none) _ _ _ _; first | (refine O_conv Samg.underlying3 Samg.underlying130 rfl (by first | exact fit_i64 (by omega) | exact fit_u64 (by omega) | exact fit_u8 (by omega) | exact fit_i32 (by omega) | exact fit_u16 (by omega) | exact fit_u32 (by omega)) ?_))
    | (guard_target =~ WO _ _ (Oper.mk _ (Op.indexAddr 134 _ _) _ _ _ none) _ _ _ _; first | (refine O_index_s1 sl134 rfl rfl (by omega) ?_))
    | (guard_target =~ WO _ _ (Oper.mk _ (Op.binOp BinOp.shr _ _ _ _) _ _ _ none) _ _ _ _; first | (refine O_shr rfl rfl (by simp only [IntKind.bits]; omega) ?_) | (refine O_shr (b := 7) rfl rfl (by simp only [IntKind.bits]; omega) ?_))
    | (guard_target =~ WO _ _ (Oper.mk _ (Op.binOp BinOp.and _ _ _ _) _ _ _ none) _ _ _ _; first | (refine O_and (b := 1) rfl rfl rfl (by first | exact fit_i64 (by omega) | exact fit_u64 (by omega) | exact fit_u8 (by omega) | exact fit_i32 (by omega) | exact fit_u16 (by omega) | exact fit_u32 (by omega)) (by first | exact fit_i64 (by omega) | exact fit_u64 (by omega) | exact fit_u8 (by omega) | exact fit_i32 (by omega) | exact fit_u16 (by omega) | exact fit_u32 (by omega)) ?_))
    | (guard_target =~ WO _ _ (Oper.mk _ (Op.binOp BinOp.lss _ _ _ _) _ _ _ none) _ _ _ _; first | (refine O_lss_t rfl rfl (by omega) ?_) | (refine O_lss_f rfl rfl (by omega) ?_) | (refine O_lss rfl rfl ?_))
    | (guard_target =~ WO _ _ (Oper.mk _ (Op.binOp BinOp.shl _ _ _ _) _ _ _ none) _ _ _ _; first | (refine O_shl (b := 1) rfl rfl (by simp only [IntKind.bits]; omega) (by first | exact fit_i64 (by omega) | exact fit_u64 (by omega) | exact fit_u8 (by omega) | exact fit_i32 (by omega) | exact fit_u16 (by omega) | exact fit_u32 (by omega)) ?_) | (refine O_shl (a := 1) rfl rfl (by simp only [IntKind.bits]; omega) (by first | exact fit_i64 (by omega) | exact fit_u64 (by omega) | exact fit_u8 (by omega) | exact fit_i32 (by omega) | exact fit_u16 (by omega) | exact fit_u32 (by omega)) ?_))
    | (guard_target =~ WO _ _ (Oper.mk _ (Op.binOp BinOp.or _ _ _ _) _ _ _ none) _ _ _ _; first | (refine O_or rfl rfl rfl (by first | exact fit_i64 (by omega) | exact fit_u64 (by omega) | exact fit_u8 (by omega) | exact fit_i32 (by omega) | exact fit_u16 (by omega) | exact fit_u32 (by omega)) (by first | exact fit_i64 (by omega) | exact fit_u64 (by omega) | exact fit_u8 (by omega) | exact fit_i32 (by omega) | exact fit_u16 (by omega) | exact fit_u32 (by omega)) ?_))
    | (guard_target =~ WO _ _ (Oper.mk _ (Op.binOp BinOp.geq _ _ _ _) _ _ _ none) _ _ _ _; first | (refine O_geq_t (b := 0) rfl rfl (by omega) ?_) | (refine O_geq_f (b := 0) rfl rfl (by omega) ?_) | (refine O_geq (b := 0) rfl rfl ?_)))
  refine O_call (l := [.slice a2 len2 cap2]) cl101 (by rfl) ((trim_ok hD2 (by omega)).mono ?_)
  rintro v w2 ⟨rfl, k2, rfl, hk2, hD2, hv2, ht2⟩
  refine ⟨nof, ?_⟩
  rw [hx] at hv
  rw [hx2] at hv2
  have hk20 : k2 ≠ 0 := fun h => by rw [h, val_zero] at hv2; omega
  repeat (first
    | (refine L_cons ?_)
    | (refine R_cons rfl ?_)
    | (refine W_seq ?_)
    | (refine W_region (by kernel_rfl) ?_)
    | (refine L_nil ?_)
    | (refine R_nil ?_)
    | (refine W_block ?_)
    | (refine W_skip ?_)
    | (refine W_exit ?_)
    | (refine W_ret ?_)
    | (guard_target =~ thenQ _ _ _ _ _; first | (refine T_next ?_) | (refine T_exit ?_) | (refine T_ret ?_))
    | (guard_target =~ blockQ _ _ _ _ _; first | (refine B_next ?_) | (refine B_same ?_) | (refine B_other (by kernel_rfl) ?_) | (refine B_ret ?_))
    | (refine W_true rfl rfl ?_)
    | (refine W_false rfl rfl ?_)
    | (guard_target =~ WO _ _ (Oper.mk _ (Op.move _) _ _ _ none) _ _ _ _; first | (refine O_move (v := .int _ (Nat.cast (0 : Nat))) rfl ?_) | (refine O_move (v := (.int _ (Nat.cast _))) rfl ?_) | (refine O_move (v := (.bool _)) rfl ?_) | (refine O_move (v := (.pointer _)) rfl ?_) | (refine O_move (v := (.slice _ _ _)) rfl ?_) | (refine O_move (v := (.agg _)) rfl ?_) | (refine O_move (v := (.tuple _)) rfl ?_) | (refine O_move (v := (.int _ _)) rfl ?_))
    | (guard_target =~ WO _ _ (Oper.mk _ (Op.assign _) _ _ _ none) _ _ _ _; first | (refine O_assign (v := (.int _ (Nat.cast _))) rfl ?_) | (refine O_assign (v := (.bool _)) rfl ?_) | (refine O_assign (v := (.pointer _)) rfl ?_) | (refine O_assign (v := (.slice _ _ _)) rfl ?_) | (refine O_assign (v := (.agg _)) rfl ?_) | (refine O_assign (v := (.tuple _)) rfl ?_) | (refine O_assign (v := (.int _ _)) rfl ?_))
    | (guard_target =~ WO _ _ (Oper.mk _ (Op.call _) _ _ _ none) _ _ _ _; first | (refine O_len Samg.underlying134 rfl rfl ?_))
    | (guard_target =~ WO _ _ (Oper.mk _ (Op.binOp BinOp.eql _ _ _ _) _ _ _ none) _ _ _ _; first | (refine O_eql_t (b := 0) rfl rfl (by omega) ?_) | (refine O_eql_f (b := 0) rfl rfl (by omega) ?_) | (refine O_eql (b := 0) rfl rfl ?_))
    | (guard_target =~ WO _ _ (Oper.mk _ (Op.binOp BinOp.add _ _ _ _) _ _ _ none) _ _ _ _; first | (refine O_add (b := 1) rfl rfl (by first | exact fit_i64 (by omega) | exact fit_u64 (by omega) | exact fit_u8 (by omega) | exact fit_i32 (by omega) | exact fit_u16 (by omega) | exact fit_u32 (by omega)) ?_))
    | (guard_target =~ WO _ _ (Oper.mk _ (Op.binOp BinOp.mul _ _ _ _) _ _ _ none) _ _ _ _; first | (refine O_mul (a := 8) rfl rfl (by first | exact fit_i64 (by omega) | exact fit_u64 (by omega) | exact fit_u8 (by omega) | exact fit_i32 (by omega) | exact fit_u16 (by omega) | exact fit_u32 (by omega)) ?_))
    | (guard_target =~ WO _ _ (Oper.mk _ (Op.binOp BinOp.gtr _ _ _ _) _ _ _ none) _ _ _ _; first | (refine O_gtr_t (b := 0) rfl rfl (by omega) ?_) | (refine O_gtr_f (b := 0) rfl rfl (by omega) ?_) | (refine O_gtr (b := 0) rfl rfl ?_))
    | (guard_target =~ WO _ _ (Oper.mk _ (Op.binOp BinOp.sub _ _ _ _) _ _ _ none) _ _ _ _; first | (refine O_sub (b := 1) rfl rfl (by first | exact fit_i64 (by omega) | exact fit_u64 (by omega) | exact fit_u8 (by omega) | exact fit_i32 (by omega) | exact fit_u16 (by omega) | exact fit_u32 (by omega)) (by omega) ?_))
    | (guard_target =~ WO _ _ (Oper.mk _ (Op.binOp BinOp.quo _ _ _ _) _ _ _ none) _ _ _ _; first | (refine O_quo (b := 8) rfl rfl (by first | exact fit_i64 (by omega) | exact fit_u64 (by omega) | exact fit_u8 (by omega) | exact fit_i32 (by omega) | exact fit_u16 (by omega) | exact fit_u32 (by omega)) (by omega) ?_))
    | (guard_target =~ WO _ _ (Oper.mk _ (Op.binOp BinOp.rem _ _ _ _) _ _ _ none) _ _ _ _; first | (refine O_rem (b := 8) rfl rfl (by omega) ?_))
    | (guard_target =~ WO _ _ (Oper.mk _ (Op.convert 3 130 _) _ _ _ none) _ _ _ _; first | (refine O_conv Samg.underlying3 Samg.underlying130 rfl (by first | exact fit_i64 (by omega) | exact fit_u64 (by omega) | exact fit_u8 (by omega) | exact fit_i32 (by omega) | exact fit_u16 (by omega) | exact fit_u32 (by omega)) ?_))
    | (guard_target =~ WO _ _ (Oper.mk _ (Op.indexAddr 134 _ _) _ _ _ none) _ _ _ _; first | (refine O_index_s1 sl134 rfl rfl (by omega) ?_))
    | (guard_target =~ WO _ _ (Oper.mk _ (Op.binOp BinOp.shr _ _ _ _) _ _ _ none) _ _ _ _; first | (refine O_shr rfl rfl (by simp only [IntKind.bits]; omega) ?_) | (refine O_shr (b := 7) rfl rfl (by simp only [IntKind.bits]; omega) ?_))
    | (guard_target =~ WO _ _ (Oper.mk _ (Op.binOp BinOp.and _ _ _ _) _ _ _ none) _ _ _ _; first | (refine O_and (b := 1) rfl rfl rfl (by first | exact fit_i64 (by omega) | exact fit_u64 (by omega) | exact fit_u8 (by omega) | exact fit_i32 (by omega) | exact fit_u16 (by omega) | exact fit_u32 (by omega)) (by first | exact fit_i64 (by omega) | exact fit_u64 (by omega) | exact fit_u8 (by omega) | exact fit_i32 (by omega) | exact fit_u16 (by omega) | exact fit_u32 (by omega)) ?_))
    | (guard_target =~ WO _ _ (Oper.mk _ (Op.binOp BinOp.lss _ _ _ _) _ _ _ none) _ _ _ _; first | (refine O_lss_t rfl rfl (by omega) ?_) | (refine O_lss_f rfl rfl (by omega) ?_) | (refine O_lss rfl rfl ?_))
    | (guard_target =~ WO _ _ (Oper.mk _ (Op.binOp BinOp.shl _ _ _ _) _ _ _ none) _ _ _ _; first | (refine O_shl (b := 1) rfl rfl (by simp only [IntKind.bits]; omega) (by first | exact fit_i64 (by omega) | exact fit_u64 (by omega) | exact fit_u8 (by omega) | exact fit_i32 (by omega) | exact fit_u16 (by omega) | exact fit_u32 (by omega)) ?_) | (refine O_shl (a := 1) rfl rfl (by simp only [IntKind.bits]; omega) (by first | exact fit_i64 (by omega) | exact fit_u64 (by omega) | exact fit_u8 (by omega) | exact fit_i32 (by omega) | exact fit_u16 (by omega) | exact fit_u32 (by omega)) ?_))
    | (guard_target =~ WO _ _ (Oper.mk _ (Op.binOp BinOp.or _ _ _ _) _ _ _ none) _ _ _ _; first | (refine O_or rfl rfl rfl (by first | exact fit_i64 (by omega) | exact fit_u64 (by omega) | exact fit_u8 (by omega) | exact fit_i32 (by omega) | exact fit_u16 (by omega) | exact fit_u32 (by omega)) (by first | exact fit_i64 (by omega) | exact fit_u64 (by omega) | exact fit_u8 (by omega) | exact fit_i32 (by omega) | exact fit_u16 (by omega) | exact fit_u32 (by omega)) ?_))
    | (guard_target =~ WO _ _ (Oper.mk _ (Op.binOp BinOp.geq _ _ _ _) _ _ _ none) _ _ _ _; first | (refine O_geq_t (b := 0) rfl rfl (by omega) ?_) | (refine O_geq_f (b := 0) rfl rfl (by omega) ?_) | (refine O_geq (b := 0) rfl rfl ?_)))
  refine O_makeB sl134 by5 z5 rfl rfl (by omega) fun w3 hE3 hs3 hBq => ?_
  repeat (first
    | (refine L_cons ?_)
    | (refine R_cons rfl ?_)
    | (refine W_seq ?_)
    | (refine W_region (by kernel_rfl) ?_)
    | (refine L_nil ?_)
    | (refine R_nil ?_)
    | (refine W_block ?_)
    | (refine W_skip ?_)
    | (refine W_exit ?_)
    | (refine W_ret ?_)
    | (guard_target =~ thenQ _ _ _ _ _; first | (refine T_next ?_) | (refine T_exit ?_) | (refine T_ret ?_))
    | (guard_target =~ blockQ _ _ _ _ _; first | (refine B_next ?_) | (refine B_same ?_) | (refine B_other (by kernel_rfl) ?_) | (refine B_ret ?_))
    | (refine W_true rfl rfl ?_)
    | (refine W_false rfl rfl ?_)
    | (guard_target =~ WO _ _ (Oper.mk _ (Op.move _) _ _ _ none) _ _ _ _; first | (refine O_move (v := .int _ (Nat.cast (0 : Nat))) rfl ?_) | (refine O_move (v := (.int _ (Nat.cast _))) rfl ?_) | (refine O_move (v := (.bool _)) rfl ?_) | (refine O_move (v := (.pointer _)) rfl ?_) | (refine O_move (v := (.slice _ _ _)) rfl ?_) | (refine O_move (v := (.agg _)) rfl ?_) | (refine O_move (v := (.tuple _)) rfl ?_) | (refine O_move (v := (.int _ _)) rfl ?_))
    | (guard_target =~ WO _ _ (Oper.mk _ (Op.assign _) _ _ _ none) _ _ _ _; first | (refine O_assign (v := (.int _ (Nat.cast _))) rfl ?_) | (refine O_assign (v := (.bool _)) rfl ?_) | (refine O_assign (v := (.pointer _)) rfl ?_) | (refine O_assign (v := (.slice _ _ _)) rfl ?_) | (refine O_assign (v := (.agg _)) rfl ?_) | (refine O_assign (v := (.tuple _)) rfl ?_) | (refine O_assign (v := (.int _ _)) rfl ?_))
    | (guard_target =~ WO _ _ (Oper.mk _ (Op.call _) _ _ _ none) _ _ _ _; first | (refine O_len Samg.underlying134 rfl rfl ?_))
    | (guard_target =~ WO _ _ (Oper.mk _ (Op.binOp BinOp.eql _ _ _ _) _ _ _ none) _ _ _ _; first | (refine O_eql_t (b := 0) rfl rfl (by omega) ?_) | (refine O_eql_f (b := 0) rfl rfl (by omega) ?_) | (refine O_eql (b := 0) rfl rfl ?_))
    | (guard_target =~ WO _ _ (Oper.mk _ (Op.binOp BinOp.add _ _ _ _) _ _ _ none) _ _ _ _; first | (refine O_add (b := 1) rfl rfl (by first | exact fit_i64 (by omega) | exact fit_u64 (by omega) | exact fit_u8 (by omega) | exact fit_i32 (by omega) | exact fit_u16 (by omega) | exact fit_u32 (by omega)) ?_))
    | (guard_target =~ WO _ _ (Oper.mk _ (Op.binOp BinOp.mul _ _ _ _) _ _ _ none) _ _ _ _; first | (refine O_mul (a := 8) rfl rfl (by first | exact fit_i64 (by omega) | exact fit_u64 (by omega) | exact fit_u8 (by omega) | exact fit_i32 (by omega) | exact fit_u16 (by omega) | exact fit_u32 (by omega)) ?_))
    | (guard_target =~ WO _ _ (Oper.mk _ (Op.binOp BinOp.gtr _ _ _ _) _ _ _ none) _ _ _ _; first | (refine O_gtr_t (b := 0) rfl rfl (by omega) ?_) | (refine O_gtr_f (b := 0) rfl rfl (by omega) ?_) | (refine O_gtr (b := 0) rfl rfl ?_))
    | (guard_target =~ WO _ _ (Oper.mk _ (Op.binOp BinOp.sub _ _ _ _) _ _ _ none) _ _ _ _; first | (refine O_sub (b := 1) rfl rfl (by first | exact fit_i64 (by omega) | exact fit_u64 (by omega) | exact fit_u8 (by omega) | exact fit_i32 (by omega) | exact fit_u16 (by omega) | exact fit_u32 (by omega)) (by omega) ?_))
    | (guard_target =~ WO _ _ (Oper.mk _ (Op.binOp BinOp.quo _ _ _ _) _ _ _ none) _ _ _ _; first | (refine O_quo (b := 8) rfl rfl (by first | exact fit_i64 (by omega) | exact fit_u64 (by omega) | exact fit_u8 (by omega) | exact fit_i32 (by omega) | exact fit_u16 (by omega) | exact fit_u32 (by omega)) (by omega) ?_))
    | (guard_target =~ WO _ _ (Oper.mk _ (Op.binOp BinOp.rem _ _ _ _) _ _ _ none) _ _ _ _; first | (refine O_rem (b := 8) rfl rfl (by omega) ?_))
    | (guard_target =~ WO _ _ (Oper.mk _ (Op.convert 3 130 _) _ _ _ none) _ _ _ _; first | (refine O_conv Samg.underlying3 Samg.underlying130 rfl (by first | exact fit_i64 (by omega) | exact fit_u64 (by omega) | exact fit_u8 (by omega) | exact fit_i32 (by omega) | exact fit_u16 (by omega) | exact fit_u32 (by omega)) ?_))
    | (guard_target =~ WO _ _ (Oper.mk _ (Op.indexAddr 134 _ _) _ _ _ none) _ _ _ _; first | (refine O_index_s1 sl134 rfl rfl (by omega) ?_))
    | (guard_target =~ WO _ _ (Oper.mk _ (Op.binOp BinOp.shr _ _ _ _) _ _ _ none) _ _ _ _; first | (refine O_shr rfl rfl (by simp only [IntKind.bits]; omega) ?_) | (refine O_shr (b := 7) rfl rfl (by simp only [IntKind.bits]; omega) ?_))
    | (guard_target =~ WO _ _ (Oper.mk _ (Op.binOp BinOp.and _ _ _ _) _ _ _ none) _ _ _ _; first | (refine O_and (b := 1) rfl rfl rfl (by first | exact fit_i64 (by omega) | exact fit_u64 (by omega) | exact fit_u8 (by omega) | exact fit_i32 (by omega) | exact fit_u16 (by omega) | exact fit_u32 (by omega)) (by first | exact fit_i64 (by omega) | exact fit_u64 (by omega) | exact fit_u8 (by omega) | exact fit_i32 (by omega) | exact fit_u16 (by omega) | exact fit_u32 (by omega)) ?_))
    | (guard_target =~ WO _ _ (Oper.mk _ (Op.binOp BinOp.lss _ _ _ _) _ _ _ none) _ _ _ _; first | (refine O_lss_t rfl rfl (by omega) ?_) | (refine O_lss_f rfl rfl (by omega) ?_) | (refine O_lss rfl rfl ?_))
    | (guard_target =~ WO _ _ (Oper.mk _ (Op.binOp BinOp.shl _ _ _ _) _ _ _ none) _ _ _ _; first | (refine O_shl (b := 1) rfl rfl (by simp only [IntKind.bits]; omega) (by first | exact fit_i64 (by omega) | exact fit_u64 (by omega) | exact fit_u8 (by omega) | exact fit_i32 (by omega) | exact fit_u16 (by omega) | exact fit_u32 (by omega)) ?_) | (refine O_shl (a := 1) rfl rfl (by simp only [IntKind.bits]; omega) (by first | exact fit_i64 (by omega) | exact fit_u64 (by omega) | exact fit_u8 (by omega) | exact fit_i32 (by omega) | exact fit_u16 (by omega) | exact fit_u32 (by omega)) ?_))
    | (guard_target =~ WO _ _ (Oper.mk _ (Op.binOp BinOp.or _ _ _ _) _ _ _ none) _ _ _ _; first | (refine O_or rfl rfl rfl (by first | exact fit_i64 (by omega) | exact fit_u64 (by omega) | exact fit_u8 (by omega) | exact fit_i32 (by omega) | exact fit_u16 (by omega) | exact fit_u32 (by omega)) (by first | exact fit_i64 (by omega) | exact fit_u64 (by omega) | exact fit_u8 (by omega) | exact fit_i32 (by omega) | exact fit_u16 (by omega) | exact fit_u32 (by omega)) ?_))
    | (guard_target =~ WO _ _ (Oper.mk _ (Op.binOp BinOp.geq _ _ _ _) _ _ _ none) _ _ _ _; first | (refine O_geq_t (b := 0) rfl rfl (by omega) ?_) | (refine O_geq_f (b := 0) rfl rfl (by omega) ?_) | (refine O_geq (b := 0) rfl rfl ?_)))
  refine O_makeB sl134 by5 z5 rfl rfl (by omega) fun w4 hE4 hs4 hBr => ?_
  replace hBq := hBq.ext hE4
  have nqr : w2.heap.size ≠ w3.heap.size := by omega
  have gq : w2.heap.size ≤ w2.heap.size := Nat.le_refl _
  have gr : w2.heap.size ≤ w3.heap.size := by omega
  have hE : Ext w2 w4 := hE3.trans hE4
  clear hE3 hE4 hs3 hs4
  have hnb : ∀ b o, a2 = some ⟨b, o, none⟩ → b ≠ w3.heap.size := by
    intro b' o' e
    obtain ⟨_, _, ⟨h1, _⟩ | ⟨b'', o'', c'', t'', h1, h2, _⟩⟩ := hD2
    · rw [e] at h1; cases h1
    · rw [e] at h1
      cases h1
      have := h2.lt
      omega
  generalize w3.heap.size = br at *
  obtain ⟨bq, ebq⟩ : ∃ b, b = w2.heap.size := ⟨_, rfl⟩
  rw [← ebq] at hBq nqr
  replace gq : w2.heap.size ≤ bq := by omega
  rw [← ebq]
  clear ebq
  have hylt : y < 256 ^ k2 := by rw [← hv2]; exact val_lt hD2.2.1
  repeat (first
    | (refine L_cons ?_)
    | (refine R_cons rfl ?_)
    | (refine W_seq ?_)
    | (refine W_region (by kernel_rfl) ?_)
    | (refine L_nil ?_)
    | (refine R_nil ?_)
    | (refine W_block ?_)
    | (refine W_skip ?_)
    | (refine W_exit ?_)
    | (refine W_ret ?_)
    | (guard_target =~ thenQ _ _ _ _ _; first | (refine T_next ?_) | (refine T_exit ?_) | (refine T_ret ?_))
    | (guard_target =~ blockQ _ _ _ _ _; first | (refine B_next ?_) | (refine B_same ?_) | (refine B_other (by kernel_rfl) ?_) | (refine B_ret ?_))
    | (refine W_true rfl rfl ?_)
    | (refine W_false rfl rfl ?_)
    | (guard_target =~ WO _ _ (Oper.mk _ (Op.move _) _ _ _ none) _ _ _ _; first | (refine O_move (v := .int _ (Nat.cast (0 : Nat))) rfl ?_) | (refine O_move (v := (.int _ (Nat.cast _))) rfl ?_) | (refine O_move (v := (.bool _)) rfl ?_) | (refine O_move (v := (.pointer _)) rfl ?_) | (refine O_move (v := (.slice _ _ _)) rfl ?_) | (refine O_move (v := (.agg _)) rfl ?_) | (refine O_move (v := (.tuple _)) rfl ?_) | (refine O_move (v := (.int _ _)) rfl ?_))
    | (guard_target =~ WO _ _ (Oper.mk _ (Op.assign _) _ _ _ none) _ _ _ _; first | (refine O_assign (v := (.int _ (Nat.cast _))) rfl ?_) | (refine O_assign (v := (.bool _)) rfl ?_) | (refine O_assign (v := (.pointer _)) rfl ?_) | (refine O_assign (v := (.slice _ _ _)) rfl ?_) | (refine O_assign (v := (.agg _)) rfl ?_) | (refine O_assign (v := (.tuple _)) rfl ?_) | (refine O_assign (v := (.int _ _)) rfl ?_))
    | (guard_target =~ WO _ _ (Oper.mk _ (Op.call _) _ _ _ none) _ _ _ _; first | (refine O_len Samg.underlying134 rfl rfl ?_))
    | (guard_target =~ WO _ _ (Oper.mk _ (Op.binOp BinOp.eql _ _ _ _) _ _ _ none) _ _ _ _; first | (refine O_eql_t (b := 0) rfl rfl (by omega) ?_) | (refine O_eql_f (b := 0) rfl rfl (by omega) ?_) | (refine O_eql (b := 0) rfl rfl ?_))
    | (guard_target =~ WO _ _ (Oper.mk _ (Op.binOp BinOp.add _ _ _ _) _ _ _ none) _ _ _ _; first | (refine O_add (b := 1) rfl rfl (by first | exact fit_i64 (by omega) | exact fit_u64 (by omega) | exact fit_u8 (by omega) | exact fit_i32 (by omega) | exact fit_u16 (by omega) | exact fit_u32 (by omega)) ?_))
    | (guard_target =~ WO _ _ (Oper.mk _ (Op.binOp BinOp.mul _ _ _ _) _ _ _ none) _ _ _ _; first | (refine O_mul (a := 8) rfl rfl (by first | exact fit_i64 (by omega) | exact fit_u64 (by omega) | exact fit_u8 (by omega) | exact fit_i32 (by omega) | exact fit_u16 (by omega) | exact fit_u32 (by omega)) ?_))
    | (guard_target =~ WO _ _ (Oper.mk _ (Op.binOp BinOp.gtr _ _ _ _) _ _ _ none) _ _ _ _; first | (refine O_gtr_t (b := 0) rfl rfl (by omega) ?_) | (refine O_gtr_f (b := 0) rfl rfl (by omega) ?_) | (refine O_gtr (b := 0) rfl rfl ?_))
    | (guard_target =~ WO _ _ (Oper.mk _ (Op.binOp BinOp.sub _ _ _ _) _ _ _ none) _ _ _ _; first | (refine O_sub (b := 1) rfl rfl (by first | exact fit_i64 (by omega) | exact fit_u64 (by omega) | exact fit_u8 (by omega) | exact fit_i32 (by omega) | exact fit_u16 (by omega) | exact fit_u32 (by omega)) (by omega) ?_))
    | (guard_target =~ WO _ _ (Oper.mk _ (Op.binOp BinOp.quo _ _ _ _) _ _ _ none) _ _ _ _; first | (refine O_quo (b := 8) rfl rfl (by first | exact fit_i64 (by omega) | exact fit_u64 (by omega) | exact fit_u8 (by omega) | exact fit_i32 (by omega) | exact fit_u16 (by omega) | exact fit_u32 (by omega)) (by omega) ?_))
    | (guard_target =~ WO _ _ (Oper.mk _ (Op.binOp BinOp.rem _ _ _ _) _ _ _ none) _ _ _ _; first | (refine O_rem (b := 8) rfl rfl (by omega) ?_))
    | (guard_target =~ WO _ _ (Oper.mk _ (Op.convert 3 130 _) _ _ _ none) _ _ _ _; first | (refine O_conv Samg.underlying3 Samg.underlying130 rfl (by first | exact fit_i64 (by omega) | exact fit_u64 (by omega) | exact fit_u8 (by omega) | exact fit_i32 (by omega) | exact fit_u16 (by omega) | exact fit_u32 (by omega)) ?_))
    | (guard_target =~ WO _ _ (Oper.mk _ (Op.indexAddr 134 _ _) _ _ _ none) _ _ _ _; first | (refine O_index_s1 sl134 rfl rfl (by omega) ?_))
    | (guard_target =~ WO _ _ (Oper.mk _ (Op.binOp BinOp.shr _ _ _ _) _ _ _ none) _ _ _ _; first | (refine O_shr rfl rfl (by simp only [IntKind.bits]; omega) ?_) | (refine O_shr (b := 7) rfl rfl (by simp only [IntKind.bits]; omega) ?_))
    | (guard_target =~ WO _ _ (Oper.mk _ (Op.binOp BinOp.and _ _ _ _) _ _ _ none) _ _ _ _; first | (refine O_and (b := 1) rfl rfl rfl (by first | exact fit_i64 (by omega) | exact fit_u64 (by omega) | exact fit_u8 (by omega) | exact fit_i32 (by omega) | exact fit_u16 (by omega) | exact fit_u32 (by omega)) (by first | exact fit_i64 (by omega) | exact fit_u64 (by omega) | exact fit_u8 (by omega) | exact fit_i32 (by omega) | exact fit_u16 (by omega) | exact fit_u32 (by omega)) ?_))
    | (guard_target =~ WO _ _ (Oper.mk _ (Op.binOp BinOp.lss _ _ _ _) _ _ _ none) _ _ _ _; first | (refine O_lss_t rfl rfl (by omega) ?_) | (refine O_lss_f rfl rfl (by omega) ?_) | (refine O_lss rfl rfl ?_))
    | (guard_target =~ WO _ _ (Oper.mk _ (Op.binOp BinOp.shl _ _ _ _) _ _ _ none) _ _ _ _; first | (refine O_shl (b := 1) rfl rfl (by simp only [IntKind.bits]; omega) (by first | exact fit_i64 (by omega) | exact fit_u64 (by omega) | exact fit_u8 (by omega) | exact fit_i32 (by omega) | exact fit_u16 (by omega) | exact fit_u32 (by omega)) ?_) | (refine O_shl (a := 1) rfl rfl (by simp only [IntKind.bits]; omega) (by first | exact fit_i64 (by omega) | exact fit_u64 (by omega) | exact fit_u8 (by omega) | exact fit_i32 (by omega) | exact fit_u16 (by omega) | exact fit_u32 (by omega)) ?_))
    | (guard_target =~ WO _ _ (Oper.mk _ (Op.binOp BinOp.or _ _ _ _) _ _ _ none) _ _ _ _; first | (refine O_or rfl rfl rfl (by first | exact fit_i64 (by omega) | exact fit_u64 (by omega) | exact fit_u8 (by omega) | exact fit_i32 (by omega) | exact fit_u16 (by omega) | exact fit_u32 (by omega)) (by first | exact fit_i64 (by omega) | exact fit_u64 (by omega) | exact fit_u8 (by omega) | exact fit_i32 (by omega) | exact fit_u16 (by omega) | exact fit_u32 (by omega)) ?_))
    | (guard_target =~ WO _ _ (Oper.mk _ (Op.binOp BinOp.geq _ _ _ _) _ _ _ none) _ _ _ _; first | (refine O_geq_t (b := 0) rfl rfl (by omega) ?_) | (refine O_geq_f (b := 0) rfl rfl (by omega) ?_) | (refine O_geq (b := 0) rfl rfl ?_)))
  refine W_loop (fun m ρ w' => Ext w2 w' ∧ ∃ i hq hr, m = i ∧ i ≤ 8 * k ∧ Blk w' bq (ns .u8 k hq) 5 ∧ Blk w' br (ns .u8 (k2 + 1) hr) 5 ∧ (∀ q, q < k → hq q < 256) ∧ (∀ q, q < k2 + 1 → hr q < 256) ∧ val 256 hq k = x / 2 ^ i / y * 2 ^ i ∧ val 256 hr (k2 + 1) = x / 2 ^ i % y ∧
    Has ρ [(0, .slice a k k), (1, .slice a2 k2 k2), (7, .slice (some ⟨bq, 0, none⟩) k k), (8, .slice (some ⟨br, 0, none⟩) (k2 + 1) (k2 + 1)), (9, .int .i64 (i : Nat))]) (8 * k) ?_ ?_
  · have h0 : x / 2 ^ (8 * k) = 0 := by
      rw [pow_bytes]
      exact Nat.div_eq_of_lt (by rw [← hv]; exact val_lt hD.2.1)
    exact ⟨hE, 8 * k, _, _, rfl, Nat.le_refl _, hBq, hBr, fun q hq => by show (0 : Nat) < 256; omega, fun q hq => by show (0 : Nat) < 256; omega, by rw [h0, Nat.zero_div, Nat.zero_mul]; exact val_zeros fun _ _ => rfl, by rw [h0, Nat.zero_mod]; exact val_zeros fun _ _ => rfl, Has.mk ⟨rfl, rfl, rfl, rfl, rfl, trivial⟩⟩
  clear hBq hBr hE
  rintro m ρ w5 ⟨hE5, i, hq, hr, rfl, hi, hBq, hBr, dq, dr, vq, vr, σ, rfl⟩
  by_cases h0 : 0 < m
  · obtain ⟨b, o, cc, t, e1, hS, hsz, hg⟩ := (hD.ext hE5).at (i := (m - 1) / 8) (by omega)
    rw [e1]
    have q1 := hg ((m - 1) / 8) (by omega)
    have r1 := hD.2.1 ((m - 1) / 8) (by omega)
    have r2 : g ((m - 1) / 8) >>> ((m - 1) % 8) < 256 := Nat.lt_of_le_of_lt (Nat.shiftRight_le _ _) r1
    obtain ⟨c1, c2⟩ := bit_down hD.2.1 hv h0 hi
    repeat (first
      | (refine L_cons ?_)
      | (refine R_cons rfl ?_)
      | (refine W_seq ?_)
      | (refine W_region (by kernel_rfl) ?_)
      | (refine L_nil ?_)
      | (refine R_nil ?_)
      | (refine W_block ?_)
      | (refine W_skip ?_)
      | (refine W_exit ?_)
      | (refine W_ret ?_)
      | (guard_target =~ thenQ _ _ _ _ _; first | (refine T_next ?_) | (refine T_exit ?_) | (refine T_ret ?_))
      | (guard_target =~ blockQ _ _ _ _ _; first | (refine B_next ?_) | (refine B_same ?_) | (refine B_other (by kernel_rfl) ?_) | (refine B_ret ?_))
      | (refine W_true rfl rfl ?_)
      | (refine W_false rfl rfl ?_)
      | (guard_target =~ WO _ _ (Oper.mk _ (Op.load 5 _) _ _ _ none) _ _ _ _; first | (refine O_load on5 rfl hS q1 ?_))
      | (guard_target =~ WO _ _ (Oper.mk _ (Op.move _) _ _ _ none) _ _ _ _; first | (refine O_move (v := .int _ (Nat.cast (0 : Nat))) rfl ?_) | (refine O_move (v := (.int _ (Nat.cast _))) rfl ?_) | (refine O_move (v := (.bool _)) rfl ?_) | (refine O_move (v := (.pointer _)) rfl ?_) | (refine O_move (v := (.slice _ _ _)) rfl ?_) | (refine O_move (v := (.agg _)) rfl ?_) | (refine O_move (v := (.tuple _)) rfl ?_) | (refine O_move (v := (.int _ _)) rfl ?_))
      | (guard_target =~ WO _ _ (Oper.mk _ (Op.assign _) _ _ _ none) _ _ _ _; first | (refine O_assign (v := (.int _ (Nat.cast _))) rfl ?_) | (refine O_assign (v := (.bool _)) rfl ?_) | (refine O_assign (v := (.pointer _)) rfl ?_) | (refine O_assign (v := (.slice _ _ _)) rfl ?_) | (refine O_assign (v := (.agg _)) rfl ?_) | (refine O_assign (v := (.tuple _)) rfl ?_) | (refine O_assign (v := (.int _ _)) rfl ?_))
      | (guard_target =~ WO _ _ (Oper.mk _ (Op.call _) _ _ _ none) _ _ _ _; first | (refine O_len Samg.underlying134 rfl rfl ?_))
      | (guard_target =~ WO _ _ (Oper.mk _ (Op.binOp BinOp.eql _ _ _ _) _ _ _ none) _ _ _ _; first | (refine O_eql_t (b := 0) rfl rfl (by omega) ?_) | (refine O_eql_f (b := 0) rfl rfl (by omega) ?_) | (refine O_eql (b := 0) rfl rfl ?_))
      | (guard_target =~ WO _ _ (Oper.mk _ (Op.binOp BinOp.add _ _ _ _) _ _ _ none) _ _ _ _; first | (refine O_add (b := 1) rfl rfl (by first | exact fit_i64 (by omega) | exact fit_u64 (by omega) | exact fit_u8 (by omega) | exact fit_i32 (by omega) | exact fit_u16 (by omega) | exact fit_u32 (by omega)) ?_))
      | (guard_target =~ WO _ _ (Oper.mk _ (Op.binOp BinOp.mul _ _ _ _) _ _ _ none) _ _ _ _; first | (refine O_mul (a := 8) rfl rfl (by first | exact fit_i64 (by omega) | exact fit_u64 (by omega) | exact fit_u8 (by omega) | exact fit_i32 (by omega) | exact fit_u16 (by omega) | exact fit_u32 (by omega)) ?_))
      | (guard_target =~ WO _ _ (Oper.mk _ (Op.binOp BinOp.gtr _ _ _ _) _ _ _ none) _ _ _ _; first | (refine O_gtr_t (b := 0) rfl rfl (by omega) ?_) | (refine O_gtr_f (b := 0) rfl rfl (by omega) ?_) | (refine O_gtr (b := 0) rfl rfl ?_))
      | (guard_target =~ WO _ _ (Oper.mk _ (Op.binOp BinOp.sub _ _ _ _) _ _ _ none) _ _ _ _; first | (refine O_sub (b := 1) rfl rfl (by first | exact fit_i64 (by omega) | exact fit_u64 (by omega) | exact fit_u8 (by omega) | exact fit_i32 (by omega) | exact fit_u16 (by omega) | exact fit_u32 (by omega)) (by omega) ?_))
      | (guard_target =~ WO _ _ (Oper.mk _ (Op.binOp BinOp.quo _ _ _ _) _ _ _ none) _ _ _ _; first | (refine O_quo (b := 8) rfl rfl (by first | exact fit_i64 (by omega) | exact fit_u64 (by omega) | exact fit_u8 (by omega) | exact fit_i32 (by omega) | exact fit_u16 (by omega) | exact fit_u32 (by omega)) (by omega) ?_))
      | (guard_target =~ WO _ _ (Oper.mk _ (Op.binOp BinOp.rem _ _ _ _) _ _ _ none) _ _ _ _; first | (refine O_rem (b := 8) rfl rfl (by omega) ?_))
      | (guard_target =~ WO _ _ (Oper.mk _ (Op.convert 3 130 _) _ _ _ none) _ _ _ _; first | (refine O_conv Samg.underlying3 Samg.underlying130 rfl (by first | exact fit_i64 (by omega) | exact fit_u64 (by omega) | exact fit_u8 (by omega) | exact fit_i32 (by omega) | exact fit_u16 (by omega) | exact fit_u32 (by omega)) ?_))
      | (guard_target =~ WO _ _ (Oper.mk _ (Op.indexAddr 134 _ _) _ _ _ none) _ _ _ _; first | (refine O_index_s1 sl134 rfl rfl (by omega) ?_))
      | (guard_target =~ WO _ _ (Oper.mk _ (Op.binOp BinOp.shr _ _ _ _) _ _ _ none) _ _ _ _; first | (refine O_shr rfl rfl (by simp only [IntKind.bits]; omega) ?_) | (refine O_shr (b := 7) rfl rfl (by simp only [IntKind.bits]; omega) ?_))
      | (guard_target =~ WO _ _ (Oper.mk _ (Op.binOp BinOp.and _ _ _ _) _ _ _ none) _ _ _ _; first | (refine O_and (b := 1) rfl rfl rfl (by first | exact fit_i64 (by omega) | exact fit_u64 (by omega) | exact fit_u8 (by omega) | exact fit_i32 (by omega) | exact fit_u16 (by omega) | exact fit_u32 (by omega)) (by first | exact fit_i64 (by omega) | exact fit_u64 (by omega) | exact fit_u8 (by omega) | exact fit_i32 (by omega) | exact fit_u16 (by omega) | exact fit_u32 (by omega)) ?_))
      | (guard_target =~ WO _ _ (Oper.mk _ (Op.binOp BinOp.lss _ _ _ _) _ _ _ none) _ _ _ _; first | (refine O_lss_t rfl rfl (by omega) ?_) | (refine O_lss_f rfl rfl (by omega) ?_) | (refine O_lss rfl rfl ?_))
      | (guard_target =~ WO _ _ (Oper.mk _ (Op.binOp BinOp.shl _ _ _ _) _ _ _ none) _ _ _ _; first | (refine O_shl (b := 1) rfl rfl (by simp only [IntKind.bits]; omega) (by first | exact fit_i64 (by omega) | exact fit_u64 (by omega) | exact fit_u8 (by omega) | exact fit_i32 (by omega) | exact fit_u16 (by omega) | exact fit_u32 (by omega)) ?_) | (refine O_shl (a := 1) rfl rfl (by simp only [IntKind.bits]; omega) (by first | exact fit_i64 (by omega) | exact fit_u64 (by omega) | exact fit_u8 (by omega) | exact fit_i32 (by omega) | exact fit_u16 (by omega) | exact fit_u32 (by omega)) ?_))
      | (guard_target =~ WO _ _ (Oper.mk _ (Op.binOp BinOp.or _ _ _ _) _ _ _ none) _ _ _ _; first | (refine O_or rfl rfl rfl (by first | exact fit_i64 (by omega) | exact fit_u64 (by omega) | exact fit_u8 (by omega) | exact fit_i32 (by omega) | exact fit_u16 (by omega) | exact fit_u32 (by omega)) (by first | exact fit_i64 (by omega) | exact fit_u64 (by omega) | exact fit_u8 (by omega) | exact fit_i32 (by omega) | exact fit_u16 (by omega) | exact fit_u32 (by omega)) ?_))
      | (guard_target =~ WO _ _ (Oper.mk _ (Op.binOp BinOp.geq _ _ _ _) _ _ _ none) _ _ _ _; first | (refine O_geq_t (b := 0) rfl rfl (by omega) ?_) | (refine O_geq_f (b := 0) rfl rfl (by omega) ?_) | (refine O_geq (b := 0) rfl rfl ?_)))
    obtain ⟨c0, ec⟩ : ∃ c0, c0 = (g ((m - 1) / 8) >>> ((m - 1) % 8)) &&& 1 := ⟨_, rfl⟩
    rw [← ec] at c1 c2
    refine W_loop (fun mm ρ w' => Ext w2 w' ∧ ∃ j h' c, mm = k2 + 1 - j ∧ j ≤ k2 + 1 ∧ c ≤ 1 ∧ Blk w' bq (ns .u8 k hq) 5 ∧ Blk w' br (ns .u8 (k2 + 1) h') 5 ∧ (∀ q, q < k2 + 1 → h' q < 256) ∧ (∀ q, j ≤ q → h' q = hr q) ∧ val 256 h' j + c * 256 ^ j = 2 * val 256 hr j + c0 ∧
      Has ρ [(0, .slice (some ⟨b, o, none⟩) k k), (1, .slice a2 k2 k2), (7, .slice (some ⟨bq, 0, none⟩) k k), (8, .slice (some ⟨br, 0, none⟩) (k2 + 1) (k2 + 1)), (9, .int .i64 (m : Nat)), (10, .int .i64 (((m - 1) / 8 : Nat) : Int)), (11, .int .u64 (((m - 1) % 8 : Nat) : Int)), (12, .int .u8 (c : Nat)), (50, .slice (some ⟨br, 0, none⟩) (k2 + 1) (k2 + 1)), (51, .int .i64 ((k2 + 1 : Nat) : Int)), (52, .int .i64 (j : Nat))]) (k2 + 1) ?_ ?_
    · refine ⟨hE5, 0, hr, c0, rfl, Nat.zero_le _, c1, hBq, hBr, dr, fun _ _ => rfl, by simp [val_zero], Has.mk ⟨rfl, rfl, rfl, rfl, rfl, rfl, rfl, ?_, rfl, rfl, rfl, trivial⟩⟩
      rw [ec]; rfl
    clear hS q1 hBq hBr hE5
    rintro mm ρ w6 ⟨hE6, j, h', c, rfl, hj, hc, hBq, hBr, dh, hsame, hJ, σ, rfl⟩
    by_cases h6 : j < k2 + 1
    · have r3 : h' (0 + j) < 256 := by rw [Nat.zero_add]; exact dh _ h6
      have r4 : h' (0 + j) = hr j := by rw [Nat.zero_add]; exact hsame _ (Nat.le_refl _)
      repeat (first
        | (refine L_cons ?_)
        | (refine R_cons rfl ?_)
        | (refine W_seq ?_)
        | (refine W_region (by kernel_rfl) ?_)
        | (refine L_nil ?_)
        | (refine R_nil ?_)
        | (refine W_block ?_)
        | (refine W_skip ?_)
        | (refine W_exit ?_)
        | (refine W_ret ?_)
        | (guard_target =~ thenQ _ _ _ _ _; first | (refine T_next ?_) | (refine T_exit ?_) | (refine T_ret ?_))
        | (guard_target =~ blockQ _ _ _ _ _; first | (refine B_next ?_) | (refine B_same ?_) | (refine B_other (by kernel_rfl) ?_) | (refine B_ret ?_))
        | (refine W_true rfl rfl ?_)
        | (refine W_false rfl rfl ?_)
        | (guard_target =~ WO _ _ (Oper.mk _ (Op.load 5 _) _ _ _ none) _ _ _ _; first | (refine O_load_ns on5 rfl hBr (by omega) ?_))
        | (guard_target =~ WO _ _ (Oper.mk _ (Op.binOp BinOp.shl _ _ (Operand.const _) _) _ _ _ none) _ _ _ _; first | (refine O_shlw8 (b := 1) rfl rfl (by omega) ?_))
        | (guard_target =~ WO _ _ (Oper.mk _ (Op.move _) _ _ _ none) _ _ _ _; first | (refine O_move (v := .int _ (Nat.cast (0 : Nat))) rfl ?_) | (refine O_move (v := (.int _ (Nat.cast _))) rfl ?_) | (refine O_move (v := (.bool _)) rfl ?_) | (refine O_move (v := (.pointer _)) rfl ?_) | (refine O_move (v := (.slice _ _ _)) rfl ?_) | (refine O_move (v := (.agg _)) rfl ?_) | (refine O_move (v := (.tuple _)) rfl ?_) | (refine O_move (v := (.int _ _)) rfl ?_))
        | (guard_target =~ WO _ _ (Oper.mk _ (Op.assign _) _ _ _ none) _ _ _ _; first | (refine O_assign (v := (.int _ (Nat.cast _))) rfl ?_) | (refine O_assign (v := (.bool _)) rfl ?_) | (refine O_assign (v := (.pointer _)) rfl ?_) | (refine O_assign (v := (.slice _ _ _)) rfl ?_) | (refine O_assign (v := (.agg _)) rfl ?_) | (refine O_assign (v := (.tuple _)) rfl ?_) | (refine O_assign (v := (.int _ _)) rfl ?_))
        | (guard_target =~ WO _ _ (Oper.mk _ (Op.call _) _ _ _ none) _ _ _ _; first | (refine O_len Samg.underlying134 rfl rfl ?_))
        | (guard_target =~ WO _ _ (Oper.mk _ (Op.binOp BinOp.eql _ _ _ _) _ _ _ none) _ _ _ _; first | (refine O_eql_t (b := 0) rfl rfl (by omega) ?_) | (refine O_eql_f (b := 0) rfl rfl (by omega) ?_) | (refine O_eql (b := 0) rfl rfl ?_))
        | (guard_target =~ WO _ _ (Oper.mk _ (Op.binOp BinOp.add _ _ _ _) _ _ _ none) _ _ _ _; first | (refine O_add (b := 1) rfl rfl (by first | exact fit_i64 (by omega) | exact fit_u64 (by omega) | exact fit_u8 (by omega) | exact fit_i32 (by omega) | exact fit_u16 (by omega) | exact fit_u32 (by omega)) ?_))
        | (guard_target =~ WO _ _ (Oper.mk _ (Op.binOp BinOp.mul _ _ _ _) _ _ _ none) _ _ _ _; first | (refine O_mul (a := 8) rfl rfl (by first | exact fit_i64 (by omega) | exact fit_u64 (by omega) | exact fit_u8 (by omega) | exact fit_i32 (by omega) | exact fit_u16 (by omega) | exact fit_u32 (by omega)) ?_))
        | (guard_target =~ WO _ _ (Oper.mk _ (Op.binOp BinOp.gtr _ _ _ _) _ _ _ none) _ _ _ _; first | (refine O_gtr_t (b := 0) rfl rfl (by omega) ?_) | (refine O_gtr_f (b := 0) rfl rfl (by omega) ?_) | (refine O_gtr (b := 0) rfl rfl ?_))
        | (guard_target =~ WO _ _ (Oper.mk _ (Op.binOp BinOp.sub _ _ _ _) _ _ _ none) _ _ _ _; first | (refine O_sub (b := 1) rfl rfl (by first | exact fit_i64 (by omega) | exact fit_u64 (by omega) | exact fit_u8 (by omega) | exact fit_i32 (by omega) | exact fit_u16 (by omega) | exact fit_u32 (by omega)) (by omega) ?_))
        | (guard_target =~ WO _ _ (Oper.mk _ (Op.binOp BinOp.quo _ _ _ _) _ _ _ none) _ _ _ _; first | (refine O_quo (b := 8) rfl rfl (by first | exact fit_i64 (by omega) | exact fit_u64 (by omega) | exact fit_u8 (by omega) | exact fit_i32 (by omega) | exact fit_u16 (by omega) | exact fit_u32 (by omega)) (by omega) ?_))
        | (guard_target =~ WO _ _ (Oper.mk _ (Op.binOp BinOp.rem _ _ _ _) _ _ _ none) _ _ _ _; first | (refine O_rem (b := 8) rfl rfl (by omega) ?_))
        | (guard_target =~ WO _ _ (Oper.mk _ (Op.convert 3 130 _) _ _ _ none) _ _ _ _; first | (refine O_conv Samg.underlying3 Samg.underlying130 rfl (by first | exact fit_i64 (by omega) | exact fit_u64 (by omega) | exact fit_u8 (by omega) | exact fit_i32 (by omega) | exact fit_u16 (by omega) | exact fit_u32 (by omega)) ?_))
        | (guard_target =~ WO _ _ (Oper.mk _ (Op.indexAddr 134 _ _) _ _ _ none) _ _ _ _; first | (refine O_index_s1 sl134 rfl rfl (by omega) ?_))
        | (guard_target =~ WO _ _ (Oper.mk _ (Op.binOp BinOp.shr _ _ _ _) _ _ _ none) _ _ _ _; first | (refine O_shr rfl rfl (by simp only [IntKind.bits]; omega) ?_) | (refine O_shr (b := 7) rfl rfl (by simp only [IntKind.bits]; omega) ?_))
        | (guard_target =~ WO _ _ (Oper.mk _ (Op.binOp BinOp.and _ _ _ _) _ _ _ none) _ _ _ _; first | (refine O_and (b := 1) rfl rfl rfl (by first | exact fit_i64 (by omega) | exact fit_u64 (by omega) | exact fit_u8 (by omega) | exact fit_i32 (by omega) | exact fit_u16 (by omega) | exact fit_u32 (by omega)) (by first | exact fit_i64 (by omega) | exact fit_u64 (by omega) | exact fit_u8 (by omega) | exact fit_i32 (by omega) | exact fit_u16 (by omega) | exact fit_u32 (by omega)) ?_))
        | (guard_target =~ WO _ _ (Oper.mk _ (Op.binOp BinOp.lss _ _ _ _) _ _ _ none) _ _ _ _; first | (refine O_lss_t rfl rfl (by omega) ?_) | (refine O_lss_f rfl rfl (by omega) ?_) | (refine O_lss rfl rfl ?_))
        | (guard_target =~ WO _ _ (Oper.mk _ (Op.binOp BinOp.shl _ _ _ _) _ _ _ none) _ _ _ _; first | (refine O_shl (b := 1) rfl rfl (by simp only [IntKind.bits]; omega) (by first | exact fit_i64 (by omega) | exact fit_u64 (by omega) | exact fit_u8 (by omega) | exact fit_i32 (by omega) | exact fit_u16 (by omega) | exact fit_u32 (by omega)) ?_) | (refine O_shl (a := 1) rfl rfl (by simp only [IntKind.bits]; omega) (by first | exact fit_i64 (by omega) | exact fit_u64 (by omega) | exact fit_u8 (by omega) | exact fit_i32 (by omega) | exact fit_u16 (by omega) | exact fit_u32 (by omega)) ?_))
        | (guard_target =~ WO _ _ (Oper.mk _ (Op.binOp BinOp.or _ _ _ _) _ _ _ none) _ _ _ _; first | (refine O_or rfl rfl rfl (by first | exact fit_i64 (by omega) | exact fit_u64 (by omega) | exact fit_u8 (by omega) | exact fit_i32 (by omega) | exact fit_u16 (by omega) | exact fit_u32 (by omega)) (by first | exact fit_i64 (by omega) | exact fit_u64 (by omega) | exact fit_u8 (by omega) | exact fit_i32 (by omega) | exact fit_u16 (by omega) | exact fit_u32 (by omega)) ?_))
        | (guard_target =~ WO _ _ (Oper.mk _ (Op.binOp BinOp.geq _ _ _ _) _ _ _ none) _ _ _ _; first | (refine O_geq_t (b := 0) rfl rfl (by omega) ?_) | (refine O_geq_f (b := 0) rfl rfl (by omega) ?_) | (refine O_geq (b := 0) rfl rfl ?_)))
      refine O_store_ns on5 rfl rfl hBr (by omega) rfl fun w7 hU => ?_
      repeat (first
        | (refine L_cons ?_)
        | (refine R_cons rfl ?_)
        | (refine W_seq ?_)
        | (refine W_region (by kernel_rfl) ?_)
        | (refine L_nil ?_)
        | (refine R_nil ?_)
        | (refine W_block ?_)
        | (refine W_skip ?_)
        | (refine W_exit ?_)
        | (refine W_ret ?_)
        | (guard_target =~ thenQ _ _ _ _ _; first | (refine T_next ?_) | (refine T_exit ?_) | (refine T_ret ?_))
        | (guard_target =~ blockQ _ _ _ _ _; first | (refine B_next ?_) | (refine B_same ?_) | (refine B_other (by kernel_rfl) ?_) | (refine B_ret ?_))
        | (refine W_true rfl rfl ?_)
        | (refine W_false rfl rfl ?_)
        | (guard_target =~ WO _ _ (Oper.mk _ (Op.binOp BinOp.shr _ _ (Operand.const _) _) _ _ _ none) _ _ _ _; first | (refine O_shrd (b := 7) 128 rfl rfl (by decide) rfl ?_))
        | (guard_target =~ WO _ _ (Oper.mk _ (Op.move _) _ _ _ none) _ _ _ _; first | (refine O_move (v := .int _ (Nat.cast (0 : Nat))) rfl ?_) | (refine O_move (v := (.int _ (Nat.cast _))) rfl ?_) | (refine O_move (v := (.bool _)) rfl ?_) | (refine O_move (v := (.pointer _)) rfl ?_) | (refine O_move (v := (.slice _ _ _)) rfl ?_) | (refine O_move (v := (.agg _)) rfl ?_) | (refine O_move (v := (.tuple _)) rfl ?_) | (refine O_move (v := (.int _ _)) rfl ?_))
        | (guard_target =~ WO _ _ (Oper.mk _ (Op.assign _) _ _ _ none) _ _ _ _; first | (refine O_assign (v := (.int _ (Nat.cast _))) rfl ?_) | (refine O_assign (v := (.bool _)) rfl ?_) | (refine O_assign (v := (.pointer _)) rfl ?_) | (refine O_assign (v := (.slice _ _ _)) rfl ?_) | (refine O_assign (v := (.agg _)) rfl ?_) | (refine O_assign (v := (.tuple _)) rfl ?_) | (refine O_assign (v := (.int _ _)) rfl ?_))
        | (guard_target =~ WO _ _ (Oper.mk _ (Op.call _) _ _ _ none) _ _ _ _; first | (refine O_len Samg.underlying134 rfl rfl ?_))
        | (guard_target =~ WO _ _ (Oper.mk _ (Op.binOp BinOp.eql _ _ _ _) _ _ _ none) _ _ _ _; first | (refine O_eql_t (b := 0) rfl rfl (by omega) ?_) | (refine O_eql_f (b := 0) rfl rfl (by omega) ?_) | (refine O_eql (b := 0) rfl rfl ?_))
        | (guard_target =~ WO _ _ (Oper.mk _ (Op.binOp BinOp.add _ _ _ _) _ _ _ none) _ _ _ _; first | (refine O_add (b := 1) rfl rfl (by first | exact fit_i64 (by omega) | exact fit_u64 (by omega) | exact fit_u8 (by omega) | exact fit_i32 (by omega) | exact fit_u16 (by omega) | exact fit_u32 (by omega)) ?_))
        | (guard_target =~ WO _ _ (Oper.mk _ (Op.binOp BinOp.mul _ _ _ _) _ _ _ none) _ _ _ _; first | (refine O_mul (a := 8) rfl rfl (by first | exact fit_i64 (by omega) | exact fit_u64 (by omega) | exact fit_u8 (by omega) | exact fit_i32 (by omega) | exact fit_u16 (by omega) | exact fit_u32 (by omega)) ?_))
        | (guard_target =~ WO _ _ (Oper.mk _ (Op.binOp BinOp.gtr _ _ _ _) _ _ _ none) _ _ _ _; first | (refine O_gtr_t (b := 0) rfl rfl (by omega) ?_) | (refine O_gtr_f (b := 0) rfl rfl (by omega) ?_) | (refine O_gtr (b := 0) rfl rfl ?_))
        | (guard_target =~ WO _ _ (Oper.mk _ (Op.binOp BinOp.sub _ _ _ _) _ _ _ none) _ _ _ _; first | (refine O_sub (b := 1) rfl rfl (by first | exact fit_i64 (by omega) | exact fit_u64 (by omega) | exact fit_u8 (by omega) | exact fit_i32 (by omega) | exact fit_u16 (by omega) | exact fit_u32 (by omega)) (by omega) ?_))
        | (guard_target =~ WO _ _ (Oper.mk _ (Op.binOp BinOp.quo _ _ _ _) _ _ _ none) _ _ _ _; first | (refine O_quo (b := 8) rfl rfl (by first | exact fit_i64 (by omega) | exact fit_u64 (by omega) | exact fit_u8 (by omega) | exact fit_i32 (by omega) | exact fit_u16 (by omega) | exact fit_u32 (by omega)) (by omega) ?_))
        | (guard_target =~ WO _ _ (Oper.mk _ (Op.binOp BinOp.rem _ _ _ _) _ _ _ none) _ _ _ _; first | (refine O_rem (b := 8) rfl rfl (by omega) ?_))
        | (guard_target =~ WO _ _ (Oper.mk _ (Op.convert 3 130 _) _ _ _ none) _ _ _ _; first | (refine O_conv Samg.underlying3 Samg.underlying130 rfl (by first | exact fit_i64 (by omega) | exact fit_u64 (by omega) | exact fit_u8 (by omega) | exact fit_i32 (by omega) | exact fit_u16 (by omega) | exact fit_u32 (by omega)) ?_))
        | (guard_target =~ WO _ _ (Oper.mk _ (Op.indexAddr 134 _ _) _ _ _ none) _ _ _ _; first | (refine O_index_s1 sl134 rfl rfl (by omega) ?_))
        | (guard_target =~ WO _ _ (Oper.mk _ (Op.binOp BinOp.shr _ _ _ _) _ _ _ none) _ _ _ _; first | (refine O_shr rfl rfl (by simp only [IntKind.bits]; omega) ?_) | (refine O_shr (b := 7) rfl rfl (by simp only [IntKind.bits]; omega) ?_))
        | (guard_target =~ WO _ _ (Oper.mk _ (Op.binOp BinOp.and _ _ _ _) _ _ _ none) _ _ _ _; first | (refine O_and (b := 1) rfl rfl rfl (by first | exact fit_i64 (by omega) | exact fit_u64 (by omega) | exact fit_u8 (by omega) | exact fit_i32 (by omega) | exact fit_u16 (by omega) | exact fit_u32 (by omega)) (by first | exact fit_i64 (by omega) | exact fit_u64 (by omega) | exact fit_u8 (by omega) | exact fit_i32 (by omega) | exact fit_u16 (by omega) | exact fit_u32 (by omega)) ?_))
        | (guard_target =~ WO _ _ (Oper.mk _ (Op.binOp BinOp.lss _ _ _ _) _ _ _ none) _ _ _ _; first | (refine O_lss_t rfl rfl (by omega) ?_) | (refine O_lss_f rfl rfl (by omega) ?_) | (refine O_lss rfl rfl ?_))
        | (guard_target =~ WO _ _ (Oper.mk _ (Op.binOp BinOp.shl _ _ _ _) _ _ _ none) _ _ _ _; first | (refine O_shl (b := 1) rfl rfl (by simp only [IntKind.bits]; omega) (by first | exact fit_i64 (by omega) | exact fit_u64 (by omega) | exact fit_u8 (by omega) | exact fit_i32 (by omega) | exact fit_u16 (by omega) | exact fit_u32 (by omega)) ?_) | (refine O_shl (a := 1) rfl rfl (by simp only [IntKind.bits]; omega) (by first | exact fit_i64 (by omega) | exact fit_u64 (by omega) | exact fit_u8 (by omega) | exact fit_i32 (by omega) | exact fit_u16 (by omega) | exact fit_u32 (by omega)) ?_))
        | (guard_target =~ WO _ _ (Oper.mk _ (Op.binOp BinOp.or _ _ _ _) _ _ _ none) _ _ _ _; first | (refine O_or rfl rfl rfl (by first | exact fit_i64 (by omega) | exact fit_u64 (by omega) | exact fit_u8 (by omega) | exact fit_i32 (by omega) | exact fit_u16 (by omega) | exact fit_u32 (by omega)) (by first | exact fit_i64 (by omega) | exact fit_u64 (by omega) | exact fit_u8 (by omega) | exact fit_i32 (by omega) | exact fit_u16 (by omega) | exact fit_u32 (by omega)) ?_))
        | (guard_target =~ WO _ _ (Oper.mk _ (Op.binOp BinOp.geq _ _ _ _) _ _ _ none) _ _ _ _; first | (refine O_geq_t (b := 0) rfl rfl (by omega) ?_) | (refine O_geq_f (b := 0) rfl rfl (by omega) ?_) | (refine O_geq (b := 0) rfl rfl ?_)))
      refine ⟨k2 + 1 - (j + 1), by omega, hE6.new hU gr, j + 1, _, _, rfl, by omega, ?_, hBq.upd hU nqr, hU.here, fun q hq => ?_, fun q hq => ?_, ?_, Has.mk ⟨rfl, rfl, rfl, rfl, rfl, rfl, rfl, rfl, rfl, rfl, rfl, trivial⟩⟩
      · omega
      · unfold upn; split
        · rw [or_one _ _ hc]; omega
        · exact dh q hq
      · unfold upn; rw [if_neg (by omega)]; exact hsame q (by omega)
      · rw [or_one _ _ hc, val_put, val_succ, Nat.pow_succ, ← r4]
        exact dbl_step hJ
    have h6 : j = k2 + 1 := by omega
    subst h6
    rw [vr] at hJ
    have hml : x / 2 ^ m % y < y := Nat.mod_lt _ hy
    have hc0 : c = 0 := by
      rcases (show c = 0 ∨ c = 1 by omega) with h | h
      · exact h
      · exfalso
        rw [h, Nat.one_mul, Nat.pow_succ] at hJ
        omega
    subst hc0
    simp only [Nat.zero_mul, Nat.add_zero] at hJ
    have hN : NatV w6 (.slice (some ⟨br, 0, none⟩) (k2 + 1) (k2 + 1)) (2 * (x / 2 ^ m % y) + c0) (k2 + 1) := NatV.ofBlk hBr dh hJ
    have hN2 : NatV w6 (.slice a2 k2 k2) y (k2 + 1) := ⟨a2, k2, k2, g2, rfl, hD2.ext hE6, hv2, by omega⟩
    repeat (first
      | (refine L_cons ?_)
      | (refine R_cons rfl ?_)
      | (refine W_seq ?_)
      | (refine W_region (by kernel_rfl) ?_)
      | (refine L_nil ?_)
      | (refine R_nil ?_)
      | (refine W_block ?_)
      | (refine W_skip ?_)
      | (refine W_exit ?_)
      | (refine W_ret ?_)
      | (guard_target =~ thenQ _ _ _ _ _; first | (refine T_next ?_) | (refine T_exit ?_) | (refine T_ret ?_))
      | (guard_target =~ blockQ _ _ _ _ _; first | (refine B_next ?_) | (refine B_same ?_) | (refine B_other (by kernel_rfl) ?_) | (refine B_ret ?_))
      | (refine W_true rfl rfl ?_)
      | (refine W_false rfl rfl ?_)
      | (guard_target =~ WO _ _ (Oper.mk _ (Op.move _) _ _ _ none) _ _ _ _; first | (refine O_move (v := .int _ (Nat.cast (0 : Nat))) rfl ?_) | (refine O_move (v := (.int _ (Nat.cast _))) rfl ?_) | (refine O_move (v := (.bool _)) rfl ?_) | (refine O_move (v := (.pointer _)) rfl ?_) | (refine O_move (v := (.slice _ _ _)) rfl ?_) | (refine O_move (v := (.agg _)) rfl ?_) | (refine O_move (v := (.tuple _)) rfl ?_) | (refine O_move (v := (.int _ _)) rfl ?_))
      | (guard_target =~ WO _ _ (Oper.mk _ (Op.assign _) _ _ _ none) _ _ _ _; first | (refine O_assign (v := (.int _ (Nat.cast _))) rfl ?_) | (refine O_assign (v := (.bool _)) rfl ?_) | (refine O_assign (v := (.pointer _)) rfl ?_) | (refine O_assign (v := (.slice _ _ _)) rfl ?_) | (refine O_assign (v := (.agg _)) rfl ?_) | (refine O_assign (v := (.tuple _)) rfl ?_) | (refine O_assign (v := (.int _ _)) rfl ?_))
      | (guard_target =~ WO _ _ (Oper.mk _ (Op.call _) _ _ _ none) _ _ _ _; first | (refine O_len Samg.underlying134 rfl rfl ?_))
      | (guard_target =~ WO _ _ (Oper.mk _ (Op.binOp BinOp.eql _ _ _ _) _ _ _ none) _ _ _ _; first | (refine O_eql_t (b := 0) rfl rfl (by omega) ?_) | (refine O_eql_f (b := 0) rfl rfl (by omega) ?_) | (refine O_eql (b := 0) rfl rfl ?_))
      | (guard_target =~ WO _ _ (Oper.mk _ (Op.binOp BinOp.add _ _ _ _) _ _ _ none) _ _ _ _; first | (refine O_add (b := 1) rfl rfl (by first | exact fit_i64 (by omega) | exact fit_u64 (by omega) | exact fit_u8 (by omega) | exact fit_i32 (by omega) | exact fit_u16 (by omega) | exact fit_u32 (by omega)) ?_))
      | (guard_target =~ WO _ _ (Oper.mk _ (Op.binOp BinOp.mul _ _ _ _) _ _ _ none) _ _ _ _; first | (refine O_mul (a := 8) rfl rfl (by first | exact fit_i64 (by omega) | exact fit_u64 (by omega) | exact fit_u8 (by omega) | exact fit_i32 (by omega) | exact fit_u16 (by omega) | exact fit_u32 (by omega)) ?_))
      | (guard_target =~ WO _ _ (Oper.mk _ (Op.binOp BinOp.gtr _ _ _ _) _ _ _ none) _ _ _ _; first | (refine O_gtr_t (b := 0) rfl rfl (by omega) ?_) | (refine O_gtr_f (b := 0) rfl rfl (by omega) ?_) | (refine O_gtr (b := 0) rfl rfl ?_))
      | (guard_target =~ WO _ _ (Oper.mk _ (Op.binOp BinOp.sub _ _ _ _) _ _ _ none) _ _ _ _; first | (refine O_sub (b := 1) rfl rfl (by first | exact fit_i64 (by omega) | exact fit_u64 (by omega) | exact fit_u8 (by omega) | exact fit_i32 (by omega) | exact fit_u16 (by omega) | exact fit_u32 (by omega)) (by omega) ?_))
      | (guard_target =~ WO _ _ (Oper.mk _ (Op.binOp BinOp.quo _ _ _ _) _ _ _ none) _ _ _ _; first | (refine O_quo (b := 8) rfl rfl (by first | exact fit_i64 (by omega) | exact fit_u64 (by omega) | exact fit_u8 (by omega) | exact fit_i32 (by omega) | exact fit_u16 (by omega) | exact fit_u32 (by omega)) (by omega) ?_))
      | (guard_target =~ WO _ _ (Oper.mk _ (Op.binOp BinOp.rem _ _ _ _) _ _ _ none) _ _ _ _; first | (refine O_rem (b := 8) rfl rfl (by omega) ?_))
      | (guard_target =~ WO _ _ (Oper.mk _ (Op.convert 3 130 _) _ _ _ none) _ _ _ _; first | (refine O_conv Samg.underlying3 Samg.underlying130 rfl (by first | exact fit_i64 (by omega) | exact fit_u64 (by omega) | exact fit_u8 (by omega) | exact fit_i32 (by omega) | exact fit_u16 (by omega) | exact fit_u32 (by omega)) ?_))
      | (guard_target =~ WO _ _ (Oper.mk _ (Op.indexAddr 134 _ _) _ _ _ none) _ _ _ _; first | (refine O_index_s1 sl134 rfl rfl (by omega) ?_))
      | (guard_target =~ WO _ _ (Oper.mk _ (Op.binOp BinOp.shr _ _ _ _) _ _ _ none) _ _ _ _; first | (refine O_shr rfl rfl (by simp only [IntKind.bits]; omega) ?_) | (refine O_shr (b := 7) rfl rfl (by simp only [IntKind.bits]; omega) ?_))
      | (guard_target =~ WO _ _ (Oper.mk _ (Op.binOp BinOp.and _ _ _ _) _ _ _ none) _ _ _ _; first | (refine O_and (b := 1) rfl rfl rfl (by first | exact fit_i64 (by omega) | exact fit_u64 (by omega) | exact fit_u8 (by omega) | exact fit_i32 (by omega) | exact fit_u16 (by omega) | exact fit_u32 (by omega)) (by first | exact fit_i64 (by omega) | exact fit_u64 (by omega) | exact fit_u8 (by omega) | exact fit_i32 (by omega) | exact fit_u16 (by omega) | exact fit_u32 (by omega)) ?_))
      | (guard_target =~ WO _ _ (Oper.mk _ (Op.binOp BinOp.lss _ _ _ _) _ _ _ none) _ _ _ _; first | (refine O_lss_t rfl rfl (by omega) ?_) | (refine O_lss_f rfl rfl (by omega) ?_) | (refine O_lss rfl rfl ?_))
      | (guard_target =~ WO _ _ (Oper.mk _ (Op.binOp BinOp.shl _ _ _ _) _ _ _ none) _ _ _ _; first | (refine O_shl (b := 1) rfl rfl (by simp only [IntKind.bits]; omega) (by first | exact fit_i64 (by omega) | exact fit_u64 (by omega) | exact fit_u8 (by omega) | exact fit_i32 (by omega) | exact fit_u16 (by omega) | exact fit_u32 (by omega)) ?_) | (refine O_shl (a := 1) rfl rfl (by simp only [IntKind.bits]; omega) (by first | exact fit_i64 (by omega) | exact fit_u64 (by omega) | exact fit_u8 (by omega) | exact fit_i32 (by omega) | exact fit_u16 (by omega) | exact fit_u32 (by omega)) ?_))
      | (guard_target =~ WO _ _ (Oper.mk _ (Op.binOp BinOp.or _ _ _ _) _ _ _ none) _ _ _ _; first | (refine O_or rfl rfl rfl (by first | exact fit_i64 (by omega) | exact fit_u64 (by omega) | exact fit_u8 (by omega) | exact fit_i32 (by omega) | exact fit_u16 (by omega) | exact fit_u32 (by omega)) (by first | exact fit_i64 (by omega) | exact fit_u64 (by omega) | exact fit_u8 (by omega) | exact fit_i32 (by omega) | exact fit_u16 (by omega) | exact fit_u32 (by omega)) ?_))
      | (guard_target =~ WO _ _ (Oper.mk _ (Op.binOp BinOp.geq _ _ _ _) _ _ _ none) _ _ _ _; first | (refine O_geq_t (b := 0) rfl rfl (by omega) ?_) | (refine O_geq_f (b := 0) rfl rfl (by omega) ?_) | (refine O_geq (b := 0) rfl rfl ?_)))
    refine O_call (l := [.slice (some ⟨br, 0, none⟩) (k2 + 1) (k2 + 1), .slice a2 k2 k2]) cl73 (by rfl) ((cmp_ok hN hN2 (by omega)).mono ?_)
    rintro v w7 ⟨rfl, hE7⟩
    refine ⟨nof, ?_⟩
    repeat (first
      | (refine L_cons ?_)
      | (refine R_cons rfl ?_)
      | (refine W_seq ?_)
      | (refine W_region (by kernel_rfl) ?_)
      | (refine L_nil ?_)
      | (refine R_nil ?_)
      | (refine W_block ?_)
      | (refine W_skip ?_)
      | (refine W_exit ?_)
      | (refine W_ret ?_)
      | (guard_target =~ thenQ _ _ _ _ _; first | (refine T_next ?_) | (refine T_exit ?_) | (refine T_ret ?_))
      | (guard_target =~ blockQ _ _ _ _ _; first | (refine B_next ?_) | (refine B_same ?_) | (refine B_other (by kernel_rfl) ?_) | (refine B_ret ?_))
      | (refine W_true rfl rfl ?_)
      | (refine W_false rfl rfl ?_)
      | (guard_target =~ WO _ _ (Oper.mk _ (Op.binOp BinOp.geq 136 _ _ _) _ _ _ none) _ _ _ _; first | (refine O_cmp_geq rfl rfl ?_))
      | (guard_target =~ WO _ _ (Oper.mk _ (Op.move _) _ _ _ none) _ _ _ _; first | (refine O_move (v := .int _ (Nat.cast (0 : Nat))) rfl ?_) | (refine O_move (v := (.int _ (Nat.cast _))) rfl ?_) | (refine O_move (v := (.bool _)) rfl ?_) | (refine O_move (v := (.pointer _)) rfl ?_) | (refine O_move (v := (.slice _ _ _)) rfl ?_) | (refine O_move (v := (.agg _)) rfl ?_) | (refine O_move (v := (.tuple _)) rfl ?_) | (refine O_move (v := (.int _ _)) rfl ?_))
      | (guard_target =~ WO _ _ (Oper.mk _ (Op.assign _) _ _ _ none) _ _ _ _; first | (refine O_assign (v := (.int _ (Nat.cast _))) rfl ?_) | (refine O_assign (v := (.bool _)) rfl ?_) | (refine O_assign (v := (.pointer _)) rfl ?_) | (refine O_assign (v := (.slice _ _ _)) rfl ?_) | (refine O_assign (v := (.agg _)) rfl ?_) | (refine O_assign (v := (.tuple _)) rfl ?_) | (refine O_assign (v := (.int _ _)) rfl ?_))
      | (guard_target =~ WO _ _ (Oper.mk _ (Op.call _) _ _ _ none) _ _ _ _; first | (refine O_len Samg.underlying134 rfl rfl ?_))
      | (guard_target =~ WO _ _ (Oper.mk _ (Op.binOp BinOp.eql _ _ _ _) _ _ _ none) _ _ _ _; first | (refine O_eql_t (b := 0) rfl rfl (by omega) ?_) | (refine O_eql_f (b := 0) rfl rfl (by omega) ?_) | (refine O_eql (b := 0) rfl rfl ?_))
      | (guard_target =~ WO _ _ (Oper.mk _ (Op.binOp BinOp.add _ _ _ _) _ _ _ none) _ _ _ _; first | (refine O_add (b := 1) rfl rfl (by first | exact fit_i64 (by omega) | exact fit_u64 (by omega) | exact fit_u8 (by omega) | exact fit_i32 (by omega) | exact fit_u16 (by omega) | exact fit_u32 (by omega)) ?_))
      | (guard_target =~ WO _ _ (Oper.mk _ (Op.binOp BinOp.mul _ _ _ _) _ _ _ none) _ _ _ _; first | (refine O_mul (a := 8) rfl rfl (by first | exact fit_i64 (by omega) | exact fit_u64 (by omega) | exact fit_u8 (by omega) | exact fit_i32 (by omega) | exact fit_u16 (by omega) | exact fit_u32 (by omega)) ?_))
      | (guard_target =~ WO _ _ (Oper.mk _ (Op.binOp BinOp.gtr _ _ _ _) _ _ _ none) _ _ _ _; first | (refine O_gtr_t (b := 0) rfl rfl (by omega) ?_) | (refine O_gtr_f (b := 0) rfl rfl (by omega) ?_) | (refine O_gtr (b := 0) rfl rfl ?_))
      | (guard_target =~ WO _ _ (Oper.mk _ (Op.binOp BinOp.sub _ _ _ _) _ _ _ none) _ _ _ _; first | (refine O_sub (b := 1) rfl rfl (by first | exact fit_i64 (by omega) | exact fit_u64 (by omega) | exact fit_u8 (by omega) | exact fit_i32 (by omega) | exact fit_u16 (by omega) | exact fit_u32 (by omega)) (by omega) ?_))
      | (guard_target =~ WO _ _ (Oper.mk _ (Op.binOp BinOp.quo _ _ _ _) _ _ _ none) _ _ _ _; first | (refine O_quo (b := 8) rfl rfl (by first | exact fit_i64 (by omega) | exact fit_u64 (by omega) | exact fit_u8 (by omega) | exact fit_i32 (by omega) | exact fit_u16 (by omega) | exact fit_u32 (by omega)) (by omega) ?_))
      | (guard_target =~ WO _ _ (Oper.mk _ (Op.binOp BinOp.rem _ _ _ _) _ _ _ none) _ _ _ _; first | (refine O_rem (b := 8) rfl rfl (by omega) ?_))
      | (guard_target =~ WO _ _ (Oper.mk _ (Op.convert 3 130 _) _ _ _ none) _ _ _ _; first | (refine O_conv Samg.underlying3 Samg.underlying130 rfl (by first | exact fit_i64 (by omega) | exact fit_u64 (by omega) | exact fit_u8 (by omega) | exact fit_i32 (by omega) | exact fit_u16 (by omega) | exact fit_u32 (by omega)) ?_))
      | (guard_target =~ WO _ _ (Oper.mk _ (Op.indexAddr 134 _ _) _ _ _ none) _ _ _ _; first | (refine O_index_s1 sl134 rfl rfl (by omega) ?_))
      | (guard_target =~ WO _ _ (Oper.mk _ (Op.binOp BinOp.shr _ _ _ _) _ _ _ none) _ _ _ _; first | (refine O_shr rfl rfl (by simp only [IntKind.bits]; omega) ?_) | (refine O_shr (b := 7) rfl rfl (by simp only [IntKind.bits]; omega) ?_))
      | (guard_target =~ WO _ _ (Oper.mk _ (Op.binOp BinOp.and _ _ _ _) _ _ _ none) _ _ _ _; first | (refine O_and (b := 1) rfl rfl rfl (by first | exact fit_i64 (by omega) | exact fit_u64 (by omega) | exact fit_u8 (by omega) | exact fit_i32 (by omega) | exact fit_u16 (by omega) | exact fit_u32 (by omega)) (by first | exact fit_i64 (by omega) | exact fit_u64 (by omega) | exact fit_u8 (by omega) | exact fit_i32 (by omega) | exact fit_u16 (by omega) | exact fit_u32 (by omega)) ?_))
      | (guard_target =~ WO _ _ (Oper.mk _ (Op.binOp BinOp.lss _ _ _ _) _ _ _ none) _ _ _ _; first | (refine O_lss_t rfl rfl (by omega) ?_) | (refine O_lss_f rfl rfl (by omega) ?_) | (refine O_lss rfl rfl ?_))
      | (guard_target =~ WO _ _ (Oper.mk _ (Op.binOp BinOp.shl _ _ _ _) _ _ _ none) _ _ _ _; first | (refine O_shl (b := 1) rfl rfl (by simp only [IntKind.bits]; omega) (by first | exact fit_i64 (by omega) | exact fit_u64 (by omega) | exact fit_u8 (by omega) | exact fit_i32 (by omega) | exact fit_u16 (by omega) | exact fit_u32 (by omega)) ?_) | (refine O_shl (a := 1) rfl rfl (by simp only [IntKind.bits]; omega) (by first | exact fit_i64 (by omega) | exact fit_u64 (by omega) | exact fit_u8 (by omega) | exact fit_i32 (by omega) | exact fit_u16 (by omega) | exact fit_u32 (by omega)) ?_))
      | (guard_target =~ WO _ _ (Oper.mk _ (Op.binOp BinOp.or _ _ _ _) _ _ _ none) _ _ _ _; first | (refine O_or rfl rfl rfl (by first | exact fit_i64 (by omega) | exact fit_u64 (by omega) | exact fit_u8 (by omega) | exact fit_i32 (by omega) | exact fit_u16 (by omega) | exact fit_u32 (by omega)) (by first | exact fit_i64 (by omega) | exact fit_u64 (by omega) | exact fit_u8 (by omega) | exact fit_i32 (by omega) | exact fit_u16 (by omega) | exact fit_u32 (by omega)) ?_))
      | (guard_target =~ WO _ _ (Oper.mk _ (Op.binOp BinOp.geq _ _ _ _) _ _ _ none) _ _ _ _; first | (refine O_geq_t (b := 0) rfl rfl (by omega) ?_) | (refine O_geq_f (b := 0) rfl rfl (by omega) ?_) | (refine O_geq (b := 0) rfl rfl ?_)))
    replace hBq := hBq.ext hE7
    replace hBr := hBr.ext hE7
    replace hE6 := hE6.trans hE7
    clear hE7 hN hN2
    refine W_if rfl rfl (fun hc => ?_) fun hc => ?_
    · obtain ⟨d1, d2⟩ := div_step1 hy c1 hc
      rw [← c2] at d1 d2
      repeat (first
        | (refine L_cons ?_)
        | (refine R_cons rfl ?_)
        | (refine W_seq ?_)
        | (refine W_region (by kernel_rfl) ?_)
        | (refine L_nil ?_)
        | (refine R_nil ?_)
        | (refine W_block ?_)
        | (refine W_skip ?_)
        | (refine W_exit ?_)
        | (refine W_ret ?_)
        | (guard_target =~ thenQ _ _ _ _ _; first | (refine T_next ?_) | (refine T_exit ?_) | (refine T_ret ?_))
        | (guard_target =~ blockQ _ _ _ _ _; first | (refine B_next ?_) | (refine B_same ?_) | (refine B_other (by kernel_rfl) ?_) | (refine B_ret ?_))
        | (refine W_true rfl rfl ?_)
        | (refine W_false rfl rfl ?_)
        | (guard_target =~ WO _ _ (Oper.mk _ (Op.move _) _ _ _ none) _ _ _ _; first | (refine O_move (v := .int _ (Nat.cast (0 : Nat))) rfl ?_) | (refine O_move (v := (.int _ (Nat.cast _))) rfl ?_) | (refine O_move (v := (.bool _)) rfl ?_) | (refine O_move (v := (.pointer _)) rfl ?_) | (refine O_move (v := (.slice _ _ _)) rfl ?_) | (refine O_move (v := (.agg _)) rfl ?_) | (refine O_move (v := (.tuple _)) rfl ?_) | (refine O_move (v := (.int _ _)) rfl ?_))
        | (guard_target =~ WO _ _ (Oper.mk _ (Op.assign _) _ _ _ none) _ _ _ _; first | (refine O_assign (v := (.int _ (Nat.cast _))) rfl ?_) | (refine O_assign (v := (.bool _)) rfl ?_) | (refine O_assign (v := (.pointer _)) rfl ?_) | (refine O_assign (v := (.slice _ _ _)) rfl ?_) | (refine O_assign (v := (.agg _)) rfl ?_) | (refine O_assign (v := (.tuple _)) rfl ?_) | (refine O_assign (v := (.int _ _)) rfl ?_))
        | (guard_target =~ WO _ _ (Oper.mk _ (Op.call _) _ _ _ none) _ _ _ _; first | (refine O_len Samg.underlying134 rfl rfl ?_))
        | (guard_target =~ WO _ _ (Oper.mk _ (Op.binOp BinOp.eql _ _ _ _) _ _ _ none) _ _ _ _; first | (refine O_eql_t (b := 0) rfl rfl (by omega) ?_) | (refine O_eql_f (b := 0) rfl rfl (by omega) ?_) | (refine O_eql (b := 0) rfl rfl ?_))
        | (guard_target =~ WO _ _ (Oper.mk _ (Op.binOp BinOp.add _ _ _ _) _ _ _ none) _ _ _ _; first | (refine O_add (b := 1) rfl rfl (by first | exact fit_i64 (by omega) | exact fit_u64 (by omega) | exact fit_u8 (by omega) | exact fit_i32 (by omega) | exact fit_u16 (by omega) | exact fit_u32 (by omega)) ?_))
        | (guard_target =~ WO _ _ (Oper.mk _ (Op.binOp BinOp.mul _ _ _ _) _ _ _ none) _ _ _ _; first | (refine O_mul (a := 8) rfl rfl (by first | exact fit_i64 (by omega) | exact fit_u64 (by omega) | exact fit_u8 (by omega) | exact fit_i32 (by omega) | exact fit_u16 (by omega) | exact fit_u32 (by omega)) ?_))
        | (guard_target =~ WO _ _ (Oper.mk _ (Op.binOp BinOp.gtr _ _ _ _) _ _ _ none) _ _ _ _; first | (refine O_gtr_t (b := 0) rfl rfl (by omega) ?_) | (refine O_gtr_f (b := 0) rfl rfl (by omega) ?_) | (refine O_gtr (b := 0) rfl rfl ?_))
        | (guard_target =~ WO _ _ (Oper.mk _ (Op.binOp BinOp.sub _ _ _ _) _ _ _ none) _ _ _ _; first | (refine O_sub (b := 1) rfl rfl (by first | exact fit_i64 (by omega) | exact fit_u64 (by omega) | exact fit_u8 (by omega) | exact fit_i32 (by omega) | exact fit_u16 (by omega) | exact fit_u32 (by omega)) (by omega) ?_))
        | (guard_target =~ WO _ _ (Oper.mk _ (Op.binOp BinOp.quo _ _ _ _) _ _ _ none) _ _ _ _; first | (refine O_quo (b := 8) rfl rfl (by first | exact fit_i64 (by omega) | exact fit_u64 (by omega) | exact fit_u8 (by omega) | exact fit_i32 (by omega) | exact fit_u16 (by omega) | exact fit_u32 (by omega)) (by omega) ?_))
        | (guard_target =~ WO _ _ (Oper.mk _ (Op.binOp BinOp.rem _ _ _ _) _ _ _ none) _ _ _ _; first | (refine O_rem (b := 8) rfl rfl (by omega) ?_))
        | (guard_target =~ WO _ _ (Oper.mk _ (Op.convert 3 130 _) _ _ _ none) _ _ _ _; first | (refine O_conv Samg.underlying3 Samg.underlying130 rfl (by first | exact fit_i64 (by omega) | exact fit_u64 (by omega) | exact fit_u8 (by omega) | exact fit_i32 (by omega) | exact fit_u16 (by omega) | exact fit_u32 (by omega)) ?_))
        | (guard_target =~ WO _ _ (Oper.mk _ (Op.indexAddr 134 _ _) _ _ _ none) _ _ _ _; first | (refine O_index_s1 sl134 rfl rfl (by omega) ?_))
        | (guard_target =~ WO _ _ (Oper.mk _ (Op.binOp BinOp.shr _ _ _ _) _ _ _ none) _ _ _ _; first | (refine O_shr rfl rfl (by simp only [IntKind.bits]; omega) ?_) | (refine O_shr (b := 7) rfl rfl (by simp only [IntKind.bits]; omega) ?_))
        | (guard_target =~ WO _ _ (Oper.mk _ (Op.binOp BinOp.and _ _ _ _) _ _ _ none) _ _ _ _; first | (refine O_and (b := 1) rfl rfl rfl (by first | exact fit_i64 (by omega) | exact fit_u64 (by omega) | exact fit_u8 (by omega) | exact fit_i32 (by omega) | exact fit_u16 (by omega) | exact fit_u32 (by omega)) (by first | exact fit_i64 (by omega) | exact fit_u64 (by omega) | exact fit_u8 (by omega) | exact fit_i32 (by omega) | exact fit_u16 (by omega) | exact fit_u32 (by omega)) ?_))
        | (guard_target =~ WO _ _ (Oper.mk _ (Op.binOp BinOp.lss _ _ _ _) _ _ _ none) _ _ _ _; first | (refine O_lss_t rfl rfl (by omega) ?_) | (refine O_lss_f rfl rfl (by omega) ?_) | (refine O_lss rfl rfl ?_))
        | (guard_target =~ WO _ _ (Oper.mk _ (Op.binOp BinOp.shl _ _ _ _) _ _ _ none) _ _ _ _; first | (refine O_shl (b := 1) rfl rfl (by simp only [IntKind.bits]; omega) (by first | exact fit_i64 (by omega) | exact fit_u64 (by omega) | exact fit_u8 (by omega) | exact fit_i32 (by omega) | exact fit_u16 (by omega) | exact fit_u32 (by omega)) ?_) | (refine O_shl (a := 1) rfl rfl (by simp only [IntKind.bits]; omega) (by first | exact fit_i64 (by omega) | exact fit_u64 (by omega) | exact fit_u8 (by omega) | exact fit_i32 (by omega) | exact fit_u16 (by omega) | exact fit_u32 (by omega)) ?_))
        | (guard_target =~ WO _ _ (Oper.mk _ (Op.binOp BinOp.or _ _ _ _) _ _ _ none) _ _ _ _; first | (refine O_or rfl rfl rfl (by first | exact fit_i64 (by omega) | exact fit_u64 (by omega) | exact fit_u8 (by omega) | exact fit_i32 (by omega) | exact fit_u16 (by omega) | exact fit_u32 (by omega)) (by first | exact fit_i64 (by omega) | exact fit_u64 (by omega) | exact fit_u8 (by omega) | exact fit_i32 (by omega) | exact fit_u16 (by omega) | exact fit_u32 (by omega)) ?_))
        | (guard_target =~ WO _ _ (Oper.mk _ (Op.binOp BinOp.geq _ _ _ _) _ _ _ none) _ _ _ _; first | (refine O_geq_t (b := 0) rfl rfl (by omega) ?_) | (refine O_geq_f (b := 0) rfl rfl (by omega) ?_) | (refine O_geq (b := 0) rfl rfl ?_)))
      refine O_call (l := [.slice (some ⟨br, 0, none⟩) (k2 + 1) (k2 + 1), .slice a2 k2 k2]) cl142 (by rfl) ((take_ok hBr dh (hD2.ext hE6) hnb (by omega) (by omega)).mono ?_)
      rintro v w8 ⟨h2, r, hU, dh2, hr1, hI⟩
      refine ⟨nof, ?_⟩
      rw [hJ, hv2] at hI
      have hlt := val_lt dh2
      have hI2 : val 256 h2 (k2 + 1) = 2 * (x / 2 ^ m % y) + c0 - y := by
        rcases (show r = 0 ∨ r = 1 by omega) with h | h
        · rw [h, Nat.zero_mul] at hI; omega
        · rw [h, Nat.one_mul] at hI; omega
      obtain ⟨b1, b2⟩ := bit_set dq h0 hi vq
      have rq : hq (0 + (m - 1) / 8) < 256 := by rw [Nat.zero_add]; exact dq _ (by omega)
      replace hE6 := hE6.new hU gr
      repeat (first
        | (refine L_cons ?_)
        | (refine R_cons rfl ?_)
        | (refine W_seq ?_)
        | (refine W_region (by kernel_rfl) ?_)
        | (refine L_nil ?_)
        | (refine R_nil ?_)
        | (refine W_block ?_)
        | (refine W_skip ?_)
        | (refine W_exit ?_)
        | (refine W_ret ?_)
        | (guard_target =~ thenQ _ _ _ _ _; first | (refine T_next ?_) | (refine T_exit ?_) | (refine T_ret ?_))
        | (guard_target =~ blockQ _ _ _ _ _; first | (refine B_next ?_) | (refine B_same ?_) | (refine B_other (by kernel_rfl) ?_) | (refine B_ret ?_))
        | (refine W_true rfl rfl ?_)
        | (refine W_false rfl rfl ?_)
        | (guard_target =~ WO _ _ (Oper.mk _ (Op.load 5 _) _ _ _ none) _ _ _ _; first | (refine O_load_ns on5 rfl (hBq.upd hU nqr) (by omega) ?_))
        | (guard_target =~ WO _ _ (Oper.mk _ (Op.binOp BinOp.shl _ _ _ _) _ _ _ none) _ _ _ _; first | (refine O_shlw8 (a := 1) rfl rfl (by omega) ?_) | (refine O_shl (b := 1) rfl rfl (by simp only [IntKind.bits]; omega) (by first | exact fit_i64 (by omega) | exact fit_u64 (by omega) | exact fit_u8 (by omega) | exact fit_i32 (by omega) | exact fit_u16 (by omega) | exact fit_u32 (by omega)) ?_) | (refine O_shl (a := 1) rfl rfl (by simp only [IntKind.bits]; omega) (by first | exact fit_i64 (by omega) | exact fit_u64 (by omega) | exact fit_u8 (by omega) | exact fit_i32 (by omega) | exact fit_u16 (by omega) | exact fit_u32 (by omega)) ?_))
        | (guard_target =~ WO _ _ (Oper.mk _ (Op.move _) _ _ _ none) _ _ _ _; first | (refine O_move (v := .int _ (Nat.cast (0 : Nat))) rfl ?_) | (refine O_move (v := (.int _ (Nat.cast _))) rfl ?_) | (refine O_move (v := (.bool _)) rfl ?_) | (refine O_move (v := (.pointer _)) rfl ?_) | (refine O_move (v := (.slice _ _ _)) rfl ?_) | (refine O_move (v := (.agg _)) rfl ?_) | (refine O_move (v := (.tuple _)) rfl ?_) | (refine O_move (v := (.int _ _)) rfl ?_))
        | (guard_target =~ WO _ _ (Oper.mk _ (Op.assign _) _ _ _ none) _ _ _ _; first | (refine O_assign (v := (.int _ (Nat.cast _))) rfl ?_) | (refine O_assign (v := (.bool _)) rfl ?_) | (refine O_assign (v := (.pointer _)) rfl ?_) | (refine O_assign (v := (.slice _ _ _)) rfl ?_) | (refine O_assign (v := (.agg _)) rfl ?_) | (refine O_assign (v := (.tuple _)) rfl ?_) | (refine O_assign (v := (.int _ _)) rfl ?_))
        | (guard_target =~ WO _ _ (Oper.mk _ (Op.call _) _ _ _ none) _ _ _ _; first | (refine O_len Samg.underlying134 rfl rfl ?_))
        | (guard_target =~ WO _ _ (Oper.mk _ (Op.binOp BinOp.eql _ _ _ _) _ _ _ none) _ _ _ _; first | (refine O_eql_t (b := 0) rfl rfl (by omega) ?_) | (refine O_eql_f (b := 0) rfl rfl (by omega) ?_) | (refine O_eql (b := 0) rfl rfl ?_))
        | (guard_target =~ WO _ _ (Oper.mk _ (Op.binOp BinOp.add _ _ _ _) _ _ _ none) _ _ _ _; first | (refine O_add (b := 1) rfl rfl (by first | exact fit_i64 (by omega) | exact fit_u64 (by omega) | exact fit_u8 (by omega) | exact fit_i32 (by omega) | exact fit_u16 (by omega) | exact fit_u32 (by omega)) ?_))
        | (guard_target =~ WO _ _ (Oper.mk _ (Op.binOp BinOp.mul _ _ _ _) _ _ _ none) _ _ _ _; first | (refine O_mul (a := 8) rfl rfl (by first | exact fit_i64 (by omega) | exact fit_u64 (by omega) | exact fit_u8 (by omega) | exact fit_i32 (by omega) | exact fit_u16 (by omega) | exact fit_u32 (by omega)) ?_))
        | (guard_target =~ WO _ _ (Oper.mk _ (Op.binOp BinOp.gtr _ _ _ _) _ _ _ none) _ _ _ _; first | (refine O_gtr_t (b := 0) rfl rfl (by omega) ?_) | (refine O_gtr_f (b := 0) rfl rfl (by omega) ?_) | (refine O_gtr (b := 0) rfl rfl ?_))
        | (guard_target =~ WO _ _ (Oper.mk _ (Op.binOp BinOp.sub _ _ _ _) _ _ _ none) _ _ _ _; first | (refine O_sub (b := 1) rfl rfl (by first | exact fit_i64 (by omega) | exact fit_u64 (by omega) | exact fit_u8 (by omega) | exact fit_i32 (by omega) | exact fit_u16 (by omega) | exact fit_u32 (by omega)) (by omega) ?_))
        | (guard_target =~ WO _ _ (Oper.mk _ (Op.binOp BinOp.quo _ _ _ _) _ _ _ none) _ _ _ _; first | (refine O_quo (b := 8) rfl rfl (by first | exact fit_i64 (by omega) | exact fit_u64 (by omega) | exact fit_u8 (by omega) | exact fit_i32 (by omega) | exact fit_u16 (by omega) | exact fit_u32 (by omega)) (by omega) ?_))
        | (guard_target =~ WO _ _ (Oper.mk _ (Op.binOp BinOp.rem _ _ _ _) _ _ _ none) _ _ _ _; first | (refine O_rem (b := 8) rfl rfl (by omega) ?_))
        | (guard_target =~ WO _ _ (Oper.mk _ (Op.convert 3 130 _) _ _ _ none) _ _ _ _; first | (refine O_conv Samg.underlying3 Samg.underlying130 rfl (by first | exact fit_i64 (by omega) | exact fit_u64 (by omega) | exact fit_u8 (by omega) | exact fit_i32 (by omega) | exact fit_u16 (by omega) | exact fit_u32 (by omega)) ?_))
        | (guard_target =~ WO _ _ (Oper.mk _ (Op.indexAddr 134 _ _) _ _ _ none) _ _ _ _; first | (refine O_index_s1 sl134 rfl rfl (by omega) ?_))
        | (guard_target =~ WO _ _ (Oper.mk _ (Op.binOp BinOp.shr _ _ _ _) _ _ _ none) _ _ _ _; first | (refine O_shr rfl rfl (by simp only [IntKind.bits]; omega) ?_) | (refine O_shr (b := 7) rfl rfl (by simp only [IntKind.bits]; omega) ?_))
        | (guard_target =~ WO _ _ (Oper.mk _ (Op.binOp BinOp.and _ _ _ _) _ _ _ none) _ _ _ _; first | (refine O_and (b := 1) rfl rfl rfl (by first | exact fit_i64 (by omega) | exact fit_u64 (by omega) | exact fit_u8 (by omega) | exact fit_i32 (by omega) | exact fit_u16 (by omega) | exact fit_u32 (by omega)) (by first | exact fit_i64 (by omega) | exact fit_u64 (by omega) | exact fit_u8 (by omega) | exact fit_i32 (by omega) | exact fit_u16 (by omega) | exact fit_u32 (by omega)) ?_))
        | (guard_target =~ WO _ _ (Oper.mk _ (Op.binOp BinOp.lss _ _ _ _) _ _ _ none) _ _ _ _; first | (refine O_lss_t rfl rfl (by omega) ?_) | (refine O_lss_f rfl rfl (by omega) ?_) | (refine O_lss rfl rfl ?_))
        | (guard_target =~ WO _ _ (Oper.mk _ (Op.binOp BinOp.or _ _ _ _) _ _ _ none) _ _ _ _; first | (refine O_or rfl rfl rfl (by first | exact fit_i64 (by omega) | exact fit_u64 (by omega) | exact fit_u8 (by omega) | exact fit_i32 (by omega) | exact fit_u16 (by omega) | exact fit_u32 (by omega)) (by first | exact fit_i64 (by omega) | exact fit_u64 (by omega) | exact fit_u8 (by omega) | exact fit_i32 (by omega) | exact fit_u16 (by omega) | exact fit_u32 (by omega)) ?_))
        | (guard_target =~ WO _ _ (Oper.mk _ (Op.binOp BinOp.geq _ _ _ _) _ _ _ none) _ _ _ _; first | (refine O_geq_t (b := 0) rfl rfl (by omega) ?_) | (refine O_geq_f (b := 0) rfl rfl (by omega) ?_) | (refine O_geq (b := 0) rfl rfl ?_)))
      refine O_store_ns on5 rfl rfl (hBq.upd hU nqr) (by omega) rfl fun w9 hU2 => ?_
      rw [Nat.zero_add] at hU2
      repeat (first
        | (refine L_cons ?_)
        | (refine R_cons rfl ?_)
        | (refine W_seq ?_)
        | (refine W_region (by kernel_rfl) ?_)
        | (refine L_nil ?_)
        | (refine R_nil ?_)
        | (refine W_block ?_)
        | (refine W_skip ?_)
        | (refine W_exit ?_)
        | (refine W_ret ?_)
        | (guard_target =~ thenQ _ _ _ _ _; first | (refine T_next ?_) | (refine T_exit ?_) | (refine T_ret ?_))
        | (guard_target =~ blockQ _ _ _ _ _; first | (refine B_next ?_) | (refine B_same ?_) | (refine B_other (by kernel_rfl) ?_) | (refine B_ret ?_))
        | (refine W_true rfl rfl ?_)
        | (refine W_false rfl rfl ?_)
        | (guard_target =~ WO _ _ (Oper.mk _ (Op.move _) _ _ _ none) _ _ _ _; first | (refine O_move (v := .int _ (Nat.cast (0 : Nat))) rfl ?_) | (refine O_move (v := (.int _ (Nat.cast _))) rfl ?_) | (refine O_move (v := (.bool _)) rfl ?_) | (refine O_move (v := (.pointer _)) rfl ?_) | (refine O_move (v := (.slice _ _ _)) rfl ?_) | (refine O_move (v := (.agg _)) rfl ?_) | (refine O_move (v := (.tuple _)) rfl ?_) | (refine O_move (v := (.int _ _)) rfl ?_))
        | (guard_target =~ WO _ _ (Oper.mk _ (Op.assign _) _ _ _ none) _ _ _ _; first | (refine O_assign (v := (.int _ (Nat.cast _))) rfl ?_) | (refine O_assign (v := (.bool _)) rfl ?_) | (refine O_assign (v := (.pointer _)) rfl ?_) | (refine O_assign (v := (.slice _ _ _)) rfl ?_) | (refine O_assign (v := (.agg _)) rfl ?_) | (refine O_assign (v := (.tuple _)) rfl ?_) | (refine O_assign (v := (.int _ _)) rfl ?_))
        | (guard_target =~ WO _ _ (Oper.mk _ (Op.call _) _ _ _ none) _ _ _ _; first | (refine O_len Samg.underlying134 rfl rfl ?_))
        | (guard_target =~ WO _ _ (Oper.mk _ (Op.binOp BinOp.eql _ _ _ _) _ _ _ none) _ _ _ _; first | (refine O_eql_t (b := 0) rfl rfl (by omega) ?_) | (refine O_eql_f (b := 0) rfl rfl (by omega) ?_) | (refine O_eql (b := 0) rfl rfl ?_))
        | (guard_target =~ WO _ _ (Oper.mk _ (Op.binOp BinOp.add _ _ _ _) _ _ _ none) _ _ _ _; first | (refine O_add (b := 1) rfl rfl (by first | exact fit_i64 (by omega) | exact fit_u64 (by omega) | exact fit_u8 (by omega) | exact fit_i32 (by omega) | exact fit_u16 (by omega) | exact fit_u32 (by omega)) ?_))
        | (guard_target =~ WO _ _ (Oper.mk _ (Op.binOp BinOp.mul _ _ _ _) _ _ _ none) _ _ _ _; first | (refine O_mul (a := 8) rfl rfl (by first | exact fit_i64 (by omega) | exact fit_u64 (by omega) | exact fit_u8 (by omega) | exact fit_i32 (by omega) | exact fit_u16 (by omega) | exact fit_u32 (by omega)) ?_))
        | (guard_target =~ WO _ _ (Oper.mk _ (Op.binOp BinOp.gtr _ _ _ _) _ _ _ none) _ _ _ _; first | (refine O_gtr_t (b := 0) rfl rfl (by omega) ?_) | (refine O_gtr_f (b := 0) rfl rfl (by omega) ?_) | (refine O_gtr (b := 0) rfl rfl ?_))
        | (guard_target =~ WO _ _ (Oper.mk _ (Op.binOp BinOp.sub _ _ _ _) _ _ _ none) _ _ _ _; first | (refine O_sub (b := 1) rfl rfl (by first | exact fit_i64 (by omega) | exact fit_u64 (by omega) | exact fit_u8 (by omega) | exact fit_i32 (by omega) | exact fit_u16 (by omega) | exact fit_u32 (by omega)) (by omega) ?_))
        | (guard_target =~ WO _ _ (Oper.mk _ (Op.binOp BinOp.quo _ _ _ _) _ _ _ none) _ _ _ _; first | (refine O_quo (b := 8) rfl rfl (by first | exact fit_i64 (by omega) | exact fit_u64 (by omega) | exact fit_u8 (by omega) | exact fit_i32 (by omega) | exact fit_u16 (by omega) | exact fit_u32 (by omega)) (by omega) ?_))
        | (guard_target =~ WO _ _ (Oper.mk _ (Op.binOp BinOp.rem _ _ _ _) _ _ _ none) _ _ _ _; first | (refine O_rem (b := 8) rfl rfl (by omega) ?_))
        | (guard_target =~ WO _ _ (Oper.mk _ (Op.convert 3 130 _) _ _ _ none) _ _ _ _; first | (refine O_conv Samg.underlying3 Samg.underlying130 rfl (by first | exact fit_i64 (by omega) | exact fit_u64 (by omega) | exact fit_u8 (by omega) | exact fit_i32 (by omega) | exact fit_u16 (by omega) | exact fit_u32 (by omega)) ?_))
        | (guard_target =~ WO _ _ (Oper.mk _ (Op.indexAddr 134 _ _) _ _ _ none) _ _ _ _; first | (refine O_index_s1 sl134 rfl rfl (by omega) ?_))
        | (guard_target =~ WO _ _ (Oper.mk _ (Op.binOp BinOp.shr _ _ _ _) _ _ _ none) _ _ _ _; first | (refine O_shr rfl rfl (by simp only [IntKind.bits]; omega) ?_) | (refine O_shr (b := 7) rfl rfl (by simp only [IntKind.bits]; omega) ?_))
        | (guard_target =~ WO _ _ (Oper.mk _ (Op.binOp BinOp.and _ _ _ _) _ _ _ none) _ _ _ _; first | (refine O_and (b := 1) rfl rfl rfl (by first | exact fit_i64 (by omega) | exact fit_u64 (by omega) | exact fit_u8 (by omega) | exact fit_i32 (by omega) | exact fit_u16 (by omega) | exact fit_u32 (by omega)) (by first | exact fit_i64 (by omega) | exact fit_u64 (by omega) | exact fit_u8 (by omega) | exact fit_i32 (by omega) | exact fit_u16 (by omega) | exact fit_u32 (by omega)) ?_))
        | (guard_target =~ WO _ _ (Oper.mk _ (Op.binOp BinOp.lss _ _ _ _) _ _ _ none) _ _ _ _; first | (refine O_lss_t rfl rfl (by omega) ?_) | (refine O_lss_f rfl rfl (by omega) ?_) | (refine O_lss rfl rfl ?_))
        | (guard_target =~ WO _ _ (Oper.mk _ (Op.binOp BinOp.shl _ _ _ _) _ _ _ none) _ _ _ _; first | (refine O_shl (b := 1) rfl rfl (by simp only [IntKind.bits]; omega) (by first | exact fit_i64 (by omega) | exact fit_u64 (by omega) | exact fit_u8 (by omega) | exact fit_i32 (by omega) | exact fit_u16 (by omega) | exact fit_u32 (by omega)) ?_) | (refine O_shl (a := 1) rfl rfl (by simp only [IntKind.bits]; omega) (by first | exact fit_i64 (by omega) | exact fit_u64 (by omega) | exact fit_u8 (by omega) | exact fit_i32 (by omega) | exact fit_u16 (by omega) | exact fit_u32 (by omega)) ?_))
        | (guard_target =~ WO _ _ (Oper.mk _ (Op.binOp BinOp.or _ _ _ _) _ _ _ none) _ _ _ _; first | (refine O_or rfl rfl rfl (by first | exact fit_i64 (by omega) | exact fit_u64 (by omega) | exact fit_u8 (by omega) | exact fit_i32 (by omega) | exact fit_u16 (by omega) | exact fit_u32 (by omega)) (by first | exact fit_i64 (by omega) | exact fit_u64 (by omega) | exact fit_u8 (by omega) | exact fit_i32 (by omega) | exact fit_u16 (by omega) | exact fit_u32 (by omega)) ?_))
        | (guard_target =~ WO _ _ (Oper.mk _ (Op.binOp BinOp.geq _ _ _ _) _ _ _ none) _ _ _ _; first | (refine O_geq_t (b := 0) rfl rfl (by omega) ?_) | (refine O_geq_f (b := 0) rfl rfl (by omega) ?_) | (refine O_geq (b := 0) rfl rfl ?_)))
      refine ⟨m - 1, by omega, hE6.new hU2 gq, m - 1, _, _, rfl, by omega, hU2.here, hU.here.upd hU2 (Ne.symm nqr), fun q hq => ?_, dh2, ?_, by rw [hI2, d2], Has.mk ⟨rfl, rfl, rfl, rfl, rfl, trivial⟩⟩
      · unfold upn; split
        · exact b1
        · exact dq q hq
      · rw [b2, d1]
    · obtain ⟨d1, d2⟩ := div_step0 hy c1 hc
      rw [← c2] at d1 d2
      repeat (first
        | (refine L_cons ?_)
        | (refine R_cons rfl ?_)
        | (refine W_seq ?_)
        | (refine W_region (by kernel_rfl) ?_)
        | (refine L_nil ?_)
        | (refine R_nil ?_)
        | (refine W_block ?_)
        | (refine W_skip ?_)
        | (refine W_exit ?_)
        | (refine W_ret ?_)
        | (guard_target =~ thenQ _ _ _ _ _; first | (refine T_next ?_) | (refine T_exit ?_) | (refine T_ret ?_))
        | (guard_target =~ blockQ _ _ _ _ _; first | (refine B_next ?_) | (refine B_same ?_) | (refine B_other (by kernel_rfl) ?_) | (refine B_ret ?_))
        | (refine W_true rfl rfl ?_)
        | (refine W_false rfl rfl ?_)
        | (guard_target =~ WO _ _ (Oper.mk _ (Op.move _) _ _ _ none) _ _ _ _; first | (refine O_move (v := .int _ (Nat.cast (0 : Nat))) rfl ?_) | (refine O_move (v := (.int _ (Nat.cast _))) rfl ?_) | (refine O_move (v := (.bool _)) rfl ?_) | (refine O_move (v := (.pointer _)) rfl ?_) | (refine O_move (v := (.slice _ _ _)) rfl ?_) | (refine O_move (v := (.agg _)) rfl ?_) | (refine O_move (v := (.tuple _)) rfl ?_) | (refine O_move (v := (.int _ _)) rfl ?_))
        | (guard_target =~ WO _ _ (Oper.mk _ (Op.assign _) _ _ _ none) _ _ _ _; first | (refine O_assign (v := (.int _ (Nat.cast _))) rfl ?_) | (refine O_assign (v := (.bool _)) rfl ?_) | (refine O_assign (v := (.pointer _)) rfl ?_) | (refine O_assign (v := (.slice _ _ _)) rfl ?_) | (refine O_assign (v := (.agg _)) rfl ?_) | (refine O_assign (v := (.tuple _)) rfl ?_) | (refine O_assign (v := (.int _ _)) rfl ?_))
        | (guard_target =~ WO _ _ (Oper.mk _ (Op.call _) _ _ _ none) _ _ _ _; first | (refine O_len Samg.underlying134 rfl rfl ?_))
        | (guard_target =~ WO _ _ (Oper.mk _ (Op.binOp BinOp.eql _ _ _ _) _ _ _ none) _ _ _ _; first | (refine O_eql_t (b := 0) rfl rfl (by omega) ?_) | (refine O_eql_f (b := 0) rfl rfl (by omega) ?_) | (refine O_eql (b := 0) rfl rfl ?_))
        | (guard_target =~ WO _ _ (Oper.mk _ (Op.binOp BinOp.add _ _ _ _) _ _ _ none) _ _ _ _; first | (refine O_add (b := 1) rfl rfl (by first | exact fit_i64 (by omega) | exact fit_u64 (by omega) | exact fit_u8 (by omega) | exact fit_i32 (by omega) | exact fit_u16 (by omega) | exact fit_u32 (by omega)) ?_))
        | (guard_target =~ WO _ _ (Oper.mk _ (Op.binOp BinOp.mul _ _ _ _) _ _ _ none) _ _ _ _; first | (refine O_mul (a := 8) rfl rfl (by first | exact fit_i64 (by omega) | exact fit_u64 (by omega) | exact fit_u8 (by omega) | exact fit_i32 (by omega) | exact fit_u16 (by omega) | exact fit_u32 (by omega)) ?_))
        | (guard_target =~ WO _ _ (Oper.mk _ (Op.binOp BinOp.gtr _ _ _ _) _ _ _ none) _ _ _ _; first | (refine O_gtr_t (b := 0) rfl rfl (by omega) ?_) | (refine O_gtr_f (b := 0) rfl rfl (by omega) ?_) | (refine O_gtr (b := 0) rfl rfl ?_))
        | (guard_target =~ WO _ _ (Oper.mk _ (Op.binOp BinOp.sub _ _ _ _) _ _ _ none) _ _ _ _; first | (refine O_sub (b := 1) rfl rfl (by first | exact fit_i64 (by omega) | exact fit_u64 (by omega) | exact fit_u8 (by omega) | exact fit_i32 (by omega) | exact fit_u16 (by omega) | exact fit_u32 (by omega)) (by omega) ?_))
        | (guard_target =~ WO _ _ (Oper.mk _ (Op.binOp BinOp.quo _ _ _ _) _ _ _ none) _ _ _ _; first | (refine O_quo (b := 8) rfl rfl (by first | exact fit_i64 (by omega) | exact fit_u64 (by omega) | exact fit_u8 (by omega) | exact fit_i32 (by omega) | exact fit_u16 (by omega) | exact fit_u32 (by omega)) (by omega) ?_))
        | (guard_target =~ WO _ _ (Oper.mk _ (Op.binOp BinOp.rem _ _ _ _) _ _ _ none) _ _ _ _; first | (refine O_rem (b := 8) rfl rfl (by omega) ?_))
        | (guard_target =~ WO _ _ (Oper.mk _ (Op.convert 3 130 _) _ _ _ none) _ _ _ _; first | (refine O_conv Samg.underlying3 Samg.underlying130 rfl (by first | exact fit_i64 (by omega) | exact fit_u64 (by omega) | exact fit_u8 (by omega) | exact fit_i32 (by omega) | exact fit_u16 (by omega) | exact fit_u32 (by omega)) ?_))
        | (guard_target =~ WO _ _ (Oper.mk _ (Op.indexAddr 134 _ _) _ _ _ none) _ _ _ _; first | (refine O_index_s1 sl134 rfl rfl (by omega) ?_))
        | (guard_target =~ WO _ _ (Oper.mk _ (Op.binOp BinOp.shr _ _ _ _) _ _ _ none) _ _ _ _; first | (refine O_shr rfl rfl (by simp only [IntKind.bits]; omega) ?_) | (refine O_shr (b := 7) rfl rfl (by simp only [IntKind.bits]; omega) ?_))
        | (guard_target =~ WO _ _ (Oper.mk _ (Op.binOp BinOp.and _ _ _ _) _ _ _ none) _ _ _ _; first | (refine O_and (b := 1) rfl rfl rfl (by first | exact fit_i64 (by omega) | exact fit_u64 (by omega) | exact fit_u8 (by omega) | exact fit_i32 (by omega) | exact fit_u16 (by omega) | exact fit_u32 (by omega)) (by first | exact fit_i64 (by omega) | exact fit_u64 (by omega) | exact fit_u8 (by omega) | exact fit_i32 (by omega) | exact fit_u16 (by omega) | exact fit_u32 (by omega)) ?_))
        | (guard_target =~ WO _ _ (Oper.mk _ (Op.binOp BinOp.lss _ _ _ _) _ _ _ none) _ _ _ _; first | (refine O_lss_t rfl rfl (by omega) ?_) | (refine O_lss_f rfl rfl (by omega) ?_) | (refine O_lss rfl rfl ?_))
        | (guard_target =~ WO _ _ (Oper.mk _ (Op.binOp BinOp.shl _ _ _ _) _ _ _ none) _ _ _ _; first | (refine O_shl (b := 1) rfl rfl (by simp only [IntKind.bits]; omega) (by first | exact fit_i64 (by omega) | exact fit_u64 (by omega) | exact fit_u8 (by omega) | exact fit_i32 (by omega) | exact fit_u16 (by omega) | exact fit_u32 (by omega)) ?_) | (refine O_shl (a := 1) rfl rfl (by simp only [IntKind.bits]; omega) (by first | exact fit_i64 (by omega) | exact fit_u64 (by omega) | exact fit_u8 (by omega) | exact fit_i32 (by omega) | exact fit_u16 (by omega) | exact fit_u32 (by omega)) ?_))
        | (guard_target =~ WO _ _ (Oper.mk _ (Op.binOp BinOp.or _ _ _ _) _ _ _ none) _ _ _ _; first | (refine O_or rfl rfl rfl (by first | exact fit_i64 (by omega) | exact fit_u64 (by omega) | exact fit_u8 (by omega) | exact fit_i32 (by omega) | exact fit_u16 (by omega) | exact fit_u32 (by omega)) (by first | exact fit_i64 (by omega) | exact fit_u64 (by omega) | exact fit_u8 (by omega) | exact fit_i32 (by omega) | exact fit_u16 (by omega) | exact fit_u32 (by omega)) ?_))
        | (guard_target =~ WO _ _ (Oper.mk _ (Op.binOp BinOp.geq _ _ _ _) _ _ _ none) _ _ _ _; first | (refine O_geq_t (b := 0) rfl rfl (by omega) ?_) | (refine O_geq_f (b := 0) rfl rfl (by omega) ?_) | (refine O_geq (b := 0) rfl rfl ?_)))
      refine ⟨m - 1, by omega, hE6, m - 1, _, _, rfl, by omega, hBq, hBr, dq, dh, ?_, by rw [hJ, d2], Has.mk ⟨rfl, rfl, rfl, rfl, rfl, trivial⟩⟩
      rw [vq, d1, Nat.mul_comm 2, Nat.mul_assoc]
      congr 1
      conv => lhs; rw [show m = (m - 1) + 1 by omega, Nat.pow_succ, Nat.mul_comm]
  · have h0 : m = 0 := by omega
    subst h0
    rw [Nat.pow_zero, Nat.div_one] at vq vr
    rw [Nat.mul_one] at vq
    repeat (first
      | (refine L_cons ?_)
      | (refine R_cons rfl ?_)
      | (refine W_seq ?_)
      | (refine W_region (by kernel_rfl) ?_)
      | (refine L_nil ?_)
      | (refine R_nil ?_)
      | (refine W_block ?_)
      | (refine W_skip ?_)
      | (refine W_exit ?_)
      | (refine W_ret ?_)
      | (guard_target =~ thenQ _ _ _ _ _; first | (refine T_next ?_) | (refine T_exit ?_) | (refine T_ret ?_))
      | (guard_target =~ blockQ _ _ _ _ _; first | (refine B_next ?_) | (refine B_same ?_) | (refine B_other (by kernel_rfl) ?_) | (refine B_ret ?_))
      | (refine W_true rfl rfl ?_)
      | (refine W_false rfl rfl ?_)
      | (guard_target =~ WO _ _ (Oper.mk _ (Op.move _) _ _ _ none) _ _ _ _; first | (refine O_move (v := .int _ (Nat.cast (0 : Nat))) rfl ?_) | (refine O_move (v := (.int _ (Nat.cast _))) rfl ?_) | (refine O_move (v := (.bool _)) rfl ?_) | (refine O_move (v := (.pointer _)) rfl ?_) | (refine O_move (v := (.slice _ _ _)) rfl ?_) | (refine O_move (v := (.agg _)) rfl ?_) | (refine O_move (v := (.tuple _)) rfl ?_) | (refine O_move (v := (.int _ _)) rfl ?_))
      | (guard_target =~ WO _ _ (Oper.mk _ (Op.assign _) _ _ _ none) _ _ _ _; first | (refine O_assign (v := (.int _ (Nat.cast _))) rfl ?_) | (refine O_assign (v := (.bool _)) rfl ?_) | (refine O_assign (v := (.pointer _)) rfl ?_) | (refine O_assign (v := (.slice _ _ _)) rfl ?_) | (refine O_assign (v := (.agg _)) rfl ?_) | (refine O_assign (v := (.tuple _)) rfl ?_) | (refine O_assign (v := (.int _ _)) rfl ?_))
      | (guard_target =~ WO _ _ (Oper.mk _ (Op.call _) _ _ _ none) _ _ _ _; first | (refine O_len Samg.underlying134 rfl rfl ?_))
      | (guard_target =~ WO _ _ (Oper.mk _ (Op.binOp BinOp.eql _ _ _ _) _ _ _ none) _ _ _ _; first | (refine O_eql_t (b := 0) rfl rfl (by omega) ?_) | (refine O_eql_f (b := 0) rfl rfl (by omega) ?_) | (refine O_eql (b := 0) rfl rfl ?_))
      | (guard_target =~ WO _ _ (Oper.mk _ (Op.binOp BinOp.add _ _ _ _) _ _ _ none) _ _ _ _; first | (refine O_add (b := 1) rfl rfl (by first | exact fit_i64 (by omega) | exact fit_u64 (by omega) | exact fit_u8 (by omega) | exact fit_i32 (by omega) | exact fit_u16 (by omega) | exact fit_u32 (by omega)) ?_))
      | (guard_target =~ WO _ _ (Oper.mk _ (Op.binOp BinOp.mul _ _ _ _) _ _ _ none) _ _ _ _; first | (refine O_mul (a := 8) rfl rfl (by first | exact fit_i64 (by omega) | exact fit_u64 (by omega) | exact fit_u8 (by omega) | exact fit_i32 (by omega) | exact fit_u16 (by omega) | exact fit_u32 (by omega)) ?_))
      | (guard_target =~ WO _ _ (Oper.mk _ (Op.binOp BinOp.gtr _ _ _ _) _ _ _ none) _ _ _ _; first | (refine O_gtr_t (b := 0) rfl rfl (by omega) ?_) | (refine O_gtr_f (b := 0) rfl rfl (by omega) ?_) | (refine O_gtr (b := 0) rfl rfl ?_))
      | (guard_target =~ WO _ _ (Oper.mk _ (Op.binOp BinOp.sub _ _ _ _) _ _ _ none) _ _ _ _; first | (refine O_sub (b := 1) rfl rfl (by first | exact fit_i64 (by omega) | exact fit_u64 (by omega) | exact fit_u8 (by omega) | exact fit_i32 (by omega) | exact fit_u16 (by omega) | exact fit_u32 (by omega)) (by omega) ?_))
      | (guard_target =~ WO _ _ (Oper.mk _ (Op.binOp BinOp.quo _ _ _ _) _ _ _ none) _ _ _ _; first | (refine O_quo (b := 8) rfl rfl (by first | exact fit_i64 (by omega) | exact fit_u64 (by omega) | exact fit_u8 (by omega) | exact fit_i32 (by omega) | exact fit_u16 (by omega) | exact fit_u32 (by omega)) (by omega) ?_))
      | (guard_target =~ WO _ _ (Oper.mk _ (Op.binOp BinOp.rem _ _ _ _) _ _ _ none) _ _ _ _; first | (refine O_rem (b := 8) rfl rfl (by omega) ?_))
      | (guard_target =~ WO _ _ (Oper.mk _ (Op.convert 3 130 _) _ _ _ none) _ _ _ _; first | (refine O_conv Samg.underlying3 Samg.underlying130 rfl (by first | exact fit_i64 (by omega) | exact fit_u64 (by omega) | exact fit_u8 (by omega) | exact fit_i32 (by omega) | exact fit_u16 (by omega) | exact fit_u32 (by omega)) ?_))
      | (guard_target =~ WO _ _ (Oper.mk _ (Op.indexAddr 134 _ _) _ _ _ none) _ _ _ _; first | (refine O_index_s1 sl134 rfl rfl (by omega) ?_))
      | (guard_target =~ WO _ _ (Oper.mk _ (Op.binOp BinOp.shr _ _ _ _) _ _ _ none) _ _ _ _; first | (refine O_shr rfl rfl (by simp only [IntKind.bits]; omega) ?_) | (refine O_shr (b := 7) rfl rfl (by simp only [IntKind.bits]; omega) ?_))
      | (guard_target =~ WO _ _ (Oper.mk _ (Op.binOp BinOp.and _ _ _ _) _ _ _ none) _ _ _ _; first | (refine O_and (b := 1) rfl rfl rfl (by first | exact fit_i64 (by omega) | exact fit_u64 (by omega) | exact fit_u8 (by omega) | exact fit_i32 (by omega) | exact fit_u16 (by omega) | exact fit_u32 (by omega)) (by first | exact fit_i64 (by omega) | exact fit_u64 (by omega) | exact fit_u8 (by omega) | exact fit_i32 (by omega) | exact fit_u16 (by omega) | exact fit_u32 (by omega)) ?_))
      | (guard_target =~ WO _ _ (Oper.mk _ (Op.binOp BinOp.lss _ _ _ _) _ _ _ none) _ _ _ _; first | (refine O_lss_t rfl rfl (by omega) ?_) | (refine O_lss_f rfl rfl (by omega) ?_) | (refine O_lss rfl rfl ?_))
      | (guard_target =~ WO _ _ (Oper.mk _ (Op.binOp BinOp.shl _ _ _ _) _ _ _ none) _ _ _ _; first | (refine O_shl (b := 1) rfl rfl (by simp only [IntKind.bits]; omega) (by first | exact fit_i64 (by omega) | exact fit_u64 (by omega) | exact fit_u8 (by omega) | exact fit_i32 (by omega) | exact fit_u16 (by omega) | exact fit_u32 (by omega)) ?_) | (refine O_shl (a := 1) rfl rfl (by simp only [IntKind.bits]; omega) (by first | exact fit_i64 (by omega) | exact fit_u64 (by omega) | exact fit_u8 (by omega) | exact fit_i32 (by omega) | exact fit_u16 (by omega) | exact fit_u32 (by omega)) ?_))
      | (guard_target =~ WO _ _ (Oper.mk _ (Op.binOp BinOp.or _ _ _ _) _ _ _ none) _ _ _ _; first | (refine O_or rfl rfl rfl (by first | exact fit_i64 (by omega) | exact fit_u64 (by omega) | exact fit_u8 (by omega) | exact fit_i32 (by omega) | exact fit_u16 (by omega) | exact fit_u32 (by omega)) (by first | exact fit_i64 (by omega) | exact fit_u64 (by omega) | exact fit_u8 (by omega) | exact fit_i32 (by omega) | exact fit_u16 (by omega) | exact fit_u32 (by omega)) ?_))
      | (guard_target =~ WO _ _ (Oper.mk _ (Op.binOp BinOp.geq _ _ _ _) _ _ _ none) _ _ _ _; first | (refine O_geq_t (b := 0) rfl rfl (by omega) ?_) | (refine O_geq_f (b := 0) rfl rfl (by omega) ?_) | (refine O_geq (b := 0) rfl rfl ?_)))
    refine O_call (l := [.slice (some ⟨bq, 0, none⟩) k k]) cl126 (by rfl) ((clip_ok (NatV.ofBlk hBq dq vq) (by omega)).mono ?_)
    rintro v w6 ⟨rfl, hN1⟩
    refine ⟨nof, ?_⟩
    repeat (first
      | (refine L_cons ?_)
      | (refine R_cons rfl ?_)
      | (refine W_seq ?_)
      | (refine W_region (by kernel_rfl) ?_)
      | (refine L_nil ?_)
      | (refine R_nil ?_)
      | (refine W_block ?_)
      | (refine W_skip ?_)
      | (refine W_exit ?_)
      | (refine W_ret ?_)
      | (guard_target =~ thenQ _ _ _ _ _; first | (refine T_next ?_) | (refine T_exit ?_) | (refine T_ret ?_))
      | (guard_target =~ blockQ _ _ _ _ _; first | (refine B_next ?_) | (refine B_same ?_) | (refine B_other (by kernel_rfl) ?_) | (refine B_ret ?_))
      | (refine W_true rfl rfl ?_)
      | (refine W_false rfl rfl ?_)
      | (guard_target =~ WO _ _ (Oper.mk _ (Op.move _) _ _ _ none) _ _ _ _; first | (refine O_move (v := .int _ (Nat.cast (0 : Nat))) rfl ?_) | (refine O_move (v := (.int _ (Nat.cast _))) rfl ?_) | (refine O_move (v := (.bool _)) rfl ?_) | (refine O_move (v := (.pointer _)) rfl ?_) | (refine O_move (v := (.slice _ _ _)) rfl ?_) | (refine O_move (v := (.agg _)) rfl ?_) | (refine O_move (v := (.tuple _)) rfl ?_) | (refine O_move (v := (.int _ _)) rfl ?_))
      | (guard_target =~ WO _ _ (Oper.mk _ (Op.assign _) _ _ _ none) _ _ _ _; first | (refine O_assign (v := (.int _ (Nat.cast _))) rfl ?_) | (refine O_assign (v := (.bool _)) rfl ?_) | (refine O_assign (v := (.pointer _)) rfl ?_) | (refine O_assign (v := (.slice _ _ _)) rfl ?_) | (refine O_assign (v := (.agg _)) rfl ?_) | (refine O_assign (v := (.tuple _)) rfl ?_) | (refine O_assign (v := (.int _ _)) rfl ?_))
      | (guard_target =~ WO _ _ (Oper.mk _ (Op.call _) _ _ _ none) _ _ _ _; first | (refine O_len Samg.underlying134 rfl rfl ?_))
      | (guard_target =~ WO _ _ (Oper.mk _ (Op.binOp BinOp.eql _ _ _ _) _ _ _ none) _ _ _ _; first | (refine O_eql_t (b := 0) rfl rfl (by omega) ?_) | (refine O_eql_f (b := 0) rfl rfl (by omega) ?_) | (refine O_eql (b := 0) rfl rfl ?_))
      | (guard_target =~ WO _ _ (Oper.mk _ (Op.binOp BinOp.add _ _ _ _) _ _ _ none) _ _ _ _; first | (refine O_add (b := 1) rfl rfl (by first | exact fit_i64 (by omega) | exact fit_u64 (by omega) | exact fit_u8 (by omega) | exact fit_i32 (by omega) | exact fit_u16 (by omega) | exact fit_u32 (by omega)) ?_))
      | (guard_target =~ WO _ _ (Oper.mk _ (Op.binOp BinOp.mul _ _ _ _) _ _ _ none) _ _ _ _; first | (refine O_mul (a := 8) rfl rfl (by first | exact fit_i64 (by omega) | exact fit_u64 (by omega) | exact fit_u8 (by omega) | exact fit_i32 (by omega) | exact fit_u16 (by omega) | exact fit_u32 (by omega)) ?_))
      | (guard_target =~ WO _ _ (Oper.mk _ (Op.binOp BinOp.gtr _ _ _ _) _ _ _ none) _ _ _ _; first | (refine O_gtr_t (b := 0) rfl rfl (by omega) ?_) | (refine O_gtr_f (b := 0) rfl rfl (by omega) ?_) | (refine O_gtr (b := 0) rfl rfl ?_))
      | (guard_target =~ WO _ _ (Oper.mk _ (Op.binOp BinOp.sub _ _ _ _) _ _ _ none) _ _ _ _; first | (refine O_sub (b := 1) rfl rfl (by first | exact fit_i64 (by omega) | exact fit_u64 (by omega) | exact fit_u8 (by omega) | exact fit_i32 (by omega) | exact fit_u16 (by omega) | exact fit_u32 (by omega)) (by omega) ?_))
      | (guard_target =~ WO _ _ (Oper.mk _ (Op.binOp BinOp.quo _ _ _ _) _ _ _ none) _ _ _ _; first | (refine O_quo (b := 8) rfl rfl (by first | exact fit_i64 (by omega) | exact fit_u64 (by omega) | exact fit_u8 (by omega) | exact fit_i32 (by omega) | exact fit_u16 (by omega) | exact fit_u32 (by omega)) (by omega) ?_))
      | (guard_target =~ WO _ _ (Oper.mk _ (Op.binOp BinOp.rem _ _ _ _) _ _ _ none) _ _ _ _; first | (refine O_rem (b := 8) rfl rfl (by omega) ?_))
      | (guard_target =~ WO _ _ (Oper.mk _ (Op.convert 3 130 _) _ _ _ none) _ _ _ _; first | (refine O_conv Samg.underlying3 Samg.underlying130 rfl (by first | exact fit_i64 (by omega) | exact fit_u64 (by omega) | exact fit_u8 (by omega) | exact fit_i32 (by omega) | exact fit_u16 (by omega) | exact fit_u32 (by omega)) ?_))
      | (guard_target =~ WO _ _ (Oper.mk _ (Op.indexAddr 134 _ _) _ _ _ none) _ _ _ _; first | (refine O_index_s1 sl134 rfl rfl (by omega) ?_))
      | (guard_target =~ WO _ _ (Oper.mk _ (Op.binOp BinOp.shr _ _ _ _) _ _ _ none) _ _ _ _; first | (refine O_shr rfl rfl (by simp only [IntKind.bits]; omega) ?_) | (refine O_shr (b := 7) rfl rfl (by simp only [IntKind.bits]; omega) ?_))
      | (guard_target =~ WO _ _ (Oper.mk _ (Op.binOp BinOp.and _ _ _ _) _ _ _ none) _ _ _ _; first | (refine O_and (b := 1) rfl rfl rfl (by first | exact fit_i64 (by omega) | exact fit_u64 (by omega) | exact fit_u8 (by omega) | exact fit_i32 (by omega) | exact fit_u16 (by omega) | exact fit_u32 (by omega)) (by first | exact fit_i64 (by omega) | exact fit_u64 (by omega) | exact fit_u8 (by omega) | exact fit_i32 (by omega) | exact fit_u16 (by omega) | exact fit_u32 (by omega)) ?_))
      | (guard_target =~ WO _ _ (Oper.mk _ (Op.binOp BinOp.lss _ _ _ _) _ _ _ none) _ _ _ _; first | (refine O_lss_t rfl rfl (by omega) ?_) | (refine O_lss_f rfl rfl (by omega) ?_) | (refine O_lss rfl rfl ?_))
      | (guard_target =~ WO _ _ (Oper.mk _ (Op.binOp BinOp.shl _ _ _ _) _ _ _ none) _ _ _ _; first | (refine O_shl (b := 1) rfl rfl (by simp only [IntKind.bits]; omega) (by first | exact fit_i64 (by omega) | exact fit_u64 (by omega) | exact fit_u8 (by omega) | exact fit_i32 (by omega) | exact fit_u16 (by omega) | exact fit_u32 (by omega)) ?_) | (refine O_shl (a := 1) rfl rfl (by simp only [IntKind.bits]; omega) (by first | exact fit_i64 (by omega) | exact fit_u64 (by omega) | exact fit_u8 (by omega) | exact fit_i32 (by omega) | exact fit_u16 (by omega) | exact fit_u32 (by omega)) ?_))
      | (guard_target =~ WO _ _ (Oper.mk _ (Op.binOp BinOp.or _ _ _ _) _ _ _ none) _ _ _ _; first | (refine O_or rfl rfl rfl (by first | exact fit_i64 (by omega) | exact fit_u64 (by omega) | exact fit_u8 (by omega) | exact fit_i32 (by omega) | exact fit_u16 (by omega) | exact fit_u32 (by omega)) (by first | exact fit_i64 (by omega) | exact fit_u64 (by omega) | exact fit_u8 (by omega) | exact fit_i32 (by omega) | exact fit_u16 (by omega) | exact fit_u32 (by omega)) ?_))
      | (guard_target =~ WO _ _ (Oper.mk _ (Op.binOp BinOp.geq _ _ _ _) _ _ _ none) _ _ _ _; first | (refine O_geq_t (b := 0) rfl rfl (by omega) ?_) | (refine O_geq_f (b := 0) rfl rfl (by omega) ?_) | (refine O_geq (b := 0) rfl rfl ?_)))
    refine O_call (l := [.slice (some ⟨br, 0, none⟩) (k2 + 1) (k2 + 1)]) cl126 (by rfl) ((clip_ok (NatV.ofBlk hBr dr vr) (by omega)).mono ?_)
    rintro v2 w7 ⟨rfl, hN2⟩
    refine ⟨nof, ?_⟩
    repeat (first
      | (refine L_cons ?_)
      | (refine R_cons rfl ?_)
      | (refine W_seq ?_)
      | (refine W_region (by kernel_rfl) ?_)
      | (refine L_nil ?_)
      | (refine R_nil ?_)
      | (refine W_block ?_)
      | (refine W_skip ?_)
      | (refine W_exit ?_)
      | (refine W_ret ?_)
      | (guard_target =~ thenQ _ _ _ _ _; first | (refine T_next ?_) | (refine T_exit ?_) | (refine T_ret ?_))
      | (guard_target =~ blockQ _ _ _ _ _; first | (refine B_next ?_) | (refine B_same ?_) | (refine B_other (by kernel_rfl) ?_) | (refine B_ret ?_))
      | (refine W_true rfl rfl ?_)
      | (refine W_false rfl rfl ?_)
      | (guard_target =~ WO _ _ (Oper.mk _ (Op.assign _) _ _ _ none) _ _ _ _; first | (refine O_assign (v := v) rfl ?_) | (refine O_assign (v := v2) rfl ?_) | (refine O_assign (v := (.int _ (Nat.cast _))) rfl ?_) | (refine O_assign (v := (.bool _)) rfl ?_) | (refine O_assign (v := (.pointer _)) rfl ?_) | (refine O_assign (v := (.slice _ _ _)) rfl ?_) | (refine O_assign (v := (.agg _)) rfl ?_) | (refine O_assign (v := (.tuple _)) rfl ?_) | (refine O_assign (v := (.int _ _)) rfl ?_))
      | (guard_target =~ WO _ _ (Oper.mk _ (Op.move _) _ _ _ none) _ _ _ _; first | (refine O_move (v := .int _ (Nat.cast (0 : Nat))) rfl ?_) | (refine O_move (v := (.int _ (Nat.cast _))) rfl ?_) | (refine O_move (v := (.bool _)) rfl ?_) | (refine O_move (v := (.pointer _)) rfl ?_) | (refine O_move (v := (.slice _ _ _)) rfl ?_) | (refine O_move (v := (.agg _)) rfl ?_) | (refine O_move (v := (.tuple _)) rfl ?_) | (refine O_move (v := (.int _ _)) rfl ?_))
      | (guard_target =~ WO _ _ (Oper.mk _ (Op.call _) _ _ _ none) _ _ _ _; first | (refine O_len Samg.underlying134 rfl rfl ?_))
      | (guard_target =~ WO _ _ (Oper.mk _ (Op.binOp BinOp.eql _ _ _ _) _ _ _ none) _ _ _ _; first | (refine O_eql_t (b := 0) rfl rfl (by omega) ?_) | (refine O_eql_f (b := 0) rfl rfl (by omega) ?_) | (refine O_eql (b := 0) rfl rfl ?_))
      | (guard_target =~ WO _ _ (Oper.mk _ (Op.binOp BinOp.add _ _ _ _) _ _ _ none) _ _ _ _; first | (refine O_add (b := 1) rfl rfl (by first | exact fit_i64 (by omega) | exact fit_u64 (by omega) | exact fit_u8 (by omega) | exact fit_i32 (by omega) | exact fit_u16 (by omega) | exact fit_u32 (by omega)) ?_))
      | (guard_target =~ WO _ _ (Oper.mk _ (Op.binOp BinOp.mul _ _ _ _) _ _ _ none) _ _ _ _; first | (refine O_mul (a := 8) rfl rfl (by first | exact fit_i64 (by omega) | exact fit_u64 (by omega) | exact fit_u8 (by omega) | exact fit_i32 (by omega) | exact fit_u16 (by omega) | exact fit_u32 (by omega)) ?_))
      | (guard_target =~ WO _ _ (Oper.mk _ (Op.binOp BinOp.gtr _ _ _ _) _ _ _ none) _ _ _ _; first | (refine O_gtr_t (b := 0) rfl rfl (by omega) ?_) | (refine O_gtr_f (b := 0) rfl rfl (by omega) ?_) | (refine O_gtr (b := 0) rfl rfl ?_))
      | (guard_target =~ WO _ _ (Oper.mk _ (Op.binOp BinOp.sub _ _ _ _) _ _ _ none) _ _ _ _; first | (refine O_sub (b := 1) rfl rfl (by first | exact fit_i64 (by omega) | exact fit_u64 (by omega) | exact fit_u8 (by omega) | exact fit_i32 (by omega) | exact fit_u16 (by omega) | exact fit_u32 (by omega)) (by omega) ?_))
      | (guard_target =~ WO _ _ (Oper.mk _ (Op.binOp BinOp.quo _ _ _ _) _ _ _ none) _ _ _ _; first | (refine O_quo (b := 8) rfl rfl (by first | exact fit_i64 (by omega) | exact fit_u64 (by omega) | exact fit_u8 (by omega) | exact fit_i32 (by omega) | exact fit_u16 (by omega) | exact fit_u32 (by omega)) (by omega) ?_))
      | (guard_target =~ WO _ _ (Oper.mk _ (Op.binOp BinOp.rem _ _ _ _) _ _ _ none) _ _ _ _; first | (refine O_rem (b := 8) rfl rfl (by omega) ?_))
      | (guard_target =~ WO _ _ (Oper.mk _ (Op.convert 3 130 _) _ _ _ none) _ _ _ _; first | (refine O_conv Samg.underlying3 Samg.underlying130 rfl (by first | exact fit_i64 (by omega) | exact fit_u64 (by omega) | exact fit_u8 (by omega) | exact fit_i32 (by omega) | exact fit_u16 (by omega) | exact fit_u32 (by omega)) ?_))
      | (guard_target =~ WO _ _ (Oper.mk _ (Op.indexAddr 134 _ _) _ _ _ none) _ _ _ _; first | (refine O_index_s1 sl134 rfl rfl (by omega) ?_))
      | (guard_target =~ WO _ _ (Oper.mk _ (Op.binOp BinOp.shr _ _ _ _) _ _ _ none) _ _ _ _; first | (refine O_shr rfl rfl (by simp only [IntKind.bits]; omega) ?_) | (refine O_shr (b := 7) rfl rfl (by simp only [IntKind.bits]; omega) ?_))
      | (guard_target =~ WO _ _ (Oper.mk _ (Op.binOp BinOp.and _ _ _ _) _ _ _ none) _ _ _ _; first | (refine O_and (b := 1) rfl rfl rfl (by first | exact fit_i64 (by omega) | exact fit_u64 (by omega) | exact fit_u8 (by omega) | exact fit_i32 (by omega) | exact fit_u16 (by omega) | exact fit_u32 (by omega)) (by first | exact fit_i64 (by omega) | exact fit_u64 (by omega) | exact fit_u8 (by omega) | exact fit_i32 (by omega) | exact fit_u16 (by omega) | exact fit_u32 (by omega)) ?_))
      | (guard_target =~ WO _ _ (Oper.mk _ (Op.binOp BinOp.lss _ _ _ _) _ _ _ none) _ _ _ _; first | (refine O_lss_t rfl rfl (by omega) ?_) | (refine O_lss_f rfl rfl (by omega) ?_) | (refine O_lss rfl rfl ?_))
      | (guard_target =~ WO _ _ (Oper.mk _ (Op.binOp BinOp.shl _ _ _ _) _ _ _ none) _ _ _ _; first | (refine O_shl (b := 1) rfl rfl (by simp only [IntKind.bits]; omega) (by first | exact fit_i64 (by omega) | exact fit_u64 (by omega) | exact fit_u8 (by omega) | exact fit_i32 (by omega) | exact fit_u16 (by omega) | exact fit_u32 (by omega)) ?_) | (refine O_shl (a := 1) rfl rfl (by simp only [IntKind.bits]; omega) (by first | exact fit_i64 (by omega) | exact fit_u64 (by omega) | exact fit_u8 (by omega) | exact fit_i32 (by omega) | exact fit_u16 (by omega) | exact fit_u32 (by omega)) ?_))
      | (guard_target =~ WO _ _ (Oper.mk _ (Op.binOp BinOp.or _ _ _ _) _ _ _ none) _ _ _ _; first | (refine O_or rfl rfl rfl (by first | exact fit_i64 (by omega) | exact fit_u64 (by omega) | exact fit_u8 (by omega) | exact fit_i32 (by omega) | exact fit_u16 (by omega) | exact fit_u32 (by omega)) (by first | exact fit_i64 (by omega) | exact fit_u64 (by omega) | exact fit_u8 (by omega) | exact fit_i32 (by omega) | exact fit_u16 (by omega) | exact fit_u32 (by omega)) ?_))
      | (guard_target =~ WO _ _ (Oper.mk _ (Op.binOp BinOp.geq _ _ _ _) _ _ _ none) _ _ _ _; first | (refine O_geq_t (b := 0) rfl rfl (by omega) ?_) | (refine O_geq_f (b := 0) rfl rfl (by omega) ?_) | (refine O_geq (b := 0) rfl rfl ?_)))
    exact E_ret3 rfl rfl rfl rfl rfl rfl rfl ⟨hE5, v, v2, rfl, hN1.mono (by omega), hN2.mono (by omega)⟩
end Go.Proofs.Ygcsam
