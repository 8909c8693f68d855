/-
  NUMBERS AS LISTS OF BYTES: Pow2, FromU64, U64, limbsNat. Own work.
-/
import Derived.Test.YgcsamM2
namespace Go.Proofs.Ygcsam
set_option linter.unusedVariables false
set_option maxHeartbeats 1000000

theorem pow2_split (k : Nat) : 1 * 2 ^ (k % 8) % 256 = 2 ^ (k % 8) ∧ 2 ^ (k % 8) * 256 ^ (k / 8) = 2 ^ k := by
  constructor
  · rw [Nat.one_mul]
    refine Nat.mod_eq_of_lt ?_
    have : 2 ^ (k % 8) ≤ 2 ^ 7 := Nat.pow_le_pow_right (by omega) (by omega)
    omega
  · rw [show (256 : Nat) = 2 ^ 8 by rfl, ← Nat.pow_mul, ← Nat.pow_add]
    congr 1
    omega

theorem natPow2_ok {k : Nat} (hk : k < 65536) (w : World) : Ret Samg.prog 74 #[.int .u16 (k : Nat)] w fun v w' => Ext w w' ∧ NatV w' v (2 ^ k) (k / 8 + 1) := by
  refine W_enter (l := [.int .u16 (k : Nat)]) Samg.func74 rfl Samg.ntmps74 rfl ?_
  repeat (first
    | (refine L_cons ?_)
    | (refine R_cons rfl ?_)
    | (refine W_seq ?_)
    | (refine W_region (by kernel_rfl) ?_)
    | (refine L_nil ?_)
    | (refine R_nil ?_)
    | (refine W_block ?_)
    | (refine W_skip ?_)
    | (refine W_exit ?_)
    | (refine W_ret ?_)
    | (guard_target =~ thenQ _ _ _ _ _; first | (refine T_next ?_) | (refine T_exit ?_) | (refine T_ret ?_))
    | (guard_target =~ blockQ _ _ _ _ _; first | (refine B_next ?_) | (refine B_same ?_) | (refine B_other (by kernel_rfl) ?_) | (refine B_ret ?_))
    | (refine W_true rfl rfl ?_)
    | (refine W_false rfl rfl ?_)
    | (guard_target =~ WO _ _ (Oper.mk _ (Op.assign _) _ _ _ none) _ _ _ _; first | (refine O_assign (v := .slice _ _ _) rfl ?_) | (refine O_assign (v := (.int _ (Nat.cast _))) rfl ?_) | (refine O_assign (v := (.bool _)) rfl ?_) | (refine O_assign (v := (.pointer _)) rfl ?_) | (refine O_assign (v := (.slice _ _ _)) rfl ?_) | (refine O_assign (v := (.agg _)) rfl ?_) | (refine O_assign (v := (.tuple _)) rfl ?_) | (refine O_assign (v := (.int _ _)) rfl ?_))
    | (guard_target =~ WO _ _ (Oper.mk _ (Op.move _) _ _ _ none) _ _ _ _; first | (refine O_move (v := (.int _ (Nat.cast _))) rfl ?_) | (refine O_move (v := (.bool _)) rfl ?_) | (refine O_move (v := (.pointer _)) rfl ?_) | (refine O_move (v := (.slice _ _ _)) rfl ?_) | (refine O_move (v := (.agg _)) rfl ?_) | (refine O_move (v := (.tuple _)) rfl ?_) | (refine O_move (v := (.int _ _)) rfl ?_))
    | (guard_target =~ WO _ _ (Oper.mk _ (Op.binOp BinOp.quo _ _ _ _) _ _ _ none) _ _ _ _; first | (refine O_quo (b := 8) rfl rfl (by first | exact fit_i64 (by omega) | exact fit_u64 (by omega) | exact fit_u8 (by omega) | exact fit_i32 (by omega) | exact fit_u16 (by omega)) (by omega) ?_))
    | (guard_target =~ WO _ _ (Oper.mk _ (Op.convert 22 3 _) _ _ _ none) _ _ _ _; first | (refine O_conv Samg.underlying22 Samg.underlying3 rfl (by first | exact fit_i64 (by omega) | exact fit_u64 (by omega) | exact fit_u8 (by omega) | exact fit_i32 (by omega) | exact fit_u16 (by omega)) ?_))
    | (guard_target =~ WO _ _ (Oper.mk _ (Op.binOp BinOp.add _ _ _ _) _ _ _ none) _ _ _ _; first | (refine O_add (b := 1) rfl rfl (by first | exact fit_i64 (by omega) | exact fit_u64 (by omega) | exact fit_u8 (by omega) | exact fit_i32 (by omega) | exact fit_u16 (by omega)) ?_))
    | (guard_target =~ WO _ _ (Oper.mk _ (Op.binOp BinOp.rem _ _ _ _) _ _ _ none) _ _ _ _; first | (refine O_rem (b := 8) rfl rfl (by omega) ?_))
    | (guard_target =~ WO _ _ (Oper.mk _ (Op.binOp BinOp.shl _ _ _ _) _ _ _ none) _ _ _ _; first | (refine O_shl (a := 1) rfl rfl (by simp only [IntKind.bits]; omega) (by first | exact fit_i64 (by omega) | exact fit_u64 (by omega) | exact fit_u8 (by omega) | exact fit_i32 (by omega) | exact fit_u16 (by omega)) ?_))
    | (guard_target =~ WO _ _ (Oper.mk _ (Op.indexAddr 134 _ _) _ _ _ none) _ _ _ _; first | (refine O_index_s1 sl134 rfl rfl (by omega) ?_)))
  refine O_makeB sl134 by5 z5 rfl rfl (by omega) fun w2 hE hs hB => ?_
  repeat (first
    | (refine L_cons ?_)
    | (refine R_cons rfl ?_)
    | (refine W_seq ?_)
    | (refine W_region (by kernel_rfl) ?_)
    | (refine L_nil ?_)
    | (refine R_nil ?_)
    | (refine W_block ?_)
    | (refine W_skip ?_)
    | (refine W_exit ?_)
    | (refine W_ret ?_)
    | (guard_target =~ thenQ _ _ _ _ _; first | (refine T_next ?_) | (refine T_exit ?_) | (refine T_ret ?_))
    | (guard_target =~ blockQ _ _ _ _ _; first | (refine B_next ?_) | (refine B_same ?_) | (refine B_other (by kernel_rfl) ?_) | (refine B_ret ?_))
    | (refine W_true rfl rfl ?_)
    | (refine W_false rfl rfl ?_)
    | (guard_target =~ WO _ _ (Oper.mk _ (Op.binOp BinOp.shl _ _ _ _) _ _ _ none) _ _ _ _; first | (refine O_shlw8 (a := 1) rfl rfl (by omega) ?_) | (refine O_shl (a := 1) rfl rfl (by simp only [IntKind.bits]; omega) (by first | exact fit_i64 (by omega) | exact fit_u64 (by omega) | exact fit_u8 (by omega) | exact fit_i32 (by omega) | exact fit_u16 (by omega)) ?_))
    | (guard_target =~ WO _ _ (Oper.mk _ (Op.assign _) _ _ _ none) _ _ _ _; first | (refine O_assign (v := (.int _ (Nat.cast _))) rfl ?_) | (refine O_assign (v := (.bool _)) rfl ?_) | (refine O_assign (v := (.pointer _)) rfl ?_) | (refine O_assign (v := (.slice _ _ _)) rfl ?_) | (refine O_assign (v := (.agg _)) rfl ?_) | (refine O_assign (v := (.tuple _)) rfl ?_) | (refine O_assign (v := (.int _ _)) rfl ?_))
    | (guard_target =~ WO _ _ (Oper.mk _ (Op.move _) _ _ _ none) _ _ _ _; first | (refine O_move (v := (.int _ (Nat.cast _))) rfl ?_) | (refine O_move (v := (.bool _)) rfl ?_) | (refine O_move (v := (.pointer _)) rfl ?_) | (refine O_move (v := (.slice _ _ _)) rfl ?_) | (refine O_move (v := (.agg _)) rfl ?_) | (refine O_move (v := (.tuple _)) rfl ?_) | (refine O_move (v := (.int _ _)) rfl ?_))
    | (guard_target =~ WO _ _ (Oper.mk _ (Op.binOp BinOp.quo _ _ _ _) _ _ _ none) _ _ _ _; first | (refine O_quo (b := 8) rfl rfl (by first | exact fit_i64 (by omega) | exact fit_u64 (by omega) | exact fit_u8 (by omega) | exact fit_i32 (by omega) | exact fit_u16 (by omega)) (by omega) ?_))
    | (guard_target =~ WO _ _ (Oper.mk _ (Op.convert 22 3 _) _ _ _ none) _ _ _ _; first | (refine O_conv Samg.underlying22 Samg.underlying3 rfl (by first | exact fit_i64 (by omega) | exact fit_u64 (by omega) | exact fit_u8 (by omega) | exact fit_i32 (by omega) | exact fit_u16 (by omega)) ?_))
    | (guard_target =~ WO _ _ (Oper.mk _ (Op.binOp BinOp.add _ _ _ _) _ _ _ none) _ _ _ _; first | (refine O_add (b := 1) rfl rfl (by first | exact fit_i64 (by omega) | exact fit_u64 (by omega) | exact fit_u8 (by omega) | exact fit_i32 (by omega) | exact fit_u16 (by omega)) ?_))
    | (guard_target =~ WO _ _ (Oper.mk _ (Op.binOp BinOp.rem _ _ _ _) _ _ _ none) _ _ _ _; first | (refine O_rem (b := 8) rfl rfl (by omega) ?_))
    | (guard_target =~ WO _ _ (Oper.mk _ (Op.indexAddr 134 _ _) _ _ _ none) _ _ _ _; first | (refine O_index_s1 sl134 rfl rfl (by omega) ?_)))
  obtain ⟨p1, p2⟩ := pow2_split k
  rw [p1]
  refine O_store_ns on5 rfl rfl hB (by omega) rfl fun w3 hU => ?_
  repeat (first
    | (refine L_cons ?_)
    | (refine R_cons rfl ?_)
    | (refine W_seq ?_)
    | (refine W_region (by kernel_rfl) ?_)
    | (refine L_nil ?_)
    | (refine R_nil ?_)
    | (refine W_block ?_)
    | (refine W_skip ?_)
    | (refine W_exit ?_)
    | (refine W_ret ?_)
    | (guard_target =~ thenQ _ _ _ _ _; first | (refine T_next ?_) | (refine T_exit ?_) | (refine T_ret ?_))
    | (guard_target =~ blockQ _ _ _ _ _; first | (refine B_next ?_) | (refine B_same ?_) | (refine B_other (by kernel_rfl) ?_) | (refine B_ret ?_))
    | (refine W_true rfl rfl ?_)
    | (refine W_false rfl rfl ?_)
    | (guard_target =~ WO _ _ (Oper.mk _ (Op.assign _) _ _ _ none) _ _ _ _; first | (refine O_assign (v := (.int _ (Nat.cast _))) rfl ?_) | (refine O_assign (v := (.bool _)) rfl ?_) | (refine O_assign (v := (.pointer _)) rfl ?_) | (refine O_assign (v := (.slice _ _ _)) rfl ?_) | (refine O_assign (v := (.agg _)) rfl ?_) | (refine O_assign (v := (.tuple _)) rfl ?_) | (refine O_assign (v := (.int _ _)) rfl ?_))
    | (guard_target =~ WO _ _ (Oper.mk _ (Op.move _) _ _ _ none) _ _ _ _; first | (refine O_move (v := (.int _ (Nat.cast _))) rfl ?_) | (refine O_move (v := (.bool _)) rfl ?_) | (refine O_move (v := (.pointer _)) rfl ?_) | (refine O_move (v := (.slice _ _ _)) rfl ?_) | (refine O_move (v := (.agg _)) rfl ?_) | (refine O_move (v := (.tuple _)) rfl ?_) | (refine O_move (v := (.int _ _)) rfl ?_))
    | (guard_target =~ WO _ _ (Oper.mk _ (Op.binOp BinOp.quo _ _ _ _) _ _ _ none) _ _ _ _; first | (refine O_quo (b := 8) rfl rfl (by first | exact fit_i64 (by omega) | exact fit_u64 (by omega) | exact fit_u8 (by omega) | exact fit_i32 (by omega) | exact fit_u16 (by omega)) (by omega) ?_))
    | (guard_target =~ WO _ _ (Oper.mk _ (Op.convert 22 3 _) _ _ _ none) _ _ _ _; first | (refine O_conv Samg.underlying22 Samg.underlying3 rfl (by first | exact fit_i64 (by omega) | exact fit_u64 (by omega) | exact fit_u8 (by omega) | exact fit_i32 (by omega) | exact fit_u16 (by omega)) ?_))
    | (guard_target =~ WO _ _ (Oper.mk _ (Op.binOp BinOp.add _ _ _ _) _ _ _ none) _ _ _ _; first | (refine O_add (b := 1) rfl rfl (by first | exact fit_i64 (by omega) | exact fit_u64 (by omega) | exact fit_u8 (by omega) | exact fit_i32 (by omega) | exact fit_u16 (by omega)) ?_))
    | (guard_target =~ WO _ _ (Oper.mk _ (Op.binOp BinOp.rem _ _ _ _) _ _ _ none) _ _ _ _; first | (refine O_rem (b := 8) rfl rfl (by omega) ?_))
    | (guard_target =~ WO _ _ (Oper.mk _ (Op.binOp BinOp.shl _ _ _ _) _ _ _ none) _ _ _ _; first | (refine O_shl (a := 1) rfl rfl (by simp only [IntKind.bits]; omega) (by first | exact fit_i64 (by omega) | exact fit_u64 (by omega) | exact fit_u8 (by omega) | exact fit_i32 (by omega) | exact fit_u16 (by omega)) ?_))
    | (guard_target =~ WO _ _ (Oper.mk _ (Op.indexAddr 134 _ _) _ _ _ none) _ _ _ _; first | (refine O_index_s1 sl134 rfl rfl (by omega) ?_)))
  refine E_ret rfl rfl rfl ⟨hE.new hU (Nat.le_refl _), NatV.ofBlk hU.here (fun i hi => ?_) ?_⟩
  · unfold upn
    split
    · have : 2 ^ (k % 8) ≤ 2 ^ 7 := Nat.pow_le_pow_right (by omega) (by omega)
      omega
    · show (0 : Nat) < 256
      omega
  · rw [Nat.zero_add, val_upn_top, val_zeros fun _ _ => rfl, Nat.zero_add, p2]

theorem z206 : zeroT Samg.prog 206 (.agg (ns .u8 8 fun _ => 0)) := by unfold zeroT; kernel_rfl
theorem fromU64_ok {x : Nat} (hx : x < 18446744073709551616) (w : World) : Ret Samg.prog 107 #[.int .u64 ((x : Nat) : Int)] w fun v w' => Ext w w' ∧ NatV w' v x 8 := by
  refine W_enter (l := [.int .u64 ((x : Nat) : Int)]) Samg.func107 rfl Samg.ntmps107 rfl ?_
  repeat (first
    | (refine L_cons ?_)
    | (refine R_cons rfl ?_)
    | (refine W_seq ?_)
    | (refine W_region (by kernel_rfl) ?_)
    | (refine L_nil ?_)
    | (refine R_nil ?_)
    | (refine W_block ?_)
    | (refine W_skip ?_)
    | (refine W_exit ?_)
    | (refine W_ret ?_)
    | (guard_target =~ thenQ _ _ _ _ _; first | (refine T_next ?_) | (refine T_exit ?_) | (refine T_ret ?_))
    | (guard_target =~ blockQ _ _ _ _ _; first | (refine B_next ?_) | (refine B_same ?_) | (refine B_other (by kernel_rfl) ?_) | (refine B_ret ?_))
    | (refine W_true rfl rfl ?_)
    | (refine W_false rfl rfl ?_)
    | (guard_target =~ WO _ _ (Oper.mk _ (Op.assign _) _ _ _ none) _ _ _ _; first | (refine O_assign (v := .slice _ _ _) rfl ?_) | (refine O_assign (v := (.int _ (Nat.cast _))) rfl ?_) | (refine O_assign (v := (.bool _)) rfl ?_) | (refine O_assign (v := (.pointer _)) rfl ?_) | (refine O_assign (v := (.slice _ _ _)) rfl ?_) | (refine O_assign (v := (.agg _)) rfl ?_) | (refine O_assign (v := (.tuple _)) rfl ?_) | (refine O_assign (v := (.int _ _)) rfl ?_))
    | (guard_target =~ WO _ _ (Oper.mk _ (Op.move _) _ _ _ none) _ _ _ _; first | (refine O_move (v := .int _ (Nat.cast (0 : Nat))) rfl ?_) | (refine O_move (v := (.int _ (Nat.cast _))) rfl ?_) | (refine O_move (v := (.bool _)) rfl ?_) | (refine O_move (v := (.pointer _)) rfl ?_) | (refine O_move (v := (.slice _ _ _)) rfl ?_) | (refine O_move (v := (.agg _)) rfl ?_) | (refine O_move (v := (.tuple _)) rfl ?_) | (refine O_move (v := (.int _ _)) rfl ?_))
    | (guard_target =~ WO _ _ (Oper.mk _ (Op.binOp BinOp.lss _ _ _ _) _ _ _ none) _ _ _ _; first | (refine O_lss_t (b := 8) rfl rfl (by omega) ?_) | (refine O_lss_f (b := 8) rfl rfl (by omega) ?_) | (refine O_lss (b := 8) rfl rfl ?_))
    | (guard_target =~ WO _ _ (Oper.mk _ (Op.convert 27 5 _) _ _ _ none) _ _ _ _; first | (refine O_conv Samg.underlying27 Samg.underlying5 rfl (by first | exact fit_i64 (by omega) | exact fit_u64 (by omega) | exact fit_u8 (by omega) | exact fit_i32 (by omega) | exact fit_u16 (by omega)) ?_))
    | (guard_target =~ WO _ _ (Oper.mk _ (Op.indexAddr 206 _ _) _ _ _ none) _ _ _ _; first | (refine O_index1 ar206 rfl rfl (by omega) ?_))
    | (guard_target =~ WO _ _ (Oper.mk _ (Op.binOp BinOp.shr _ _ _ _) _ _ _ none) _ _ _ _; first | (refine O_shr (b := 8) rfl rfl (by simp only [IntKind.bits]; omega) ?_))
    | (guard_target =~ WO _ _ (Oper.mk _ (Op.binOp BinOp.add _ _ _ _) _ _ _ none) _ _ _ _; first | (refine O_add (b := 1) rfl rfl (by first | exact fit_i64 (by omega) | exact fit_u64 (by omega) | exact fit_u8 (by omega) | exact fit_i32 (by omega) | exact fit_u16 (by omega)) ?_))
    | (guard_target =~ WO _ _ (Oper.mk _ (Op.slice 206 _ none none none) _ _ _ none) _ _ _ _; first | (refine O_slice_a ar206 rfl rfl rfl rfl (fun h => by cases h) (by omega) (by omega) (by omega) ?_)))
  refine O_alloc_agg z206 fun w2 hE hs hB => ?_
  repeat (first
    | (refine L_cons ?_)
    | (refine R_cons rfl ?_)
    | (refine W_seq ?_)
    | (refine W_region (by kernel_rfl) ?_)
    | (refine L_nil ?_)
    | (refine R_nil ?_)
    | (refine W_block ?_)
    | (refine W_skip ?_)
    | (refine W_exit ?_)
    | (refine W_ret ?_)
    | (guard_target =~ thenQ _ _ _ _ _; first | (refine T_next ?_) | (refine T_exit ?_) | (refine T_ret ?_))
    | (guard_target =~ blockQ _ _ _ _ _; first | (refine B_next ?_) | (refine B_same ?_) | (refine B_other (by kernel_rfl) ?_) | (refine B_ret ?_))
    | (refine W_true rfl rfl ?_)
    | (refine W_false rfl rfl ?_)
    | (guard_target =~ WO _ _ (Oper.mk _ (Op.move _) _ _ _ none) _ _ _ _; first | (refine O_move (v := .int _ (Nat.cast (0 : Nat))) rfl ?_) | (refine O_move (v := (.int _ (Nat.cast _))) rfl ?_) | (refine O_move (v := (.bool _)) rfl ?_) | (refine O_move (v := (.pointer _)) rfl ?_) | (refine O_move (v := (.slice _ _ _)) rfl ?_) | (refine O_move (v := (.agg _)) rfl ?_) | (refine O_move (v := (.tuple _)) rfl ?_) | (refine O_move (v := (.int _ _)) rfl ?_))
    | (guard_target =~ WO _ _ (Oper.mk _ (Op.assign _) _ _ _ none) _ _ _ _; first | (refine O_assign (v := (.int _ (Nat.cast _))) rfl ?_) | (refine O_assign (v := (.bool _)) rfl ?_) | (refine O_assign (v := (.pointer _)) rfl ?_) | (refine O_assign (v := (.slice _ _ _)) rfl ?_) | (refine O_assign (v := (.agg _)) rfl ?_) | (refine O_assign (v := (.tuple _)) rfl ?_) | (refine O_assign (v := (.int _ _)) rfl ?_))
    | (guard_target =~ WO _ _ (Oper.mk _ (Op.binOp BinOp.lss _ _ _ _) _ _ _ none) _ _ _ _; first | (refine O_lss_t (b := 8) rfl rfl (by omega) ?_) | (refine O_lss_f (b := 8) rfl rfl (by omega) ?_) | (refine O_lss (b := 8) rfl rfl ?_))
    | (guard_target =~ WO _ _ (Oper.mk _ (Op.convert 27 5 _) _ _ _ none) _ _ _ _; first | (refine O_conv Samg.underlying27 Samg.underlying5 rfl (by first | exact fit_i64 (by omega) | exact fit_u64 (by omega) | exact fit_u8 (by omega) | exact fit_i32 (by omega) | exact fit_u16 (by omega)) ?_))
    | (guard_target =~ WO _ _ (Oper.mk _ (Op.indexAddr 206 _ _) _ _ _ none) _ _ _ _; first | (refine O_index1 ar206 rfl rfl (by omega) ?_))
    | (guard_target =~ WO _ _ (Oper.mk _ (Op.binOp BinOp.shr _ _ _ _) _ _ _ none) _ _ _ _; first | (refine O_shr (b := 8) rfl rfl (by simp only [IntKind.bits]; omega) ?_))
    | (guard_target =~ WO _ _ (Oper.mk _ (Op.binOp BinOp.add _ _ _ _) _ _ _ none) _ _ _ _; first | (refine O_add (b := 1) rfl rfl (by first | exact fit_i64 (by omega) | exact fit_u64 (by omega) | exact fit_u8 (by omega) | exact fit_i32 (by omega) | exact fit_u16 (by omega)) ?_))
    | (guard_target =~ WO _ _ (Oper.mk _ (Op.slice 206 _ none none none) _ _ _ none) _ _ _ _; first | (refine O_slice_a ar206 rfl rfl rfl rfl (fun h => by cases h) (by omega) (by omega) (by omega) ?_)))
  refine W_loop (fun m ρ w' => Ext w w' ∧ ∃ i h, m = 8 - i ∧ i ≤ 8 ∧ Blk w' w.heap.size (ns .u8 8 h) 206 ∧ (∀ q, q < i → h q = x / 256 ^ q % 256) ∧ Has ρ [(0, .int .u64 ((x / 256 ^ i : Nat) : Int)), (3, .pointer (some ⟨w.heap.size, 0, none⟩)), (5, .int .i64 (i : Nat))]) 8 ?_ ?_
  · refine ⟨hE, 0, _, rfl, Nat.zero_le _, hB, fun q hq => by omega, Has.mk ⟨?_, rfl, rfl, trivial⟩⟩
    rw [Nat.pow_zero, Nat.div_one]; rfl
  rintro m ρ w3 ⟨hE3, i, h, rfl, hi, hB3, hh, σ, rfl⟩
  by_cases h8 : i < 8
  · repeat (first
      | (refine L_cons ?_)
      | (refine R_cons rfl ?_)
      | (refine W_seq ?_)
      | (refine W_region (by kernel_rfl) ?_)
      | (refine L_nil ?_)
      | (refine R_nil ?_)
      | (refine W_block ?_)
      | (refine W_skip ?_)
      | (refine W_exit ?_)
      | (refine W_ret ?_)
      | (guard_target =~ thenQ _ _ _ _ _; first | (refine T_next ?_) | (refine T_exit ?_) | (refine T_ret ?_))
      | (guard_target =~ blockQ _ _ _ _ _; first | (refine B_next ?_) | (refine B_same ?_) | (refine B_other (by kernel_rfl) ?_) | (refine B_ret ?_))
      | (refine W_true rfl rfl ?_)
      | (refine W_false rfl rfl ?_)
      | (guard_target =~ WO _ _ (Oper.mk _ (Op.convert _ _ _) _ _ _ none) _ _ _ _; first | (refine O_convw8 Samg.underlying27 Samg.underlying5 rfl ?_))
      | (guard_target =~ WO _ _ (Oper.mk _ (Op.move _) _ _ _ none) _ _ _ _; first | (refine O_move (v := .int _ (Nat.cast (0 : Nat))) rfl ?_) | (refine O_move (v := (.int _ (Nat.cast _))) rfl ?_) | (refine O_move (v := (.bool _)) rfl ?_) | (refine O_move (v := (.pointer _)) rfl ?_) | (refine O_move (v := (.slice _ _ _)) rfl ?_) | (refine O_move (v := (.agg _)) rfl ?_) | (refine O_move (v := (.tuple _)) rfl ?_) | (refine O_move (v := (.int _ _)) rfl ?_))
      | (guard_target =~ WO _ _ (Oper.mk _ (Op.assign _) _ _ _ none) _ _ _ _; first | (refine O_assign (v := (.int _ (Nat.cast _))) rfl ?_) | (refine O_assign (v := (.bool _)) rfl ?_) | (refine O_assign (v := (.pointer _)) rfl ?_) | (refine O_assign (v := (.slice _ _ _)) rfl ?_) | (refine O_assign (v := (.agg _)) rfl ?_) | (refine O_assign (v := (.tuple _)) rfl ?_) | (refine O_assign (v := (.int _ _)) rfl ?_))
      | (guard_target =~ WO _ _ (Oper.mk _ (Op.binOp BinOp.lss _ _ _ _) _ _ _ none) _ _ _ _; first | (refine O_lss_t (b := 8) rfl rfl (by omega) ?_) | (refine O_lss_f (b := 8) rfl rfl (by omega) ?_) | (refine O_lss (b := 8) rfl rfl ?_))
      | (guard_target =~ WO _ _ (Oper.mk _ (Op.convert 27 5 _) _ _ _ none) _ _ _ _; first | (refine O_conv Samg.underlying27 Samg.underlying5 rfl (by first | exact fit_i64 (by omega) | exact fit_u64 (by omega) | exact fit_u8 (by omega) | exact fit_i32 (by omega) | exact fit_u16 (by omega)) ?_))
      | (guard_target =~ WO _ _ (Oper.mk _ (Op.indexAddr 206 _ _) _ _ _ none) _ _ _ _; first | (refine O_index1 ar206 rfl rfl (by omega) ?_))
      | (guard_target =~ WO _ _ (Oper.mk _ (Op.binOp BinOp.shr _ _ _ _) _ _ _ none) _ _ _ _; first | (refine O_shr (b := 8) rfl rfl (by simp only [IntKind.bits]; omega) ?_))
      | (guard_target =~ WO _ _ (Oper.mk _ (Op.binOp BinOp.add _ _ _ _) _ _ _ none) _ _ _ _; first | (refine O_add (b := 1) rfl rfl (by first | exact fit_i64 (by omega) | exact fit_u64 (by omega) | exact fit_u8 (by omega) | exact fit_i32 (by omega) | exact fit_u16 (by omega)) ?_))
      | (guard_target =~ WO _ _ (Oper.mk _ (Op.slice 206 _ none none none) _ _ _ none) _ _ _ _; first | (refine O_slice_a ar206 rfl rfl rfl rfl (fun h => by cases h) (by omega) (by omega) (by omega) ?_)))
    refine O_store_ns on5 rfl rfl hB3 (by omega) rfl fun w4 hU => ?_
    repeat (first
      | (refine L_cons ?_)
      | (refine R_cons rfl ?_)
      | (refine W_seq ?_)
      | (refine W_region (by kernel_rfl) ?_)
      | (refine L_nil ?_)
      | (refine R_nil ?_)
      | (refine W_block ?_)
      | (refine W_skip ?_)
      | (refine W_exit ?_)
      | (refine W_ret ?_)
      | (guard_target =~ thenQ _ _ _ _ _; first | (refine T_next ?_) | (refine T_exit ?_) | (refine T_ret ?_))
      | (guard_target =~ blockQ _ _ _ _ _; first | (refine B_next ?_) | (refine B_same ?_) | (refine B_other (by kernel_rfl) ?_) | (refine B_ret ?_))
      | (refine W_true rfl rfl ?_)
      | (refine W_false rfl rfl ?_)
      | (guard_target =~ WO _ _ (Oper.mk _ (Op.binOp BinOp.shr _ _ _ _) _ _ _ none) _ _ _ _; first | (refine O_shrd (b := 8) 256 rfl rfl (by decide) rfl ?_) | (refine O_shr (b := 8) rfl rfl (by simp only [IntKind.bits]; omega) ?_))
      | (guard_target =~ WO _ _ (Oper.mk _ (Op.move _) _ _ _ none) _ _ _ _; first | (refine O_move (v := .int _ (Nat.cast (0 : Nat))) rfl ?_) | (refine O_move (v := (.int _ (Nat.cast _))) rfl ?_) | (refine O_move (v := (.bool _)) rfl ?_) | (refine O_move (v := (.pointer _)) rfl ?_) | (refine O_move (v := (.slice _ _ _)) rfl ?_) | (refine O_move (v := (.agg _)) rfl ?_) | (refine O_move (v := (.tuple _)) rfl ?_) | (refine O_move (v := (.int _ _)) rfl ?_))
      | (guard_target =~ WO _ _ (Oper.mk _ (Op.assign _) _ _ _ none) _ _ _ _; first | (refine O_assign (v := (.int _ (Nat.cast _))) rfl ?_) | (refine O_assign (v := (.bool _)) rfl ?_) | (refine O_assign (v := (.pointer _)) rfl ?_) | (refine O_assign (v := (.slice _ _ _)) rfl ?_) | (refine O_assign (v := (.agg _)) rfl ?_) | (refine O_assign (v := (.tuple _)) rfl ?_) | (refine O_assign (v := (.int _ _)) rfl ?_))
      | (guard_target =~ WO _ _ (Oper.mk _ (Op.binOp BinOp.lss _ _ _ _) _ _ _ none) _ _ _ _; first | (refine O_lss_t (b := 8) rfl rfl (by omega) ?_) | (refine O_lss_f (b := 8) rfl rfl (by omega) ?_) | (refine O_lss (b := 8) rfl rfl ?_))
      | (guard_target =~ WO _ _ (Oper.mk _ (Op.convert 27 5 _) _ _ _ none) _ _ _ _; first | (refine O_conv Samg.underlying27 Samg.underlying5 rfl (by first | exact fit_i64 (by omega) | exact fit_u64 (by omega) | exact fit_u8 (by omega) | exact fit_i32 (by omega) | exact fit_u16 (by omega)) ?_))
      | (guard_target =~ WO _ _ (Oper.mk _ (Op.indexAddr 206 _ _) _ _ _ none) _ _ _ _; first | (refine O_index1 ar206 rfl rfl (by omega) ?_))
      | (guard_target =~ WO _ _ (Oper.mk _ (Op.binOp BinOp.add _ _ _ _) _ _ _ none) _ _ _ _; first | (refine O_add (b := 1) rfl rfl (by first | exact fit_i64 (by omega) | exact fit_u64 (by omega) | exact fit_u8 (by omega) | exact fit_i32 (by omega) | exact fit_u16 (by omega)) ?_))
      | (guard_target =~ WO _ _ (Oper.mk _ (Op.slice 206 _ none none none) _ _ _ none) _ _ _ _; first | (refine O_slice_a ar206 rfl rfl rfl rfl (fun h => by cases h) (by omega) (by omega) (by omega) ?_)))
    refine ⟨8 - (i + 1), by omega, hE3.new hU (Nat.le_refl _), i + 1, _, rfl, by omega, hU.here, fun q hq => ?_, Has.mk ⟨?_, rfl, rfl, trivial⟩⟩
    · unfold upn
      split
      · rename_i hq2
        rw [show q = i by omega]
      · exact hh q (by omega)
    · rw [Nat.pow_succ, ← Nat.div_div_eq_div_mul]; rfl
  · have h8 : i = 8 := by omega
    subst h8
    repeat (first
      | (refine L_cons ?_)
      | (refine R_cons rfl ?_)
      | (refine W_seq ?_)
      | (refine W_region (by kernel_rfl) ?_)
      | (refine L_nil ?_)
      | (refine R_nil ?_)
      | (refine W_block ?_)
      | (refine W_skip ?_)
      | (refine W_exit ?_)
      | (refine W_ret ?_)
      | (guard_target =~ thenQ _ _ _ _ _; first | (refine T_next ?_) | (refine T_exit ?_) | (refine T_ret ?_))
      | (guard_target =~ blockQ _ _ _ _ _; first | (refine B_next ?_) | (refine B_same ?_) | (refine B_other (by kernel_rfl) ?_) | (refine B_ret ?_))
      | (refine W_true rfl rfl ?_)
      | (refine W_false rfl rfl ?_)
      | (guard_target =~ WO _ _ (Oper.mk _ (Op.move _) _ _ _ none) _ _ _ _; first | (refine O_move (v := .int _ (Nat.cast (0 : Nat))) rfl ?_) | (refine O_move (v := (.int _ (Nat.cast _))) rfl ?_) | (refine O_move (v := (.bool _)) rfl ?_) | (refine O_move (v := (.pointer _)) rfl ?_) | (refine O_move (v := (.slice _ _ _)) rfl ?_) | (refine O_move (v := (.agg _)) rfl ?_) | (refine O_move (v := (.tuple _)) rfl ?_) | (refine O_move (v := (.int _ _)) rfl ?_))
      | (guard_target =~ WO _ _ (Oper.mk _ (Op.assign _) _ _ _ none) _ _ _ _; first | (refine O_assign (v := (.int _ (Nat.cast _))) rfl ?_) | (refine O_assign (v := (.bool _)) rfl ?_) | (refine O_assign (v := (.pointer _)) rfl ?_) | (refine O_assign (v := (.slice _ _ _)) rfl ?_) | (refine O_assign (v := (.agg _)) rfl ?_) | (refine O_assign (v := (.tuple _)) rfl ?_) | (refine O_assign (v := (.int _ _)) rfl ?_))
      | (guard_target =~ WO _ _ (Oper.mk _ (Op.binOp BinOp.lss _ _ _ _) _ _ _ none) _ _ _ _; first | (refine O_lss_t (b := 8) rfl rfl (by omega) ?_) | (refine O_lss_f (b := 8) rfl rfl (by omega) ?_) | (refine O_lss (b := 8) rfl rfl ?_))
      | (guard_target =~ WO _ _ (Oper.mk _ (Op.convert 27 5 _) _ _ _ none) _ _ _ _; first | (refine O_conv Samg.underlying27 Samg.underlying5 rfl (by first | exact fit_i64 (by omega) | exact fit_u64 (by omega) | exact fit_u8 (by omega) | exact fit_i32 (by omega) | exact fit_u16 (by omega)) ?_))
      | (guard_target =~ WO _ _ (Oper.mk _ (Op.indexAddr 206 _ _) _ _ _ none) _ _ _ _; first | (refine O_index1 ar206 rfl rfl (by omega) ?_))
      | (guard_target =~ WO _ _ (Oper.mk _ (Op.binOp BinOp.shr _ _ _ _) _ _ _ none) _ _ _ _; first | (refine O_shr (b := 8) rfl rfl (by simp only [IntKind.bits]; omega) ?_))
      | (guard_target =~ WO _ _ (Oper.mk _ (Op.binOp BinOp.add _ _ _ _) _ _ _ none) _ _ _ _; first | (refine O_add (b := 1) rfl rfl (by first | exact fit_i64 (by omega) | exact fit_u64 (by omega) | exact fit_u8 (by omega) | exact fit_i32 (by omega) | exact fit_u16 (by omega)) ?_))
      | (guard_target =~ WO _ _ (Oper.mk _ (Op.slice 206 _ none none none) _ _ _ none) _ _ _ _; first | (refine O_slice_a ar206 rfl rfl rfl rfl (fun h => by cases h) (by omega) (by omega) (by omega) ?_)))
    refine O_call (l := [.slice (some ⟨w.heap.size, 0, none⟩) 8 8]) cl100 (by rfl) ((norm_ok (x := x) (L := 8) ⟨_, 8, 8, h, rfl, Dig.ofBlk hB3 (Nat.le_refl _) (Nat.le_refl _) (fun i hi => by rw [hh i hi]; omega), ?_, Nat.le_refl _⟩ (by omega)).mono ?_)
    · rw [val_congr hh, val_limb, Nat.mod_eq_of_lt hx]
    rintro v w4 ⟨hE4, k, g, hO, hg, hk⟩
    refine ⟨nof, ?_⟩
    repeat (first
      | (refine L_cons ?_)
      | (refine R_cons rfl ?_)
      | (refine W_seq ?_)
      | (refine W_region (by kernel_rfl) ?_)
      | (refine L_nil ?_)
      | (refine R_nil ?_)
      | (refine W_block ?_)
      | (refine W_skip ?_)
      | (refine W_exit ?_)
      | (refine W_ret ?_)
      | (guard_target =~ thenQ _ _ _ _ _; first | (refine T_next ?_) | (refine T_exit ?_) | (refine T_ret ?_))
      | (guard_target =~ blockQ _ _ _ _ _; first | (refine B_next ?_) | (refine B_same ?_) | (refine B_other (by kernel_rfl) ?_) | (refine B_ret ?_))
      | (refine W_true rfl rfl ?_)
      | (refine W_false rfl rfl ?_)
      | (guard_target =~ WO _ _ (Oper.mk _ (Op.assign _) _ _ _ none) _ _ _ _; first | (refine O_assign (v := v) rfl ?_) | (refine O_assign (v := (.int _ (Nat.cast _))) rfl ?_) | (refine O_assign (v := (.bool _)) rfl ?_) | (refine O_assign (v := (.pointer _)) rfl ?_) | (refine O_assign (v := (.slice _ _ _)) rfl ?_) | (refine O_assign (v := (.agg _)) rfl ?_) | (refine O_assign (v := (.tuple _)) rfl ?_) | (refine O_assign (v := (.int _ _)) rfl ?_))
      | (guard_target =~ WO _ _ (Oper.mk _ (Op.move _) _ _ _ none) _ _ _ _; first | (refine O_move (v := .int _ (Nat.cast (0 : Nat))) rfl ?_) | (refine O_move (v := (.int _ (Nat.cast _))) rfl ?_) | (refine O_move (v := (.bool _)) rfl ?_) | (refine O_move (v := (.pointer _)) rfl ?_) | (refine O_move (v := (.slice _ _ _)) rfl ?_) | (refine O_move (v := (.agg _)) rfl ?_) | (refine O_move (v := (.tuple _)) rfl ?_) | (refine O_move (v := (.int _ _)) rfl ?_))
      | (guard_target =~ WO _ _ (Oper.mk _ (Op.binOp BinOp.lss _ _ _ _) _ _ _ none) _ _ _ _; first | (refine O_lss_t (b := 8) rfl rfl (by omega) ?_) | (refine O_lss_f (b := 8) rfl rfl (by omega) ?_) | (refine O_lss (b := 8) rfl rfl ?_))
      | (guard_target =~ WO _ _ (Oper.mk _ (Op.convert 27 5 _) _ _ _ none) _ _ _ _; first | (refine O_conv Samg.underlying27 Samg.underlying5 rfl (by first | exact fit_i64 (by omega) | exact fit_u64 (by omega) | exact fit_u8 (by omega) | exact fit_i32 (by omega) | exact fit_u16 (by omega)) ?_))
      | (guard_target =~ WO _ _ (Oper.mk _ (Op.indexAddr 206 _ _) _ _ _ none) _ _ _ _; first | (refine O_index1 ar206 rfl rfl (by omega) ?_))
      | (guard_target =~ WO _ _ (Oper.mk _ (Op.binOp BinOp.shr _ _ _ _) _ _ _ none) _ _ _ _; first | (refine O_shr (b := 8) rfl rfl (by simp only [IntKind.bits]; omega) ?_))
      | (guard_target =~ WO _ _ (Oper.mk _ (Op.binOp BinOp.add _ _ _ _) _ _ _ none) _ _ _ _; first | (refine O_add (b := 1) rfl rfl (by first | exact fit_i64 (by omega) | exact fit_u64 (by omega) | exact fit_u8 (by omega) | exact fit_i32 (by omega) | exact fit_u16 (by omega)) ?_))
      | (guard_target =~ WO _ _ (Oper.mk _ (Op.slice 206 _ none none none) _ _ _ none) _ _ _ _; first | (refine O_slice_a ar206 rfl rfl rfl rfl (fun h => by cases h) (by omega) (by omega) (by omega) ?_)))
    refine E_ret rfl rfl rfl ⟨hE3.trans hE4, ?_⟩
    have := hO.nat
    rw [hg] at this
    exact this.mono hk

theorem or_add (a d : Nat) (hd : d < 256) : a * 256 ||| d = a * 256 + d := by
  have := Nat.shiftLeft_add_eq_or_of_lt (b := d) (i := 8) hd a
  rw [Nat.shiftLeft_eq] at this
  exact this.symm

theorem u64_ok {w : World} {v : Value} {x L : Nat} (h : NatV w v x L) (hL : L ≤ 281474976710656) (hx : x < 18446744073709551616) : Ret Samg.prog 129 #[v] w fun v' w' => v' = .tuple #[.int .u64 ((x : Nat) : Int), .bool true] ∧ w' = w := by
  obtain ⟨a, len, cap, g, rfl, hD, hv, hlen⟩ := h
  refine W_enter (l := [.slice a len cap]) Samg.func129 rfl Samg.ntmps129 rfl ?_
  repeat (first
    | (refine L_cons ?_)
    | (refine R_cons rfl ?_)
    | (refine W_seq ?_)
    | (refine W_region (by kernel_rfl) ?_)
    | (refine L_nil ?_)
    | (refine R_nil ?_)
    | (refine W_block ?_)
    | (refine W_skip ?_)
    | (refine W_exit ?_)
    | (refine W_ret ?_)
    | (guard_target =~ thenQ _ _ _ _ _; first | (refine T_next ?_) | (refine T_exit ?_) | (refine T_ret ?_))
    | (guard_target =~ blockQ _ _ _ _ _; first | (refine B_next ?_) | (refine B_same ?_) | (refine B_other (by kernel_rfl) ?_) | (refine B_ret ?_))
    | (refine W_true rfl rfl ?_)
    | (refine W_false rfl rfl ?_)
    | (guard_target =~ WO _ _ (Oper.mk _ (Op.assign _) _ _ _ none) _ _ _ _; first | (refine O_assign (v := .int _ (Nat.cast (0 : Nat))) rfl ?_) | (refine O_assign (v := (.int _ (Nat.cast _))) rfl ?_) | (refine O_assign (v := (.bool _)) rfl ?_) | (refine O_assign (v := (.pointer _)) rfl ?_) | (refine O_assign (v := (.slice _ _ _)) rfl ?_) | (refine O_assign (v := (.agg _)) rfl ?_) | (refine O_assign (v := (.tuple _)) rfl ?_) | (refine O_assign (v := (.int _ _)) rfl ?_))
    | (guard_target =~ WO _ _ (Oper.mk _ (Op.move _) _ _ _ none) _ _ _ _; first | (refine O_move (v := (.int _ (Nat.cast _))) rfl ?_) | (refine O_move (v := (.bool _)) rfl ?_) | (refine O_move (v := (.pointer _)) rfl ?_) | (refine O_move (v := (.slice _ _ _)) rfl ?_) | (refine O_move (v := (.agg _)) rfl ?_) | (refine O_move (v := (.tuple _)) rfl ?_) | (refine O_move (v := (.int _ _)) rfl ?_))
    | (guard_target =~ WO _ _ (Oper.mk _ (Op.call _) _ _ _ none) _ _ _ _; first | (refine O_len Samg.underlying134 rfl rfl ?_))
    | (guard_target =~ WO _ _ (Oper.mk _ (Op.binOp BinOp.gtr _ _ _ _) _ _ _ none) _ _ _ _; first | (refine O_gtr_t (b := 8) rfl rfl (by omega) ?_) | (refine O_gtr_f (b := 8) rfl rfl (by omega) ?_) | (refine O_gtr (b := 8) rfl rfl ?_) | (refine O_gtr_t (b := 0) rfl rfl (by omega) ?_) | (refine O_gtr_f (b := 0) rfl rfl (by omega) ?_) | (refine O_gtr (b := 0) rfl rfl ?_))
    | (guard_target =~ WO _ _ (Oper.mk _ (Op.binOp BinOp.shl _ _ _ _) _ _ _ none) _ _ _ _; first | (refine O_shl (b := 8) rfl rfl (by simp only [IntKind.bits]; omega) (by first | exact fit_i64 (by omega) | exact fit_u64 (by omega) | exact fit_u8 (by omega) | exact fit_i32 (by omega) | exact fit_u16 (by omega)) ?_))
    | (guard_target =~ WO _ _ (Oper.mk _ (Op.binOp BinOp.sub _ _ _ _) _ _ _ none) _ _ _ _; first | (refine O_sub (b := 1) rfl rfl (by first | exact fit_i64 (by omega) | exact fit_u64 (by omega) | exact fit_u8 (by omega) | exact fit_i32 (by omega) | exact fit_u16 (by omega)) (by omega) ?_))
    | (guard_target =~ WO _ _ (Oper.mk _ (Op.indexAddr 134 _ _) _ _ _ none) _ _ _ _; first | (refine O_index_s1 sl134 rfl rfl (by omega) ?_))
    | (guard_target =~ WO _ _ (Oper.mk _ (Op.convert 5 27 _) _ _ _ none) _ _ _ _; first | (refine O_conv Samg.underlying5 Samg.underlying27 rfl (by first | exact fit_i64 (by omega) | exact fit_u64 (by omega) | exact fit_u8 (by omega) | exact fit_i32 (by omega) | exact fit_u16 (by omega)) ?_))
    | (guard_target =~ WO _ _ (Oper.mk _ (Op.binOp BinOp.or _ _ _ _) _ _ _ none) _ _ _ _; first | (refine O_or rfl rfl rfl (by first | exact fit_i64 (by omega) | exact fit_u64 (by omega) | exact fit_u8 (by omega) | exact fit_i32 (by omega) | exact fit_u16 (by omega)) (by first | exact fit_i64 (by omega) | exact fit_u64 (by omega) | exact fit_u8 (by omega) | exact fit_i32 (by omega) | exact fit_u16 (by omega)) ?_)))
  refine O_call (l := [.slice a len cap]) cl101 (by rfl) ((trim_ok hD (by omega)).mono ?_)
  rintro v w1 ⟨rfl, k, rfl, hk, hD, hv2, ht⟩
  refine ⟨nof, ?_⟩
  rw [hv] at hv2
  have hk8 : k ≤ 8 := by
    rcases Nat.lt_or_ge 8 k with h | h
    · exfalso
      have h0 : g (k - 1) ≠ 0 := by
        rcases ht with h1 | h1
        · omega
        · exact h1
      have h1 : 256 ^ (k - 1) ≤ val 256 g (k - 1 + 1) := val_ge (by omega) h0
      rw [show k - 1 + 1 = k by omega, hv2] at h1
      have h2 : 256 ^ 8 ≤ 256 ^ (k - 1) := Nat.pow_le_pow_right (by omega) (by omega)
      omega
    · exact h
  repeat (first
    | (refine L_cons ?_)
    | (refine R_cons rfl ?_)
    | (refine W_seq ?_)
    | (refine W_region (by kernel_rfl) ?_)
    | (refine L_nil ?_)
    | (refine R_nil ?_)
    | (refine W_block ?_)
    | (refine W_skip ?_)
    | (refine W_exit ?_)
    | (refine W_ret ?_)
    | (guard_target =~ thenQ _ _ _ _ _; first | (refine T_next ?_) | (refine T_exit ?_) | (refine T_ret ?_))
    | (guard_target =~ blockQ _ _ _ _ _; first | (refine B_next ?_) | (refine B_same ?_) | (refine B_other (by kernel_rfl) ?_) | (refine B_ret ?_))
    | (refine W_true rfl rfl ?_)
    | (refine W_false rfl rfl ?_)
    | (guard_target =~ WO _ _ (Oper.mk _ (Op.assign _) _ _ _ none) _ _ _ _; first | (refine O_assign (v := .int _ (Nat.cast (0 : Nat))) rfl ?_) | (refine O_assign (v := (.int _ (Nat.cast _))) rfl ?_) | (refine O_assign (v := (.bool _)) rfl ?_) | (refine O_assign (v := (.pointer _)) rfl ?_) | (refine O_assign (v := (.slice _ _ _)) rfl ?_) | (refine O_assign (v := (.agg _)) rfl ?_) | (refine O_assign (v := (.tuple _)) rfl ?_) | (refine O_assign (v := (.int _ _)) rfl ?_))
    | (guard_target =~ WO _ _ (Oper.mk _ (Op.move _) _ _ _ none) _ _ _ _; first | (refine O_move (v := (.int _ (Nat.cast _))) rfl ?_) | (refine O_move (v := (.bool _)) rfl ?_) | (refine O_move (v := (.pointer _)) rfl ?_) | (refine O_move (v := (.slice _ _ _)) rfl ?_) | (refine O_move (v := (.agg _)) rfl ?_) | (refine O_move (v := (.tuple _)) rfl ?_) | (refine O_move (v := (.int _ _)) rfl ?_))
    | (guard_target =~ WO _ _ (Oper.mk _ (Op.call _) _ _ _ none) _ _ _ _; first | (refine O_len Samg.underlying134 rfl rfl ?_))
    | (guard_target =~ WO _ _ (Oper.mk _ (Op.binOp BinOp.gtr _ _ _ _) _ _ _ none) _ _ _ _; first | (refine O_gtr_t (b := 8) rfl rfl (by omega) ?_) | (refine O_gtr_f (b := 8) rfl rfl (by omega) ?_) | (refine O_gtr (b := 8) rfl rfl ?_) | (refine O_gtr_t (b := 0) rfl rfl (by omega) ?_) | (refine O_gtr_f (b := 0) rfl rfl (by omega) ?_) | (refine O_gtr (b := 0) rfl rfl ?_))
    | (guard_target =~ WO _ _ (Oper.mk _ (Op.binOp BinOp.shl _ _ _ _) _ _ _ none) _ _ _ _; first | (refine O_shl (b := 8) rfl rfl (by simp only [IntKind.bits]; omega) (by first | exact fit_i64 (by omega) | exact fit_u64 (by omega) | exact fit_u8 (by omega) | exact fit_i32 (by omega) | exact fit_u16 (by omega)) ?_))
    | (guard_target =~ WO _ _ (Oper.mk _ (Op.binOp BinOp.sub _ _ _ _) _ _ _ none) _ _ _ _; first | (refine O_sub (b := 1) rfl rfl (by first | exact fit_i64 (by omega) | exact fit_u64 (by omega) | exact fit_u8 (by omega) | exact fit_i32 (by omega) | exact fit_u16 (by omega)) (by omega) ?_))
    | (guard_target =~ WO _ _ (Oper.mk _ (Op.indexAddr 134 _ _) _ _ _ none) _ _ _ _; first | (refine O_index_s1 sl134 rfl rfl (by omega) ?_))
    | (guard_target =~ WO _ _ (Oper.mk _ (Op.convert 5 27 _) _ _ _ none) _ _ _ _; first | (refine O_conv Samg.underlying5 Samg.underlying27 rfl (by first | exact fit_i64 (by omega) | exact fit_u64 (by omega) | exact fit_u8 (by omega) | exact fit_i32 (by omega) | exact fit_u16 (by omega)) ?_))
    | (guard_target =~ WO _ _ (Oper.mk _ (Op.binOp BinOp.or _ _ _ _) _ _ _ none) _ _ _ _; first | (refine O_or rfl rfl rfl (by first | exact fit_i64 (by omega) | exact fit_u64 (by omega) | exact fit_u8 (by omega) | exact fit_i32 (by omega) | exact fit_u16 (by omega)) (by first | exact fit_i64 (by omega) | exact fit_u64 (by omega) | exact fit_u8 (by omega) | exact fit_i32 (by omega) | exact fit_u16 (by omega)) ?_)))
  refine W_loop (fun m ρ w' => w' = w1 ∧ ∃ i, m = i ∧ i ≤ k ∧ Has ρ [(0, .slice a k k), (4, .int .u64 ((val 256 (fun q => g (i + q)) (k - i) : Nat) : Int)), (5, .int .i64 (i : Nat))]) k ?_ ?_
  · refine ⟨rfl, k, rfl, Nat.le_refl _, Has.mk ⟨rfl, ?_, rfl, trivial⟩⟩
    rw [Nat.sub_self]; rfl
  rintro m ρ w3 ⟨rfl, i, rfl, hin, σ, rfl⟩
  by_cases h0 : 0 < m
  · obtain ⟨b, o, c, t, rfl, hS, hsz, hg⟩ := hD.at (i := m - 1) (by omega)
    have q1 := hg (m - 1) (by omega)
    have hd := hD.2.1 (m - 1) (by omega)
    have hstep : val 256 (fun q => g (m - 1 + q)) (k - (m - 1)) = val 256 (fun q => g (m + q)) (k - m) * 256 + g (m - 1) := by
      rw [show k - (m - 1) = 1 + (k - m) by omega, val_add, Nat.pow_one, val_succ, val_zero, Nat.pow_zero, Nat.add_zero]
      rw [val_congr (f := fun i => g (m - 1 + (1 + i))) (g := fun q => g (m + q)) fun i hi => by rw [show m - 1 + (1 + i) = m + i by omega]]
      omega
    have hall : val 256 g k = val 256 g (m - 1) + val 256 (fun q => g (m - 1 + q)) (k - (m - 1)) * 256 ^ (m - 1) := by
      conv => lhs; rw [show k = (m - 1) + (k - (m - 1)) by omega]
      exact val_add _ _
    have hle : val 256 (fun q => g (m - 1 + q)) (k - (m - 1)) ≤ x := by
      have h1 : val 256 (fun q => g (m - 1 + q)) (k - (m - 1)) * 1 ≤ val 256 (fun q => g (m - 1 + q)) (k - (m - 1)) * 256 ^ (m - 1) := Nat.mul_le_mul_left _ (Nat.pow_pos (by omega))
      omega
    have hsm : val 256 (fun q => g (m + q)) (k - m) * 2 ^ 8 % 18446744073709551616 = val 256 (fun q => g (m + q)) (k - m) * 256 := Nat.mod_eq_of_lt (by omega)
    repeat (first
      | (refine L_cons ?_)
      | (refine R_cons rfl ?_)
      | (refine W_seq ?_)
      | (refine W_region (by kernel_rfl) ?_)
      | (refine L_nil ?_)
      | (refine R_nil ?_)
      | (refine W_block ?_)
      | (refine W_skip ?_)
      | (refine W_exit ?_)
      | (refine W_ret ?_)
      | (guard_target =~ thenQ _ _ _ _ _; first | (refine T_next ?_) | (refine T_exit ?_) | (refine T_ret ?_))
      | (guard_target =~ blockQ _ _ _ _ _; first | (refine B_next ?_) | (refine B_same ?_) | (refine B_other (by kernel_rfl) ?_) | (refine B_ret ?_))
      | (refine W_true rfl rfl ?_)
      | (refine W_false rfl rfl ?_)
      | (guard_target =~ WO _ _ (Oper.mk _ (Op.load 5 _) _ _ _ none) _ _ _ _; first | (refine O_load on5 rfl hS q1 ?_))
      | (guard_target =~ WO _ _ (Oper.mk _ (Op.binOp BinOp.shl _ _ _ _) _ _ _ none) _ _ _ _; first | (refine O_shlw (b := 8) rfl rfl (by omega) ?_) | (refine O_shl (b := 8) rfl rfl (by simp only [IntKind.bits]; omega) (by first | exact fit_i64 (by omega) | exact fit_u64 (by omega) | exact fit_u8 (by omega) | exact fit_i32 (by omega) | exact fit_u16 (by omega)) ?_))
      | (guard_target =~ WO _ _ (Oper.mk _ (Op.assign _) _ _ _ none) _ _ _ _; first | (refine O_assign (v := .int _ (Nat.cast (0 : Nat))) rfl ?_) | (refine O_assign (v := (.int _ (Nat.cast _))) rfl ?_) | (refine O_assign (v := (.bool _)) rfl ?_) | (refine O_assign (v := (.pointer _)) rfl ?_) | (refine O_assign (v := (.slice _ _ _)) rfl ?_) | (refine O_assign (v := (.agg _)) rfl ?_) | (refine O_assign (v := (.tuple _)) rfl ?_) | (refine O_assign (v := (.int _ _)) rfl ?_))
      | (guard_target =~ WO _ _ (Oper.mk _ (Op.move _) _ _ _ none) _ _ _ _; first | (refine O_move (v := (.int _ (Nat.cast _))) rfl ?_) | (refine O_move (v := (.bool _)) rfl ?_) | (refine O_move (v := (.pointer _)) rfl ?_) | (refine O_move (v := (.slice _ _ _)) rfl ?_) | (refine O_move (v := (.agg _)) rfl ?_) | (refine O_move (v := (.tuple _)) rfl ?_) | (refine O_move (v := (.int _ _)) rfl ?_))
      | (guard_target =~ WO _ _ (Oper.mk _ (Op.call _) _ _ _ none) _ _ _ _; first | (refine O_len Samg.underlying134 rfl rfl ?_))
      | (guard_target =~ WO _ _ (Oper.mk _ (Op.binOp BinOp.gtr _ _ _ _) _ _ _ none) _ _ _ _; first | (refine O_gtr_t (b := 8) rfl rfl (by omega) ?_) | (refine O_gtr_f (b := 8) rfl rfl (by omega) ?_) | (refine O_gtr (b := 8) rfl rfl ?_) | (refine O_gtr_t (b := 0) rfl rfl (by omega) ?_) | (refine O_gtr_f (b := 0) rfl rfl (by omega) ?_) | (refine O_gtr (b := 0) rfl rfl ?_))
      | (guard_target =~ WO _ _ (Oper.mk _ (Op.binOp BinOp.sub _ _ _ _) _ _ _ none) _ _ _ _; first | (refine O_sub (b := 1) rfl rfl (by first | exact fit_i64 (by omega) | exact fit_u64 (by omega) | exact fit_u8 (by omega) | exact fit_i32 (by omega) | exact fit_u16 (by omega)) (by omega) ?_))
      | (guard_target =~ WO _ _ (Oper.mk _ (Op.indexAddr 134 _ _) _ _ _ none) _ _ _ _; first | (refine O_index_s1 sl134 rfl rfl (by omega) ?_))
      | (guard_target =~ WO _ _ (Oper.mk _ (Op.convert 5 27 _) _ _ _ none) _ _ _ _; first | (refine O_conv Samg.underlying5 Samg.underlying27 rfl (by first | exact fit_i64 (by omega) | exact fit_u64 (by omega) | exact fit_u8 (by omega) | exact fit_i32 (by omega) | exact fit_u16 (by omega)) ?_))
      | (guard_target =~ WO _ _ (Oper.mk _ (Op.binOp BinOp.or _ _ _ _) _ _ _ none) _ _ _ _; first | (refine O_or rfl rfl rfl (by first | exact fit_i64 (by omega) | exact fit_u64 (by omega) | exact fit_u8 (by omega) | exact fit_i32 (by omega) | exact fit_u16 (by omega)) (by first | exact fit_i64 (by omega) | exact fit_u64 (by omega) | exact fit_u8 (by omega) | exact fit_i32 (by omega) | exact fit_u16 (by omega)) ?_)))
    refine ⟨m - 1, by omega, rfl, m - 1, rfl, by omega, Has.mk ⟨rfl, ?_, rfl, trivial⟩⟩
    show Value.int .u64 ((val 256 (fun q => g (m + q)) (k - m) * 2 ^ 8 % 18446744073709551616 ||| g (m - 1) : Nat) : Int) = _
    rw [hsm, or_add _ _ hd, hstep]
  · have h0 : m = 0 := by omega
    subst h0
    repeat (first
      | (refine L_cons ?_)
      | (refine R_cons rfl ?_)
      | (refine W_seq ?_)
      | (refine W_region (by kernel_rfl) ?_)
      | (refine L_nil ?_)
      | (refine R_nil ?_)
      | (refine W_block ?_)
      | (refine W_skip ?_)
      | (refine W_exit ?_)
      | (refine W_ret ?_)
      | (guard_target =~ thenQ _ _ _ _ _; first | (refine T_next ?_) | (refine T_exit ?_) | (refine T_ret ?_))
      | (guard_target =~ blockQ _ _ _ _ _; first | (refine B_next ?_) | (refine B_same ?_) | (refine B_other (by kernel_rfl) ?_) | (refine B_ret ?_))
      | (refine W_true rfl rfl ?_)
      | (refine W_false rfl rfl ?_)
      | (guard_target =~ WO _ _ (Oper.mk _ (Op.assign _) _ _ _ none) _ _ _ _; first | (refine O_assign (v := .int _ (Nat.cast (0 : Nat))) rfl ?_) | (refine O_assign (v := (.int _ (Nat.cast _))) rfl ?_) | (refine O_assign (v := (.bool _)) rfl ?_) | (refine O_assign (v := (.pointer _)) rfl ?_) | (refine O_assign (v := (.slice _ _ _)) rfl ?_) | (refine O_assign (v := (.agg _)) rfl ?_) | (refine O_assign (v := (.tuple _)) rfl ?_) | (refine O_assign (v := (.int _ _)) rfl ?_))
      | (guard_target =~ WO _ _ (Oper.mk _ (Op.move _) _ _ _ none) _ _ _ _; first | (refine O_move (v := (.int _ (Nat.cast _))) rfl ?_) | (refine O_move (v := (.bool _)) rfl ?_) | (refine O_move (v := (.pointer _)) rfl ?_) | (refine O_move (v := (.slice _ _ _)) rfl ?_) | (refine O_move (v := (.agg _)) rfl ?_) | (refine O_move (v := (.tuple _)) rfl ?_) | (refine O_move (v := (.int _ _)) rfl ?_))
      | (guard_target =~ WO _ _ (Oper.mk _ (Op.call _) _ _ _ none) _ _ _ _; first | (refine O_len Samg.underlying134 rfl rfl ?_))
      | (guard_target =~ WO _ _ (Oper.mk _ (Op.binOp BinOp.gtr _ _ _ _) _ _ _ none) _ _ _ _; first | (refine O_gtr_t (b := 8) rfl rfl (by omega) ?_) | (refine O_gtr_f (b := 8) rfl rfl (by omega) ?_) | (refine O_gtr (b := 8) rfl rfl ?_) | (refine O_gtr_t (b := 0) rfl rfl (by omega) ?_) | (refine O_gtr_f (b := 0) rfl rfl (by omega) ?_) | (refine O_gtr (b := 0) rfl rfl ?_))
      | (guard_target =~ WO _ _ (Oper.mk _ (Op.binOp BinOp.shl _ _ _ _) _ _ _ none) _ _ _ _; first | (refine O_shl (b := 8) rfl rfl (by simp only [IntKind.bits]; omega) (by first | exact fit_i64 (by omega) | exact fit_u64 (by omega) | exact fit_u8 (by omega) | exact fit_i32 (by omega) | exact fit_u16 (by omega)) ?_))
      | (guard_target =~ WO _ _ (Oper.mk _ (Op.binOp BinOp.sub _ _ _ _) _ _ _ none) _ _ _ _; first | (refine O_sub (b := 1) rfl rfl (by first | exact fit_i64 (by omega) | exact fit_u64 (by omega) | exact fit_u8 (by omega) | exact fit_i32 (by omega) | exact fit_u16 (by omega)) (by omega) ?_))
      | (guard_target =~ WO _ _ (Oper.mk _ (Op.indexAddr 134 _ _) _ _ _ none) _ _ _ _; first | (refine O_index_s1 sl134 rfl rfl (by omega) ?_))
      | (guard_target =~ WO _ _ (Oper.mk _ (Op.convert 5 27 _) _ _ _ none) _ _ _ _; first | (refine O_conv Samg.underlying5 Samg.underlying27 rfl (by first | exact fit_i64 (by omega) | exact fit_u64 (by omega) | exact fit_u8 (by omega) | exact fit_i32 (by omega) | exact fit_u16 (by omega)) ?_))
      | (guard_target =~ WO _ _ (Oper.mk _ (Op.binOp BinOp.or _ _ _ _) _ _ _ none) _ _ _ _; first | (refine O_or rfl rfl rfl (by first | exact fit_i64 (by omega) | exact fit_u64 (by omega) | exact fit_u8 (by omega) | exact fit_i32 (by omega) | exact fit_u16 (by omega)) (by first | exact fit_i64 (by omega) | exact fit_u64 (by omega) | exact fit_u8 (by omega) | exact fit_i32 (by omega) | exact fit_u16 (by omega)) ?_)))
    refine E_ret2 (v := .int .u64 ((val 256 (fun q => g (0 + q)) (k - 0) : Nat) : Int)) (v' := .bool true) rfl rfl rfl rfl rfl ⟨?_, rfl⟩
    rw [val_congr (g := g) fun q hq => by rw [Nat.zero_add], Nat.sub_zero, hv2]

theorem limbsNat_ok {w : World} {b N o n cap : Nat} {tb : TypeId} {f : Nat → Nat} (hb : Blk w b (ns .u64 N f) tb) (hN : o + n ≤ N) (hf : ∀ i, i < N → f i < 18446744073709551616) (hn : n ≤ 4294967296) :
    Ret Samg.prog 72 #[.slice (some ⟨b, o, none⟩) n cap] w fun v w' => Ext w w' ∧ NatV w' v (val 18446744073709551616 (fun i => f (o + i)) n) (8 * n) := by
  refine W_enter (l := [.slice (some ⟨b, o, none⟩) n cap]) Samg.func72 rfl Samg.ntmps72 rfl ?_
  repeat (first
    | (refine L_cons ?_)
    | (refine R_cons rfl ?_)
    | (refine W_seq ?_)
    | (refine W_region (by kernel_rfl) ?_)
    | (refine L_nil ?_)
    | (refine R_nil ?_)
    | (refine W_block ?_)
    | (refine W_skip ?_)
    | (refine W_exit ?_)
    | (refine W_ret ?_)
    | (guard_target =~ thenQ _ _ _ _ _; first | (refine T_next ?_) | (refine T_exit ?_) | (refine T_ret ?_))
    | (guard_target =~ blockQ _ _ _ _ _; first | (refine B_next ?_) | (refine B_same ?_) | (refine B_other (by kernel_rfl) ?_) | (refine B_ret ?_))
    | (refine W_true rfl rfl ?_)
    | (refine W_false rfl rfl ?_)
    | (guard_target =~ WO _ _ (Oper.mk _ (Op.assign _) _ _ _ none) _ _ _ _; first | (refine O_assign (v := .slice _ _ _) rfl ?_) | (refine O_assign (v := (.int _ (Nat.cast _))) rfl ?_) | (refine O_assign (v := (.bool _)) rfl ?_) | (refine O_assign (v := (.pointer _)) rfl ?_) | (refine O_assign (v := (.slice _ _ _)) rfl ?_) | (refine O_assign (v := (.agg _)) rfl ?_) | (refine O_assign (v := (.tuple _)) rfl ?_) | (refine O_assign (v := (.int _ _)) rfl ?_))
    | (guard_target =~ WO _ _ (Oper.mk _ (Op.move _) _ _ _ none) _ _ _ _; first | (refine O_move (v := .int _ (Nat.cast (0 : Nat))) rfl ?_) | (refine O_move (v := (.int _ (Nat.cast _))) rfl ?_) | (refine O_move (v := (.bool _)) rfl ?_) | (refine O_move (v := (.pointer _)) rfl ?_) | (refine O_move (v := (.slice _ _ _)) rfl ?_) | (refine O_move (v := (.agg _)) rfl ?_) | (refine O_move (v := (.tuple _)) rfl ?_) | (refine O_move (v := (.int _ _)) rfl ?_))
    | (guard_target =~ WO _ _ (Oper.mk _ (Op.call _) _ _ _ none) _ _ _ _; first | (refine O_len Samg.underlying133 rfl rfl ?_) | (refine O_len Samg.underlying134 rfl rfl ?_))
    | (guard_target =~ WO _ _ (Oper.mk _ (Op.binOp BinOp.mul _ _ _ _) _ _ _ none) _ _ _ _; first | (refine O_mul (a := 8) rfl rfl (by first | exact fit_i64 (by omega) | exact fit_u64 (by omega) | exact fit_u8 (by omega) | exact fit_i32 (by omega) | exact fit_u16 (by omega)) ?_))
    | (guard_target =~ WO _ _ (Oper.mk _ (Op.binOp BinOp.lss _ _ _ _) _ _ _ none) _ _ _ _; first | (refine O_lss_t rfl rfl (by omega) ?_) | (refine O_lss_f rfl rfl (by omega) ?_) | (refine O_lss rfl rfl ?_))
    | (guard_target =~ WO _ _ (Oper.mk _ (Op.binOp BinOp.quo _ _ _ _) _ _ _ none) _ _ _ _; first | (refine O_quo (b := 8) rfl rfl (by first | exact fit_i64 (by omega) | exact fit_u64 (by omega) | exact fit_u8 (by omega) | exact fit_i32 (by omega) | exact fit_u16 (by omega)) (by omega) ?_))
    | (guard_target =~ WO _ _ (Oper.mk _ (Op.indexAddr 133 _ _) _ _ _ none) _ _ _ _; first | (refine O_index_s1 sl133 rfl rfl (by omega) ?_))
    | (guard_target =~ WO _ _ (Oper.mk _ (Op.binOp BinOp.rem _ _ _ _) _ _ _ none) _ _ _ _; first | (refine O_rem (b := 8) rfl rfl (by omega) ?_))
    | (guard_target =~ WO _ _ (Oper.mk _ (Op.binOp BinOp.shr _ _ _ _) _ _ _ none) _ _ _ _; first | (refine O_shr rfl rfl (by simp only [IntKind.bits]; omega) ?_))
    | (guard_target =~ WO _ _ (Oper.mk _ (Op.convert 27 5 _) _ _ _ none) _ _ _ _; first | (refine O_conv Samg.underlying27 Samg.underlying5 rfl (by first | exact fit_i64 (by omega) | exact fit_u64 (by omega) | exact fit_u8 (by omega) | exact fit_i32 (by omega) | exact fit_u16 (by omega)) ?_))
    | (guard_target =~ WO _ _ (Oper.mk _ (Op.indexAddr 134 _ _) _ _ _ none) _ _ _ _; first | (refine O_index_s1 sl134 rfl rfl (by omega) ?_))
    | (guard_target =~ WO _ _ (Oper.mk _ (Op.binOp BinOp.add _ _ _ _) _ _ _ none) _ _ _ _; first | (refine O_add (b := 1) rfl rfl (by first | exact fit_i64 (by omega) | exact fit_u64 (by omega) | exact fit_u8 (by omega) | exact fit_i32 (by omega) | exact fit_u16 (by omega)) ?_)))
  refine O_makeB sl134 by5 z5 rfl rfl (by omega) fun w2 hE hs hB => ?_
  repeat (first
    | (refine L_cons ?_)
    | (refine R_cons rfl ?_)
    | (refine W_seq ?_)
    | (refine W_region (by kernel_rfl) ?_)
    | (refine L_nil ?_)
    | (refine R_nil ?_)
    | (refine W_block ?_)
    | (refine W_skip ?_)
    | (refine W_exit ?_)
    | (refine W_ret ?_)
    | (guard_target =~ thenQ _ _ _ _ _; first | (refine T_next ?_) | (refine T_exit ?_) | (refine T_ret ?_))
    | (guard_target =~ blockQ _ _ _ _ _; first | (refine B_next ?_) | (refine B_same ?_) | (refine B_other (by kernel_rfl) ?_) | (refine B_ret ?_))
    | (refine W_true rfl rfl ?_)
    | (refine W_false rfl rfl ?_)
    | (guard_target =~ WO _ _ (Oper.mk _ (Op.move _) _ _ _ none) _ _ _ _; first | (refine O_move (v := .int _ (Nat.cast (0 : Nat))) rfl ?_) | (refine O_move (v := (.int _ (Nat.cast _))) rfl ?_) | (refine O_move (v := (.bool _)) rfl ?_) | (refine O_move (v := (.pointer _)) rfl ?_) | (refine O_move (v := (.slice _ _ _)) rfl ?_) | (refine O_move (v := (.agg _)) rfl ?_) | (refine O_move (v := (.tuple _)) rfl ?_) | (refine O_move (v := (.int _ _)) rfl ?_))
    | (guard_target =~ WO _ _ (Oper.mk _ (Op.assign _) _ _ _ none) _ _ _ _; first | (refine O_assign (v := (.int _ (Nat.cast _))) rfl ?_) | (refine O_assign (v := (.bool _)) rfl ?_) | (refine O_assign (v := (.pointer _)) rfl ?_) | (refine O_assign (v := (.slice _ _ _)) rfl ?_) | (refine O_assign (v := (.agg _)) rfl ?_) | (refine O_assign (v := (.tuple _)) rfl ?_) | (refine O_assign (v := (.int _ _)) rfl ?_))
    | (guard_target =~ WO _ _ (Oper.mk _ (Op.call _) _ _ _ none) _ _ _ _; first | (refine O_len Samg.underlying133 rfl rfl ?_) | (refine O_len Samg.underlying134 rfl rfl ?_))
    | (guard_target =~ WO _ _ (Oper.mk _ (Op.binOp BinOp.mul _ _ _ _) _ _ _ none) _ _ _ _; first | (refine O_mul (a := 8) rfl rfl (by first | exact fit_i64 (by omega) | exact fit_u64 (by omega) | exact fit_u8 (by omega) | exact fit_i32 (by omega) | exact fit_u16 (by omega)) ?_))
    | (guard_target =~ WO _ _ (Oper.mk _ (Op.binOp BinOp.lss _ _ _ _) _ _ _ none) _ _ _ _; first | (refine O_lss_t rfl rfl (by omega) ?_) | (refine O_lss_f rfl rfl (by omega) ?_) | (refine O_lss rfl rfl ?_))
    | (guard_target =~ WO _ _ (Oper.mk _ (Op.binOp BinOp.quo _ _ _ _) _ _ _ none) _ _ _ _; first | (refine O_quo (b := 8) rfl rfl (by first | exact fit_i64 (by omega) | exact fit_u64 (by omega) | exact fit_u8 (by omega) | exact fit_i32 (by omega) | exact fit_u16 (by omega)) (by omega) ?_))
    | (guard_target =~ WO _ _ (Oper.mk _ (Op.indexAddr 133 _ _) _ _ _ none) _ _ _ _; first | (refine O_index_s1 sl133 rfl rfl (by omega) ?_))
    | (guard_target =~ WO _ _ (Oper.mk _ (Op.binOp BinOp.rem _ _ _ _) _ _ _ none) _ _ _ _; first | (refine O_rem (b := 8) rfl rfl (by omega) ?_))
    | (guard_target =~ WO _ _ (Oper.mk _ (Op.binOp BinOp.shr _ _ _ _) _ _ _ none) _ _ _ _; first | (refine O_shr rfl rfl (by simp only [IntKind.bits]; omega) ?_))
    | (guard_target =~ WO _ _ (Oper.mk _ (Op.convert 27 5 _) _ _ _ none) _ _ _ _; first | (refine O_conv Samg.underlying27 Samg.underlying5 rfl (by first | exact fit_i64 (by omega) | exact fit_u64 (by omega) | exact fit_u8 (by omega) | exact fit_i32 (by omega) | exact fit_u16 (by omega)) ?_))
    | (guard_target =~ WO _ _ (Oper.mk _ (Op.indexAddr 134 _ _) _ _ _ none) _ _ _ _; first | (refine O_index_s1 sl134 rfl rfl (by omega) ?_))
    | (guard_target =~ WO _ _ (Oper.mk _ (Op.binOp BinOp.add _ _ _ _) _ _ _ none) _ _ _ _; first | (refine O_add (b := 1) rfl rfl (by first | exact fit_i64 (by omega) | exact fit_u64 (by omega) | exact fit_u8 (by omega) | exact fit_i32 (by omega) | exact fit_u16 (by omega)) ?_)))
  refine W_loop (fun m ρ w' => Ext w w' ∧ ∃ i h, m = 8 * n - i ∧ i ≤ 8 * n ∧ Blk w' w.heap.size (ns .u8 (8 * n) h) 5 ∧ (∀ q, q < i → h q = f (o + q / 8) / 256 ^ (q % 8) % 256) ∧ Has ρ [(0, .slice (some ⟨b, o, none⟩) n cap), (3, .slice (some ⟨w.heap.size, 0, none⟩) (8 * n) (8 * n)), (10, .int .i64 ((8 * n : Nat) : Int)), (11, .int .i64 (i : Nat))]) (8 * n) ?_ ?_
  · exact ⟨hE, 0, _, rfl, Nat.zero_le _, hB, fun q hq => by omega, Has.mk ⟨rfl, rfl, rfl, rfl, trivial⟩⟩
  rintro m ρ w3 ⟨hE3, i, h, rfl, hi, hB3, hh, σ, rfl⟩
  by_cases h8 : i < 8 * n
  · repeat (first
      | (refine L_cons ?_)
      | (refine R_cons rfl ?_)
      | (refine W_seq ?_)
      | (refine W_region (by kernel_rfl) ?_)
      | (refine L_nil ?_)
      | (refine R_nil ?_)
      | (refine W_block ?_)
      | (refine W_skip ?_)
      | (refine W_exit ?_)
      | (refine W_ret ?_)
      | (guard_target =~ thenQ _ _ _ _ _; first | (refine T_next ?_) | (refine T_exit ?_) | (refine T_ret ?_))
      | (guard_target =~ blockQ _ _ _ _ _; first | (refine B_next ?_) | (refine B_same ?_) | (refine B_other (by kernel_rfl) ?_) | (refine B_ret ?_))
      | (refine W_true rfl rfl ?_)
      | (refine W_false rfl rfl ?_)
      | (guard_target =~ WO _ _ (Oper.mk _ (Op.convert _ _ _) _ _ _ none) _ _ _ _; first | (refine O_convw8 Samg.underlying27 Samg.underlying5 rfl ?_))
      | (guard_target =~ WO _ _ (Oper.mk _ (Op.load 27 _) _ _ _ none) _ _ _ _; first | (refine O_load_ns on27 rfl (hb.ext hE3) (by omega) ?_))
      | (guard_target =~ WO _ _ (Oper.mk _ (Op.move _) _ _ _ none) _ _ _ _; first | (refine O_move (v := .int _ (Nat.cast (0 : Nat))) rfl ?_) | (refine O_move (v := (.int _ (Nat.cast _))) rfl ?_) | (refine O_move (v := (.bool _)) rfl ?_) | (refine O_move (v := (.pointer _)) rfl ?_) | (refine O_move (v := (.slice _ _ _)) rfl ?_) | (refine O_move (v := (.agg _)) rfl ?_) | (refine O_move (v := (.tuple _)) rfl ?_) | (refine O_move (v := (.int _ _)) rfl ?_))
      | (guard_target =~ WO _ _ (Oper.mk _ (Op.assign _) _ _ _ none) _ _ _ _; first | (refine O_assign (v := (.int _ (Nat.cast _))) rfl ?_) | (refine O_assign (v := (.bool _)) rfl ?_) | (refine O_assign (v := (.pointer _)) rfl ?_) | (refine O_assign (v := (.slice _ _ _)) rfl ?_) | (refine O_assign (v := (.agg _)) rfl ?_) | (refine O_assign (v := (.tuple _)) rfl ?_) | (refine O_assign (v := (.int _ _)) rfl ?_))
      | (guard_target =~ WO _ _ (Oper.mk _ (Op.call _) _ _ _ none) _ _ _ _; first | (refine O_len Samg.underlying133 rfl rfl ?_) | (refine O_len Samg.underlying134 rfl rfl ?_))
      | (guard_target =~ WO _ _ (Oper.mk _ (Op.binOp BinOp.mul _ _ _ _) _ _ _ none) _ _ _ _; first | (refine O_mul (a := 8) rfl rfl (by first | exact fit_i64 (by omega) | exact fit_u64 (by omega) | exact fit_u8 (by omega) | exact fit_i32 (by omega) | exact fit_u16 (by omega)) ?_))
      | (guard_target =~ WO _ _ (Oper.mk _ (Op.binOp BinOp.lss _ _ _ _) _ _ _ none) _ _ _ _; first | (refine O_lss_t rfl rfl (by omega) ?_) | (refine O_lss_f rfl rfl (by omega) ?_) | (refine O_lss rfl rfl ?_))
      | (guard_target =~ WO _ _ (Oper.mk _ (Op.binOp BinOp.quo _ _ _ _) _ _ _ none) _ _ _ _; first | (refine O_quo (b := 8) rfl rfl (by first | exact fit_i64 (by omega) | exact fit_u64 (by omega) | exact fit_u8 (by omega) | exact fit_i32 (by omega) | exact fit_u16 (by omega)) (by omega) ?_))
      | (guard_target =~ WO _ _ (Oper.mk _ (Op.indexAddr 133 _ _) _ _ _ none) _ _ _ _; first | (refine O_index_s1 sl133 rfl rfl (by omega) ?_))
      | (guard_target =~ WO _ _ (Oper.mk _ (Op.binOp BinOp.rem _ _ _ _) _ _ _ none) _ _ _ _; first | (refine O_rem (b := 8) rfl rfl (by omega) ?_))
      | (guard_target =~ WO _ _ (Oper.mk _ (Op.binOp BinOp.shr _ _ _ _) _ _ _ none) _ _ _ _; first | (refine O_shr rfl rfl (by simp only [IntKind.bits]; omega) ?_))
      | (guard_target =~ WO _ _ (Oper.mk _ (Op.convert 27 5 _) _ _ _ none) _ _ _ _; first | (refine O_conv Samg.underlying27 Samg.underlying5 rfl (by first | exact fit_i64 (by omega) | exact fit_u64 (by omega) | exact fit_u8 (by omega) | exact fit_i32 (by omega) | exact fit_u16 (by omega)) ?_))
      | (guard_target =~ WO _ _ (Oper.mk _ (Op.indexAddr 134 _ _) _ _ _ none) _ _ _ _; first | (refine O_index_s1 sl134 rfl rfl (by omega) ?_))
      | (guard_target =~ WO _ _ (Oper.mk _ (Op.binOp BinOp.add _ _ _ _) _ _ _ none) _ _ _ _; first | (refine O_add (b := 1) rfl rfl (by first | exact fit_i64 (by omega) | exact fit_u64 (by omega) | exact fit_u8 (by omega) | exact fit_i32 (by omega) | exact fit_u16 (by omega)) ?_)))
    refine O_store_ns on5 rfl rfl hB3 (by omega) rfl fun w4 hU => ?_
    repeat (first
      | (refine L_cons ?_)
      | (refine R_cons rfl ?_)
      | (refine W_seq ?_)
      | (refine W_region (by kernel_rfl) ?_)
      | (refine L_nil ?_)
      | (refine R_nil ?_)
      | (refine W_block ?_)
      | (refine W_skip ?_)
      | (refine W_exit ?_)
      | (refine W_ret ?_)
      | (guard_target =~ thenQ _ _ _ _ _; first | (refine T_next ?_) | (refine T_exit ?_) | (refine T_ret ?_))
      | (guard_target =~ blockQ _ _ _ _ _; first | (refine B_next ?_) | (refine B_same ?_) | (refine B_other (by kernel_rfl) ?_) | (refine B_ret ?_))
      | (refine W_true rfl rfl ?_)
      | (refine W_false rfl rfl ?_)
      | (guard_target =~ WO _ _ (Oper.mk _ (Op.move _) _ _ _ none) _ _ _ _; first | (refine O_move (v := .int _ (Nat.cast (0 : Nat))) rfl ?_) | (refine O_move (v := (.int _ (Nat.cast _))) rfl ?_) | (refine O_move (v := (.bool _)) rfl ?_) | (refine O_move (v := (.pointer _)) rfl ?_) | (refine O_move (v := (.slice _ _ _)) rfl ?_) | (refine O_move (v := (.agg _)) rfl ?_) | (refine O_move (v := (.tuple _)) rfl ?_) | (refine O_move (v := (.int _ _)) rfl ?_))
      | (guard_target =~ WO _ _ (Oper.mk _ (Op.assign _) _ _ _ none) _ _ _ _; first | (refine O_assign (v := (.int _ (Nat.cast _))) rfl ?_) | (refine O_assign (v := (.bool _)) rfl ?_) | (refine O_assign (v := (.pointer _)) rfl ?_) | (refine O_assign (v := (.slice _ _ _)) rfl ?_) | (refine O_assign (v := (.agg _)) rfl ?_) | (refine O_assign (v := (.tuple _)) rfl ?_) | (refine O_assign (v := (.int _ _)) rfl ?_))
      | (guard_target =~ WO _ _ (Oper.mk _ (Op.call _) _ _ _ none) _ _ _ _; first | (refine O_len Samg.underlying133 rfl rfl ?_) | (refine O_len Samg.underlying134 rfl rfl ?_))
      | (guard_target =~ WO _ _ (Oper.mk _ (Op.binOp BinOp.mul _ _ _ _) _ _ _ none) _ _ _ _; first | (refine O_mul (a := 8) rfl rfl (by first | exact fit_i64 (by omega) | exact fit_u64 (by omega) | exact fit_u8 (by omega) | exact fit_i32 (by omega) | exact fit_u16 (by omega)) ?_))
      | (guard_target =~ WO _ _ (Oper.mk _ (Op.binOp BinOp.lss _ _ _ _) _ _ _ none) _ _ _ _; first | (refine O_lss_t rfl rfl (by omega) ?_) | (refine O_lss_f rfl rfl (by omega) ?_) | (refine O_lss rfl rfl ?_))
      | (guard_target =~ WO _ _ (Oper.mk _ (Op.binOp BinOp.quo _ _ _ _) _ _ _ none) _ _ _ _; first | (refine O_quo (b := 8) rfl rfl (by first | exact fit_i64 (by omega) | exact fit_u64 (by omega) | exact fit_u8 (by omega) | exact fit_i32 (by omega) | exact fit_u16 (by omega)) (by omega) ?_))
      | (guard_target =~ WO _ _ (Oper.mk _ (Op.indexAddr 133 _ _) _ _ _ none) _ _ _ _; first | (refine O_index_s1 sl133 rfl rfl (by omega) ?_))
      | (guard_target =~ WO _ _ (Oper.mk _ (Op.binOp BinOp.rem _ _ _ _) _ _ _ none) _ _ _ _; first | (refine O_rem (b := 8) rfl rfl (by omega) ?_))
      | (guard_target =~ WO _ _ (Oper.mk _ (Op.binOp BinOp.shr _ _ _ _) _ _ _ none) _ _ _ _; first | (refine O_shr rfl rfl (by simp only [IntKind.bits]; omega) ?_))
      | (guard_target =~ WO _ _ (Oper.mk _ (Op.convert 27 5 _) _ _ _ none) _ _ _ _; first | (refine O_conv Samg.underlying27 Samg.underlying5 rfl (by first | exact fit_i64 (by omega) | exact fit_u64 (by omega) | exact fit_u8 (by omega) | exact fit_i32 (by omega) | exact fit_u16 (by omega)) ?_))
      | (guard_target =~ WO _ _ (Oper.mk _ (Op.indexAddr 134 _ _) _ _ _ none) _ _ _ _; first | (refine O_index_s1 sl134 rfl rfl (by omega) ?_))
      | (guard_target =~ WO _ _ (Oper.mk _ (Op.binOp BinOp.add _ _ _ _) _ _ _ none) _ _ _ _; first | (refine O_add (b := 1) rfl rfl (by first | exact fit_i64 (by omega) | exact fit_u64 (by omega) | exact fit_u8 (by omega) | exact fit_i32 (by omega) | exact fit_u16 (by omega)) ?_)))
    refine ⟨8 * n - (i + 1), by omega, hE3.new hU (Nat.le_refl _), i + 1, _, rfl, by omega, hU.here, fun q hq => ?_, Has.mk ⟨rfl, rfl, rfl, rfl, trivial⟩⟩
    unfold upn
    split
    · rename_i hq2
      rw [show q = i by omega, Nat.shiftRight_eq_div_pow, Nat.pow_mul]
    · exact hh q (by omega)
  · have h8 : i = 8 * n := by omega
    subst h8
    repeat (first
      | (refine L_cons ?_)
      | (refine R_cons rfl ?_)
      | (refine W_seq ?_)
      | (refine W_region (by kernel_rfl) ?_)
      | (refine L_nil ?_)
      | (refine R_nil ?_)
      | (refine W_block ?_)
      | (refine W_skip ?_)
      | (refine W_exit ?_)
      | (refine W_ret ?_)
      | (guard_target =~ thenQ _ _ _ _ _; first | (refine T_next ?_) | (refine T_exit ?_) | (refine T_ret ?_))
      | (guard_target =~ blockQ _ _ _ _ _; first | (refine B_next ?_) | (refine B_same ?_) | (refine B_other (by kernel_rfl) ?_) | (refine B_ret ?_))
      | (refine W_true rfl rfl ?_)
      | (refine W_false rfl rfl ?_)
      | (guard_target =~ WO _ _ (Oper.mk _ (Op.move _) _ _ _ none) _ _ _ _; first | (refine O_move (v := .int _ (Nat.cast (0 : Nat))) rfl ?_) | (refine O_move (v := (.int _ (Nat.cast _))) rfl ?_) | (refine O_move (v := (.bool _)) rfl ?_) | (refine O_move (v := (.pointer _)) rfl ?_) | (refine O_move (v := (.slice _ _ _)) rfl ?_) | (refine O_move (v := (.agg _)) rfl ?_) | (refine O_move (v := (.tuple _)) rfl ?_) | (refine O_move (v := (.int _ _)) rfl ?_))
      | (guard_target =~ WO _ _ (Oper.mk _ (Op.assign _) _ _ _ none) _ _ _ _; first | (refine O_assign (v := (.int _ (Nat.cast _))) rfl ?_) | (refine O_assign (v := (.bool _)) rfl ?_) | (refine O_assign (v := (.pointer _)) rfl ?_) | (refine O_assign (v := (.slice _ _ _)) rfl ?_) | (refine O_assign (v := (.agg _)) rfl ?_) | (refine O_assign (v := (.tuple _)) rfl ?_) | (refine O_assign (v := (.int _ _)) rfl ?_))
      | (guard_target =~ WO _ _ (Oper.mk _ (Op.call _) _ _ _ none) _ _ _ _; first | (refine O_len Samg.underlying133 rfl rfl ?_) | (refine O_len Samg.underlying134 rfl rfl ?_))
      | (guard_target =~ WO _ _ (Oper.mk _ (Op.binOp BinOp.mul _ _ _ _) _ _ _ none) _ _ _ _; first | (refine O_mul (a := 8) rfl rfl (by first | exact fit_i64 (by omega) | exact fit_u64 (by omega) | exact fit_u8 (by omega) | exact fit_i32 (by omega) | exact fit_u16 (by omega)) ?_))
      | (guard_target =~ WO _ _ (Oper.mk _ (Op.binOp BinOp.lss _ _ _ _) _ _ _ none) _ _ _ _; first | (refine O_lss_t rfl rfl (by omega) ?_) | (refine O_lss_f rfl rfl (by omega) ?_) | (refine O_lss rfl rfl ?_))
      | (guard_target =~ WO _ _ (Oper.mk _ (Op.binOp BinOp.quo _ _ _ _) _ _ _ none) _ _ _ _; first | (refine O_quo (b := 8) rfl rfl (by first | exact fit_i64 (by omega) | exact fit_u64 (by omega) | exact fit_u8 (by omega) | exact fit_i32 (by omega) | exact fit_u16 (by omega)) (by omega) ?_))
      | (guard_target =~ WO _ _ (Oper.mk _ (Op.indexAddr 133 _ _) _ _ _ none) _ _ _ _; first | (refine O_index_s1 sl133 rfl rfl (by omega) ?_))
      | (guard_target =~ WO _ _ (Oper.mk _ (Op.binOp BinOp.rem _ _ _ _) _ _ _ none) _ _ _ _; first | (refine O_rem (b := 8) rfl rfl (by omega) ?_))
      | (guard_target =~ WO _ _ (Oper.mk _ (Op.binOp BinOp.shr _ _ _ _) _ _ _ none) _ _ _ _; first | (refine O_shr rfl rfl (by simp only [IntKind.bits]; omega) ?_))
      | (guard_target =~ WO _ _ (Oper.mk _ (Op.convert 27 5 _) _ _ _ none) _ _ _ _; first | (refine O_conv Samg.underlying27 Samg.underlying5 rfl (by first | exact fit_i64 (by omega) | exact fit_u64 (by omega) | exact fit_u8 (by omega) | exact fit_i32 (by omega) | exact fit_u16 (by omega)) ?_))
      | (guard_target =~ WO _ _ (Oper.mk _ (Op.indexAddr 134 _ _) _ _ _ none) _ _ _ _; first | (refine O_index_s1 sl134 rfl rfl (by omega) ?_))
      | (guard_target =~ WO _ _ (Oper.mk _ (Op.binOp BinOp.add _ _ _ _) _ _ _ none) _ _ _ _; first | (refine O_add (b := 1) rfl rfl (by first | exact fit_i64 (by omega) | exact fit_u64 (by omega) | exact fit_u8 (by omega) | exact fit_i32 (by omega) | exact fit_u16 (by omega)) ?_)))
    refine O_call (l := [.slice (some ⟨w.heap.size, 0, none⟩) (8 * n) (8 * n)]) cl100 (by rfl) ((norm_ok (x := val 18446744073709551616 (fun i => f (o + i)) n) (L := 8 * n) ⟨_, 8 * n, 8 * n, h, rfl, Dig.ofBlk hB3 (Nat.le_refl _) (Nat.le_refl _) (fun i hi => by rw [hh i hi]; omega), ?_, Nat.le_refl _⟩ (by omega)).mono ?_)
    · rw [val_congr hh]
      exact val_bytes (f := fun i => f (o + i)) fun i hi => hf _ (by omega)
    rintro v w4 ⟨hE4, k, g, hO, hg, hk⟩
    refine ⟨nof, ?_⟩
    repeat (first
      | (refine L_cons ?_)
      | (refine R_cons rfl ?_)
      | (refine W_seq ?_)
      | (refine W_region (by kernel_rfl) ?_)
      | (refine L_nil ?_)
      | (refine R_nil ?_)
      | (refine W_block ?_)
      | (refine W_skip ?_)
      | (refine W_exit ?_)
      | (refine W_ret ?_)
      | (guard_target =~ thenQ _ _ _ _ _; first | (refine T_next ?_) | (refine T_exit ?_) | (refine T_ret ?_))
      | (guard_target =~ blockQ _ _ _ _ _; first | (refine B_next ?_) | (refine B_same ?_) | (refine B_other (by kernel_rfl) ?_) | (refine B_ret ?_))
      | (refine W_true rfl rfl ?_)
      | (refine W_false rfl rfl ?_)
      | (guard_target =~ WO _ _ (Oper.mk _ (Op.assign _) _ _ _ none) _ _ _ _; first | (refine O_assign (v := v) rfl ?_) | (refine O_assign (v := (.int _ (Nat.cast _))) rfl ?_) | (refine O_assign (v := (.bool _)) rfl ?_) | (refine O_assign (v := (.pointer _)) rfl ?_) | (refine O_assign (v := (.slice _ _ _)) rfl ?_) | (refine O_assign (v := (.agg _)) rfl ?_) | (refine O_assign (v := (.tuple _)) rfl ?_) | (refine O_assign (v := (.int _ _)) rfl ?_))
      | (guard_target =~ WO _ _ (Oper.mk _ (Op.move _) _ _ _ none) _ _ _ _; first | (refine O_move (v := .int _ (Nat.cast (0 : Nat))) rfl ?_) | (refine O_move (v := (.int _ (Nat.cast _))) rfl ?_) | (refine O_move (v := (.bool _)) rfl ?_) | (refine O_move (v := (.pointer _)) rfl ?_) | (refine O_move (v := (.slice _ _ _)) rfl ?_) | (refine O_move (v := (.agg _)) rfl ?_) | (refine O_move (v := (.tuple _)) rfl ?_) | (refine O_move (v := (.int _ _)) rfl ?_))
      | (guard_target =~ WO _ _ (Oper.mk _ (Op.call _) _ _ _ none) _ _ _ _; first | (refine O_len Samg.underlying133 rfl rfl ?_) | (refine O_len Samg.underlying134 rfl rfl ?_))
      | (guard_target =~ WO _ _ (Oper.mk _ (Op.binOp BinOp.mul _ _ _ _) _ _ _ none) _ _ _ _; first | (refine O_mul (a := 8) rfl rfl (by first | exact fit_i64 (by omega) | exact fit_u64 (by omega) | exact fit_u8 (by omega) | exact fit_i32 (by omega) | exact fit_u16 (by omega)) ?_))
      | (guard_target =~ WO _ _ (Oper.mk _ (Op.binOp BinOp.lss _ _ _ _) _ _ _ none) _ _ _ _; first | (refine O_lss_t rfl rfl (by omega) ?_) | (refine O_lss_f rfl rfl (by omega) ?_) | (refine O_lss rfl rfl ?_))
      | (guard_target =~ WO _ _ (Oper.mk _ (Op.binOp BinOp.quo _ _ _ _) _ _ _ none) _ _ _ _; first | (refine O_quo (b := 8) rfl rfl (by first | exact fit_i64 (by omega) | exact fit_u64 (by omega) | exact fit_u8 (by omega) | exact fit_i32 (by omega) | exact fit_u16 (by omega)) (by omega) ?_))
      | (guard_target =~ WO _ _ (Oper.mk _ (Op.indexAddr 133 _ _) _ _ _ none) _ _ _ _; first | (refine O_index_s1 sl133 rfl rfl (by omega) ?_))
      | (guard_target =~ WO _ _ (Oper.mk _ (Op.binOp BinOp.rem _ _ _ _) _ _ _ none) _ _ _ _; first | (refine O_rem (b := 8) rfl rfl (by omega) ?_))
      | (guard_target =~ WO _ _ (Oper.mk _ (Op.binOp BinOp.shr _ _ _ _) _ _ _ none) _ _ _ _; first | (refine O_shr rfl rfl (by simp only [IntKind.bits]; omega) ?_))
      | (guard_target =~ WO _ _ (Oper.mk _ (Op.convert 27 5 _) _ _ _ none) _ _ _ _; first | (refine O_conv Samg.underlying27 Samg.underlying5 rfl (by first | exact fit_i64 (by omega) | exact fit_u64 (by omega) | exact fit_u8 (by omega) | exact fit_i32 (by omega) | exact fit_u16 (by omega)) ?_))
      | (guard_target =~ WO _ _ (Oper.mk _ (Op.indexAddr 134 _ _) _ _ _ none) _ _ _ _; first | (refine O_index_s1 sl134 rfl rfl (by omega) ?_))
      | (guard_target =~ WO _ _ (Oper.mk _ (Op.binOp BinOp.add _ _ _ _) _ _ _ none) _ _ _ _; first | (refine O_add (b := 1) rfl rfl (by first | exact fit_i64 (by omega) | exact fit_u64 (by omega) | exact fit_u8 (by omega) | exact fit_i32 (by omega) | exact fit_u16 (by omega)) ?_)))
    refine E_ret rfl rfl rfl ⟨hE3.trans hE4, ?_⟩
    have := hO.nat
    rw [hg] at this
    exact this.mono hk
end Go.Proofs.Ygcsam
