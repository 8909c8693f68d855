/-
  THE QUOTIENT OF math/bits BY A NUMBER WITH ITS TOP BIT SET. Own work.
-/
import Derived.Test.YgcsamN1
namespace Go.Proofs.Ygcsam
set_option linter.unusedVariables false
set_option maxHeartbeats 1000000
set_option linter.unusedSectionVars false
section
variable {P : Program} {Q : Exit → Env → World → Prop} {ρ : Env} {w : World} {n : Nat}
/-- What holds behind a block, however it was left. -/
theorem W_after {id : Nat} {c : Code} {next : Env → World → Prop} (M : Env → World → Prop) (h : WC P n c (blockQ id (thenQ M Q)) ρ w) (hm : ∀ ρ w, M ρ w → next ρ w) : WC P n c (blockQ id (thenQ next Q)) ρ w :=
  W_mid h fun e ρ w h => by
    cases e with
    | normal => exact hm _ _ h
    | exit id' =>
      simp only [blockQ] at h ⊢
      split
      · rename_i hid; rw [if_pos hid] at h; exact hm _ _ h
      · rename_i hid; rw [if_neg hid] at h; exact h
    | _ => exact h
end

section
variable {P : Program} {ops : Array Oper} {e : Bool} {K : Env → World → Prop} {Q : Exit → Env → World → Prop} {ρ : Env} {w : World} {d : Nat} {ty : TypeId} {pos : String} {af : Array Edge}
theorem O_index_str8 {t : TypeId} {s : ByteArray} {m : Nat} {k : IntKind} {x i : Operand} (ht : P.underlying t = some .string) (hx : ev ρ x = .string s) (hi : ev ρ i = .int k (m : Nat)) (hd : decide (∀ m, m < 256 → 128 ≤ m → s[m]? = some (8 : UInt8)) = true) (h1 : m < 256) (h2 : 128 ≤ m)
    (kk : K (put ρ d (.int .u8 ((8 : Nat) : Int))) w) : WO P ops ⟨some d, .index t x i, ty, pos, af, none⟩ e K ρ w :=
  O_index_str ht hx hi (of_decide_eq_true hd m h1 h2) kk
end
theorem len64_ok {x : Nat} (hx : x < 18446744073709551616) (hb : 9223372036854775808 ≤ x) (w : World) : Ret Samg.prog 152 #[.int .u64 (x : Nat)] w fun v w' => v = .int .i64 ((64 : Nat) : Int) ∧ w' = w := by
  refine W_enter (l := [.int .u64 (x : Nat)]) Samg.func152 rfl Samg.ntmps152 rfl ?_
  repeat (first
    | (refine L_cons ?_)
    | (refine R_cons rfl ?_)
    | (refine W_seq ?_)
    | (refine W_region (by kernel_rfl) ?_)
    | (refine L_nil ?_)
    | (refine R_nil ?_)
    | (refine W_block ?_)
    | (refine W_skip ?_)
    | (refine W_exit ?_)
    | (refine W_ret ?_)
    | (guard_target =~ thenQ _ _ _ _ _; first | (refine T_next ?_) | (refine T_exit ?_) | (refine T_ret ?_))
    | (guard_target =~ blockQ _ _ _ _ _; first | (refine B_next ?_) | (refine B_same ?_) | (refine B_other (by kernel_rfl) ?_) | (refine B_ret ?_))
    | (refine W_true rfl rfl ?_)
    | (refine W_false rfl rfl ?_)
    | (guard_target =~ WO _ _ (Oper.mk _ (Op.binOp BinOp.shr _ _ (Operand.const (Value.int IntKind.u64 32)) _) _ _ _ none) _ _ _ _; first | (refine O_shrd (b := 32) 4294967296 rfl rfl (by decide) rfl ?_))
    | (guard_target =~ WO _ _ (Oper.mk _ (Op.binOp BinOp.shr _ _ (Operand.const (Value.int IntKind.u64 16)) _) _ _ _ none) _ _ _ _; first | (refine O_shrd (b := 16) 65536 rfl rfl (by decide) rfl ?_))
    | (guard_target =~ WO _ _ (Oper.mk _ (Op.binOp BinOp.shr _ _ (Operand.const (Value.int IntKind.u64 8)) _) _ _ _ none) _ _ _ _; first | (refine O_shrd (b := 8) 256 rfl rfl (by decide) rfl ?_))
    | (guard_target =~ WO _ _ (Oper.mk _ (Op.index _ _ _) _ _ _ none) _ _ _ _; first | (refine O_index_str8 Samg.underlying9 rfl rfl (by kernel_rfl) (by omega) (by omega) ?_))
    | (guard_target =~ WO _ _ (Oper.mk _ (Op.assign _) _ _ _ none) _ _ _ _; first | (refine O_assign (v := .int _ (Nat.cast (0 : Nat))) rfl ?_) | (refine O_assign (v := .int _ (Nat.cast (32 : Nat))) rfl ?_) | (refine O_assign (v := (.int _ (Nat.cast _))) rfl ?_) | (refine O_assign (v := (.bool _)) rfl ?_) | (refine O_assign (v := (.pointer _)) rfl ?_) | (refine O_assign (v := (.slice _ _ _)) rfl ?_) | (refine O_assign (v := (.agg _)) rfl ?_) | (refine O_assign (v := (.tuple _)) rfl ?_) | (refine O_assign (v := (.int _ _)) rfl ?_))
    | (guard_target =~ WO _ _ (Oper.mk _ (Op.move _) _ _ _ none) _ _ _ _; first | (refine O_move (v := (.int _ (Nat.cast _))) rfl ?_) | (refine O_move (v := (.bool _)) rfl ?_) | (refine O_move (v := (.pointer _)) rfl ?_) | (refine O_move (v := (.slice _ _ _)) rfl ?_) | (refine O_move (v := (.agg _)) rfl ?_) | (refine O_move (v := (.tuple _)) rfl ?_) | (refine O_move (v := (.int _ _)) rfl ?_))
    | (guard_target =~ WO _ _ (Oper.mk _ (Op.binOp BinOp.geq _ _ _ _) _ _ _ none) _ _ _ _; first | (refine O_geq_t (b := 4294967296) rfl rfl (by omega) ?_) | (refine O_geq_f (b := 4294967296) rfl rfl (by omega) ?_) | (refine O_geq (b := 4294967296) rfl rfl ?_) | (refine O_geq_t (b := 65536) rfl rfl (by omega) ?_) | (refine O_geq_f (b := 65536) rfl rfl (by omega) ?_) | (refine O_geq (b := 65536) rfl rfl ?_) | (refine O_geq_t (b := 256) rfl rfl (by omega) ?_) | (refine O_geq_f (b := 256) rfl rfl (by omega) ?_) | (refine O_geq (b := 256) rfl rfl ?_))
    | (guard_target =~ WO _ _ (Oper.mk _ (Op.binOp BinOp.shr _ _ _ _) _ _ _ none) _ _ _ _; first | (refine O_shr (b := 32) rfl rfl (by simp only [IntKind.bits]; omega) ?_) | (refine O_shr (b := 16) rfl rfl (by simp only [IntKind.bits]; omega) ?_) | (refine O_shr (b := 8) rfl rfl (by simp only [IntKind.bits]; omega) ?_))
    | (guard_target =~ WO _ _ (Oper.mk _ (Op.binOp BinOp.add _ _ _ _) _ _ _ none) _ _ _ _; first | (refine O_add (b := 16) rfl rfl (by first | exact fit_i64 (by omega) | exact fit_u64 (by omega) | exact fit_u8 (by omega) | exact fit_i32 (by omega) | exact fit_u16 (by omega) | exact fit_u32 (by omega)) ?_) | (refine O_add (b := 8) rfl rfl (by first | exact fit_i64 (by omega) | exact fit_u64 (by omega) | exact fit_u8 (by omega) | exact fit_i32 (by omega) | exact fit_u16 (by omega) | exact fit_u32 (by omega)) ?_) | (refine O_add rfl rfl (by first | exact fit_i64 (by omega) | exact fit_u64 (by omega) | exact fit_u8 (by omega) | exact fit_i32 (by omega) | exact fit_u16 (by omega) | exact fit_u32 (by omega)) ?_))
    | (guard_target =~ WO _ _ (Oper.mk _ (Op.convert 27 5 _) _ _ _ none) _ _ _ _; first | (refine O_conv Samg.underlying27 Samg.underlying5 rfl (by first | exact fit_i64 (by omega) | exact fit_u64 (by omega) | exact fit_u8 (by omega) | exact fit_i32 (by omega) | exact fit_u16 (by omega) | exact fit_u32 (by omega)) ?_))
    | (guard_target =~ WO _ _ (Oper.mk _ (Op.convert 5 3 _) _ _ _ none) _ _ _ _; first | (refine O_conv Samg.underlying5 Samg.underlying3 rfl (by first | exact fit_i64 (by omega) | exact fit_u64 (by omega) | exact fit_u8 (by omega) | exact fit_i32 (by omega) | exact fit_u16 (by omega) | exact fit_u32 (by omega)) ?_)))
  exact E_ret rfl rfl rfl ⟨rfl, rfl⟩

theorem lead64_ok {x : Nat} (hx : x < 18446744073709551616) (hb : 9223372036854775808 ≤ x) (w : World) : Ret Samg.prog 147 #[.int .u64 (x : Nat)] w fun v w' => v = .int .i64 ((0 : Nat) : Int) ∧ w' = w := by
  refine W_enter (l := [.int .u64 (x : Nat)]) Samg.func147 rfl Samg.ntmps147 rfl ?_
  repeat (first
    | (refine L_cons ?_)
    | (refine R_cons rfl ?_)
    | (refine W_seq ?_)
    | (refine W_region (by kernel_rfl) ?_)
    | (refine L_nil ?_)
    | (refine R_nil ?_)
    | (refine W_block ?_)
    | (refine W_skip ?_)
    | (refine W_exit ?_)
    | (refine W_ret ?_)
    | (guard_target =~ thenQ _ _ _ _ _; first | (refine T_next ?_) | (refine T_exit ?_) | (refine T_ret ?_))
    | (guard_target =~ blockQ _ _ _ _ _; first | (refine B_next ?_) | (refine B_same ?_) | (refine B_other (by kernel_rfl) ?_) | (refine B_ret ?_))
    | (refine W_true rfl rfl ?_)
    | (refine W_false rfl rfl ?_)
    | (guard_target =~ WO _ _ (Oper.mk _ (Op.assign _) _ _ _ none) _ _ _ _; first | (refine O_assign (v := .int _ (Nat.cast (0 : Nat))) rfl ?_) | (refine O_assign (v := (.int _ (Nat.cast _))) rfl ?_) | (refine O_assign (v := (.bool _)) rfl ?_) | (refine O_assign (v := (.pointer _)) rfl ?_) | (refine O_assign (v := (.slice _ _ _)) rfl ?_) | (refine O_assign (v := (.agg _)) rfl ?_) | (refine O_assign (v := (.tuple _)) rfl ?_) | (refine O_assign (v := (.int _ _)) rfl ?_))
    | (guard_target =~ WO _ _ (Oper.mk _ (Op.move _) _ _ _ none) _ _ _ _; first | (refine O_move (v := (.int _ (Nat.cast _))) rfl ?_) | (refine O_move (v := (.bool _)) rfl ?_) | (refine O_move (v := (.pointer _)) rfl ?_) | (refine O_move (v := (.slice _ _ _)) rfl ?_) | (refine O_move (v := (.agg _)) rfl ?_) | (refine O_move (v := (.tuple _)) rfl ?_) | (refine O_move (v := (.int _ _)) rfl ?_))
    | (guard_target =~ WO _ _ (Oper.mk _ (Op.binOp BinOp.sub _ _ _ _) _ _ _ none) _ _ _ _; first | (refine O_sub (a := 64) rfl rfl (by first | exact fit_i64 (by omega) | exact fit_u64 (by omega) | exact fit_u8 (by omega) | exact fit_i32 (by omega) | exact fit_u16 (by omega) | exact fit_u32 (by omega)) (by omega) ?_)))
  refine O_call (l := [.int .u64 (x : Nat)]) cl152 (by rfl) ((len64_ok hx hb _).mono ?_)
  rintro v w1 ⟨rfl, rfl⟩
  refine ⟨nof, ?_⟩
  repeat (first
    | (refine L_cons ?_)
    | (refine R_cons rfl ?_)
    | (refine W_seq ?_)
    | (refine W_region (by kernel_rfl) ?_)
    | (refine L_nil ?_)
    | (refine R_nil ?_)
    | (refine W_block ?_)
    | (refine W_skip ?_)
    | (refine W_exit ?_)
    | (refine W_ret ?_)
    | (guard_target =~ thenQ _ _ _ _ _; first | (refine T_next ?_) | (refine T_exit ?_) | (refine T_ret ?_))
    | (guard_target =~ blockQ _ _ _ _ _; first | (refine B_next ?_) | (refine B_same ?_) | (refine B_other (by kernel_rfl) ?_) | (refine B_ret ?_))
    | (refine W_true rfl rfl ?_)
    | (refine W_false rfl rfl ?_)
    | (guard_target =~ WO _ _ (Oper.mk _ (Op.assign _) _ _ _ none) _ _ _ _; first | (refine O_assign (v := .int _ (Nat.cast (0 : Nat))) rfl ?_) | (refine O_assign (v := (.int _ (Nat.cast _))) rfl ?_) | (refine O_assign (v := (.bool _)) rfl ?_) | (refine O_assign (v := (.pointer _)) rfl ?_) | (refine O_assign (v := (.slice _ _ _)) rfl ?_) | (refine O_assign (v := (.agg _)) rfl ?_) | (refine O_assign (v := (.tuple _)) rfl ?_) | (refine O_assign (v := (.int _ _)) rfl ?_))
    | (guard_target =~ WO _ _ (Oper.mk _ (Op.move _) _ _ _ none) _ _ _ _; first | (refine O_move (v := (.int _ (Nat.cast _))) rfl ?_) | (refine O_move (v := (.bool _)) rfl ?_) | (refine O_move (v := (.pointer _)) rfl ?_) | (refine O_move (v := (.slice _ _ _)) rfl ?_) | (refine O_move (v := (.agg _)) rfl ?_) | (refine O_move (v := (.tuple _)) rfl ?_) | (refine O_move (v := (.int _ _)) rfl ?_))
    | (guard_target =~ WO _ _ (Oper.mk _ (Op.binOp BinOp.sub _ _ _ _) _ _ _ none) _ _ _ _; first | (refine O_sub (a := 64) rfl rfl (by first | exact fit_i64 (by omega) | exact fit_u64 (by omega) | exact fit_u8 (by omega) | exact fit_i32 (by omega) | exact fit_u16 (by omega) | exact fit_u32 (by omega)) (by omega) ?_)))
  exact E_ret rfl rfl rfl ⟨rfl, rfl⟩

/-! ### one digit -/
/-- Ahead of a correction: q is not below the digit, and r is what it leaves of u by the top half. -/
def DInv (u a y q r : Nat) : Prop := q * (y / 4294967296) + r = u ∧ (u * 4294967296 + a) / y ≤ q ∧ q ≤ 4294967297 ∧ r < 4294967296

theorem dig_split (y q : Nat) : q * y = q * (y / 4294967296) * 4294967296 + q * (y % 4294967296) := by
  have h : y = y / 4294967296 * 4294967296 + y % 4294967296 := by omega
  calc q * y = q * (y / 4294967296 * 4294967296 + y % 4294967296) := by rw [← h]
    _ = _ := by rw [Nat.mul_add, Nat.mul_assoc]
theorem dig_lt {u a y : Nat} (hy : 9223372036854775808 ≤ y) (hu : u < y) (ha : a < 4294967296) : (u * 4294967296 + a) / y < 4294967296 := by
  refine (Nat.div_lt_iff_lt_mul (by omega)).2 ?_
  have : (u + 1) * 4294967296 ≤ y * 4294967296 := Nat.mul_le_mul_right _ hu
  omega
theorem dig_le {u a y q : Nat} (hy : 9223372036854775808 ≤ y) (hu : u < y) (ha : a < 4294967296) (h : q * y ≤ u * 4294967296 + a) : q ≤ (u * 4294967296 + a) / y := (Nat.le_div_iff_mul_le (by omega)).2 h
theorem dig_gt {u a y q : Nat} (hy : 9223372036854775808 ≤ y) (hu : u < y) (ha : a < 4294967296) (h : u * 4294967296 + a < q * y) : (u * 4294967296 + a) / y < q := (Nat.div_lt_iff_lt_mul (by omega)).2 h

theorem DInv.init {u a y : Nat} (hy : 9223372036854775808 ≤ y) (hu : u < y) (ha : a < 4294967296) (hy2 : y < 18446744073709551616) : DInv u a y (u / (y / 4294967296)) (u - u / (y / 4294967296) * (y / 4294967296)) := by
  have h1 : u / (y / 4294967296) * (y / 4294967296) ≤ u := Nat.div_mul_le_self _ _
  have h2 : u < u / (y / 4294967296) * (y / 4294967296) + y / 4294967296 := Nat.lt_div_mul_add (by omega)
  refine ⟨by omega, ?_, ?_, by omega⟩
  · refine (Nat.le_div_iff_mul_le (by omega)).2 ?_
    have h3 : (u * 4294967296 + a) / y * y ≤ u * 4294967296 + a := Nat.div_mul_le_self _ _
    rw [dig_split y _] at h3
    generalize (u * 4294967296 + a) / y * (y / 4294967296) = p at *
    omega
  · refine Nat.le_of_lt_succ ((Nat.div_lt_iff_lt_mul (by omega)).2 ?_)
    omega
theorem DInv.step {u a y q r : Nat} (hy : 9223372036854775808 ≤ y) (hu : u < y) (ha : a < 4294967296) (h : DInv u a y q r) (ht : 4294967296 ≤ q ∨ 4294967296 * r + a < q * (y % 4294967296)) : 1 ≤ q ∧ (q - 1) * (y / 4294967296) + (r + y / 4294967296) = u ∧ (u * 4294967296 + a) / y ≤ q - 1 ∧ q - 1 ≤ 4294967296 := by
  obtain ⟨h1, h2, h3, h4⟩ := h
  have hq : (u * 4294967296 + a) / y < q := by
    rcases ht with ht | ht
    · have := dig_lt hy hu ha; omega
    · refine dig_gt hy hu ha ?_
      rw [dig_split y q]
      generalize q * (y / 4294967296) = p at *
      omega
  have h5 : 1 ≤ q := Nat.lt_of_le_of_lt (Nat.zero_le _) hq
  refine ⟨h5, ?_, Nat.le_sub_one_of_lt hq, by omega⟩
  have : q * (y / 4294967296) = (q - 1) * (y / 4294967296) + y / 4294967296 := by
    conv => lhs; rw [show q = (q - 1) + 1 by omega]
    rw [Nat.add_mul, Nat.one_mul]
  omega
theorem DInv.done {u a y q r : Nat} (hy : 9223372036854775808 ≤ y) (hu : u < y) (ha : a < 4294967296) (h : DInv u a y q r) (h0 : ¬ 4294967296 ≤ q) (h1 : ¬ 4294967296 * r + a < q * (y % 4294967296)) : q = (u * 4294967296 + a) / y := by
  refine Nat.le_antisymm (dig_le hy hu ha ?_) h.2.1
  have := h.1
  rw [dig_split y q]
  generalize q * (y / 4294967296) = p at *
  omega
theorem dig_done {u a y q r : Nat} (hy : 9223372036854775808 ≤ y) (hu : u < y) (ha : a < 4294967296) (h1 : q * (y / 4294967296) + r = u) (h2 : (u * 4294967296 + a) / y ≤ q) (h3 : q ≤ 4294967296) (h4 : 4294967296 ≤ r) : q = (u * 4294967296 + a) / y := by
  refine Nat.le_antisymm (dig_le hy hu ha ?_) h2
  have : q * (y % 4294967296) ≤ 4294967296 * 4294967295 := Nat.mul_le_mul h3 (by omega)
  rw [dig_split y q]
  generalize q * (y / 4294967296) = p at *
  omega
theorem dig_rest {u a y : Nat} (hy : 0 < y) (hy2 : y < 18446744073709551616) : ((u * 4294967296 % 18446744073709551616 + a) % 18446744073709551616 + (18446744073709551616 - (u * 4294967296 + a) / y * y % 18446744073709551616)) % 18446744073709551616 = (u * 4294967296 + a) % y := by
  have h1 : (u * 4294967296 + a) / y * y + (u * 4294967296 + a) % y = u * 4294967296 + a := by rw [Nat.mul_comm]; exact Nat.div_add_mod _ _
  have h2 : (u * 4294967296 + a) % y < y := Nat.mod_lt _ hy
  generalize (u * 4294967296 + a) / y * y = p at *
  omega
end Go.Proofs.Ygcsam
