import Derived.Test.YgcsamK4
namespace Go.Proofs.Ygcsam
set_option linter.unusedVariables false
set_option maxHeartbeats 1000000

/-! ### pi -/
def piB (a : Nat → Bool) : Nat → Bool := fun i => a ((i / 320 + 3 * (i / 64 % 5)) % 5 * 320 + i / 320 * 64 + i % 64)
def pK (a : Nat → Bool) (k : Nat) : Nat → Bool := fun i => if i < k then piB a i else false
theorem pK_succ {a : Nat → Bool} {x y : Nat} (hx : x < 5) (hy : y < 5) :
    (fun j => if 0 + x * 320 + y * 64 ≤ j ∧ j < 0 + x * 320 + y * 64 + 64 then (fun i => a (0 + (x + 3 * y) % 5 * 320 + x * 64 + i)) (j - (0 + x * 320 + y * 64)) else pK a (x * 320 + y * 64) j) = pK a (x * 320 + (y + 1) * 64) := by
  funext j
  simp only [pK]
  by_cases h1 : j < x * 320 + y * 64
  · rw [if_neg (by omega), if_pos h1, if_pos (by omega)]
  · by_cases h2 : j < x * 320 + (y + 1) * 64
    · have e1 : j / 320 = x := by omega
      have e2 : j / 64 % 5 = y := by omega
      rw [if_pos (by omega), if_pos h2, piB, e1, e2]
      congr 1
      omega
    · rw [if_neg (by omega), if_neg h1, if_neg h2]

theorem pi_ok {ba : Nat} {a : Nat → Bool} {tb : TypeId} {w : World} (hb : Blk w ba (bs 1600 a) tb) :
    Ret Samg.prog 111 #[.pointer (some ⟨ba, 0, none⟩)] w fun v w' => v = .agg (bs 1600 (piB a)) ∧ Ext w w' := by
  refine W_enter (l := [.pointer (some ⟨ba, 0, none⟩)]) Samg.func111 rfl Samg.ntmps111 rfl ?_
  repeat (first
    | (refine L_cons ?_)
    | (refine R_cons rfl ?_)
    | (refine W_seq ?_)
    | (refine W_region (by kernel_rfl) ?_)
    | (refine L_nil ?_)
    | (refine R_nil ?_)
    | (refine W_block ?_)
    | (refine W_skip ?_)
    | (refine W_exit ?_)
    | (refine W_ret ?_)
    | (guard_target =~ thenQ _ _ _ _ _; first | (refine T_next ?_) | (refine T_exit ?_) | (refine T_ret ?_))
    | (guard_target =~ blockQ _ _ _ _ _; first | (refine B_next ?_) | (refine B_same ?_) | (refine B_other (by kernel_rfl) ?_) | (refine B_ret ?_))
    | (refine W_true rfl rfl ?_)
    | (refine W_false rfl rfl ?_)
    | (guard_target =~ WO _ _ (Oper.mk _ (Op.move _) _ _ _ none) _ _ _ _; first | (refine O_move (v := .int _ (Nat.cast (OfNat.ofNat 0))) rfl ?_) | (refine O_move (v := (.int _ (Nat.cast _))) rfl ?_) | (refine O_move (v := (.bool _)) rfl ?_) | (refine O_move (v := (.pointer _)) rfl ?_) | (refine O_move (v := (.slice _ _ _)) rfl ?_) | (refine O_move (v := (.agg _)) rfl ?_) | (refine O_move (v := (.tuple _)) rfl ?_) | (refine O_move (v := (.int _ _)) rfl ?_))
    | (guard_target =~ WO _ _ (Oper.mk _ (Op.binOp BinOp.lss _ _ _ _) _ _ _ none) _ _ _ _; first | (refine O_lss_t (b := 5) rfl rfl (by omega) ?_) | (refine O_lss_f (b := 5) rfl rfl (by omega) ?_) | (refine O_lss (b := 5) rfl rfl ?_))
    | (guard_target =~ WO _ _ (Oper.mk _ (Op.assign _) _ _ _ none) _ _ _ _; first | (refine O_assign (v := (.int _ (Nat.cast _))) rfl ?_) | (refine O_assign (v := (.bool _)) rfl ?_) | (refine O_assign (v := (.pointer _)) rfl ?_) | (refine O_assign (v := (.slice _ _ _)) rfl ?_) | (refine O_assign (v := (.agg _)) rfl ?_) | (refine O_assign (v := (.tuple _)) rfl ?_) | (refine O_assign (v := (.int _ _)) rfl ?_))
    | (guard_target =~ WO _ _ (Oper.mk _ (Op.binOp BinOp.mul _ _ _ _) _ _ _ none) _ _ _ _; first | (refine O_mul (a := 3) rfl rfl (by first | exact fit_i64 (by omega) | exact fit_u64 (by omega) | exact fit_u8 (by omega) | exact fit_i32 (by omega) | exact fit_u16 (by omega)) ?_))
    | (guard_target =~ WO _ _ (Oper.mk _ (Op.binOp BinOp.add _ _ _ _) _ _ _ none) _ _ _ _; first | (refine O_add rfl rfl (by first | exact fit_i64 (by omega) | exact fit_u64 (by omega) | exact fit_u8 (by omega) | exact fit_i32 (by omega) | exact fit_u16 (by omega)) ?_) | (refine O_add (b := 1) rfl rfl (by first | exact fit_i64 (by omega) | exact fit_u64 (by omega) | exact fit_u8 (by omega) | exact fit_i32 (by omega) | exact fit_u16 (by omega)) ?_))
    | (guard_target =~ WO _ _ (Oper.mk _ (Op.binOp BinOp.rem _ _ _ _) _ _ _ none) _ _ _ _; first | (refine O_rem (b := 5) rfl rfl (by omega) ?_))
    | (guard_target =~ WO _ _ (Oper.mk _ (Op.nilCheck _) _ _ _ none) _ _ _ _; first | (refine O_nil rfl ?_))
    | (guard_target =~ WO _ _ (Oper.mk _ (Op.indexAddr 200 _ _) _ _ _ none) _ _ _ _; first | (refine O_index ar200 rfl rfl (by omega) ?_))
    | (guard_target =~ WO _ _ (Oper.mk _ (Op.indexAddr 198 _ _) _ _ _ none) _ _ _ _; first | (refine O_index ar198 rfl rfl (by omega) ?_)))
  refine O_alloc_agg z200 fun w1 hE1 hs1 hc1 => ?_
  have ha1 := hb.ext hE1
  have hne : ba ≠ w.heap.size := Nat.ne_of_lt hb.lt
  obtain ⟨bc, hbc⟩ : ∃ b, b = w.heap.size := ⟨_, rfl⟩
  have hge : w.heap.size ≤ bc := by omega
  rw [← hbc] at hc1 hne ⊢
  have hM1 : Mod [bc] w w1 := hE1.mod _
  clear hbc hs1 hE1
  repeat (first
    | (refine L_cons ?_)
    | (refine R_cons rfl ?_)
    | (refine W_seq ?_)
    | (refine W_region (by kernel_rfl) ?_)
    | (refine L_nil ?_)
    | (refine R_nil ?_)
    | (refine W_block ?_)
    | (refine W_skip ?_)
    | (refine W_exit ?_)
    | (refine W_ret ?_)
    | (guard_target =~ thenQ _ _ _ _ _; first | (refine T_next ?_) | (refine T_exit ?_) | (refine T_ret ?_))
    | (guard_target =~ blockQ _ _ _ _ _; first | (refine B_next ?_) | (refine B_same ?_) | (refine B_other (by kernel_rfl) ?_) | (refine B_ret ?_))
    | (refine W_true rfl rfl ?_)
    | (refine W_false rfl rfl ?_)
    | (guard_target =~ WO _ _ (Oper.mk _ (Op.move _) _ _ _ none) _ _ _ _; first | (refine O_move (v := .int _ (Nat.cast (OfNat.ofNat 0))) rfl ?_) | (refine O_move (v := (.int _ (Nat.cast _))) rfl ?_) | (refine O_move (v := (.bool _)) rfl ?_) | (refine O_move (v := (.pointer _)) rfl ?_) | (refine O_move (v := (.slice _ _ _)) rfl ?_) | (refine O_move (v := (.agg _)) rfl ?_) | (refine O_move (v := (.tuple _)) rfl ?_) | (refine O_move (v := (.int _ _)) rfl ?_))
    | (guard_target =~ WO _ _ (Oper.mk _ (Op.binOp BinOp.lss _ _ _ _) _ _ _ none) _ _ _ _; first | (refine O_lss_t (b := 5) rfl rfl (by omega) ?_) | (refine O_lss_f (b := 5) rfl rfl (by omega) ?_) | (refine O_lss (b := 5) rfl rfl ?_))
    | (guard_target =~ WO _ _ (Oper.mk _ (Op.assign _) _ _ _ none) _ _ _ _; first | (refine O_assign (v := (.int _ (Nat.cast _))) rfl ?_) | (refine O_assign (v := (.bool _)) rfl ?_) | (refine O_assign (v := (.pointer _)) rfl ?_) | (refine O_assign (v := (.slice _ _ _)) rfl ?_) | (refine O_assign (v := (.agg _)) rfl ?_) | (refine O_assign (v := (.tuple _)) rfl ?_) | (refine O_assign (v := (.int _ _)) rfl ?_))
    | (guard_target =~ WO _ _ (Oper.mk _ (Op.binOp BinOp.mul _ _ _ _) _ _ _ none) _ _ _ _; first | (refine O_mul (a := 3) rfl rfl (by first | exact fit_i64 (by omega) | exact fit_u64 (by omega) | exact fit_u8 (by omega) | exact fit_i32 (by omega) | exact fit_u16 (by omega)) ?_))
    | (guard_target =~ WO _ _ (Oper.mk _ (Op.binOp BinOp.add _ _ _ _) _ _ _ none) _ _ _ _; first | (refine O_add rfl rfl (by first | exact fit_i64 (by omega) | exact fit_u64 (by omega) | exact fit_u8 (by omega) | exact fit_i32 (by omega) | exact fit_u16 (by omega)) ?_) | (refine O_add (b := 1) rfl rfl (by first | exact fit_i64 (by omega) | exact fit_u64 (by omega) | exact fit_u8 (by omega) | exact fit_i32 (by omega) | exact fit_u16 (by omega)) ?_))
    | (guard_target =~ WO _ _ (Oper.mk _ (Op.binOp BinOp.rem _ _ _ _) _ _ _ none) _ _ _ _; first | (refine O_rem (b := 5) rfl rfl (by omega) ?_))
    | (guard_target =~ WO _ _ (Oper.mk _ (Op.nilCheck _) _ _ _ none) _ _ _ _; first | (refine O_nil rfl ?_))
    | (guard_target =~ WO _ _ (Oper.mk _ (Op.indexAddr 200 _ _) _ _ _ none) _ _ _ _; first | (refine O_index ar200 rfl rfl (by omega) ?_))
    | (guard_target =~ WO _ _ (Oper.mk _ (Op.indexAddr 198 _ _) _ _ _ none) _ _ _ _; first | (refine O_index ar198 rfl rfl (by omega) ?_)))
  refine W_loop (fun k ρ w' => ∃ x, k = 5 - x ∧ x ≤ 5 ∧ Has ρ [(0, .pointer (some ⟨ba, 0, none⟩)), (2, .pointer (some ⟨bc, 0, none⟩)), (5, .int .i64 (x : Nat))] ∧
    Mod [bc] w w' ∧ Blk w' ba (bs 1600 a) tb ∧ Blk w' bc (bs 1600 (pK a (x * 320))) 200) 5 ?_ ?_
  · refine ⟨0, by omega, by omega, Has.mk ⟨rfl, rfl, rfl, trivial⟩, hM1, ha1, ?_⟩
    rw [bs_congr (g := fun _ => false) (fun i _ => by simp [pK])]; exact hc1
  clear hM1 ha1 hc1 w1
  rintro k _ w1 ⟨x, rfl, hx, ⟨σ, rfl⟩, hM1, ha1, hc1⟩
  by_cases hlt : x < 5
  · repeat (first
      | (refine L_cons ?_)
      | (refine R_cons rfl ?_)
      | (refine W_seq ?_)
      | (refine W_region (by kernel_rfl) ?_)
      | (refine L_nil ?_)
      | (refine R_nil ?_)
      | (refine W_block ?_)
      | (refine W_skip ?_)
      | (refine W_exit ?_)
      | (refine W_ret ?_)
      | (guard_target =~ thenQ _ _ _ _ _; first | (refine T_next ?_) | (refine T_exit ?_) | (refine T_ret ?_))
      | (guard_target =~ blockQ _ _ _ _ _; first | (refine B_next ?_) | (refine B_same ?_) | (refine B_other (by kernel_rfl) ?_) | (refine B_ret ?_))
      | (refine W_true rfl rfl ?_)
      | (refine W_false rfl rfl ?_)
      | (guard_target =~ WO _ _ (Oper.mk _ (Op.move _) _ _ _ none) _ _ _ _; first | (refine O_move (v := .int _ (Nat.cast (OfNat.ofNat 0))) rfl ?_) | (refine O_move (v := (.int _ (Nat.cast _))) rfl ?_) | (refine O_move (v := (.bool _)) rfl ?_) | (refine O_move (v := (.pointer _)) rfl ?_) | (refine O_move (v := (.slice _ _ _)) rfl ?_) | (refine O_move (v := (.agg _)) rfl ?_) | (refine O_move (v := (.tuple _)) rfl ?_) | (refine O_move (v := (.int _ _)) rfl ?_))
      | (guard_target =~ WO _ _ (Oper.mk _ (Op.binOp BinOp.lss _ _ _ _) _ _ _ none) _ _ _ _; first | (refine O_lss_t (b := 5) rfl rfl (by omega) ?_) | (refine O_lss_f (b := 5) rfl rfl (by omega) ?_) | (refine O_lss (b := 5) rfl rfl ?_))
      | (guard_target =~ WO _ _ (Oper.mk _ (Op.assign _) _ _ _ none) _ _ _ _; first | (refine O_assign (v := (.int _ (Nat.cast _))) rfl ?_) | (refine O_assign (v := (.bool _)) rfl ?_) | (refine O_assign (v := (.pointer _)) rfl ?_) | (refine O_assign (v := (.slice _ _ _)) rfl ?_) | (refine O_assign (v := (.agg _)) rfl ?_) | (refine O_assign (v := (.tuple _)) rfl ?_) | (refine O_assign (v := (.int _ _)) rfl ?_))
      | (guard_target =~ WO _ _ (Oper.mk _ (Op.binOp BinOp.mul _ _ _ _) _ _ _ none) _ _ _ _; first | (refine O_mul (a := 3) rfl rfl (by first | exact fit_i64 (by omega) | exact fit_u64 (by omega) | exact fit_u8 (by omega) | exact fit_i32 (by omega) | exact fit_u16 (by omega)) ?_))
      | (guard_target =~ WO _ _ (Oper.mk _ (Op.binOp BinOp.add _ _ _ _) _ _ _ none) _ _ _ _; first | (refine O_add rfl rfl (by first | exact fit_i64 (by omega) | exact fit_u64 (by omega) | exact fit_u8 (by omega) | exact fit_i32 (by omega) | exact fit_u16 (by omega)) ?_) | (refine O_add (b := 1) rfl rfl (by first | exact fit_i64 (by omega) | exact fit_u64 (by omega) | exact fit_u8 (by omega) | exact fit_i32 (by omega) | exact fit_u16 (by omega)) ?_))
      | (guard_target =~ WO _ _ (Oper.mk _ (Op.binOp BinOp.rem _ _ _ _) _ _ _ none) _ _ _ _; first | (refine O_rem (b := 5) rfl rfl (by omega) ?_))
      | (guard_target =~ WO _ _ (Oper.mk _ (Op.nilCheck _) _ _ _ none) _ _ _ _; first | (refine O_nil rfl ?_))
      | (guard_target =~ WO _ _ (Oper.mk _ (Op.indexAddr 200 _ _) _ _ _ none) _ _ _ _; first | (refine O_index ar200 rfl rfl (by omega) ?_))
      | (guard_target =~ WO _ _ (Oper.mk _ (Op.indexAddr 198 _ _) _ _ _ none) _ _ _ _; first | (refine O_index ar198 rfl rfl (by omega) ?_)))
    refine W_loop (fun k ρ w' => ∃ y, k = 5 - y ∧ y ≤ 5 ∧ Has ρ [(0, .pointer (some ⟨ba, 0, none⟩)), (2, .pointer (some ⟨bc, 0, none⟩)), (3, .int .i64 (x : Nat)), (5, .int .i64 (x : Nat)), (8, .int .i64 (y : Nat))] ∧
      Mod [bc] w w' ∧ Blk w' ba (bs 1600 a) tb ∧ Blk w' bc (bs 1600 (pK a (x * 320 + y * 64))) 200) 5 ?_ ?_
    · exact ⟨0, by omega, by omega, Has.mk ⟨rfl, rfl, rfl, rfl, rfl, trivial⟩, hM1, ha1, (by rw [show x * 320 + 0 * 64 = x * 320 from by omega]; exact hc1)⟩
    clear hM1 ha1 hc1 w1
    rintro k _ w1 ⟨y, rfl, hy, ⟨σ, rfl⟩, hM1, ha1, hc1⟩
    by_cases hlty : y < 5
    · repeat (first
        | (refine L_cons ?_)
        | (refine R_cons rfl ?_)
        | (refine W_seq ?_)
        | (refine W_region (by kernel_rfl) ?_)
        | (refine L_nil ?_)
        | (refine R_nil ?_)
        | (refine W_block ?_)
        | (refine W_skip ?_)
        | (refine W_exit ?_)
        | (refine W_ret ?_)
        | (guard_target =~ thenQ _ _ _ _ _; first | (refine T_next ?_) | (refine T_exit ?_) | (refine T_ret ?_))
        | (guard_target =~ blockQ _ _ _ _ _; first | (refine B_next ?_) | (refine B_same ?_) | (refine B_other (by kernel_rfl) ?_) | (refine B_ret ?_))
        | (refine W_true rfl rfl ?_)
        | (refine W_false rfl rfl ?_)
        | (guard_target =~ WO _ _ (Oper.mk _ (Op.move _) _ _ _ none) _ _ _ _; first | (refine O_move (v := .int _ (Nat.cast (OfNat.ofNat 0))) rfl ?_) | (refine O_move (v := (.int _ (Nat.cast _))) rfl ?_) | (refine O_move (v := (.bool _)) rfl ?_) | (refine O_move (v := (.pointer _)) rfl ?_) | (refine O_move (v := (.slice _ _ _)) rfl ?_) | (refine O_move (v := (.agg _)) rfl ?_) | (refine O_move (v := (.tuple _)) rfl ?_) | (refine O_move (v := (.int _ _)) rfl ?_))
        | (guard_target =~ WO _ _ (Oper.mk _ (Op.binOp BinOp.lss _ _ _ _) _ _ _ none) _ _ _ _; first | (refine O_lss_t (b := 5) rfl rfl (by omega) ?_) | (refine O_lss_f (b := 5) rfl rfl (by omega) ?_) | (refine O_lss (b := 5) rfl rfl ?_))
        | (guard_target =~ WO _ _ (Oper.mk _ (Op.assign _) _ _ _ none) _ _ _ _; first | (refine O_assign (v := (.int _ (Nat.cast _))) rfl ?_) | (refine O_assign (v := (.bool _)) rfl ?_) | (refine O_assign (v := (.pointer _)) rfl ?_) | (refine O_assign (v := (.slice _ _ _)) rfl ?_) | (refine O_assign (v := (.agg _)) rfl ?_) | (refine O_assign (v := (.tuple _)) rfl ?_) | (refine O_assign (v := (.int _ _)) rfl ?_))
        | (guard_target =~ WO _ _ (Oper.mk _ (Op.binOp BinOp.mul _ _ _ _) _ _ _ none) _ _ _ _; first | (refine O_mul (a := 3) rfl rfl (by first | exact fit_i64 (by omega) | exact fit_u64 (by omega) | exact fit_u8 (by omega) | exact fit_i32 (by omega) | exact fit_u16 (by omega)) ?_))
        | (guard_target =~ WO _ _ (Oper.mk _ (Op.binOp BinOp.add _ _ _ _) _ _ _ none) _ _ _ _; first | (refine O_add rfl rfl (by first | exact fit_i64 (by omega) | exact fit_u64 (by omega) | exact fit_u8 (by omega) | exact fit_i32 (by omega) | exact fit_u16 (by omega)) ?_) | (refine O_add (b := 1) rfl rfl (by first | exact fit_i64 (by omega) | exact fit_u64 (by omega) | exact fit_u8 (by omega) | exact fit_i32 (by omega) | exact fit_u16 (by omega)) ?_))
        | (guard_target =~ WO _ _ (Oper.mk _ (Op.binOp BinOp.rem _ _ _ _) _ _ _ none) _ _ _ _; first | (refine O_rem (b := 5) rfl rfl (by omega) ?_))
        | (guard_target =~ WO _ _ (Oper.mk _ (Op.nilCheck _) _ _ _ none) _ _ _ _; first | (refine O_nil rfl ?_))
        | (guard_target =~ WO _ _ (Oper.mk _ (Op.indexAddr 200 _ _) _ _ _ none) _ _ _ _; first | (refine O_index ar200 rfl rfl (by omega) ?_))
        | (guard_target =~ WO _ _ (Oper.mk _ (Op.indexAddr 198 _ _) _ _ _ none) _ _ _ _; first | (refine O_index ar198 rfl rfl (by omega) ?_)))
      refine W_drawn [] [0, 1, 2, 3, 4, 5, 6, 7, 8, 9, 10, 11, 12, 13, 14, 15] mixed (by kernel_rfl) (by kernel_rfl) ?_
      repeat (first
        | (refine L_cons ?_)
        | (refine R_cons rfl ?_)
        | (refine W_seq ?_)
        | (refine W_region (by kernel_rfl) ?_)
        | (refine L_nil ?_)
        | (refine R_nil ?_)
        | (refine W_block ?_)
        | (refine W_skip ?_)
        | (refine W_exit ?_)
        | (refine W_ret ?_)
        | (guard_target =~ thenQ _ _ _ _ _; first | (refine T_next ?_) | (refine T_exit ?_) | (refine T_ret ?_))
        | (guard_target =~ blockQ _ _ _ _ _; first | (refine B_next ?_) | (refine B_same ?_) | (refine B_other (by kernel_rfl) ?_) | (refine B_ret ?_))
        | (refine W_true rfl rfl ?_)
        | (refine W_false rfl rfl ?_)
        | (guard_target =~ WO _ _ (Oper.mk _ (Op.load 197 _) _ _ _ none) _ _ _ _; first | (refine O_load_bss ag197 rfl ha1.drew (by omega) ?_))
        | (guard_target =~ WO _ _ (Oper.mk _ (Op.move _) _ _ _ none) _ _ _ _; first | (refine O_move (v := .int _ (Nat.cast (OfNat.ofNat 0))) rfl ?_) | (refine O_move (v := (.int _ (Nat.cast _))) rfl ?_) | (refine O_move (v := (.bool _)) rfl ?_) | (refine O_move (v := (.pointer _)) rfl ?_) | (refine O_move (v := (.slice _ _ _)) rfl ?_) | (refine O_move (v := (.agg _)) rfl ?_) | (refine O_move (v := (.tuple _)) rfl ?_) | (refine O_move (v := (.int _ _)) rfl ?_))
        | (guard_target =~ WO _ _ (Oper.mk _ (Op.binOp BinOp.lss _ _ _ _) _ _ _ none) _ _ _ _; first | (refine O_lss_t (b := 5) rfl rfl (by omega) ?_) | (refine O_lss_f (b := 5) rfl rfl (by omega) ?_) | (refine O_lss (b := 5) rfl rfl ?_))
        | (guard_target =~ WO _ _ (Oper.mk _ (Op.assign _) _ _ _ none) _ _ _ _; first | (refine O_assign (v := (.int _ (Nat.cast _))) rfl ?_) | (refine O_assign (v := (.bool _)) rfl ?_) | (refine O_assign (v := (.pointer _)) rfl ?_) | (refine O_assign (v := (.slice _ _ _)) rfl ?_) | (refine O_assign (v := (.agg _)) rfl ?_) | (refine O_assign (v := (.tuple _)) rfl ?_) | (refine O_assign (v := (.int _ _)) rfl ?_))
        | (guard_target =~ WO _ _ (Oper.mk _ (Op.binOp BinOp.mul _ _ _ _) _ _ _ none) _ _ _ _; first | (refine O_mul (a := 3) rfl rfl (by first | exact fit_i64 (by omega) | exact fit_u64 (by omega) | exact fit_u8 (by omega) | exact fit_i32 (by omega) | exact fit_u16 (by omega)) ?_))
        | (guard_target =~ WO _ _ (Oper.mk _ (Op.binOp BinOp.add _ _ _ _) _ _ _ none) _ _ _ _; first | (refine O_add rfl rfl (by first | exact fit_i64 (by omega) | exact fit_u64 (by omega) | exact fit_u8 (by omega) | exact fit_i32 (by omega) | exact fit_u16 (by omega)) ?_) | (refine O_add (b := 1) rfl rfl (by first | exact fit_i64 (by omega) | exact fit_u64 (by omega) | exact fit_u8 (by omega) | exact fit_i32 (by omega) | exact fit_u16 (by omega)) ?_))
        | (guard_target =~ WO _ _ (Oper.mk _ (Op.binOp BinOp.rem _ _ _ _) _ _ _ none) _ _ _ _; first | (refine O_rem (b := 5) rfl rfl (by omega) ?_))
        | (guard_target =~ WO _ _ (Oper.mk _ (Op.nilCheck _) _ _ _ none) _ _ _ _; first | (refine O_nil rfl ?_))
        | (guard_target =~ WO _ _ (Oper.mk _ (Op.indexAddr 200 _ _) _ _ _ none) _ _ _ _; first | (refine O_index ar200 rfl rfl (by omega) ?_))
        | (guard_target =~ WO _ _ (Oper.mk _ (Op.indexAddr 198 _ _) _ _ _ none) _ _ _ _; first | (refine O_index ar198 rfl rfl (by omega) ?_)))
      refine O_store_bss ag197 rfl rfl hc1.drew (by omega) rfl fun w2 hU => ?_
      have hU := hU.undrew
      rw [pK_succ hlt hlty] at hU
      repeat (first
        | (refine L_cons ?_)
        | (refine R_cons rfl ?_)
        | (refine W_seq ?_)
        | (refine W_region (by kernel_rfl) ?_)
        | (refine L_nil ?_)
        | (refine R_nil ?_)
        | (refine W_block ?_)
        | (refine W_skip ?_)
        | (refine W_exit ?_)
        | (refine W_ret ?_)
        | (guard_target =~ thenQ _ _ _ _ _; first | (refine T_next ?_) | (refine T_exit ?_) | (refine T_ret ?_))
        | (guard_target =~ blockQ _ _ _ _ _; first | (refine B_next ?_) | (refine B_same ?_) | (refine B_other (by kernel_rfl) ?_) | (refine B_ret ?_))
        | (refine W_true rfl rfl ?_)
        | (refine W_false rfl rfl ?_)
        | (guard_target =~ WO _ _ (Oper.mk _ (Op.move _) _ _ _ none) _ _ _ _; first | (refine O_move (v := .int _ (Nat.cast (OfNat.ofNat 0))) rfl ?_) | (refine O_move (v := (.int _ (Nat.cast _))) rfl ?_) | (refine O_move (v := (.bool _)) rfl ?_) | (refine O_move (v := (.pointer _)) rfl ?_) | (refine O_move (v := (.slice _ _ _)) rfl ?_) | (refine O_move (v := (.agg _)) rfl ?_) | (refine O_move (v := (.tuple _)) rfl ?_) | (refine O_move (v := (.int _ _)) rfl ?_))
        | (guard_target =~ WO _ _ (Oper.mk _ (Op.binOp BinOp.lss _ _ _ _) _ _ _ none) _ _ _ _; first | (refine O_lss_t (b := 5) rfl rfl (by omega) ?_) | (refine O_lss_f (b := 5) rfl rfl (by omega) ?_) | (refine O_lss (b := 5) rfl rfl ?_))
        | (guard_target =~ WO _ _ (Oper.mk _ (Op.assign _) _ _ _ none) _ _ _ _; first | (refine O_assign (v := (.int _ (Nat.cast _))) rfl ?_) | (refine O_assign (v := (.bool _)) rfl ?_) | (refine O_assign (v := (.pointer _)) rfl ?_) | (refine O_assign (v := (.slice _ _ _)) rfl ?_) | (refine O_assign (v := (.agg _)) rfl ?_) | (refine O_assign (v := (.tuple _)) rfl ?_) | (refine O_assign (v := (.int _ _)) rfl ?_))
        | (guard_target =~ WO _ _ (Oper.mk _ (Op.binOp BinOp.mul _ _ _ _) _ _ _ none) _ _ _ _; first | (refine O_mul (a := 3) rfl rfl (by first | exact fit_i64 (by omega) | exact fit_u64 (by omega) | exact fit_u8 (by omega) | exact fit_i32 (by omega) | exact fit_u16 (by omega)) ?_))
        | (guard_target =~ WO _ _ (Oper.mk _ (Op.binOp BinOp.add _ _ _ _) _ _ _ none) _ _ _ _; first | (refine O_add rfl rfl (by first | exact fit_i64 (by omega) | exact fit_u64 (by omega) | exact fit_u8 (by omega) | exact fit_i32 (by omega) | exact fit_u16 (by omega)) ?_) | (refine O_add (b := 1) rfl rfl (by first | exact fit_i64 (by omega) | exact fit_u64 (by omega) | exact fit_u8 (by omega) | exact fit_i32 (by omega) | exact fit_u16 (by omega)) ?_))
        | (guard_target =~ WO _ _ (Oper.mk _ (Op.binOp BinOp.rem _ _ _ _) _ _ _ none) _ _ _ _; first | (refine O_rem (b := 5) rfl rfl (by omega) ?_))
        | (guard_target =~ WO _ _ (Oper.mk _ (Op.nilCheck _) _ _ _ none) _ _ _ _; first | (refine O_nil rfl ?_))
        | (guard_target =~ WO _ _ (Oper.mk _ (Op.indexAddr 200 _ _) _ _ _ none) _ _ _ _; first | (refine O_index ar200 rfl rfl (by omega) ?_))
        | (guard_target =~ WO _ _ (Oper.mk _ (Op.indexAddr 198 _ _) _ _ _ none) _ _ _ _; first | (refine O_index ar198 rfl rfl (by omega) ?_)))
      exact ⟨5 - (y + 1), by omega, y + 1, rfl, by omega, Has.mk ⟨rfl, rfl, rfl, rfl, rfl, trivial⟩, hM1.trans hU.mod, ha1.upd hU hne, hU.here⟩
    · obtain rfl : y = 5 := by omega
      repeat (first
        | (refine L_cons ?_)
        | (refine R_cons rfl ?_)
        | (refine W_seq ?_)
        | (refine W_region (by kernel_rfl) ?_)
        | (refine L_nil ?_)
        | (refine R_nil ?_)
        | (refine W_block ?_)
        | (refine W_skip ?_)
        | (refine W_exit ?_)
        | (refine W_ret ?_)
        | (guard_target =~ thenQ _ _ _ _ _; first | (refine T_next ?_) | (refine T_exit ?_) | (refine T_ret ?_))
        | (guard_target =~ blockQ _ _ _ _ _; first | (refine B_next ?_) | (refine B_same ?_) | (refine B_other (by kernel_rfl) ?_) | (refine B_ret ?_))
        | (refine W_true rfl rfl ?_)
        | (refine W_false rfl rfl ?_)
        | (guard_target =~ WO _ _ (Oper.mk _ (Op.move _) _ _ _ none) _ _ _ _; first | (refine O_move (v := .int _ (Nat.cast (OfNat.ofNat 0))) rfl ?_) | (refine O_move (v := (.int _ (Nat.cast _))) rfl ?_) | (refine O_move (v := (.bool _)) rfl ?_) | (refine O_move (v := (.pointer _)) rfl ?_) | (refine O_move (v := (.slice _ _ _)) rfl ?_) | (refine O_move (v := (.agg _)) rfl ?_) | (refine O_move (v := (.tuple _)) rfl ?_) | (refine O_move (v := (.int _ _)) rfl ?_))
        | (guard_target =~ WO _ _ (Oper.mk _ (Op.binOp BinOp.lss _ _ _ _) _ _ _ none) _ _ _ _; first | (refine O_lss_t (b := 5) rfl rfl (by omega) ?_) | (refine O_lss_f (b := 5) rfl rfl (by omega) ?_) | (refine O_lss (b := 5) rfl rfl ?_))
        | (guard_target =~ WO _ _ (Oper.mk _ (Op.assign _) _ _ _ none) _ _ _ _; first | (refine O_assign (v := (.int _ (Nat.cast _))) rfl ?_) | (refine O_assign (v := (.bool _)) rfl ?_) | (refine O_assign (v := (.pointer _)) rfl ?_) | (refine O_assign (v := (.slice _ _ _)) rfl ?_) | (refine O_assign (v := (.agg _)) rfl ?_) | (refine O_assign (v := (.tuple _)) rfl ?_) | (refine O_assign (v := (.int _ _)) rfl ?_))
        | (guard_target =~ WO _ _ (Oper.mk _ (Op.binOp BinOp.mul _ _ _ _) _ _ _ none) _ _ _ _; first | (refine O_mul (a := 3) rfl rfl (by first | exact fit_i64 (by omega) | exact fit_u64 (by omega) | exact fit_u8 (by omega) | exact fit_i32 (by omega) | exact fit_u16 (by omega)) ?_))
        | (guard_target =~ WO _ _ (Oper.mk _ (Op.binOp BinOp.add _ _ _ _) _ _ _ none) _ _ _ _; first | (refine O_add rfl rfl (by first | exact fit_i64 (by omega) | exact fit_u64 (by omega) | exact fit_u8 (by omega) | exact fit_i32 (by omega) | exact fit_u16 (by omega)) ?_) | (refine O_add (b := 1) rfl rfl (by first | exact fit_i64 (by omega) | exact fit_u64 (by omega) | exact fit_u8 (by omega) | exact fit_i32 (by omega) | exact fit_u16 (by omega)) ?_))
        | (guard_target =~ WO _ _ (Oper.mk _ (Op.binOp BinOp.rem _ _ _ _) _ _ _ none) _ _ _ _; first | (refine O_rem (b := 5) rfl rfl (by omega) ?_))
        | (guard_target =~ WO _ _ (Oper.mk _ (Op.nilCheck _) _ _ _ none) _ _ _ _; first | (refine O_nil rfl ?_))
        | (guard_target =~ WO _ _ (Oper.mk _ (Op.indexAddr 200 _ _) _ _ _ none) _ _ _ _; first | (refine O_index ar200 rfl rfl (by omega) ?_))
        | (guard_target =~ WO _ _ (Oper.mk _ (Op.indexAddr 198 _ _) _ _ _ none) _ _ _ _; first | (refine O_index ar198 rfl rfl (by omega) ?_)))
      exact ⟨5 - (x + 1), by omega, x + 1, rfl, by omega, Has.mk ⟨rfl, rfl, rfl, trivial⟩, hM1, ha1, by rw [show (x + 1) * 320 = x * 320 + 5 * 64 by omega]; exact hc1⟩
  · obtain rfl : x = 5 := by omega
    repeat (first
      | (refine L_cons ?_)
      | (refine R_cons rfl ?_)
      | (refine W_seq ?_)
      | (refine W_region (by kernel_rfl) ?_)
      | (refine L_nil ?_)
      | (refine R_nil ?_)
      | (refine W_block ?_)
      | (refine W_skip ?_)
      | (refine W_exit ?_)
      | (refine W_ret ?_)
      | (guard_target =~ thenQ _ _ _ _ _; first | (refine T_next ?_) | (refine T_exit ?_) | (refine T_ret ?_))
      | (guard_target =~ blockQ _ _ _ _ _; first | (refine B_next ?_) | (refine B_same ?_) | (refine B_other (by kernel_rfl) ?_) | (refine B_ret ?_))
      | (refine W_true rfl rfl ?_)
      | (refine W_false rfl rfl ?_)
      | (guard_target =~ WO _ _ (Oper.mk _ (Op.load 200 _) _ _ _ none) _ _ _ _; first | (refine O_load_bss ag200 rfl hc1 (by omega) ?_))
      | (guard_target =~ WO _ _ (Oper.mk _ (Op.move _) _ _ _ none) _ _ _ _; first | (refine O_move (v := .int _ (Nat.cast (OfNat.ofNat 0))) rfl ?_) | (refine O_move (v := (.int _ (Nat.cast _))) rfl ?_) | (refine O_move (v := (.bool _)) rfl ?_) | (refine O_move (v := (.pointer _)) rfl ?_) | (refine O_move (v := (.slice _ _ _)) rfl ?_) | (refine O_move (v := (.agg _)) rfl ?_) | (refine O_move (v := (.tuple _)) rfl ?_) | (refine O_move (v := (.int _ _)) rfl ?_))
      | (guard_target =~ WO _ _ (Oper.mk _ (Op.binOp BinOp.lss _ _ _ _) _ _ _ none) _ _ _ _; first | (refine O_lss_t (b := 5) rfl rfl (by omega) ?_) | (refine O_lss_f (b := 5) rfl rfl (by omega) ?_) | (refine O_lss (b := 5) rfl rfl ?_))
      | (guard_target =~ WO _ _ (Oper.mk _ (Op.assign _) _ _ _ none) _ _ _ _; first | (refine O_assign (v := (.int _ (Nat.cast _))) rfl ?_) | (refine O_assign (v := (.bool _)) rfl ?_) | (refine O_assign (v := (.pointer _)) rfl ?_) | (refine O_assign (v := (.slice _ _ _)) rfl ?_) | (refine O_assign (v := (.agg _)) rfl ?_) | (refine O_assign (v := (.tuple _)) rfl ?_) | (refine O_assign (v := (.int _ _)) rfl ?_))
      | (guard_target =~ WO _ _ (Oper.mk _ (Op.binOp BinOp.mul _ _ _ _) _ _ _ none) _ _ _ _; first | (refine O_mul (a := 3) rfl rfl (by first | exact fit_i64 (by omega) | exact fit_u64 (by omega) | exact fit_u8 (by omega) | exact fit_i32 (by omega) | exact fit_u16 (by omega)) ?_))
      | (guard_target =~ WO _ _ (Oper.mk _ (Op.binOp BinOp.add _ _ _ _) _ _ _ none) _ _ _ _; first | (refine O_add rfl rfl (by first | exact fit_i64 (by omega) | exact fit_u64 (by omega) | exact fit_u8 (by omega) | exact fit_i32 (by omega) | exact fit_u16 (by omega)) ?_) | (refine O_add (b := 1) rfl rfl (by first | exact fit_i64 (by omega) | exact fit_u64 (by omega) | exact fit_u8 (by omega) | exact fit_i32 (by omega) | exact fit_u16 (by omega)) ?_))
      | (guard_target =~ WO _ _ (Oper.mk _ (Op.binOp BinOp.rem _ _ _ _) _ _ _ none) _ _ _ _; first | (refine O_rem (b := 5) rfl rfl (by omega) ?_))
      | (guard_target =~ WO _ _ (Oper.mk _ (Op.nilCheck _) _ _ _ none) _ _ _ _; first | (refine O_nil rfl ?_))
      | (guard_target =~ WO _ _ (Oper.mk _ (Op.indexAddr 200 _ _) _ _ _ none) _ _ _ _; first | (refine O_index ar200 rfl rfl (by omega) ?_))
      | (guard_target =~ WO _ _ (Oper.mk _ (Op.indexAddr 198 _ _) _ _ _ none) _ _ _ _; first | (refine O_index ar198 rfl rfl (by omega) ?_)))
    refine O_store_bss ag200 rfl rfl hc1 (by omega) rfl fun w2 hU => ?_
    repeat (first
      | (refine L_cons ?_)
      | (refine R_cons rfl ?_)
      | (refine W_seq ?_)
      | (refine W_region (by kernel_rfl) ?_)
      | (refine L_nil ?_)
      | (refine R_nil ?_)
      | (refine W_block ?_)
      | (refine W_skip ?_)
      | (refine W_exit ?_)
      | (refine W_ret ?_)
      | (guard_target =~ thenQ _ _ _ _ _; first | (refine T_next ?_) | (refine T_exit ?_) | (refine T_ret ?_))
      | (guard_target =~ blockQ _ _ _ _ _; first | (refine B_next ?_) | (refine B_same ?_) | (refine B_other (by kernel_rfl) ?_) | (refine B_ret ?_))
      | (refine W_true rfl rfl ?_)
      | (refine W_false rfl rfl ?_)
      | (guard_target =~ WO _ _ (Oper.mk _ (Op.move _) _ _ _ none) _ _ _ _; first | (refine O_move (v := .int _ (Nat.cast (OfNat.ofNat 0))) rfl ?_) | (refine O_move (v := (.int _ (Nat.cast _))) rfl ?_) | (refine O_move (v := (.bool _)) rfl ?_) | (refine O_move (v := (.pointer _)) rfl ?_) | (refine O_move (v := (.slice _ _ _)) rfl ?_) | (refine O_move (v := (.agg _)) rfl ?_) | (refine O_move (v := (.tuple _)) rfl ?_) | (refine O_move (v := (.int _ _)) rfl ?_))
      | (guard_target =~ WO _ _ (Oper.mk _ (Op.binOp BinOp.lss _ _ _ _) _ _ _ none) _ _ _ _; first | (refine O_lss_t (b := 5) rfl rfl (by omega) ?_) | (refine O_lss_f (b := 5) rfl rfl (by omega) ?_) | (refine O_lss (b := 5) rfl rfl ?_))
      | (guard_target =~ WO _ _ (Oper.mk _ (Op.assign _) _ _ _ none) _ _ _ _; first | (refine O_assign (v := (.int _ (Nat.cast _))) rfl ?_) | (refine O_assign (v := (.bool _)) rfl ?_) | (refine O_assign (v := (.pointer _)) rfl ?_) | (refine O_assign (v := (.slice _ _ _)) rfl ?_) | (refine O_assign (v := (.agg _)) rfl ?_) | (refine O_assign (v := (.tuple _)) rfl ?_) | (refine O_assign (v := (.int _ _)) rfl ?_))
      | (guard_target =~ WO _ _ (Oper.mk _ (Op.binOp BinOp.mul _ _ _ _) _ _ _ none) _ _ _ _; first | (refine O_mul (a := 3) rfl rfl (by first | exact fit_i64 (by omega) | exact fit_u64 (by omega) | exact fit_u8 (by omega) | exact fit_i32 (by omega) | exact fit_u16 (by omega)) ?_))
      | (guard_target =~ WO _ _ (Oper.mk _ (Op.binOp BinOp.add _ _ _ _) _ _ _ none) _ _ _ _; first | (refine O_add rfl rfl (by first | exact fit_i64 (by omega) | exact fit_u64 (by omega) | exact fit_u8 (by omega) | exact fit_i32 (by omega) | exact fit_u16 (by omega)) ?_) | (refine O_add (b := 1) rfl rfl (by first | exact fit_i64 (by omega) | exact fit_u64 (by omega) | exact fit_u8 (by omega) | exact fit_i32 (by omega) | exact fit_u16 (by omega)) ?_))
      | (guard_target =~ WO _ _ (Oper.mk _ (Op.binOp BinOp.rem _ _ _ _) _ _ _ none) _ _ _ _; first | (refine O_rem (b := 5) rfl rfl (by omega) ?_))
      | (guard_target =~ WO _ _ (Oper.mk _ (Op.nilCheck _) _ _ _ none) _ _ _ _; first | (refine O_nil rfl ?_))
      | (guard_target =~ WO _ _ (Oper.mk _ (Op.indexAddr 200 _ _) _ _ _ none) _ _ _ _; first | (refine O_index ar200 rfl rfl (by omega) ?_))
      | (guard_target =~ WO _ _ (Oper.mk _ (Op.indexAddr 198 _ _) _ _ _ none) _ _ _ _; first | (refine O_index ar198 rfl rfl (by omega) ?_)))
    refine E_bs rfl rfl ag200 rfl hU.here ⟨?_, ?_⟩
    · rw [bs_congr (g := piB a)]
      intro i hi
      rw [if_pos (by omega), show 0 + (i - 0) = i by omega, pK, if_pos (by omega)]
    · exact (hM1.trans hU.mod).toExt (by simpa using hge)

/-! ### chi -/
def chiB (a : Nat → Bool) : Nat → Bool := fun i => a i != decide ((if a ((i / 320 + 1) % 5 * 320 + i % 320) = true then 1 else 0) < if a ((i / 320 + 2) % 5 * 320 + i % 320) = true then 1 else 0)
def xK (a : Nat → Bool) (k : Nat) : Nat → Bool := fun i => if i < k then chiB a i else false
theorem xK_succ {a : Nat → Bool} {x y z : Nat} (hx : x < 5) (hy : y < 5) (hz : z < 64) :
    upb (xK a (x * 320 + y * 64 + z)) (0 + x * 320 + y * 64 + z * 1) (a (0 + x * 320 + y * 64 + z * 1) != decide ((if a (0 + (x + 1) % 5 * 320 + y * 64 + z * 1) = true then 1 else 0) < if a (0 + (x + 2) % 5 * 320 + y * 64 + z * 1) = true then 1 else 0)) = xK a (x * 320 + y * 64 + (z + 1)) := by
  have e2 : 0 + x * 320 + y * 64 + z * 1 = x * 320 + y * 64 + z := by omega
  have e3 : (x * 320 + y * 64 + z) / 320 = x := by omega
  have e4 : (x * 320 + y * 64 + z) % 320 = y * 64 + z := by omega
  have e5 : 0 + (x + 1) % 5 * 320 + y * 64 + z * 1 = (x + 1) % 5 * 320 + (y * 64 + z) := by rw [Nat.zero_add, Nat.mul_one, Nat.add_assoc]
  have e6 : 0 + (x + 2) % 5 * 320 + y * 64 + z * 1 = (x + 2) % 5 * 320 + (y * 64 + z) := by rw [Nat.zero_add, Nat.mul_one, Nat.add_assoc]
  rw [e2, e5, e6]
  funext i
  simp only [upb, xK]
  by_cases h : i = x * 320 + y * 64 + z
  · subst h
    rw [if_pos rfl, if_pos (show x * 320 + y * 64 + z < x * 320 + y * 64 + (z + 1) by omega), chiB, e3, e4]
  · rw [if_neg h]
    by_cases h2 : i < x * 320 + y * 64 + z
    · rw [if_pos h2, if_pos (by omega)]
    · rw [if_neg h2, if_neg (by omega)]

theorem chi_ok {ba : Nat} {a : Nat → Bool} {tb : TypeId} {w : World} (hb : Blk w ba (bs 1600 a) tb) :
    Ret Samg.prog 112 #[.pointer (some ⟨ba, 0, none⟩)] w fun v w' => v = .agg (bs 1600 (chiB a)) ∧ Ext w w' := by
  refine W_enter (l := [.pointer (some ⟨ba, 0, none⟩)]) Samg.func112 rfl Samg.ntmps112 rfl ?_
  repeat (first
    | (refine L_cons ?_)
    | (refine R_cons rfl ?_)
    | (refine W_seq ?_)
    | (refine W_region (by kernel_rfl) ?_)
    | (refine L_nil ?_)
    | (refine R_nil ?_)
    | (refine W_block ?_)
    | (refine W_skip ?_)
    | (refine W_exit ?_)
    | (refine W_ret ?_)
    | (guard_target =~ thenQ _ _ _ _ _; first | (refine T_next ?_) | (refine T_exit ?_) | (refine T_ret ?_))
    | (guard_target =~ blockQ _ _ _ _ _; first | (refine B_next ?_) | (refine B_same ?_) | (refine B_other (by kernel_rfl) ?_) | (refine B_ret ?_))
    | (refine W_true rfl rfl ?_)
    | (refine W_false rfl rfl ?_)
    | (guard_target =~ WO _ _ (Oper.mk _ (Op.move _) _ _ _ none) _ _ _ _; first | (refine O_move (v := .int _ (Nat.cast (OfNat.ofNat 0))) rfl ?_) | (refine O_move (v := (.int _ (Nat.cast _))) rfl ?_) | (refine O_move (v := (.bool _)) rfl ?_) | (refine O_move (v := (.pointer _)) rfl ?_) | (refine O_move (v := (.slice _ _ _)) rfl ?_) | (refine O_move (v := (.agg _)) rfl ?_) | (refine O_move (v := (.tuple _)) rfl ?_) | (refine O_move (v := (.int _ _)) rfl ?_))
    | (guard_target =~ WO _ _ (Oper.mk _ (Op.binOp BinOp.lss _ _ _ _) _ _ _ none) _ _ _ _; first | (refine O_lss_t (b := 5) rfl rfl (by omega) ?_) | (refine O_lss_f (b := 5) rfl rfl (by omega) ?_) | (refine O_lss (b := 5) rfl rfl ?_) | (refine O_lss_t (b := 64) rfl rfl (by omega) ?_) | (refine O_lss_f (b := 64) rfl rfl (by omega) ?_) | (refine O_lss (b := 64) rfl rfl ?_))
    | (guard_target =~ WO _ _ (Oper.mk _ (Op.assign _) _ _ _ none) _ _ _ _; first | (refine O_assign (v := (.int _ (Nat.cast _))) rfl ?_) | (refine O_assign (v := (.bool _)) rfl ?_) | (refine O_assign (v := (.pointer _)) rfl ?_) | (refine O_assign (v := (.slice _ _ _)) rfl ?_) | (refine O_assign (v := (.agg _)) rfl ?_) | (refine O_assign (v := (.tuple _)) rfl ?_) | (refine O_assign (v := (.int _ _)) rfl ?_))
    | (guard_target =~ WO _ _ (Oper.mk _ (Op.indexAddr 200 _ _) _ _ _ none) _ _ _ _; first | (refine O_index ar200 rfl rfl (by omega) ?_))
    | (guard_target =~ WO _ _ (Oper.mk _ (Op.indexAddr 198 _ _) _ _ _ none) _ _ _ _; first | (refine O_index ar198 rfl rfl (by omega) ?_))
    | (guard_target =~ WO _ _ (Oper.mk _ (Op.nilCheck _) _ _ _ none) _ _ _ _; first | (refine O_nil rfl ?_))
    | (guard_target =~ WO _ _ (Oper.mk _ (Op.binOp BinOp.add _ _ _ _) _ _ _ none) _ _ _ _; first | (refine O_add (b := 1) rfl rfl (by first | exact fit_i64 (by omega) | exact fit_u64 (by omega) | exact fit_u8 (by omega) | exact fit_i32 (by omega) | exact fit_u16 (by omega)) ?_) | (refine O_add (b := 2) rfl rfl (by first | exact fit_i64 (by omega) | exact fit_u64 (by omega) | exact fit_u8 (by omega) | exact fit_i32 (by omega) | exact fit_u16 (by omega)) ?_))
    | (guard_target =~ WO _ _ (Oper.mk _ (Op.binOp BinOp.rem _ _ _ _) _ _ _ none) _ _ _ _; first | (refine O_rem (b := 5) rfl rfl (by omega) ?_))
    | (guard_target =~ WO _ _ (Oper.mk _ (Op.indexAddr 197 _ _) _ _ _ none) _ _ _ _; first | (refine O_index ar197 rfl rfl (by omega) ?_))
    | (guard_target =~ WO _ _ (Oper.mk _ (Op.binOp BinOp.gtr _ _ _ _) _ _ _ none) _ _ _ _; first | (refine O_gtr_t rfl rfl (by omega) ?_) | (refine O_gtr_f rfl rfl (by omega) ?_) | (refine O_gtr rfl rfl ?_))
    | (guard_target =~ WO _ _ (Oper.mk _ (Op.binOp BinOp.neq _ _ _ _) _ _ _ none) _ _ _ _; first | (refine O_bneq Samg.underlying4 rfl rfl ?_)))
  refine O_alloc_agg z200 fun w1 hE1 hs1 hc1 => ?_
  have ha1 := hb.ext hE1
  have hne : ba ≠ w.heap.size := Nat.ne_of_lt hb.lt
  obtain ⟨bc, hbc⟩ : ∃ b, b = w.heap.size := ⟨_, rfl⟩
  have hge : w.heap.size ≤ bc := by omega
  rw [← hbc] at hc1 hne ⊢
  have hM1 : Mod [bc] w w1 := hE1.mod _
  clear hbc hs1 hE1
  repeat (first
    | (refine L_cons ?_)
    | (refine R_cons rfl ?_)
    | (refine W_seq ?_)
    | (refine W_region (by kernel_rfl) ?_)
    | (refine L_nil ?_)
    | (refine R_nil ?_)
    | (refine W_block ?_)
    | (refine W_skip ?_)
    | (refine W_exit ?_)
    | (refine W_ret ?_)
    | (guard_target =~ thenQ _ _ _ _ _; first | (refine T_next ?_) | (refine T_exit ?_) | (refine T_ret ?_))
    | (guard_target =~ blockQ _ _ _ _ _; first | (refine B_next ?_) | (refine B_same ?_) | (refine B_other (by kernel_rfl) ?_) | (refine B_ret ?_))
    | (refine W_true rfl rfl ?_)
    | (refine W_false rfl rfl ?_)
    | (guard_target =~ WO _ _ (Oper.mk _ (Op.move _) _ _ _ none) _ _ _ _; first | (refine O_move (v := .int _ (Nat.cast (OfNat.ofNat 0))) rfl ?_) | (refine O_move (v := (.int _ (Nat.cast _))) rfl ?_) | (refine O_move (v := (.bool _)) rfl ?_) | (refine O_move (v := (.pointer _)) rfl ?_) | (refine O_move (v := (.slice _ _ _)) rfl ?_) | (refine O_move (v := (.agg _)) rfl ?_) | (refine O_move (v := (.tuple _)) rfl ?_) | (refine O_move (v := (.int _ _)) rfl ?_))
    | (guard_target =~ WO _ _ (Oper.mk _ (Op.binOp BinOp.lss _ _ _ _) _ _ _ none) _ _ _ _; first | (refine O_lss_t (b := 5) rfl rfl (by omega) ?_) | (refine O_lss_f (b := 5) rfl rfl (by omega) ?_) | (refine O_lss (b := 5) rfl rfl ?_) | (refine O_lss_t (b := 64) rfl rfl (by omega) ?_) | (refine O_lss_f (b := 64) rfl rfl (by omega) ?_) | (refine O_lss (b := 64) rfl rfl ?_))
    | (guard_target =~ WO _ _ (Oper.mk _ (Op.assign _) _ _ _ none) _ _ _ _; first | (refine O_assign (v := (.int _ (Nat.cast _))) rfl ?_) | (refine O_assign (v := (.bool _)) rfl ?_) | (refine O_assign (v := (.pointer _)) rfl ?_) | (refine O_assign (v := (.slice _ _ _)) rfl ?_) | (refine O_assign (v := (.agg _)) rfl ?_) | (refine O_assign (v := (.tuple _)) rfl ?_) | (refine O_assign (v := (.int _ _)) rfl ?_))
    | (guard_target =~ WO _ _ (Oper.mk _ (Op.indexAddr 200 _ _) _ _ _ none) _ _ _ _; first | (refine O_index ar200 rfl rfl (by omega) ?_))
    | (guard_target =~ WO _ _ (Oper.mk _ (Op.indexAddr 198 _ _) _ _ _ none) _ _ _ _; first | (refine O_index ar198 rfl rfl (by omega) ?_))
    | (guard_target =~ WO _ _ (Oper.mk _ (Op.nilCheck _) _ _ _ none) _ _ _ _; first | (refine O_nil rfl ?_))
    | (guard_target =~ WO _ _ (Oper.mk _ (Op.binOp BinOp.add _ _ _ _) _ _ _ none) _ _ _ _; first | (refine O_add (b := 1) rfl rfl (by first | exact fit_i64 (by omega) | exact fit_u64 (by omega) | exact fit_u8 (by omega) | exact fit_i32 (by omega) | exact fit_u16 (by omega)) ?_) | (refine O_add (b := 2) rfl rfl (by first | exact fit_i64 (by omega) | exact fit_u64 (by omega) | exact fit_u8 (by omega) | exact fit_i32 (by omega) | exact fit_u16 (by omega)) ?_))
    | (guard_target =~ WO _ _ (Oper.mk _ (Op.binOp BinOp.rem _ _ _ _) _ _ _ none) _ _ _ _; first | (refine O_rem (b := 5) rfl rfl (by omega) ?_))
    | (guard_target =~ WO _ _ (Oper.mk _ (Op.indexAddr 197 _ _) _ _ _ none) _ _ _ _; first | (refine O_index ar197 rfl rfl (by omega) ?_))
    | (guard_target =~ WO _ _ (Oper.mk _ (Op.binOp BinOp.gtr _ _ _ _) _ _ _ none) _ _ _ _; first | (refine O_gtr_t rfl rfl (by omega) ?_) | (refine O_gtr_f rfl rfl (by omega) ?_) | (refine O_gtr rfl rfl ?_))
    | (guard_target =~ WO _ _ (Oper.mk _ (Op.binOp BinOp.neq _ _ _ _) _ _ _ none) _ _ _ _; first | (refine O_bneq Samg.underlying4 rfl rfl ?_)))
  refine W_loop (fun k ρ w' => ∃ x, k = 5 - x ∧ x ≤ 5 ∧ Has ρ [(0, .pointer (some ⟨ba, 0, none⟩)), (2, .pointer (some ⟨bc, 0, none⟩)), (10, .int .i64 (x : Nat))] ∧
    Mod [bc] w w' ∧ Blk w' ba (bs 1600 a) tb ∧ Blk w' bc (bs 1600 (xK a (x * 320))) 200) 5 ?_ ?_
  · refine ⟨0, by omega, by omega, Has.mk ⟨rfl, rfl, rfl, trivial⟩, hM1, ha1, ?_⟩
    rw [bs_congr (g := fun _ => false) (fun i _ => by simp [xK])]; exact hc1
  clear hM1 ha1 hc1 w1
  rintro k _ w1 ⟨x, rfl, hx, ⟨σ, rfl⟩, hM1, ha1, hc1⟩
  by_cases hlt : x < 5
  · repeat (first
      | (refine L_cons ?_)
      | (refine R_cons rfl ?_)
      | (refine W_seq ?_)
      | (refine W_region (by kernel_rfl) ?_)
      | (refine L_nil ?_)
      | (refine R_nil ?_)
      | (refine W_block ?_)
      | (refine W_skip ?_)
      | (refine W_exit ?_)
      | (refine W_ret ?_)
      | (guard_target =~ thenQ _ _ _ _ _; first | (refine T_next ?_) | (refine T_exit ?_) | (refine T_ret ?_))
      | (guard_target =~ blockQ _ _ _ _ _; first | (refine B_next ?_) | (refine B_same ?_) | (refine B_other (by kernel_rfl) ?_) | (refine B_ret ?_))
      | (refine W_true rfl rfl ?_)
      | (refine W_false rfl rfl ?_)
      | (guard_target =~ WO _ _ (Oper.mk _ (Op.move _) _ _ _ none) _ _ _ _; first | (refine O_move (v := .int _ (Nat.cast (OfNat.ofNat 0))) rfl ?_) | (refine O_move (v := (.int _ (Nat.cast _))) rfl ?_) | (refine O_move (v := (.bool _)) rfl ?_) | (refine O_move (v := (.pointer _)) rfl ?_) | (refine O_move (v := (.slice _ _ _)) rfl ?_) | (refine O_move (v := (.agg _)) rfl ?_) | (refine O_move (v := (.tuple _)) rfl ?_) | (refine O_move (v := (.int _ _)) rfl ?_))
      | (guard_target =~ WO _ _ (Oper.mk _ (Op.binOp BinOp.lss _ _ _ _) _ _ _ none) _ _ _ _; first | (refine O_lss_t (b := 5) rfl rfl (by omega) ?_) | (refine O_lss_f (b := 5) rfl rfl (by omega) ?_) | (refine O_lss (b := 5) rfl rfl ?_) | (refine O_lss_t (b := 64) rfl rfl (by omega) ?_) | (refine O_lss_f (b := 64) rfl rfl (by omega) ?_) | (refine O_lss (b := 64) rfl rfl ?_))
      | (guard_target =~ WO _ _ (Oper.mk _ (Op.assign _) _ _ _ none) _ _ _ _; first | (refine O_assign (v := (.int _ (Nat.cast _))) rfl ?_) | (refine O_assign (v := (.bool _)) rfl ?_) | (refine O_assign (v := (.pointer _)) rfl ?_) | (refine O_assign (v := (.slice _ _ _)) rfl ?_) | (refine O_assign (v := (.agg _)) rfl ?_) | (refine O_assign (v := (.tuple _)) rfl ?_) | (refine O_assign (v := (.int _ _)) rfl ?_))
      | (guard_target =~ WO _ _ (Oper.mk _ (Op.indexAddr 200 _ _) _ _ _ none) _ _ _ _; first | (refine O_index ar200 rfl rfl (by omega) ?_))
      | (guard_target =~ WO _ _ (Oper.mk _ (Op.indexAddr 198 _ _) _ _ _ none) _ _ _ _; first | (refine O_index ar198 rfl rfl (by omega) ?_))
      | (guard_target =~ WO _ _ (Oper.mk _ (Op.nilCheck _) _ _ _ none) _ _ _ _; first | (refine O_nil rfl ?_))
      | (guard_target =~ WO _ _ (Oper.mk _ (Op.binOp BinOp.add _ _ _ _) _ _ _ none) _ _ _ _; first | (refine O_add (b := 1) rfl rfl (by first | exact fit_i64 (by omega) | exact fit_u64 (by omega) | exact fit_u8 (by omega) | exact fit_i32 (by omega) | exact fit_u16 (by omega)) ?_) | (refine O_add (b := 2) rfl rfl (by first | exact fit_i64 (by omega) | exact fit_u64 (by omega) | exact fit_u8 (by omega) | exact fit_i32 (by omega) | exact fit_u16 (by omega)) ?_))
      | (guard_target =~ WO _ _ (Oper.mk _ (Op.binOp BinOp.rem _ _ _ _) _ _ _ none) _ _ _ _; first | (refine O_rem (b := 5) rfl rfl (by omega) ?_))
      | (guard_target =~ WO _ _ (Oper.mk _ (Op.indexAddr 197 _ _) _ _ _ none) _ _ _ _; first | (refine O_index ar197 rfl rfl (by omega) ?_))
      | (guard_target =~ WO _ _ (Oper.mk _ (Op.binOp BinOp.gtr _ _ _ _) _ _ _ none) _ _ _ _; first | (refine O_gtr_t rfl rfl (by omega) ?_) | (refine O_gtr_f rfl rfl (by omega) ?_) | (refine O_gtr rfl rfl ?_))
      | (guard_target =~ WO _ _ (Oper.mk _ (Op.binOp BinOp.neq _ _ _ _) _ _ _ none) _ _ _ _; first | (refine O_bneq Samg.underlying4 rfl rfl ?_)))
    refine W_loop (fun k ρ w' => ∃ y, k = 5 - y ∧ y ≤ 5 ∧ Has ρ [(0, .pointer (some ⟨ba, 0, none⟩)), (2, .pointer (some ⟨bc, 0, none⟩)), (3, .int .i64 (x : Nat)), (10, .int .i64 (x : Nat)), (13, .int .i64 (y : Nat))] ∧
      Mod [bc] w w' ∧ Blk w' ba (bs 1600 a) tb ∧ Blk w' bc (bs 1600 (xK a (x * 320 + y * 64))) 200) 5 ?_ ?_
    · exact ⟨0, by omega, by omega, Has.mk ⟨rfl, rfl, rfl, rfl, rfl, trivial⟩, hM1, ha1, (by rw [show x * 320 + 0 * 64 = x * 320 from by omega]; exact hc1)⟩
    clear hM1 ha1 hc1 w1
    rintro k _ w1 ⟨y, rfl, hy, ⟨σ, rfl⟩, hM1, ha1, hc1⟩
    by_cases hlty : y < 5
    · repeat (first
        | (refine L_cons ?_)
        | (refine R_cons rfl ?_)
        | (refine W_seq ?_)
        | (refine W_region (by kernel_rfl) ?_)
        | (refine L_nil ?_)
        | (refine R_nil ?_)
        | (refine W_block ?_)
        | (refine W_skip ?_)
        | (refine W_exit ?_)
        | (refine W_ret ?_)
        | (guard_target =~ thenQ _ _ _ _ _; first | (refine T_next ?_) | (refine T_exit ?_) | (refine T_ret ?_))
        | (guard_target =~ blockQ _ _ _ _ _; first | (refine B_next ?_) | (refine B_same ?_) | (refine B_other (by kernel_rfl) ?_) | (refine B_ret ?_))
        | (refine W_true rfl rfl ?_)
        | (refine W_false rfl rfl ?_)
        | (guard_target =~ WO _ _ (Oper.mk _ (Op.move _) _ _ _ none) _ _ _ _; first | (refine O_move (v := .int _ (Nat.cast (OfNat.ofNat 0))) rfl ?_) | (refine O_move (v := (.int _ (Nat.cast _))) rfl ?_) | (refine O_move (v := (.bool _)) rfl ?_) | (refine O_move (v := (.pointer _)) rfl ?_) | (refine O_move (v := (.slice _ _ _)) rfl ?_) | (refine O_move (v := (.agg _)) rfl ?_) | (refine O_move (v := (.tuple _)) rfl ?_) | (refine O_move (v := (.int _ _)) rfl ?_))
        | (guard_target =~ WO _ _ (Oper.mk _ (Op.binOp BinOp.lss _ _ _ _) _ _ _ none) _ _ _ _; first | (refine O_lss_t (b := 5) rfl rfl (by omega) ?_) | (refine O_lss_f (b := 5) rfl rfl (by omega) ?_) | (refine O_lss (b := 5) rfl rfl ?_) | (refine O_lss_t (b := 64) rfl rfl (by omega) ?_) | (refine O_lss_f (b := 64) rfl rfl (by omega) ?_) | (refine O_lss (b := 64) rfl rfl ?_))
        | (guard_target =~ WO _ _ (Oper.mk _ (Op.assign _) _ _ _ none) _ _ _ _; first | (refine O_assign (v := (.int _ (Nat.cast _))) rfl ?_) | (refine O_assign (v := (.bool _)) rfl ?_) | (refine O_assign (v := (.pointer _)) rfl ?_) | (refine O_assign (v := (.slice _ _ _)) rfl ?_) | (refine O_assign (v := (.agg _)) rfl ?_) | (refine O_assign (v := (.tuple _)) rfl ?_) | (refine O_assign (v := (.int _ _)) rfl ?_))
        | (guard_target =~ WO _ _ (Oper.mk _ (Op.indexAddr 200 _ _) _ _ _ none) _ _ _ _; first | (refine O_index ar200 rfl rfl (by omega) ?_))
        | (guard_target =~ WO _ _ (Oper.mk _ (Op.indexAddr 198 _ _) _ _ _ none) _ _ _ _; first | (refine O_index ar198 rfl rfl (by omega) ?_))
        | (guard_target =~ WO _ _ (Oper.mk _ (Op.nilCheck _) _ _ _ none) _ _ _ _; first | (refine O_nil rfl ?_))
        | (guard_target =~ WO _ _ (Oper.mk _ (Op.binOp BinOp.add _ _ _ _) _ _ _ none) _ _ _ _; first | (refine O_add (b := 1) rfl rfl (by first | exact fit_i64 (by omega) | exact fit_u64 (by omega) | exact fit_u8 (by omega) | exact fit_i32 (by omega) | exact fit_u16 (by omega)) ?_) | (refine O_add (b := 2) rfl rfl (by first | exact fit_i64 (by omega) | exact fit_u64 (by omega) | exact fit_u8 (by omega) | exact fit_i32 (by omega) | exact fit_u16 (by omega)) ?_))
        | (guard_target =~ WO _ _ (Oper.mk _ (Op.binOp BinOp.rem _ _ _ _) _ _ _ none) _ _ _ _; first | (refine O_rem (b := 5) rfl rfl (by omega) ?_))
        | (guard_target =~ WO _ _ (Oper.mk _ (Op.indexAddr 197 _ _) _ _ _ none) _ _ _ _; first | (refine O_index ar197 rfl rfl (by omega) ?_))
        | (guard_target =~ WO _ _ (Oper.mk _ (Op.binOp BinOp.gtr _ _ _ _) _ _ _ none) _ _ _ _; first | (refine O_gtr_t rfl rfl (by omega) ?_) | (refine O_gtr_f rfl rfl (by omega) ?_) | (refine O_gtr rfl rfl ?_))
        | (guard_target =~ WO _ _ (Oper.mk _ (Op.binOp BinOp.neq _ _ _ _) _ _ _ none) _ _ _ _; first | (refine O_bneq Samg.underlying4 rfl rfl ?_)))
      refine W_loop (fun k ρ w' => ∃ z, k = 64 - z ∧ z ≤ 64 ∧ Has ρ [(0, .pointer (some ⟨ba, 0, none⟩)), (2, .pointer (some ⟨bc, 0, none⟩)), (3, .int .i64 (x : Nat)),
          (5, .pointer (some ⟨bc, 0 + x * 320 + y * 64, none⟩)), (6, .pointer (some ⟨ba, 0 + x * 320 + y * 64, none⟩)), (7, .pointer (some ⟨ba, 0 + (x + 1) % 5 * 320 + y * 64, none⟩)), (8, .pointer (some ⟨ba, 0 + (x + 2) % 5 * 320 + y * 64, none⟩)),
          (10, .int .i64 (x : Nat)), (13, .int .i64 (y : Nat)), (42, .int .i64 (z : Nat))] ∧
        Mod [bc] w w' ∧ Blk w' ba (bs 1600 a) tb ∧ Blk w' bc (bs 1600 (xK a (x * 320 + y * 64 + z))) 200) 64 ?_ ?_
      · exact ⟨0, by omega, by omega, Has.mk ⟨rfl, rfl, rfl, rfl, rfl, rfl, rfl, rfl, rfl, rfl, trivial⟩, hM1, ha1, (by rw [show x * 320 + y * 64 + 0 = x * 320 + y * 64 from by omega]; exact hc1)⟩
      clear hM1 ha1 hc1 w1
      rintro k _ w1 ⟨z, rfl, hz, ⟨σ, rfl⟩, hM1, ha1, hc1⟩
      by_cases hltz : z < 64
      · repeat (first
          | (refine L_cons ?_)
          | (refine R_cons rfl ?_)
          | (refine W_seq ?_)
          | (refine W_region (by kernel_rfl) ?_)
          | (refine L_nil ?_)
          | (refine R_nil ?_)
          | (refine W_block ?_)
          | (refine W_skip ?_)
          | (refine W_exit ?_)
          | (refine W_ret ?_)
          | (guard_target =~ thenQ _ _ _ _ _; first | (refine T_next ?_) | (refine T_exit ?_) | (refine T_ret ?_))
          | (guard_target =~ blockQ _ _ _ _ _; first | (refine B_next ?_) | (refine B_same ?_) | (refine B_other (by kernel_rfl) ?_) | (refine B_ret ?_))
          | (refine W_true rfl rfl ?_)
          | (refine W_false rfl rfl ?_)
          | (guard_target =~ WO _ _ (Oper.mk _ (Op.move _) _ _ _ none) _ _ _ _; first | (refine O_move (v := .int _ (Nat.cast (OfNat.ofNat 0))) rfl ?_) | (refine O_move (v := (.int _ (Nat.cast _))) rfl ?_) | (refine O_move (v := (.bool _)) rfl ?_) | (refine O_move (v := (.pointer _)) rfl ?_) | (refine O_move (v := (.slice _ _ _)) rfl ?_) | (refine O_move (v := (.agg _)) rfl ?_) | (refine O_move (v := (.tuple _)) rfl ?_) | (refine O_move (v := (.int _ _)) rfl ?_))
          | (guard_target =~ WO _ _ (Oper.mk _ (Op.binOp BinOp.lss _ _ _ _) _ _ _ none) _ _ _ _; first | (refine O_lss_t (b := 5) rfl rfl (by omega) ?_) | (refine O_lss_f (b := 5) rfl rfl (by omega) ?_) | (refine O_lss (b := 5) rfl rfl ?_) | (refine O_lss_t (b := 64) rfl rfl (by omega) ?_) | (refine O_lss_f (b := 64) rfl rfl (by omega) ?_) | (refine O_lss (b := 64) rfl rfl ?_))
          | (guard_target =~ WO _ _ (Oper.mk _ (Op.assign _) _ _ _ none) _ _ _ _; first | (refine O_assign (v := (.int _ (Nat.cast _))) rfl ?_) | (refine O_assign (v := (.bool _)) rfl ?_) | (refine O_assign (v := (.pointer _)) rfl ?_) | (refine O_assign (v := (.slice _ _ _)) rfl ?_) | (refine O_assign (v := (.agg _)) rfl ?_) | (refine O_assign (v := (.tuple _)) rfl ?_) | (refine O_assign (v := (.int _ _)) rfl ?_))
          | (guard_target =~ WO _ _ (Oper.mk _ (Op.indexAddr 200 _ _) _ _ _ none) _ _ _ _; first | (refine O_index ar200 rfl rfl (by omega) ?_))
          | (guard_target =~ WO _ _ (Oper.mk _ (Op.indexAddr 198 _ _) _ _ _ none) _ _ _ _; first | (refine O_index ar198 rfl rfl (by omega) ?_))
          | (guard_target =~ WO _ _ (Oper.mk _ (Op.nilCheck _) _ _ _ none) _ _ _ _; first | (refine O_nil rfl ?_))
          | (guard_target =~ WO _ _ (Oper.mk _ (Op.binOp BinOp.add _ _ _ _) _ _ _ none) _ _ _ _; first | (refine O_add (b := 1) rfl rfl (by first | exact fit_i64 (by omega) | exact fit_u64 (by omega) | exact fit_u8 (by omega) | exact fit_i32 (by omega) | exact fit_u16 (by omega)) ?_) | (refine O_add (b := 2) rfl rfl (by first | exact fit_i64 (by omega) | exact fit_u64 (by omega) | exact fit_u8 (by omega) | exact fit_i32 (by omega) | exact fit_u16 (by omega)) ?_))
          | (guard_target =~ WO _ _ (Oper.mk _ (Op.binOp BinOp.rem _ _ _ _) _ _ _ none) _ _ _ _; first | (refine O_rem (b := 5) rfl rfl (by omega) ?_))
          | (guard_target =~ WO _ _ (Oper.mk _ (Op.indexAddr 197 _ _) _ _ _ none) _ _ _ _; first | (refine O_index ar197 rfl rfl (by omega) ?_))
          | (guard_target =~ WO _ _ (Oper.mk _ (Op.binOp BinOp.gtr _ _ _ _) _ _ _ none) _ _ _ _; first | (refine O_gtr_t rfl rfl (by omega) ?_) | (refine O_gtr_f rfl rfl (by omega) ?_) | (refine O_gtr rfl rfl ?_))
          | (guard_target =~ WO _ _ (Oper.mk _ (Op.binOp BinOp.neq _ _ _ _) _ _ _ none) _ _ _ _; first | (refine O_bneq Samg.underlying4 rfl rfl ?_)))
        refine W_drawn [12, 18] [0, 1, 2, 3, 4, 5, 6, 7, 8, 9, 10, 11, 13, 14, 15, 16, 17, 21, 12, 18, 19, 20, 22, 23] mixed (by kernel_rfl) (by kernel_rfl) ?_
        repeat (first
          | (refine L_cons ?_)
          | (refine R_cons rfl ?_)
          | (refine W_seq ?_)
          | (refine W_region (by kernel_rfl) ?_)
          | (refine L_nil ?_)
          | (refine R_nil ?_)
          | (refine W_block ?_)
          | (refine W_skip ?_)
          | (refine W_exit ?_)
          | (refine W_ret ?_)
          | (guard_target =~ thenQ _ _ _ _ _; first | (refine T_next ?_) | (refine T_exit ?_) | (refine T_ret ?_))
          | (guard_target =~ blockQ _ _ _ _ _; first | (refine B_next ?_) | (refine B_same ?_) | (refine B_other (by kernel_rfl) ?_) | (refine B_ret ?_))
          | (refine W_true rfl rfl ?_)
          | (refine W_false rfl rfl ?_)
          | (guard_target =~ WO _ _ (Oper.mk _ (Op.load 4 _) _ _ _ none) _ _ _ _; first | (refine O_load_bs on4 rfl ha1.drew (by omega) ?_))
          | (guard_target =~ WO _ _ (Oper.mk _ (Op.move _) _ _ _ none) _ _ _ _; first | (refine O_move (v := .int _ (Nat.cast (OfNat.ofNat 0))) rfl ?_) | (refine O_move (v := (.int _ (Nat.cast _))) rfl ?_) | (refine O_move (v := (.bool _)) rfl ?_) | (refine O_move (v := (.pointer _)) rfl ?_) | (refine O_move (v := (.slice _ _ _)) rfl ?_) | (refine O_move (v := (.agg _)) rfl ?_) | (refine O_move (v := (.tuple _)) rfl ?_) | (refine O_move (v := (.int _ _)) rfl ?_))
          | (guard_target =~ WO _ _ (Oper.mk _ (Op.binOp BinOp.lss _ _ _ _) _ _ _ none) _ _ _ _; first | (refine O_lss_t (b := 5) rfl rfl (by omega) ?_) | (refine O_lss_f (b := 5) rfl rfl (by omega) ?_) | (refine O_lss (b := 5) rfl rfl ?_) | (refine O_lss_t (b := 64) rfl rfl (by omega) ?_) | (refine O_lss_f (b := 64) rfl rfl (by omega) ?_) | (refine O_lss (b := 64) rfl rfl ?_))
          | (guard_target =~ WO _ _ (Oper.mk _ (Op.assign _) _ _ _ none) _ _ _ _; first | (refine O_assign (v := (.int _ (Nat.cast _))) rfl ?_) | (refine O_assign (v := (.bool _)) rfl ?_) | (refine O_assign (v := (.pointer _)) rfl ?_) | (refine O_assign (v := (.slice _ _ _)) rfl ?_) | (refine O_assign (v := (.agg _)) rfl ?_) | (refine O_assign (v := (.tuple _)) rfl ?_) | (refine O_assign (v := (.int _ _)) rfl ?_))
          | (guard_target =~ WO _ _ (Oper.mk _ (Op.indexAddr 200 _ _) _ _ _ none) _ _ _ _; first | (refine O_index ar200 rfl rfl (by omega) ?_))
          | (guard_target =~ WO _ _ (Oper.mk _ (Op.indexAddr 198 _ _) _ _ _ none) _ _ _ _; first | (refine O_index ar198 rfl rfl (by omega) ?_))
          | (guard_target =~ WO _ _ (Oper.mk _ (Op.nilCheck _) _ _ _ none) _ _ _ _; first | (refine O_nil rfl ?_))
          | (guard_target =~ WO _ _ (Oper.mk _ (Op.binOp BinOp.add _ _ _ _) _ _ _ none) _ _ _ _; first | (refine O_add (b := 1) rfl rfl (by first | exact fit_i64 (by omega) | exact fit_u64 (by omega) | exact fit_u8 (by omega) | exact fit_i32 (by omega) | exact fit_u16 (by omega)) ?_) | (refine O_add (b := 2) rfl rfl (by first | exact fit_i64 (by omega) | exact fit_u64 (by omega) | exact fit_u8 (by omega) | exact fit_i32 (by omega) | exact fit_u16 (by omega)) ?_))
          | (guard_target =~ WO _ _ (Oper.mk _ (Op.binOp BinOp.rem _ _ _ _) _ _ _ none) _ _ _ _; first | (refine O_rem (b := 5) rfl rfl (by omega) ?_))
          | (guard_target =~ WO _ _ (Oper.mk _ (Op.indexAddr 197 _ _) _ _ _ none) _ _ _ _; first | (refine O_index ar197 rfl rfl (by omega) ?_))
          | (guard_target =~ WO _ _ (Oper.mk _ (Op.binOp BinOp.gtr _ _ _ _) _ _ _ none) _ _ _ _; first | (refine O_gtr_t rfl rfl (by omega) ?_) | (refine O_gtr_f rfl rfl (by omega) ?_) | (refine O_gtr rfl rfl ?_))
          | (guard_target =~ WO _ _ (Oper.mk _ (Op.binOp BinOp.neq _ _ _ _) _ _ _ none) _ _ _ _; first | (refine O_bneq Samg.underlying4 rfl rfl ?_)))
        refine O_call (l := [.bool (a (0 + (x + 2) % 5 * 320 + y * 64 + z * 1))]) cl131 (by rfl) ((bit_ok _ _).mono ?_)
        rintro v _ ⟨rfl, rfl⟩
        refine ⟨fun _ => Ext.refl _, ?_⟩
        repeat (first
          | (refine L_cons ?_)
          | (refine R_cons rfl ?_)
          | (refine W_seq ?_)
          | (refine W_region (by kernel_rfl) ?_)
          | (refine L_nil ?_)
          | (refine R_nil ?_)
          | (refine W_block ?_)
          | (refine W_skip ?_)
          | (refine W_exit ?_)
          | (refine W_ret ?_)
          | (guard_target =~ thenQ _ _ _ _ _; first | (refine T_next ?_) | (refine T_exit ?_) | (refine T_ret ?_))
          | (guard_target =~ blockQ _ _ _ _ _; first | (refine B_next ?_) | (refine B_same ?_) | (refine B_other (by kernel_rfl) ?_) | (refine B_ret ?_))
          | (refine W_true rfl rfl ?_)
          | (refine W_false rfl rfl ?_)
          | (guard_target =~ WO _ _ (Oper.mk _ (Op.load 4 _) _ _ _ none) _ _ _ _; first | (refine O_load_bs on4 rfl ha1.drew (by omega) ?_))
          | (guard_target =~ WO _ _ (Oper.mk _ (Op.move _) _ _ _ none) _ _ _ _; first | (refine O_move (v := .int _ (Nat.cast (OfNat.ofNat 0))) rfl ?_) | (refine O_move (v := (.int _ (Nat.cast _))) rfl ?_) | (refine O_move (v := (.bool _)) rfl ?_) | (refine O_move (v := (.pointer _)) rfl ?_) | (refine O_move (v := (.slice _ _ _)) rfl ?_) | (refine O_move (v := (.agg _)) rfl ?_) | (refine O_move (v := (.tuple _)) rfl ?_) | (refine O_move (v := (.int _ _)) rfl ?_))
          | (guard_target =~ WO _ _ (Oper.mk _ (Op.binOp BinOp.lss _ _ _ _) _ _ _ none) _ _ _ _; first | (refine O_lss_t (b := 5) rfl rfl (by omega) ?_) | (refine O_lss_f (b := 5) rfl rfl (by omega) ?_) | (refine O_lss (b := 5) rfl rfl ?_) | (refine O_lss_t (b := 64) rfl rfl (by omega) ?_) | (refine O_lss_f (b := 64) rfl rfl (by omega) ?_) | (refine O_lss (b := 64) rfl rfl ?_))
          | (guard_target =~ WO _ _ (Oper.mk _ (Op.assign _) _ _ _ none) _ _ _ _; first | (refine O_assign (v := (.int _ (Nat.cast _))) rfl ?_) | (refine O_assign (v := (.bool _)) rfl ?_) | (refine O_assign (v := (.pointer _)) rfl ?_) | (refine O_assign (v := (.slice _ _ _)) rfl ?_) | (refine O_assign (v := (.agg _)) rfl ?_) | (refine O_assign (v := (.tuple _)) rfl ?_) | (refine O_assign (v := (.int _ _)) rfl ?_))
          | (guard_target =~ WO _ _ (Oper.mk _ (Op.indexAddr 200 _ _) _ _ _ none) _ _ _ _; first | (refine O_index ar200 rfl rfl (by omega) ?_))
          | (guard_target =~ WO _ _ (Oper.mk _ (Op.indexAddr 198 _ _) _ _ _ none) _ _ _ _; first | (refine O_index ar198 rfl rfl (by omega) ?_))
          | (guard_target =~ WO _ _ (Oper.mk _ (Op.nilCheck _) _ _ _ none) _ _ _ _; first | (refine O_nil rfl ?_))
          | (guard_target =~ WO _ _ (Oper.mk _ (Op.binOp BinOp.add _ _ _ _) _ _ _ none) _ _ _ _; first | (refine O_add (b := 1) rfl rfl (by first | exact fit_i64 (by omega) | exact fit_u64 (by omega) | exact fit_u8 (by omega) | exact fit_i32 (by omega) | exact fit_u16 (by omega)) ?_) | (refine O_add (b := 2) rfl rfl (by first | exact fit_i64 (by omega) | exact fit_u64 (by omega) | exact fit_u8 (by omega) | exact fit_i32 (by omega) | exact fit_u16 (by omega)) ?_))
          | (guard_target =~ WO _ _ (Oper.mk _ (Op.binOp BinOp.rem _ _ _ _) _ _ _ none) _ _ _ _; first | (refine O_rem (b := 5) rfl rfl (by omega) ?_))
          | (guard_target =~ WO _ _ (Oper.mk _ (Op.indexAddr 197 _ _) _ _ _ none) _ _ _ _; first | (refine O_index ar197 rfl rfl (by omega) ?_))
          | (guard_target =~ WO _ _ (Oper.mk _ (Op.binOp BinOp.gtr _ _ _ _) _ _ _ none) _ _ _ _; first | (refine O_gtr_t rfl rfl (by omega) ?_) | (refine O_gtr_f rfl rfl (by omega) ?_) | (refine O_gtr rfl rfl ?_))
          | (guard_target =~ WO _ _ (Oper.mk _ (Op.binOp BinOp.neq _ _ _ _) _ _ _ none) _ _ _ _; first | (refine O_bneq Samg.underlying4 rfl rfl ?_)))
        refine O_call (l := [.bool (a (0 + (x + 1) % 5 * 320 + y * 64 + z * 1))]) cl131 (by rfl) ((bit_ok _ _).mono ?_)
        rintro v _ ⟨rfl, rfl⟩
        refine ⟨fun _ => Ext.refl _, ?_⟩
        repeat (first
          | (refine L_cons ?_)
          | (refine R_cons rfl ?_)
          | (refine W_seq ?_)
          | (refine W_region (by kernel_rfl) ?_)
          | (refine L_nil ?_)
          | (refine R_nil ?_)
          | (refine W_block ?_)
          | (refine W_skip ?_)
          | (refine W_exit ?_)
          | (refine W_ret ?_)
          | (guard_target =~ thenQ _ _ _ _ _; first | (refine T_next ?_) | (refine T_exit ?_) | (refine T_ret ?_))
          | (guard_target =~ blockQ _ _ _ _ _; first | (refine B_next ?_) | (refine B_same ?_) | (refine B_other (by kernel_rfl) ?_) | (refine B_ret ?_))
          | (refine W_true rfl rfl ?_)
          | (refine W_false rfl rfl ?_)
          | (guard_target =~ WO _ _ (Oper.mk _ (Op.move _) _ _ _ none) _ _ _ _; first | (refine O_move (v := .int _ (Nat.cast (OfNat.ofNat 0))) rfl ?_) | (refine O_move (v := (.int _ (Nat.cast _))) rfl ?_) | (refine O_move (v := (.bool _)) rfl ?_) | (refine O_move (v := (.pointer _)) rfl ?_) | (refine O_move (v := (.slice _ _ _)) rfl ?_) | (refine O_move (v := (.agg _)) rfl ?_) | (refine O_move (v := (.tuple _)) rfl ?_) | (refine O_move (v := (.int _ _)) rfl ?_))
          | (guard_target =~ WO _ _ (Oper.mk _ (Op.binOp BinOp.lss _ _ _ _) _ _ _ none) _ _ _ _; first | (refine O_lss_t (b := 5) rfl rfl (by omega) ?_) | (refine O_lss_f (b := 5) rfl rfl (by omega) ?_) | (refine O_lss (b := 5) rfl rfl ?_) | (refine O_lss_t (b := 64) rfl rfl (by omega) ?_) | (refine O_lss_f (b := 64) rfl rfl (by omega) ?_) | (refine O_lss (b := 64) rfl rfl ?_))
          | (guard_target =~ WO _ _ (Oper.mk _ (Op.assign _) _ _ _ none) _ _ _ _; first | (refine O_assign (v := (.int _ (Nat.cast _))) rfl ?_) | (refine O_assign (v := (.bool _)) rfl ?_) | (refine O_assign (v := (.pointer _)) rfl ?_) | (refine O_assign (v := (.slice _ _ _)) rfl ?_) | (refine O_assign (v := (.agg _)) rfl ?_) | (refine O_assign (v := (.tuple _)) rfl ?_) | (refine O_assign (v := (.int _ _)) rfl ?_))
          | (guard_target =~ WO _ _ (Oper.mk _ (Op.indexAddr 200 _ _) _ _ _ none) _ _ _ _; first | (refine O_index ar200 rfl rfl (by omega) ?_))
          | (guard_target =~ WO _ _ (Oper.mk _ (Op.indexAddr 198 _ _) _ _ _ none) _ _ _ _; first | (refine O_index ar198 rfl rfl (by omega) ?_))
          | (guard_target =~ WO _ _ (Oper.mk _ (Op.nilCheck _) _ _ _ none) _ _ _ _; first | (refine O_nil rfl ?_))
          | (guard_target =~ WO _ _ (Oper.mk _ (Op.binOp BinOp.add _ _ _ _) _ _ _ none) _ _ _ _; first | (refine O_add (b := 1) rfl rfl (by first | exact fit_i64 (by omega) | exact fit_u64 (by omega) | exact fit_u8 (by omega) | exact fit_i32 (by omega) | exact fit_u16 (by omega)) ?_) | (refine O_add (b := 2) rfl rfl (by first | exact fit_i64 (by omega) | exact fit_u64 (by omega) | exact fit_u8 (by omega) | exact fit_i32 (by omega) | exact fit_u16 (by omega)) ?_))
          | (guard_target =~ WO _ _ (Oper.mk _ (Op.binOp BinOp.rem _ _ _ _) _ _ _ none) _ _ _ _; first | (refine O_rem (b := 5) rfl rfl (by omega) ?_))
          | (guard_target =~ WO _ _ (Oper.mk _ (Op.indexAddr 197 _ _) _ _ _ none) _ _ _ _; first | (refine O_index ar197 rfl rfl (by omega) ?_))
          | (guard_target =~ WO _ _ (Oper.mk _ (Op.binOp BinOp.gtr _ _ _ _) _ _ _ none) _ _ _ _; first | (refine O_gtr_t rfl rfl (by omega) ?_) | (refine O_gtr_f rfl rfl (by omega) ?_) | (refine O_gtr rfl rfl ?_))
          | (guard_target =~ WO _ _ (Oper.mk _ (Op.binOp BinOp.neq _ _ _ _) _ _ _ none) _ _ _ _; first | (refine O_bneq Samg.underlying4 rfl rfl ?_)))
        refine O_store_bs on4 rfl rfl hc1.drew (by omega) rfl fun w2 hU => ?_
        have hU := hU.undrew
        rw [xK_succ hlt hlty hltz] at hU
        repeat (first
          | (refine L_cons ?_)
          | (refine R_cons rfl ?_)
          | (refine W_seq ?_)
          | (refine W_region (by kernel_rfl) ?_)
          | (refine L_nil ?_)
          | (refine R_nil ?_)
          | (refine W_block ?_)
          | (refine W_skip ?_)
          | (refine W_exit ?_)
          | (refine W_ret ?_)
          | (guard_target =~ thenQ _ _ _ _ _; first | (refine T_next ?_) | (refine T_exit ?_) | (refine T_ret ?_))
          | (guard_target =~ blockQ _ _ _ _ _; first | (refine B_next ?_) | (refine B_same ?_) | (refine B_other (by kernel_rfl) ?_) | (refine B_ret ?_))
          | (refine W_true rfl rfl ?_)
          | (refine W_false rfl rfl ?_)
          | (guard_target =~ WO _ _ (Oper.mk _ (Op.move _) _ _ _ none) _ _ _ _; first | (refine O_move (v := .int _ (Nat.cast (OfNat.ofNat 0))) rfl ?_) | (refine O_move (v := (.int _ (Nat.cast _))) rfl ?_) | (refine O_move (v := (.bool _)) rfl ?_) | (refine O_move (v := (.pointer _)) rfl ?_) | (refine O_move (v := (.slice _ _ _)) rfl ?_) | (refine O_move (v := (.agg _)) rfl ?_) | (refine O_move (v := (.tuple _)) rfl ?_) | (refine O_move (v := (.int _ _)) rfl ?_))
          | (guard_target =~ WO _ _ (Oper.mk _ (Op.binOp BinOp.lss _ _ _ _) _ _ _ none) _ _ _ _; first | (refine O_lss_t (b := 5) rfl rfl (by omega) ?_) | (refine O_lss_f (b := 5) rfl rfl (by omega) ?_) | (refine O_lss (b := 5) rfl rfl ?_) | (refine O_lss_t (b := 64) rfl rfl (by omega) ?_) | (refine O_lss_f (b := 64) rfl rfl (by omega) ?_) | (refine O_lss (b := 64) rfl rfl ?_))
          | (guard_target =~ WO _ _ (Oper.mk _ (Op.assign _) _ _ _ none) _ _ _ _; first | (refine O_assign (v := (.int _ (Nat.cast _))) rfl ?_) | (refine O_assign (v := (.bool _)) rfl ?_) | (refine O_assign (v := (.pointer _)) rfl ?_) | (refine O_assign (v := (.slice _ _ _)) rfl ?_) | (refine O_assign (v := (.agg _)) rfl ?_) | (refine O_assign (v := (.tuple _)) rfl ?_) | (refine O_assign (v := (.int _ _)) rfl ?_))
          | (guard_target =~ WO _ _ (Oper.mk _ (Op.indexAddr 200 _ _) _ _ _ none) _ _ _ _; first | (refine O_index ar200 rfl rfl (by omega) ?_))
          | (guard_target =~ WO _ _ (Oper.mk _ (Op.indexAddr 198 _ _) _ _ _ none) _ _ _ _; first | (refine O_index ar198 rfl rfl (by omega) ?_))
          | (guard_target =~ WO _ _ (Oper.mk _ (Op.nilCheck _) _ _ _ none) _ _ _ _; first | (refine O_nil rfl ?_))
          | (guard_target =~ WO _ _ (Oper.mk _ (Op.binOp BinOp.add _ _ _ _) _ _ _ none) _ _ _ _; first | (refine O_add (b := 1) rfl rfl (by first | exact fit_i64 (by omega) | exact fit_u64 (by omega) | exact fit_u8 (by omega) | exact fit_i32 (by omega) | exact fit_u16 (by omega)) ?_) | (refine O_add (b := 2) rfl rfl (by first | exact fit_i64 (by omega) | exact fit_u64 (by omega) | exact fit_u8 (by omega) | exact fit_i32 (by omega) | exact fit_u16 (by omega)) ?_))
          | (guard_target =~ WO _ _ (Oper.mk _ (Op.binOp BinOp.rem _ _ _ _) _ _ _ none) _ _ _ _; first | (refine O_rem (b := 5) rfl rfl (by omega) ?_))
          | (guard_target =~ WO _ _ (Oper.mk _ (Op.indexAddr 197 _ _) _ _ _ none) _ _ _ _; first | (refine O_index ar197 rfl rfl (by omega) ?_))
          | (guard_target =~ WO _ _ (Oper.mk _ (Op.binOp BinOp.gtr _ _ _ _) _ _ _ none) _ _ _ _; first | (refine O_gtr_t rfl rfl (by omega) ?_) | (refine O_gtr_f rfl rfl (by omega) ?_) | (refine O_gtr rfl rfl ?_))
          | (guard_target =~ WO _ _ (Oper.mk _ (Op.binOp BinOp.neq _ _ _ _) _ _ _ none) _ _ _ _; first | (refine O_bneq Samg.underlying4 rfl rfl ?_)))
        exact ⟨64 - (z + 1), by omega, z + 1, rfl, by omega, Has.mk ⟨rfl, rfl, rfl, rfl, rfl, rfl, rfl, rfl, rfl, rfl, trivial⟩, hM1.trans hU.mod, ha1.upd hU hne, hU.here⟩
      · obtain rfl : z = 64 := by omega
        repeat (first
          | (refine L_cons ?_)
          | (refine R_cons rfl ?_)
          | (refine W_seq ?_)
          | (refine W_region (by kernel_rfl) ?_)
          | (refine L_nil ?_)
          | (refine R_nil ?_)
          | (refine W_block ?_)
          | (refine W_skip ?_)
          | (refine W_exit ?_)
          | (refine W_ret ?_)
          | (guard_target =~ thenQ _ _ _ _ _; first | (refine T_next ?_) | (refine T_exit ?_) | (refine T_ret ?_))
          | (guard_target =~ blockQ _ _ _ _ _; first | (refine B_next ?_) | (refine B_same ?_) | (refine B_other (by kernel_rfl) ?_) | (refine B_ret ?_))
          | (refine W_true rfl rfl ?_)
          | (refine W_false rfl rfl ?_)
          | (guard_target =~ WO _ _ (Oper.mk _ (Op.move _) _ _ _ none) _ _ _ _; first | (refine O_move (v := .int _ (Nat.cast (OfNat.ofNat 0))) rfl ?_) | (refine O_move (v := (.int _ (Nat.cast _))) rfl ?_) | (refine O_move (v := (.bool _)) rfl ?_) | (refine O_move (v := (.pointer _)) rfl ?_) | (refine O_move (v := (.slice _ _ _)) rfl ?_) | (refine O_move (v := (.agg _)) rfl ?_) | (refine O_move (v := (.tuple _)) rfl ?_) | (refine O_move (v := (.int _ _)) rfl ?_))
          | (guard_target =~ WO _ _ (Oper.mk _ (Op.binOp BinOp.lss _ _ _ _) _ _ _ none) _ _ _ _; first | (refine O_lss_t (b := 5) rfl rfl (by omega) ?_) | (refine O_lss_f (b := 5) rfl rfl (by omega) ?_) | (refine O_lss (b := 5) rfl rfl ?_) | (refine O_lss_t (b := 64) rfl rfl (by omega) ?_) | (refine O_lss_f (b := 64) rfl rfl (by omega) ?_) | (refine O_lss (b := 64) rfl rfl ?_))
          | (guard_target =~ WO _ _ (Oper.mk _ (Op.assign _) _ _ _ none) _ _ _ _; first | (refine O_assign (v := (.int _ (Nat.cast _))) rfl ?_) | (refine O_assign (v := (.bool _)) rfl ?_) | (refine O_assign (v := (.pointer _)) rfl ?_) | (refine O_assign (v := (.slice _ _ _)) rfl ?_) | (refine O_assign (v := (.agg _)) rfl ?_) | (refine O_assign (v := (.tuple _)) rfl ?_) | (refine O_assign (v := (.int _ _)) rfl ?_))
          | (guard_target =~ WO _ _ (Oper.mk _ (Op.indexAddr 200 _ _) _ _ _ none) _ _ _ _; first | (refine O_index ar200 rfl rfl (by omega) ?_))
          | (guard_target =~ WO _ _ (Oper.mk _ (Op.indexAddr 198 _ _) _ _ _ none) _ _ _ _; first | (refine O_index ar198 rfl rfl (by omega) ?_))
          | (guard_target =~ WO _ _ (Oper.mk _ (Op.nilCheck _) _ _ _ none) _ _ _ _; first | (refine O_nil rfl ?_))
          | (guard_target =~ WO _ _ (Oper.mk _ (Op.binOp BinOp.add _ _ _ _) _ _ _ none) _ _ _ _; first | (refine O_add (b := 1) rfl rfl (by first | exact fit_i64 (by omega) | exact fit_u64 (by omega) | exact fit_u8 (by omega) | exact fit_i32 (by omega) | exact fit_u16 (by omega)) ?_) | (refine O_add (b := 2) rfl rfl (by first | exact fit_i64 (by omega) | exact fit_u64 (by omega) | exact fit_u8 (by omega) | exact fit_i32 (by omega) | exact fit_u16 (by omega)) ?_))
          | (guard_target =~ WO _ _ (Oper.mk _ (Op.binOp BinOp.rem _ _ _ _) _ _ _ none) _ _ _ _; first | (refine O_rem (b := 5) rfl rfl (by omega) ?_))
          | (guard_target =~ WO _ _ (Oper.mk _ (Op.indexAddr 197 _ _) _ _ _ none) _ _ _ _; first | (refine O_index ar197 rfl rfl (by omega) ?_))
          | (guard_target =~ WO _ _ (Oper.mk _ (Op.binOp BinOp.gtr _ _ _ _) _ _ _ none) _ _ _ _; first | (refine O_gtr_t rfl rfl (by omega) ?_) | (refine O_gtr_f rfl rfl (by omega) ?_) | (refine O_gtr rfl rfl ?_))
          | (guard_target =~ WO _ _ (Oper.mk _ (Op.binOp BinOp.neq _ _ _ _) _ _ _ none) _ _ _ _; first | (refine O_bneq Samg.underlying4 rfl rfl ?_)))
        exact ⟨5 - (y + 1), by omega, y + 1, rfl, by omega, Has.mk ⟨rfl, rfl, rfl, rfl, rfl, trivial⟩, hM1, ha1, by rw [show x * 320 + (y + 1) * 64 = x * 320 + y * 64 + 64 by omega]; exact hc1⟩
    · obtain rfl : y = 5 := by omega
      repeat (first
        | (refine L_cons ?_)
        | (refine R_cons rfl ?_)
        | (refine W_seq ?_)
        | (refine W_region (by kernel_rfl) ?_)
        | (refine L_nil ?_)
        | (refine R_nil ?_)
        | (refine W_block ?_)
        | (refine W_skip ?_)
        | (refine W_exit ?_)
        | (refine W_ret ?_)
        | (guard_target =~ thenQ _ _ _ _ _; first | (refine T_next ?_) | (refine T_exit ?_) | (refine T_ret ?_))
        | (guard_target =~ blockQ _ _ _ _ _; first | (refine B_next ?_) | (refine B_same ?_) | (refine B_other (by kernel_rfl) ?_) | (refine B_ret ?_))
        | (refine W_true rfl rfl ?_)
        | (refine W_false rfl rfl ?_)
        | (guard_target =~ WO _ _ (Oper.mk _ (Op.move _) _ _ _ none) _ _ _ _; first | (refine O_move (v := .int _ (Nat.cast (OfNat.ofNat 0))) rfl ?_) | (refine O_move (v := (.int _ (Nat.cast _))) rfl ?_) | (refine O_move (v := (.bool _)) rfl ?_) | (refine O_move (v := (.pointer _)) rfl ?_) | (refine O_move (v := (.slice _ _ _)) rfl ?_) | (refine O_move (v := (.agg _)) rfl ?_) | (refine O_move (v := (.tuple _)) rfl ?_) | (refine O_move (v := (.int _ _)) rfl ?_))
        | (guard_target =~ WO _ _ (Oper.mk _ (Op.binOp BinOp.lss _ _ _ _) _ _ _ none) _ _ _ _; first | (refine O_lss_t (b := 5) rfl rfl (by omega) ?_) | (refine O_lss_f (b := 5) rfl rfl (by omega) ?_) | (refine O_lss (b := 5) rfl rfl ?_) | (refine O_lss_t (b := 64) rfl rfl (by omega) ?_) | (refine O_lss_f (b := 64) rfl rfl (by omega) ?_) | (refine O_lss (b := 64) rfl rfl ?_))
        | (guard_target =~ WO _ _ (Oper.mk _ (Op.assign _) _ _ _ none) _ _ _ _; first | (refine O_assign (v := (.int _ (Nat.cast _))) rfl ?_) | (refine O_assign (v := (.bool _)) rfl ?_) | (refine O_assign (v := (.pointer _)) rfl ?_) | (refine O_assign (v := (.slice _ _ _)) rfl ?_) | (refine O_assign (v := (.agg _)) rfl ?_) | (refine O_assign (v := (.tuple _)) rfl ?_) | (refine O_assign (v := (.int _ _)) rfl ?_))
        | (guard_target =~ WO _ _ (Oper.mk _ (Op.indexAddr 200 _ _) _ _ _ none) _ _ _ _; first | (refine O_index ar200 rfl rfl (by omega) ?_))
        | (guard_target =~ WO _ _ (Oper.mk _ (Op.indexAddr 198 _ _) _ _ _ none) _ _ _ _; first | (refine O_index ar198 rfl rfl (by omega) ?_))
        | (guard_target =~ WO _ _ (Oper.mk _ (Op.nilCheck _) _ _ _ none) _ _ _ _; first | (refine O_nil rfl ?_))
        | (guard_target =~ WO _ _ (Oper.mk _ (Op.binOp BinOp.add _ _ _ _) _ _ _ none) _ _ _ _; first | (refine O_add (b := 1) rfl rfl (by first | exact fit_i64 (by omega) | exact fit_u64 (by omega) | exact fit_u8 (by omega) | exact fit_i32 (by omega) | exact fit_u16 (by omega)) ?_) | (refine O_add (b := 2) rfl rfl (by first | exact fit_i64 (by omega) | exact fit_u64 (by omega) | exact fit_u8 (by omega) | exact fit_i32 (by omega) | exact fit_u16 (by omega)) ?_))
        | (guard_target =~ WO _ _ (Oper.mk _ (Op.binOp BinOp.rem _ _ _ _) _ _ _ none) _ _ _ _; first | (refine O_rem (b := 5) rfl rfl (by omega) ?_))
        | (guard_target =~ WO _ _ (Oper.mk _ (Op.indexAddr 197 _ _) _ _ _ none) _ _ _ _; first | (refine O_index ar197 rfl rfl (by omega) ?_))
        | (guard_target =~ WO _ _ (Oper.mk _ (Op.binOp BinOp.gtr _ _ _ _) _ _ _ none) _ _ _ _; first | (refine O_gtr_t rfl rfl (by omega) ?_) | (refine O_gtr_f rfl rfl (by omega) ?_) | (refine O_gtr rfl rfl ?_))
        | (guard_target =~ WO _ _ (Oper.mk _ (Op.binOp BinOp.neq _ _ _ _) _ _ _ none) _ _ _ _; first | (refine O_bneq Samg.underlying4 rfl rfl ?_)))
      exact ⟨5 - (x + 1), by omega, x + 1, rfl, by omega, Has.mk ⟨rfl, rfl, rfl, trivial⟩, hM1, ha1, by rw [show (x + 1) * 320 = x * 320 + 5 * 64 by omega]; exact hc1⟩
  · obtain rfl : x = 5 := by omega
    repeat (first
      | (refine L_cons ?_)
      | (refine R_cons rfl ?_)
      | (refine W_seq ?_)
      | (refine W_region (by kernel_rfl) ?_)
      | (refine L_nil ?_)
      | (refine R_nil ?_)
      | (refine W_block ?_)
      | (refine W_skip ?_)
      | (refine W_exit ?_)
      | (refine W_ret ?_)
      | (guard_target =~ thenQ _ _ _ _ _; first | (refine T_next ?_) | (refine T_exit ?_) | (refine T_ret ?_))
      | (guard_target =~ blockQ _ _ _ _ _; first | (refine B_next ?_) | (refine B_same ?_) | (refine B_other (by kernel_rfl) ?_) | (refine B_ret ?_))
      | (refine W_true rfl rfl ?_)
      | (refine W_false rfl rfl ?_)
      | (guard_target =~ WO _ _ (Oper.mk _ (Op.load 200 _) _ _ _ none) _ _ _ _; first | (refine O_load_bss ag200 rfl hc1 (by omega) ?_))
      | (guard_target =~ WO _ _ (Oper.mk _ (Op.move _) _ _ _ none) _ _ _ _; first | (refine O_move (v := .int _ (Nat.cast (OfNat.ofNat 0))) rfl ?_) | (refine O_move (v := (.int _ (Nat.cast _))) rfl ?_) | (refine O_move (v := (.bool _)) rfl ?_) | (refine O_move (v := (.pointer _)) rfl ?_) | (refine O_move (v := (.slice _ _ _)) rfl ?_) | (refine O_move (v := (.agg _)) rfl ?_) | (refine O_move (v := (.tuple _)) rfl ?_) | (refine O_move (v := (.int _ _)) rfl ?_))
      | (guard_target =~ WO _ _ (Oper.mk _ (Op.binOp BinOp.lss _ _ _ _) _ _ _ none) _ _ _ _; first | (refine O_lss_t (b := 5) rfl rfl (by omega) ?_) | (refine O_lss_f (b := 5) rfl rfl (by omega) ?_) | (refine O_lss (b := 5) rfl rfl ?_) | (refine O_lss_t (b := 64) rfl rfl (by omega) ?_) | (refine O_lss_f (b := 64) rfl rfl (by omega) ?_) | (refine O_lss (b := 64) rfl rfl ?_))
      | (guard_target =~ WO _ _ (Oper.mk _ (Op.assign _) _ _ _ none) _ _ _ _; first | (refine O_assign (v := (.int _ (Nat.cast _))) rfl ?_) | (refine O_assign (v := (.bool _)) rfl ?_) | (refine O_assign (v := (.pointer _)) rfl ?_) | (refine O_assign (v := (.slice _ _ _)) rfl ?_) | (refine O_assign (v := (.agg _)) rfl ?_) | (refine O_assign (v := (.tuple _)) rfl ?_) | (refine O_assign (v := (.int _ _)) rfl ?_))
      | (guard_target =~ WO _ _ (Oper.mk _ (Op.indexAddr 200 _ _) _ _ _ none) _ _ _ _; first | (refine O_index ar200 rfl rfl (by omega) ?_))
      | (guard_target =~ WO _ _ (Oper.mk _ (Op.indexAddr 198 _ _) _ _ _ none) _ _ _ _; first | (refine O_index ar198 rfl rfl (by omega) ?_))
      | (guard_target =~ WO _ _ (Oper.mk _ (Op.nilCheck _) _ _ _ none) _ _ _ _; first | (refine O_nil rfl ?_))
      | (guard_target =~ WO _ _ (Oper.mk _ (Op.binOp BinOp.add _ _ _ _) _ _ _ none) _ _ _ _; first | (refine O_add (b := 1) rfl rfl (by first | exact fit_i64 (by omega) | exact fit_u64 (by omega) | exact fit_u8 (by omega) | exact fit_i32 (by omega) | exact fit_u16 (by omega)) ?_) | (refine O_add (b := 2) rfl rfl (by first | exact fit_i64 (by omega) | exact fit_u64 (by omega) | exact fit_u8 (by omega) | exact fit_i32 (by omega) | exact fit_u16 (by omega)) ?_))
      | (guard_target =~ WO _ _ (Oper.mk _ (Op.binOp BinOp.rem _ _ _ _) _ _ _ none) _ _ _ _; first | (refine O_rem (b := 5) rfl rfl (by omega) ?_))
      | (guard_target =~ WO _ _ (Oper.mk _ (Op.indexAddr 197 _ _) _ _ _ none) _ _ _ _; first | (refine O_index ar197 rfl rfl (by omega) ?_))
      | (guard_target =~ WO _ _ (Oper.mk _ (Op.binOp BinOp.gtr _ _ _ _) _ _ _ none) _ _ _ _; first | (refine O_gtr_t rfl rfl (by omega) ?_) | (refine O_gtr_f rfl rfl (by omega) ?_) | (refine O_gtr rfl rfl ?_))
      | (guard_target =~ WO _ _ (Oper.mk _ (Op.binOp BinOp.neq _ _ _ _) _ _ _ none) _ _ _ _; first | (refine O_bneq Samg.underlying4 rfl rfl ?_)))
    refine O_store_bss ag200 rfl rfl hc1 (by omega) rfl fun w2 hU => ?_
    repeat (first
      | (refine L_cons ?_)
      | (refine R_cons rfl ?_)
      | (refine W_seq ?_)
      | (refine W_region (by kernel_rfl) ?_)
      | (refine L_nil ?_)
      | (refine R_nil ?_)
      | (refine W_block ?_)
      | (refine W_skip ?_)
      | (refine W_exit ?_)
      | (refine W_ret ?_)
      | (guard_target =~ thenQ _ _ _ _ _; first | (refine T_next ?_) | (refine T_exit ?_) | (refine T_ret ?_))
      | (guard_target =~ blockQ _ _ _ _ _; first | (refine B_next ?_) | (refine B_same ?_) | (refine B_other (by kernel_rfl) ?_) | (refine B_ret ?_))
      | (refine W_true rfl rfl ?_)
      | (refine W_false rfl rfl ?_)
      | (guard_target =~ WO _ _ (Oper.mk _ (Op.move _) _ _ _ none) _ _ _ _; first | (refine O_move (v := .int _ (Nat.cast (OfNat.ofNat 0))) rfl ?_) | (refine O_move (v := (.int _ (Nat.cast _))) rfl ?_) | (refine O_move (v := (.bool _)) rfl ?_) | (refine O_move (v := (.pointer _)) rfl ?_) | (refine O_move (v := (.slice _ _ _)) rfl ?_) | (refine O_move (v := (.agg _)) rfl ?_) | (refine O_move (v := (.tuple _)) rfl ?_) | (refine O_move (v := (.int _ _)) rfl ?_))
      | (guard_target =~ WO _ _ (Oper.mk _ (Op.binOp BinOp.lss _ _ _ _) _ _ _ none) _ _ _ _; first | (refine O_lss_t (b := 5) rfl rfl (by omega) ?_) | (refine O_lss_f (b := 5) rfl rfl (by omega) ?_) | (refine O_lss (b := 5) rfl rfl ?_) | (refine O_lss_t (b := 64) rfl rfl (by omega) ?_) | (refine O_lss_f (b := 64) rfl rfl (by omega) ?_) | (refine O_lss (b := 64) rfl rfl ?_))
      | (guard_target =~ WO _ _ (Oper.mk _ (Op.assign _) _ _ _ none) _ _ _ _; first | (refine O_assign (v := (.int _ (Nat.cast _))) rfl ?_) | (refine O_assign (v := (.bool _)) rfl ?_) | (refine O_assign (v := (.pointer _)) rfl ?_) | (refine O_assign (v := (.slice _ _ _)) rfl ?_) | (refine O_assign (v := (.agg _)) rfl ?_) | (refine O_assign (v := (.tuple _)) rfl ?_) | (refine O_assign (v := (.int _ _)) rfl ?_))
      | (guard_target =~ WO _ _ (Oper.mk _ (Op.indexAddr 200 _ _) _ _ _ none) _ _ _ _; first | (refine O_index ar200 rfl rfl (by omega) ?_))
      | (guard_target =~ WO _ _ (Oper.mk _ (Op.indexAddr 198 _ _) _ _ _ none) _ _ _ _; first | (refine O_index ar198 rfl rfl (by omega) ?_))
      | (guard_target =~ WO _ _ (Oper.mk _ (Op.nilCheck _) _ _ _ none) _ _ _ _; first | (refine O_nil rfl ?_))
      | (guard_target =~ WO _ _ (Oper.mk _ (Op.binOp BinOp.add _ _ _ _) _ _ _ none) _ _ _ _; first | (refine O_add (b := 1) rfl rfl (by first | exact fit_i64 (by omega) | exact fit_u64 (by omega) | exact fit_u8 (by omega) | exact fit_i32 (by omega) | exact fit_u16 (by omega)) ?_) | (refine O_add (b := 2) rfl rfl (by first | exact fit_i64 (by omega) | exact fit_u64 (by omega) | exact fit_u8 (by omega) | exact fit_i32 (by omega) | exact fit_u16 (by omega)) ?_))
      | (guard_target =~ WO _ _ (Oper.mk _ (Op.binOp BinOp.rem _ _ _ _) _ _ _ none) _ _ _ _; first | (refine O_rem (b := 5) rfl rfl (by omega) ?_))
      | (guard_target =~ WO _ _ (Oper.mk _ (Op.indexAddr 197 _ _) _ _ _ none) _ _ _ _; first | (refine O_index ar197 rfl rfl (by omega) ?_))
      | (guard_target =~ WO _ _ (Oper.mk _ (Op.binOp BinOp.gtr _ _ _ _) _ _ _ none) _ _ _ _; first | (refine O_gtr_t rfl rfl (by omega) ?_) | (refine O_gtr_f rfl rfl (by omega) ?_) | (refine O_gtr rfl rfl ?_))
      | (guard_target =~ WO _ _ (Oper.mk _ (Op.binOp BinOp.neq _ _ _ _) _ _ _ none) _ _ _ _; first | (refine O_bneq Samg.underlying4 rfl rfl ?_)))
    refine E_bs rfl rfl ag200 rfl hU.here ⟨?_, ?_⟩
    · rw [bs_congr (g := chiB a)]
      intro i hi
      rw [if_pos (by omega), show 0 + (i - 0) = i by omega, xK, if_pos (by omega)]
    · exact (hM1.trans hU.mod).toExt (by simpa using hge)

/-! ### iota -/
def iotaB (c : Nat) (a : Nat → Bool) : Nat → Bool := fun i => if i < 64 then a i != decide (c >>> i &&& 1 = 1) else a i
def iK (c : Nat) (a : Nat → Bool) (k : Nat) : Nat → Bool := fun i => if i < k then iotaB c a i else a i
theorem iK_succ {c : Nat} {a : Nat → Bool} {z : Nat} (hz : z < 64) :
    upb (iK c a z) (0 + 0 * 320 + 0 * 64 + z * 1) (iK c a z (0 + 0 * 320 + 0 * 64 + z * 1) != decide (c >>> z &&& 1 = 1)) = iK c a (z + 1) := by
  have e : 0 + 0 * 320 + 0 * 64 + z * 1 = z := by omega
  rw [e]
  funext i
  simp only [upb, iK]
  by_cases h : i = z
  · subst h; rw [if_pos rfl, if_neg (by omega), if_pos (by omega), iotaB, if_pos hz]
  · rw [if_neg h]
    by_cases h2 : i < z
    · rw [if_pos h2, if_pos (by omega)]
    · rw [if_neg h2, if_neg (by omega)]

theorem iota_ok {ba i : Nat} {a : Nat → Bool} {tb : TypeId} {w : World} (hi : i < 24) (hb : Blk w ba (bs 1600 a) tb) :
    Ret Samg.prog 113 #[.pointer (some ⟨ba, 0, none⟩), .int .u8 (i : Nat)] w fun v w' => v = .tuple #[] ∧ Mod [ba] w w' ∧ Blk w' ba (bs 1600 (iotaB (rcAt i 7) a)) tb := by
  refine W_enter (l := [.pointer (some ⟨ba, 0, none⟩), .int .u8 (i : Nat)]) Samg.func113 rfl Samg.ntmps113 rfl ?_
  repeat (first
    | (refine L_cons ?_)
    | (refine R_cons rfl ?_)
    | (refine W_seq ?_)
    | (refine W_region (by kernel_rfl) ?_)
    | (refine L_nil ?_)
    | (refine R_nil ?_)
    | (refine W_block ?_)
    | (refine W_skip ?_)
    | (refine W_exit ?_)
    | (refine W_ret ?_)
    | (guard_target =~ thenQ _ _ _ _ _; first | (refine T_next ?_) | (refine T_exit ?_) | (refine T_ret ?_))
    | (guard_target =~ blockQ _ _ _ _ _; first | (refine B_next ?_) | (refine B_same ?_) | (refine B_other (by kernel_rfl) ?_) | (refine B_ret ?_))
    | (refine W_true rfl rfl ?_)
    | (refine W_false rfl rfl ?_)
    | (guard_target =~ WO _ _ (Oper.mk _ (Op.move _) _ _ _ none) _ _ _ _; first | (refine O_move (v := (.int _ (Nat.cast _))) rfl ?_) | (refine O_move (v := (.bool _)) rfl ?_) | (refine O_move (v := (.pointer _)) rfl ?_) | (refine O_move (v := (.slice _ _ _)) rfl ?_) | (refine O_move (v := (.agg _)) rfl ?_) | (refine O_move (v := (.tuple _)) rfl ?_) | (refine O_move (v := (.int _ _)) rfl ?_) | (refine O_move (v := .int _ (Nat.cast (OfNat.ofNat 0))) rfl ?_))
    | (guard_target =~ WO _ _ (Oper.mk _ (Op.assign _) _ _ _ none) _ _ _ _; first | (refine O_assign (v := (.int _ (Nat.cast _))) rfl ?_) | (refine O_assign (v := (.bool _)) rfl ?_) | (refine O_assign (v := (.pointer _)) rfl ?_) | (refine O_assign (v := (.slice _ _ _)) rfl ?_) | (refine O_assign (v := (.agg _)) rfl ?_) | (refine O_assign (v := (.tuple _)) rfl ?_) | (refine O_assign (v := (.int _ _)) rfl ?_))
    | (guard_target =~ WO _ _ (Oper.mk _ (Op.binOp BinOp.lss _ _ _ _) _ _ _ none) _ _ _ _; first | (refine O_lss_t (b := 64) rfl rfl (by omega) ?_) | (refine O_lss_f (b := 64) rfl rfl (by omega) ?_) | (refine O_lss (b := 64) rfl rfl ?_))
    | (guard_target =~ WO _ _ (Oper.mk _ (Op.nilCheck _) _ _ _ none) _ _ _ _; first | (refine O_nil rfl ?_))
    | (guard_target =~ WO _ _ (Oper.mk _ (Op.indexAddr 200 _ _) _ _ _ none) _ _ _ _; first | (refine O_index (m := 0) ar200 rfl rfl (by omega) ?_))
    | (guard_target =~ WO _ _ (Oper.mk _ (Op.indexAddr 198 _ _) _ _ _ none) _ _ _ _; first | (refine O_index (m := 0) ar198 rfl rfl (by omega) ?_))
    | (guard_target =~ WO _ _ (Oper.mk _ (Op.indexAddr 197 _ _) _ _ _ none) _ _ _ _; first | (refine O_index ar197 rfl rfl (by omega) ?_))
    | (guard_target =~ WO _ _ (Oper.mk _ (Op.binOp BinOp.shr _ _ _ _) _ _ _ none) _ _ _ _; first | (refine O_shr rfl rfl (by simp only [IntKind.bits]; omega) ?_))
    | (guard_target =~ WO _ _ (Oper.mk _ (Op.binOp BinOp.and _ _ _ _) _ _ _ none) _ _ _ _; first | (refine O_and (b := 1) rfl rfl rfl (by first | exact fit_i64 (by omega) | exact fit_u64 (by omega) | exact fit_u8 (by omega) | exact fit_i32 (by omega) | exact fit_u16 (by omega)) (by first | exact fit_i64 (by omega) | exact fit_u64 (by omega) | exact fit_u8 (by omega) | exact fit_i32 (by omega) | exact fit_u16 (by omega)) ?_))
    | (guard_target =~ WO _ _ (Oper.mk _ (Op.binOp BinOp.eql _ _ _ _) _ _ _ none) _ _ _ _; first | (refine O_eql_t (b := 1) rfl rfl (by omega) ?_) | (refine O_eql_f (b := 1) rfl rfl (by omega) ?_) | (refine O_eql (b := 1) rfl rfl ?_))
    | (guard_target =~ WO _ _ (Oper.mk _ (Op.binOp BinOp.neq _ _ _ _) _ _ _ none) _ _ _ _; first | (refine O_bneq Samg.underlying4 rfl rfl ?_))
    | (guard_target =~ WO _ _ (Oper.mk _ (Op.binOp BinOp.add _ _ _ _) _ _ _ none) _ _ _ _; first | (refine O_add (b := 1) rfl rfl (by first | exact fit_i64 (by omega) | exact fit_u64 (by omega) | exact fit_u8 (by omega) | exact fit_i32 (by omega) | exact fit_u16 (by omega)) ?_)))
  refine O_call (l := [.int .u8 (i : Nat)]) cl132 (by rfl) ((const_ok i hi _).mono ?_)
  rintro v w1 ⟨rfl, hE⟩
  refine ⟨nof, ?_⟩
  have hr := rcAt_lt i 7 (by omega)
  generalize rcAt i 7 = c at hr ⊢
  have hM1 : Mod [ba] w w1 := hE.mod _
  have ha1 := hb.ext hE
  repeat (first
    | (refine L_cons ?_)
    | (refine R_cons rfl ?_)
    | (refine W_seq ?_)
    | (refine W_region (by kernel_rfl) ?_)
    | (refine L_nil ?_)
    | (refine R_nil ?_)
    | (refine W_block ?_)
    | (refine W_skip ?_)
    | (refine W_exit ?_)
    | (refine W_ret ?_)
    | (guard_target =~ thenQ _ _ _ _ _; first | (refine T_next ?_) | (refine T_exit ?_) | (refine T_ret ?_))
    | (guard_target =~ blockQ _ _ _ _ _; first | (refine B_next ?_) | (refine B_same ?_) | (refine B_other (by kernel_rfl) ?_) | (refine B_ret ?_))
    | (refine W_true rfl rfl ?_)
    | (refine W_false rfl rfl ?_)
    | (guard_target =~ WO _ _ (Oper.mk _ (Op.move _) _ _ _ none) _ _ _ _; first | (refine O_move (v := (.int _ (Nat.cast _))) rfl ?_) | (refine O_move (v := (.bool _)) rfl ?_) | (refine O_move (v := (.pointer _)) rfl ?_) | (refine O_move (v := (.slice _ _ _)) rfl ?_) | (refine O_move (v := (.agg _)) rfl ?_) | (refine O_move (v := (.tuple _)) rfl ?_) | (refine O_move (v := (.int _ _)) rfl ?_) | (refine O_move (v := .int _ (Nat.cast (OfNat.ofNat 0))) rfl ?_))
    | (guard_target =~ WO _ _ (Oper.mk _ (Op.assign _) _ _ _ none) _ _ _ _; first | (refine O_assign (v := (.int _ (Nat.cast _))) rfl ?_) | (refine O_assign (v := (.bool _)) rfl ?_) | (refine O_assign (v := (.pointer _)) rfl ?_) | (refine O_assign (v := (.slice _ _ _)) rfl ?_) | (refine O_assign (v := (.agg _)) rfl ?_) | (refine O_assign (v := (.tuple _)) rfl ?_) | (refine O_assign (v := (.int _ _)) rfl ?_))
    | (guard_target =~ WO _ _ (Oper.mk _ (Op.binOp BinOp.lss _ _ _ _) _ _ _ none) _ _ _ _; first | (refine O_lss_t (b := 64) rfl rfl (by omega) ?_) | (refine O_lss_f (b := 64) rfl rfl (by omega) ?_) | (refine O_lss (b := 64) rfl rfl ?_))
    | (guard_target =~ WO _ _ (Oper.mk _ (Op.nilCheck _) _ _ _ none) _ _ _ _; first | (refine O_nil rfl ?_))
    | (guard_target =~ WO _ _ (Oper.mk _ (Op.indexAddr 200 _ _) _ _ _ none) _ _ _ _; first | (refine O_index (m := 0) ar200 rfl rfl (by omega) ?_))
    | (guard_target =~ WO _ _ (Oper.mk _ (Op.indexAddr 198 _ _) _ _ _ none) _ _ _ _; first | (refine O_index (m := 0) ar198 rfl rfl (by omega) ?_))
    | (guard_target =~ WO _ _ (Oper.mk _ (Op.indexAddr 197 _ _) _ _ _ none) _ _ _ _; first | (refine O_index ar197 rfl rfl (by omega) ?_))
    | (guard_target =~ WO _ _ (Oper.mk _ (Op.binOp BinOp.shr _ _ _ _) _ _ _ none) _ _ _ _; first | (refine O_shr rfl rfl (by simp only [IntKind.bits]; omega) ?_))
    | (guard_target =~ WO _ _ (Oper.mk _ (Op.binOp BinOp.and _ _ _ _) _ _ _ none) _ _ _ _; first | (refine O_and (b := 1) rfl rfl rfl (by first | exact fit_i64 (by omega) | exact fit_u64 (by omega) | exact fit_u8 (by omega) | exact fit_i32 (by omega) | exact fit_u16 (by omega)) (by first | exact fit_i64 (by omega) | exact fit_u64 (by omega) | exact fit_u8 (by omega) | exact fit_i32 (by omega) | exact fit_u16 (by omega)) ?_))
    | (guard_target =~ WO _ _ (Oper.mk _ (Op.binOp BinOp.eql _ _ _ _) _ _ _ none) _ _ _ _; first | (refine O_eql_t (b := 1) rfl rfl (by omega) ?_) | (refine O_eql_f (b := 1) rfl rfl (by omega) ?_) | (refine O_eql (b := 1) rfl rfl ?_))
    | (guard_target =~ WO _ _ (Oper.mk _ (Op.binOp BinOp.neq _ _ _ _) _ _ _ none) _ _ _ _; first | (refine O_bneq Samg.underlying4 rfl rfl ?_))
    | (guard_target =~ WO _ _ (Oper.mk _ (Op.binOp BinOp.add _ _ _ _) _ _ _ none) _ _ _ _; first | (refine O_add (b := 1) rfl rfl (by first | exact fit_i64 (by omega) | exact fit_u64 (by omega) | exact fit_u8 (by omega) | exact fit_i32 (by omega) | exact fit_u16 (by omega)) ?_)))
  refine W_loop (fun k ρ w' => ∃ z, k = 64 - z ∧ z ≤ 64 ∧ Has ρ [(0, .pointer (some ⟨ba, 0, none⟩)), (4, .int .u64 (c : Nat)), (8, .int .i64 (z : Nat))] ∧
    Mod [ba] w w' ∧ Blk w' ba (bs 1600 (iK c a z)) tb) 64 ?_ ?_
  · refine ⟨0, by omega, by omega, Has.mk ⟨rfl, rfl, rfl, trivial⟩, hM1, ?_⟩
    rw [bs_congr (g := a) (fun i _ => by simp [iK])]; exact ha1
  clear hM1 ha1 hE w1
  rintro k _ w1 ⟨z, rfl, hz, ⟨σ, rfl⟩, hM1, ha1⟩
  by_cases hlt : z < 64
  · have hs : c >>> z ≤ c := by rw [Nat.shiftRight_eq_div_pow]; exact Nat.div_le_self _ _
    repeat (first
      | (refine L_cons ?_)
      | (refine R_cons rfl ?_)
      | (refine W_seq ?_)
      | (refine W_region (by kernel_rfl) ?_)
      | (refine L_nil ?_)
      | (refine R_nil ?_)
      | (refine W_block ?_)
      | (refine W_skip ?_)
      | (refine W_exit ?_)
      | (refine W_ret ?_)
      | (guard_target =~ thenQ _ _ _ _ _; first | (refine T_next ?_) | (refine T_exit ?_) | (refine T_ret ?_))
      | (guard_target =~ blockQ _ _ _ _ _; first | (refine B_next ?_) | (refine B_same ?_) | (refine B_other (by kernel_rfl) ?_) | (refine B_ret ?_))
      | (refine W_true rfl rfl ?_)
      | (refine W_false rfl rfl ?_)
      | (guard_target =~ WO _ _ (Oper.mk _ (Op.move _) _ _ _ none) _ _ _ _; first | (refine O_move (v := (.int _ (Nat.cast _))) rfl ?_) | (refine O_move (v := (.bool _)) rfl ?_) | (refine O_move (v := (.pointer _)) rfl ?_) | (refine O_move (v := (.slice _ _ _)) rfl ?_) | (refine O_move (v := (.agg _)) rfl ?_) | (refine O_move (v := (.tuple _)) rfl ?_) | (refine O_move (v := (.int _ _)) rfl ?_) | (refine O_move (v := .int _ (Nat.cast (OfNat.ofNat 0))) rfl ?_))
      | (guard_target =~ WO _ _ (Oper.mk _ (Op.assign _) _ _ _ none) _ _ _ _; first | (refine O_assign (v := (.int _ (Nat.cast _))) rfl ?_) | (refine O_assign (v := (.bool _)) rfl ?_) | (refine O_assign (v := (.pointer _)) rfl ?_) | (refine O_assign (v := (.slice _ _ _)) rfl ?_) | (refine O_assign (v := (.agg _)) rfl ?_) | (refine O_assign (v := (.tuple _)) rfl ?_) | (refine O_assign (v := (.int _ _)) rfl ?_))
      | (guard_target =~ WO _ _ (Oper.mk _ (Op.binOp BinOp.lss _ _ _ _) _ _ _ none) _ _ _ _; first | (refine O_lss_t (b := 64) rfl rfl (by omega) ?_) | (refine O_lss_f (b := 64) rfl rfl (by omega) ?_) | (refine O_lss (b := 64) rfl rfl ?_))
      | (guard_target =~ WO _ _ (Oper.mk _ (Op.nilCheck _) _ _ _ none) _ _ _ _; first | (refine O_nil rfl ?_))
      | (guard_target =~ WO _ _ (Oper.mk _ (Op.indexAddr 200 _ _) _ _ _ none) _ _ _ _; first | (refine O_index (m := 0) ar200 rfl rfl (by omega) ?_))
      | (guard_target =~ WO _ _ (Oper.mk _ (Op.indexAddr 198 _ _) _ _ _ none) _ _ _ _; first | (refine O_index (m := 0) ar198 rfl rfl (by omega) ?_))
      | (guard_target =~ WO _ _ (Oper.mk _ (Op.indexAddr 197 _ _) _ _ _ none) _ _ _ _; first | (refine O_index ar197 rfl rfl (by omega) ?_))
      | (guard_target =~ WO _ _ (Oper.mk _ (Op.binOp BinOp.shr _ _ _ _) _ _ _ none) _ _ _ _; first | (refine O_shr rfl rfl (by simp only [IntKind.bits]; omega) ?_))
      | (guard_target =~ WO _ _ (Oper.mk _ (Op.binOp BinOp.and _ _ _ _) _ _ _ none) _ _ _ _; first | (refine O_and (b := 1) rfl rfl rfl (by first | exact fit_i64 (by omega) | exact fit_u64 (by omega) | exact fit_u8 (by omega) | exact fit_i32 (by omega) | exact fit_u16 (by omega)) (by first | exact fit_i64 (by omega) | exact fit_u64 (by omega) | exact fit_u8 (by omega) | exact fit_i32 (by omega) | exact fit_u16 (by omega)) ?_))
      | (guard_target =~ WO _ _ (Oper.mk _ (Op.binOp BinOp.eql _ _ _ _) _ _ _ none) _ _ _ _; first | (refine O_eql_t (b := 1) rfl rfl (by omega) ?_) | (refine O_eql_f (b := 1) rfl rfl (by omega) ?_) | (refine O_eql (b := 1) rfl rfl ?_))
      | (guard_target =~ WO _ _ (Oper.mk _ (Op.binOp BinOp.neq _ _ _ _) _ _ _ none) _ _ _ _; first | (refine O_bneq Samg.underlying4 rfl rfl ?_))
      | (guard_target =~ WO _ _ (Oper.mk _ (Op.binOp BinOp.add _ _ _ _) _ _ _ none) _ _ _ _; first | (refine O_add (b := 1) rfl rfl (by first | exact fit_i64 (by omega) | exact fit_u64 (by omega) | exact fit_u8 (by omega) | exact fit_i32 (by omega) | exact fit_u16 (by omega)) ?_)))
    refine W_drawn [] [0, 1, 2, 3, 4, 5, 6, 7, 8, 9, 10, 11, 12, 13, 14, 15, 16, 17, 18, 19] mixed (by kernel_rfl) (by kernel_rfl) ?_
    repeat (first
      | (refine L_cons ?_)
      | (refine R_cons rfl ?_)
      | (refine W_seq ?_)
      | (refine W_region (by kernel_rfl) ?_)
      | (refine L_nil ?_)
      | (refine R_nil ?_)
      | (refine W_block ?_)
      | (refine W_skip ?_)
      | (refine W_exit ?_)
      | (refine W_ret ?_)
      | (guard_target =~ thenQ _ _ _ _ _; first | (refine T_next ?_) | (refine T_exit ?_) | (refine T_ret ?_))
      | (guard_target =~ blockQ _ _ _ _ _; first | (refine B_next ?_) | (refine B_same ?_) | (refine B_other (by kernel_rfl) ?_) | (refine B_ret ?_))
      | (refine W_true rfl rfl ?_)
      | (refine W_false rfl rfl ?_)
      | (guard_target =~ WO _ _ (Oper.mk _ (Op.load 4 _) _ _ _ none) _ _ _ _; first | (refine O_load_bs on4 rfl ha1.drew (by omega) ?_))
      | (guard_target =~ WO _ _ (Oper.mk _ (Op.move _) _ _ _ none) _ _ _ _; first | (refine O_move (v := (.int _ (Nat.cast _))) rfl ?_) | (refine O_move (v := (.bool _)) rfl ?_) | (refine O_move (v := (.pointer _)) rfl ?_) | (refine O_move (v := (.slice _ _ _)) rfl ?_) | (refine O_move (v := (.agg _)) rfl ?_) | (refine O_move (v := (.tuple _)) rfl ?_) | (refine O_move (v := (.int _ _)) rfl ?_) | (refine O_move (v := .int _ (Nat.cast (OfNat.ofNat 0))) rfl ?_))
      | (guard_target =~ WO _ _ (Oper.mk _ (Op.assign _) _ _ _ none) _ _ _ _; first | (refine O_assign (v := (.int _ (Nat.cast _))) rfl ?_) | (refine O_assign (v := (.bool _)) rfl ?_) | (refine O_assign (v := (.pointer _)) rfl ?_) | (refine O_assign (v := (.slice _ _ _)) rfl ?_) | (refine O_assign (v := (.agg _)) rfl ?_) | (refine O_assign (v := (.tuple _)) rfl ?_) | (refine O_assign (v := (.int _ _)) rfl ?_))
      | (guard_target =~ WO _ _ (Oper.mk _ (Op.binOp BinOp.lss _ _ _ _) _ _ _ none) _ _ _ _; first | (refine O_lss_t (b := 64) rfl rfl (by omega) ?_) | (refine O_lss_f (b := 64) rfl rfl (by omega) ?_) | (refine O_lss (b := 64) rfl rfl ?_))
      | (guard_target =~ WO _ _ (Oper.mk _ (Op.nilCheck _) _ _ _ none) _ _ _ _; first | (refine O_nil rfl ?_))
      | (guard_target =~ WO _ _ (Oper.mk _ (Op.indexAddr 200 _ _) _ _ _ none) _ _ _ _; first | (refine O_index (m := 0) ar200 rfl rfl (by omega) ?_))
      | (guard_target =~ WO _ _ (Oper.mk _ (Op.indexAddr 198 _ _) _ _ _ none) _ _ _ _; first | (refine O_index (m := 0) ar198 rfl rfl (by omega) ?_))
      | (guard_target =~ WO _ _ (Oper.mk _ (Op.indexAddr 197 _ _) _ _ _ none) _ _ _ _; first | (refine O_index ar197 rfl rfl (by omega) ?_))
      | (guard_target =~ WO _ _ (Oper.mk _ (Op.binOp BinOp.shr _ _ _ _) _ _ _ none) _ _ _ _; first | (refine O_shr rfl rfl (by simp only [IntKind.bits]; omega) ?_))
      | (guard_target =~ WO _ _ (Oper.mk _ (Op.binOp BinOp.and _ _ _ _) _ _ _ none) _ _ _ _; first | (refine O_and (b := 1) rfl rfl rfl (by first | exact fit_i64 (by omega) | exact fit_u64 (by omega) | exact fit_u8 (by omega) | exact fit_i32 (by omega) | exact fit_u16 (by omega)) (by first | exact fit_i64 (by omega) | exact fit_u64 (by omega) | exact fit_u8 (by omega) | exact fit_i32 (by omega) | exact fit_u16 (by omega)) ?_))
      | (guard_target =~ WO _ _ (Oper.mk _ (Op.binOp BinOp.eql _ _ _ _) _ _ _ none) _ _ _ _; first | (refine O_eql_t (b := 1) rfl rfl (by omega) ?_) | (refine O_eql_f (b := 1) rfl rfl (by omega) ?_) | (refine O_eql (b := 1) rfl rfl ?_))
      | (guard_target =~ WO _ _ (Oper.mk _ (Op.binOp BinOp.neq _ _ _ _) _ _ _ none) _ _ _ _; first | (refine O_bneq Samg.underlying4 rfl rfl ?_))
      | (guard_target =~ WO _ _ (Oper.mk _ (Op.binOp BinOp.add _ _ _ _) _ _ _ none) _ _ _ _; first | (refine O_add (b := 1) rfl rfl (by first | exact fit_i64 (by omega) | exact fit_u64 (by omega) | exact fit_u8 (by omega) | exact fit_i32 (by omega) | exact fit_u16 (by omega)) ?_)))
    refine O_store_bs on4 rfl rfl ha1.drew (by omega) rfl fun w2 hU => ?_
    have hU := hU.undrew
    rw [iK_succ hlt] at hU
    repeat (first
      | (refine L_cons ?_)
      | (refine R_cons rfl ?_)
      | (refine W_seq ?_)
      | (refine W_region (by kernel_rfl) ?_)
      | (refine L_nil ?_)
      | (refine R_nil ?_)
      | (refine W_block ?_)
      | (refine W_skip ?_)
      | (refine W_exit ?_)
      | (refine W_ret ?_)
      | (guard_target =~ thenQ _ _ _ _ _; first | (refine T_next ?_) | (refine T_exit ?_) | (refine T_ret ?_))
      | (guard_target =~ blockQ _ _ _ _ _; first | (refine B_next ?_) | (refine B_same ?_) | (refine B_other (by kernel_rfl) ?_) | (refine B_ret ?_))
      | (refine W_true rfl rfl ?_)
      | (refine W_false rfl rfl ?_)
      | (guard_target =~ WO _ _ (Oper.mk _ (Op.move _) _ _ _ none) _ _ _ _; first | (refine O_move (v := (.int _ (Nat.cast _))) rfl ?_) | (refine O_move (v := (.bool _)) rfl ?_) | (refine O_move (v := (.pointer _)) rfl ?_) | (refine O_move (v := (.slice _ _ _)) rfl ?_) | (refine O_move (v := (.agg _)) rfl ?_) | (refine O_move (v := (.tuple _)) rfl ?_) | (refine O_move (v := (.int _ _)) rfl ?_) | (refine O_move (v := .int _ (Nat.cast (OfNat.ofNat 0))) rfl ?_))
      | (guard_target =~ WO _ _ (Oper.mk _ (Op.assign _) _ _ _ none) _ _ _ _; first | (refine O_assign (v := (.int _ (Nat.cast _))) rfl ?_) | (refine O_assign (v := (.bool _)) rfl ?_) | (refine O_assign (v := (.pointer _)) rfl ?_) | (refine O_assign (v := (.slice _ _ _)) rfl ?_) | (refine O_assign (v := (.agg _)) rfl ?_) | (refine O_assign (v := (.tuple _)) rfl ?_) | (refine O_assign (v := (.int _ _)) rfl ?_))
      | (guard_target =~ WO _ _ (Oper.mk _ (Op.binOp BinOp.lss _ _ _ _) _ _ _ none) _ _ _ _; first | (refine O_lss_t (b := 64) rfl rfl (by omega) ?_) | (refine O_lss_f (b := 64) rfl rfl (by omega) ?_) | (refine O_lss (b := 64) rfl rfl ?_))
      | (guard_target =~ WO _ _ (Oper.mk _ (Op.nilCheck _) _ _ _ none) _ _ _ _; first | (refine O_nil rfl ?_))
      | (guard_target =~ WO _ _ (Oper.mk _ (Op.indexAddr 200 _ _) _ _ _ none) _ _ _ _; first | (refine O_index (m := 0) ar200 rfl rfl (by omega) ?_))
      | (guard_target =~ WO _ _ (Oper.mk _ (Op.indexAddr 198 _ _) _ _ _ none) _ _ _ _; first | (refine O_index (m := 0) ar198 rfl rfl (by omega) ?_))
      | (guard_target =~ WO _ _ (Oper.mk _ (Op.indexAddr 197 _ _) _ _ _ none) _ _ _ _; first | (refine O_index ar197 rfl rfl (by omega) ?_))
      | (guard_target =~ WO _ _ (Oper.mk _ (Op.binOp BinOp.shr _ _ _ _) _ _ _ none) _ _ _ _; first | (refine O_shr rfl rfl (by simp only [IntKind.bits]; omega) ?_))
      | (guard_target =~ WO _ _ (Oper.mk _ (Op.binOp BinOp.and _ _ _ _) _ _ _ none) _ _ _ _; first | (refine O_and (b := 1) rfl rfl rfl (by first | exact fit_i64 (by omega) | exact fit_u64 (by omega) | exact fit_u8 (by omega) | exact fit_i32 (by omega) | exact fit_u16 (by omega)) (by first | exact fit_i64 (by omega) | exact fit_u64 (by omega) | exact fit_u8 (by omega) | exact fit_i32 (by omega) | exact fit_u16 (by omega)) ?_))
      | (guard_target =~ WO _ _ (Oper.mk _ (Op.binOp BinOp.eql _ _ _ _) _ _ _ none) _ _ _ _; first | (refine O_eql_t (b := 1) rfl rfl (by omega) ?_) | (refine O_eql_f (b := 1) rfl rfl (by omega) ?_) | (refine O_eql (b := 1) rfl rfl ?_))
      | (guard_target =~ WO _ _ (Oper.mk _ (Op.binOp BinOp.neq _ _ _ _) _ _ _ none) _ _ _ _; first | (refine O_bneq Samg.underlying4 rfl rfl ?_))
      | (guard_target =~ WO _ _ (Oper.mk _ (Op.binOp BinOp.add _ _ _ _) _ _ _ none) _ _ _ _; first | (refine O_add (b := 1) rfl rfl (by first | exact fit_i64 (by omega) | exact fit_u64 (by omega) | exact fit_u8 (by omega) | exact fit_i32 (by omega) | exact fit_u16 (by omega)) ?_)))
    exact ⟨64 - (z + 1), by omega, z + 1, rfl, by omega, Has.mk ⟨rfl, rfl, rfl, trivial⟩, hM1.trans hU.mod, hU.here⟩
  · obtain rfl : z = 64 := by omega
    repeat (first
      | (refine L_cons ?_)
      | (refine R_cons rfl ?_)
      | (refine W_seq ?_)
      | (refine W_region (by kernel_rfl) ?_)
      | (refine L_nil ?_)
      | (refine R_nil ?_)
      | (refine W_block ?_)
      | (refine W_skip ?_)
      | (refine W_exit ?_)
      | (refine W_ret ?_)
      | (guard_target =~ thenQ _ _ _ _ _; first | (refine T_next ?_) | (refine T_exit ?_) | (refine T_ret ?_))
      | (guard_target =~ blockQ _ _ _ _ _; first | (refine B_next ?_) | (refine B_same ?_) | (refine B_other (by kernel_rfl) ?_) | (refine B_ret ?_))
      | (refine W_true rfl rfl ?_)
      | (refine W_false rfl rfl ?_)
      | (guard_target =~ WO _ _ (Oper.mk _ (Op.move _) _ _ _ none) _ _ _ _; first | (refine O_move (v := (.int _ (Nat.cast _))) rfl ?_) | (refine O_move (v := (.bool _)) rfl ?_) | (refine O_move (v := (.pointer _)) rfl ?_) | (refine O_move (v := (.slice _ _ _)) rfl ?_) | (refine O_move (v := (.agg _)) rfl ?_) | (refine O_move (v := (.tuple _)) rfl ?_) | (refine O_move (v := (.int _ _)) rfl ?_) | (refine O_move (v := .int _ (Nat.cast (OfNat.ofNat 0))) rfl ?_))
      | (guard_target =~ WO _ _ (Oper.mk _ (Op.assign _) _ _ _ none) _ _ _ _; first | (refine O_assign (v := (.int _ (Nat.cast _))) rfl ?_) | (refine O_assign (v := (.bool _)) rfl ?_) | (refine O_assign (v := (.pointer _)) rfl ?_) | (refine O_assign (v := (.slice _ _ _)) rfl ?_) | (refine O_assign (v := (.agg _)) rfl ?_) | (refine O_assign (v := (.tuple _)) rfl ?_) | (refine O_assign (v := (.int _ _)) rfl ?_))
      | (guard_target =~ WO _ _ (Oper.mk _ (Op.binOp BinOp.lss _ _ _ _) _ _ _ none) _ _ _ _; first | (refine O_lss_t (b := 64) rfl rfl (by omega) ?_) | (refine O_lss_f (b := 64) rfl rfl (by omega) ?_) | (refine O_lss (b := 64) rfl rfl ?_))
      | (guard_target =~ WO _ _ (Oper.mk _ (Op.nilCheck _) _ _ _ none) _ _ _ _; first | (refine O_nil rfl ?_))
      | (guard_target =~ WO _ _ (Oper.mk _ (Op.indexAddr 200 _ _) _ _ _ none) _ _ _ _; first | (refine O_index (m := 0) ar200 rfl rfl (by omega) ?_))
      | (guard_target =~ WO _ _ (Oper.mk _ (Op.indexAddr 198 _ _) _ _ _ none) _ _ _ _; first | (refine O_index (m := 0) ar198 rfl rfl (by omega) ?_))
      | (guard_target =~ WO _ _ (Oper.mk _ (Op.indexAddr 197 _ _) _ _ _ none) _ _ _ _; first | (refine O_index ar197 rfl rfl (by omega) ?_))
      | (guard_target =~ WO _ _ (Oper.mk _ (Op.binOp BinOp.shr _ _ _ _) _ _ _ none) _ _ _ _; first | (refine O_shr rfl rfl (by simp only [IntKind.bits]; omega) ?_))
      | (guard_target =~ WO _ _ (Oper.mk _ (Op.binOp BinOp.and _ _ _ _) _ _ _ none) _ _ _ _; first | (refine O_and (b := 1) rfl rfl rfl (by first | exact fit_i64 (by omega) | exact fit_u64 (by omega) | exact fit_u8 (by omega) | exact fit_i32 (by omega) | exact fit_u16 (by omega)) (by first | exact fit_i64 (by omega) | exact fit_u64 (by omega) | exact fit_u8 (by omega) | exact fit_i32 (by omega) | exact fit_u16 (by omega)) ?_))
      | (guard_target =~ WO _ _ (Oper.mk _ (Op.binOp BinOp.eql _ _ _ _) _ _ _ none) _ _ _ _; first | (refine O_eql_t (b := 1) rfl rfl (by omega) ?_) | (refine O_eql_f (b := 1) rfl rfl (by omega) ?_) | (refine O_eql (b := 1) rfl rfl ?_))
      | (guard_target =~ WO _ _ (Oper.mk _ (Op.binOp BinOp.neq _ _ _ _) _ _ _ none) _ _ _ _; first | (refine O_bneq Samg.underlying4 rfl rfl ?_))
      | (guard_target =~ WO _ _ (Oper.mk _ (Op.binOp BinOp.add _ _ _ _) _ _ _ none) _ _ _ _; first | (refine O_add (b := 1) rfl rfl (by first | exact fit_i64 (by omega) | exact fit_u64 (by omega) | exact fit_u8 (by omega) | exact fit_i32 (by omega) | exact fit_u16 (by omega)) ?_)))
    refine E_end0 rfl ⟨rfl, hM1, ?_⟩
    rw [bs_congr (g := iK c a 64)]
    · exact ha1
    · intro i _
      simp only [iK, iotaB]
      split <;> rfl
end Go.Proofs.Ygcsam
