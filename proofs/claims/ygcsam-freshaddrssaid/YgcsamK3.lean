import Derived.Test.YgcsamK2
namespace Go.Proofs.Ygcsam
set_option linter.unusedVariables false
set_option maxHeartbeats 1000000

/-- The columns' sums, the first k bits taken in. -/
def cK (a : Nat → Bool) : Nat → Nat → Bool
  | 0 => fun _ => false
  | k + 1 => upb (cK a k) (k / 320 * 64 + k % 64) (cK a k (k / 320 * 64 + k % 64) != a k)
def dK (a : Nat → Bool) (x z : Nat) : Bool := cK a 1600 ((x + 4) % 5 * 64 + z) != cK a 1600 ((x + 1) % 5 * 64 + (z + 63) % 64)
def thetaB (a : Nat → Bool) : Nat → Bool := fun i => a i != dK a (i / 320) (i % 64)

theorem cK_succ {a : Nat → Bool} {x y z : Nat} (hx : x < 5) (hy : y < 5) (hz : z < 64) :
    upb (cK a (x * 320 + y * 64 + z)) (0 + x * 64 + z * 1) (cK a (x * 320 + y * 64 + z) (0 + x * 64 + z * 1) != a (0 + x * 320 + y * 64 + z * 1)) = cK a (x * 320 + y * 64 + (z + 1)) := by
  have e1 : 0 + x * 64 + z * 1 = (x * 320 + y * 64 + z) / 320 * 64 + (x * 320 + y * 64 + z) % 64 := by omega
  have e2 : 0 + x * 320 + y * 64 + z * 1 = x * 320 + y * 64 + z := by omega
  rw [e1, e2]; rfl

def tK (a : Nat → Bool) (k : Nat) : Nat → Bool := fun i => if i < k then thetaB a i else a i
theorem tK_zero (a : Nat → Bool) : tK a 0 = a := by funext i; simp [tK]
theorem tK_succ {a : Nat → Bool} {x y z : Nat} (hx : x < 5) (hy : y < 5) (hz : z < 64) :
    upb (tK a (x * 320 + y * 64 + z)) (0 + x * 320 + y * 64 + z * 1) (tK a (x * 320 + y * 64 + z) (0 + x * 320 + y * 64 + z * 1) != dK a x (0 + z * 1)) = tK a (x * 320 + y * 64 + (z + 1)) := by
  have e2 : 0 + x * 320 + y * 64 + z * 1 = x * 320 + y * 64 + z := by omega
  have e3 : (x * 320 + y * 64 + z) / 320 = x := by omega
  have e4 : (x * 320 + y * 64 + z) % 64 = z := by omega
  have e5 : 0 + z * 1 = z := by omega
  rw [e2, e5]
  funext i
  simp only [upb, tK]
  by_cases h : i = x * 320 + y * 64 + z
  · subst h
    rw [if_pos rfl, if_neg (by omega), if_pos (by omega), thetaB, e3, e4]
  · rw [if_neg h]
    by_cases h2 : i < x * 320 + y * 64 + z
    · rw [if_pos h2, if_pos (by omega)]
    · rw [if_neg h2, if_neg (by omega)]
def eK (a : Nat → Bool) (x k : Nat) : Nat → Bool := fun z => if z < k then dK a x z else false
theorem eK_succ {a : Nat → Bool} {x z : Nat} (hz : z < 64) :
    upb (eK a x z) (0 + z * 1) (cK a 1600 (0 + (x + 4) % 5 * 64 + z * 1) != cK a 1600 (0 + (x + 1) % 5 * 64 + (z + 63) % 64 * 1)) = eK a x (z + 1) := by
  have e5 : 0 + z * 1 = z := by omega
  have e6 : 0 + (x + 4) % 5 * 64 + z * 1 = (x + 4) % 5 * 64 + z := by omega
  have e7 : 0 + (x + 1) % 5 * 64 + (z + 63) % 64 * 1 = (x + 1) % 5 * 64 + (z + 63) % 64 := by omega
  rw [e5, e6, e7]
  funext i
  simp only [upb, eK]
  by_cases h : i = z
  · subst h; rw [if_pos rfl, if_pos (by omega), dK]
  · rw [if_neg h]
    by_cases h2 : i < z
    · rw [if_pos h2, if_pos (by omega)]
    · rw [if_neg h2, if_neg (by omega)]

theorem theta_ok {ba : Nat} {a : Nat → Bool} {tb : TypeId} {w : World} (hb : Blk w ba (bs 1600 a) tb) :
    Ret Samg.prog 109 #[.pointer (some ⟨ba, 0, none⟩)] w fun v w' => v = .tuple #[] ∧ Mod [ba] w w' ∧ Blk w' ba (bs 1600 (thetaB a)) tb := by
  refine W_enter (l := [.pointer (some ⟨ba, 0, none⟩)]) Samg.func109 rfl Samg.ntmps109 rfl ?_
  repeat (first
    | (refine L_cons ?_)
    | (refine R_cons rfl ?_)
    | (refine W_seq ?_)
    | (refine W_region (by kernel_rfl) ?_)
    | (refine L_nil ?_)
    | (refine R_nil ?_)
    | (refine W_block ?_)
    | (refine W_skip ?_)
    | (refine W_exit ?_)
    | (refine W_ret ?_)
    | (guard_target =~ thenQ _ _ _ _ _; first | (refine T_next ?_) | (refine T_exit ?_) | (refine T_ret ?_))
    | (guard_target =~ blockQ _ _ _ _ _; first | (refine B_next ?_) | (refine B_same ?_) | (refine B_other (by kernel_rfl) ?_) | (refine B_ret ?_))
    | (refine W_true rfl rfl ?_)
    | (refine W_false rfl rfl ?_)
    | (guard_target =~ WO _ _ (Oper.mk _ (Op.move _) _ _ _ none) _ _ _ _; first | (refine O_move (v := .int _ (Nat.cast (OfNat.ofNat 0))) rfl ?_) | (refine O_move (v := (.int _ (Nat.cast _))) rfl ?_) | (refine O_move (v := (.bool _)) rfl ?_) | (refine O_move (v := (.pointer _)) rfl ?_) | (refine O_move (v := (.slice _ _ _)) rfl ?_) | (refine O_move (v := (.agg _)) rfl ?_) | (refine O_move (v := (.tuple _)) rfl ?_) | (refine O_move (v := (.int _ _)) rfl ?_))
    | (guard_target =~ WO _ _ (Oper.mk _ (Op.binOp BinOp.lss _ _ _ _) _ _ _ none) _ _ _ _; first | (refine O_lss_t (b := 5) rfl rfl (by omega) ?_) | (refine O_lss_f (b := 5) rfl rfl (by omega) ?_) | (refine O_lss (b := 5) rfl rfl ?_) | (refine O_lss_t (b := 64) rfl rfl (by omega) ?_) | (refine O_lss_f (b := 64) rfl rfl (by omega) ?_) | (refine O_lss (b := 64) rfl rfl ?_))
    | (guard_target =~ WO _ _ (Oper.mk _ (Op.assign _) _ _ _ none) _ _ _ _; first | (refine O_assign (v := (.int _ (Nat.cast _))) rfl ?_) | (refine O_assign (v := (.bool _)) rfl ?_) | (refine O_assign (v := (.pointer _)) rfl ?_) | (refine O_assign (v := (.slice _ _ _)) rfl ?_) | (refine O_assign (v := (.agg _)) rfl ?_) | (refine O_assign (v := (.tuple _)) rfl ?_) | (refine O_assign (v := (.int _ _)) rfl ?_))
    | (guard_target =~ WO _ _ (Oper.mk _ (Op.nilCheck _) _ _ _ none) _ _ _ _; first | (refine O_nil rfl ?_))
    | (guard_target =~ WO _ _ (Oper.mk _ (Op.indexAddr 200 _ _) _ _ _ none) _ _ _ _; first | (refine O_index ar200 rfl rfl (by omega) ?_))
    | (guard_target =~ WO _ _ (Oper.mk _ (Op.indexAddr 198 _ _) _ _ _ none) _ _ _ _; first | (refine O_index ar198 rfl rfl (by omega) ?_))
    | (guard_target =~ WO _ _ (Oper.mk _ (Op.indexAddr 197 _ _) _ _ _ none) _ _ _ _; first | (refine O_index ar197 rfl rfl (by omega) ?_))
    | (guard_target =~ WO _ _ (Oper.mk _ (Op.binOp BinOp.neq _ _ _ _) _ _ _ none) _ _ _ _; first | (refine O_bneq Samg.underlying4 rfl rfl ?_))
    | (guard_target =~ WO _ _ (Oper.mk _ (Op.binOp BinOp.add _ _ _ _) _ _ _ none) _ _ _ _; first | (refine O_add (b := 1) rfl rfl (by first | exact fit_i64 (by omega) | exact fit_u64 (by omega) | exact fit_u8 (by omega) | exact fit_i32 (by omega) | exact fit_u16 (by omega)) ?_) | (refine O_add (b := 4) rfl rfl (by first | exact fit_i64 (by omega) | exact fit_u64 (by omega) | exact fit_u8 (by omega) | exact fit_i32 (by omega) | exact fit_u16 (by omega)) ?_) | (refine O_add (b := 63) rfl rfl (by first | exact fit_i64 (by omega) | exact fit_u64 (by omega) | exact fit_u8 (by omega) | exact fit_i32 (by omega) | exact fit_u16 (by omega)) ?_))
    | (guard_target =~ WO _ _ (Oper.mk _ (Op.binOp BinOp.rem _ _ _ _) _ _ _ none) _ _ _ _; first | (refine O_rem (b := 5) rfl rfl (by omega) ?_) | (refine O_rem (b := 64) rfl rfl (by omega) ?_)))
  refine O_alloc_agg z198 fun w1 hE1 hs1 hc1 => ?_
  have ha1 := hb.ext hE1
  have hne : ba ≠ w.heap.size := Nat.ne_of_lt hb.lt
  obtain ⟨bc, hbc⟩ : ∃ b, b = w.heap.size := ⟨_, rfl⟩
  have hge : w.heap.size ≤ bc := by omega
  rw [← hbc] at hc1 hne ⊢
  have hM1 : Mod [ba, bc] w w1 := hE1.mod _
  clear hbc hs1 hE1
  repeat (first
    | (refine L_cons ?_)
    | (refine R_cons rfl ?_)
    | (refine W_seq ?_)
    | (refine W_region (by kernel_rfl) ?_)
    | (refine L_nil ?_)
    | (refine R_nil ?_)
    | (refine W_block ?_)
    | (refine W_skip ?_)
    | (refine W_exit ?_)
    | (refine W_ret ?_)
    | (guard_target =~ thenQ _ _ _ _ _; first | (refine T_next ?_) | (refine T_exit ?_) | (refine T_ret ?_))
    | (guard_target =~ blockQ _ _ _ _ _; first | (refine B_next ?_) | (refine B_same ?_) | (refine B_other (by kernel_rfl) ?_) | (refine B_ret ?_))
    | (refine W_true rfl rfl ?_)
    | (refine W_false rfl rfl ?_)
    | (guard_target =~ WO _ _ (Oper.mk _ (Op.move _) _ _ _ none) _ _ _ _; first | (refine O_move (v := .int _ (Nat.cast (OfNat.ofNat 0))) rfl ?_) | (refine O_move (v := (.int _ (Nat.cast _))) rfl ?_) | (refine O_move (v := (.bool _)) rfl ?_) | (refine O_move (v := (.pointer _)) rfl ?_) | (refine O_move (v := (.slice _ _ _)) rfl ?_) | (refine O_move (v := (.agg _)) rfl ?_) | (refine O_move (v := (.tuple _)) rfl ?_) | (refine O_move (v := (.int _ _)) rfl ?_))
    | (guard_target =~ WO _ _ (Oper.mk _ (Op.binOp BinOp.lss _ _ _ _) _ _ _ none) _ _ _ _; first | (refine O_lss_t (b := 5) rfl rfl (by omega) ?_) | (refine O_lss_f (b := 5) rfl rfl (by omega) ?_) | (refine O_lss (b := 5) rfl rfl ?_) | (refine O_lss_t (b := 64) rfl rfl (by omega) ?_) | (refine O_lss_f (b := 64) rfl rfl (by omega) ?_) | (refine O_lss (b := 64) rfl rfl ?_))
    | (guard_target =~ WO _ _ (Oper.mk _ (Op.assign _) _ _ _ none) _ _ _ _; first | (refine O_assign (v := (.int _ (Nat.cast _))) rfl ?_) | (refine O_assign (v := (.bool _)) rfl ?_) | (refine O_assign (v := (.pointer _)) rfl ?_) | (refine O_assign (v := (.slice _ _ _)) rfl ?_) | (refine O_assign (v := (.agg _)) rfl ?_) | (refine O_assign (v := (.tuple _)) rfl ?_) | (refine O_assign (v := (.int _ _)) rfl ?_))
    | (guard_target =~ WO _ _ (Oper.mk _ (Op.nilCheck _) _ _ _ none) _ _ _ _; first | (refine O_nil rfl ?_))
    | (guard_target =~ WO _ _ (Oper.mk _ (Op.indexAddr 200 _ _) _ _ _ none) _ _ _ _; first | (refine O_index ar200 rfl rfl (by omega) ?_))
    | (guard_target =~ WO _ _ (Oper.mk _ (Op.indexAddr 198 _ _) _ _ _ none) _ _ _ _; first | (refine O_index ar198 rfl rfl (by omega) ?_))
    | (guard_target =~ WO _ _ (Oper.mk _ (Op.indexAddr 197 _ _) _ _ _ none) _ _ _ _; first | (refine O_index ar197 rfl rfl (by omega) ?_))
    | (guard_target =~ WO _ _ (Oper.mk _ (Op.binOp BinOp.neq _ _ _ _) _ _ _ none) _ _ _ _; first | (refine O_bneq Samg.underlying4 rfl rfl ?_))
    | (guard_target =~ WO _ _ (Oper.mk _ (Op.binOp BinOp.add _ _ _ _) _ _ _ none) _ _ _ _; first | (refine O_add (b := 1) rfl rfl (by first | exact fit_i64 (by omega) | exact fit_u64 (by omega) | exact fit_u8 (by omega) | exact fit_i32 (by omega) | exact fit_u16 (by omega)) ?_) | (refine O_add (b := 4) rfl rfl (by first | exact fit_i64 (by omega) | exact fit_u64 (by omega) | exact fit_u8 (by omega) | exact fit_i32 (by omega) | exact fit_u16 (by omega)) ?_) | (refine O_add (b := 63) rfl rfl (by first | exact fit_i64 (by omega) | exact fit_u64 (by omega) | exact fit_u8 (by omega) | exact fit_i32 (by omega) | exact fit_u16 (by omega)) ?_))
    | (guard_target =~ WO _ _ (Oper.mk _ (Op.binOp BinOp.rem _ _ _ _) _ _ _ none) _ _ _ _; first | (refine O_rem (b := 5) rfl rfl (by omega) ?_) | (refine O_rem (b := 64) rfl rfl (by omega) ?_)))
  refine W_loop (fun k ρ w' => ∃ x, k = 5 - x ∧ x ≤ 5 ∧ Has ρ [(0, .pointer (some ⟨ba, 0, none⟩)), (2, .pointer (some ⟨bc, 0, none⟩)), (16, .int .i64 (x : Nat))] ∧
    Mod [ba, bc] w w' ∧ Blk w' ba (bs 1600 a) tb ∧ Blk w' bc (bs 320 (cK a (x * 320))) 198) 5 ?_ ?_
  · exact ⟨0, by omega, by omega, Has.mk ⟨rfl, rfl, rfl, trivial⟩, hM1, ha1, by rw [Nat.zero_mul]; exact hc1⟩
  clear hM1 ha1 hc1 w1
  rintro k _ w1 ⟨x, rfl, hx, ⟨σ, rfl⟩, hM1, ha1, hc1⟩
  by_cases hlt : x < 5
  · repeat (first
      | (refine L_cons ?_)
      | (refine R_cons rfl ?_)
      | (refine W_seq ?_)
      | (refine W_region (by kernel_rfl) ?_)
      | (refine L_nil ?_)
      | (refine R_nil ?_)
      | (refine W_block ?_)
      | (refine W_skip ?_)
      | (refine W_exit ?_)
      | (refine W_ret ?_)
      | (guard_target =~ thenQ _ _ _ _ _; first | (refine T_next ?_) | (refine T_exit ?_) | (refine T_ret ?_))
      | (guard_target =~ blockQ _ _ _ _ _; first | (refine B_next ?_) | (refine B_same ?_) | (refine B_other (by kernel_rfl) ?_) | (refine B_ret ?_))
      | (refine W_true rfl rfl ?_)
      | (refine W_false rfl rfl ?_)
      | (guard_target =~ WO _ _ (Oper.mk _ (Op.move _) _ _ _ none) _ _ _ _; first | (refine O_move (v := .int _ (Nat.cast (OfNat.ofNat 0))) rfl ?_) | (refine O_move (v := (.int _ (Nat.cast _))) rfl ?_) | (refine O_move (v := (.bool _)) rfl ?_) | (refine O_move (v := (.pointer _)) rfl ?_) | (refine O_move (v := (.slice _ _ _)) rfl ?_) | (refine O_move (v := (.agg _)) rfl ?_) | (refine O_move (v := (.tuple _)) rfl ?_) | (refine O_move (v := (.int _ _)) rfl ?_))
      | (guard_target =~ WO _ _ (Oper.mk _ (Op.binOp BinOp.lss _ _ _ _) _ _ _ none) _ _ _ _; first | (refine O_lss_t (b := 5) rfl rfl (by omega) ?_) | (refine O_lss_f (b := 5) rfl rfl (by omega) ?_) | (refine O_lss (b := 5) rfl rfl ?_) | (refine O_lss_t (b := 64) rfl rfl (by omega) ?_) | (refine O_lss_f (b := 64) rfl rfl (by omega) ?_) | (refine O_lss (b := 64) rfl rfl ?_))
      | (guard_target =~ WO _ _ (Oper.mk _ (Op.assign _) _ _ _ none) _ _ _ _; first | (refine O_assign (v := (.int _ (Nat.cast _))) rfl ?_) | (refine O_assign (v := (.bool _)) rfl ?_) | (refine O_assign (v := (.pointer _)) rfl ?_) | (refine O_assign (v := (.slice _ _ _)) rfl ?_) | (refine O_assign (v := (.agg _)) rfl ?_) | (refine O_assign (v := (.tuple _)) rfl ?_) | (refine O_assign (v := (.int _ _)) rfl ?_))
      | (guard_target =~ WO _ _ (Oper.mk _ (Op.nilCheck _) _ _ _ none) _ _ _ _; first | (refine O_nil rfl ?_))
      | (guard_target =~ WO _ _ (Oper.mk _ (Op.indexAddr 200 _ _) _ _ _ none) _ _ _ _; first | (refine O_index ar200 rfl rfl (by omega) ?_))
      | (guard_target =~ WO _ _ (Oper.mk _ (Op.indexAddr 198 _ _) _ _ _ none) _ _ _ _; first | (refine O_index ar198 rfl rfl (by omega) ?_))
      | (guard_target =~ WO _ _ (Oper.mk _ (Op.indexAddr 197 _ _) _ _ _ none) _ _ _ _; first | (refine O_index ar197 rfl rfl (by omega) ?_))
      | (guard_target =~ WO _ _ (Oper.mk _ (Op.binOp BinOp.neq _ _ _ _) _ _ _ none) _ _ _ _; first | (refine O_bneq Samg.underlying4 rfl rfl ?_))
      | (guard_target =~ WO _ _ (Oper.mk _ (Op.binOp BinOp.add _ _ _ _) _ _ _ none) _ _ _ _; first | (refine O_add (b := 1) rfl rfl (by first | exact fit_i64 (by omega) | exact fit_u64 (by omega) | exact fit_u8 (by omega) | exact fit_i32 (by omega) | exact fit_u16 (by omega)) ?_) | (refine O_add (b := 4) rfl rfl (by first | exact fit_i64 (by omega) | exact fit_u64 (by omega) | exact fit_u8 (by omega) | exact fit_i32 (by omega) | exact fit_u16 (by omega)) ?_) | (refine O_add (b := 63) rfl rfl (by first | exact fit_i64 (by omega) | exact fit_u64 (by omega) | exact fit_u8 (by omega) | exact fit_i32 (by omega) | exact fit_u16 (by omega)) ?_))
      | (guard_target =~ WO _ _ (Oper.mk _ (Op.binOp BinOp.rem _ _ _ _) _ _ _ none) _ _ _ _; first | (refine O_rem (b := 5) rfl rfl (by omega) ?_) | (refine O_rem (b := 64) rfl rfl (by omega) ?_)))
    refine W_loop (fun k ρ w' => ∃ y, k = 5 - y ∧ y ≤ 5 ∧ Has ρ [(0, .pointer (some ⟨ba, 0, none⟩)), (2, .pointer (some ⟨bc, 0, none⟩)), (3, .int .i64 (x : Nat)), (16, .int .i64 (x : Nat)), (19, .int .i64 (y : Nat))] ∧
      Mod [ba, bc] w w' ∧ Blk w' ba (bs 1600 a) tb ∧ Blk w' bc (bs 320 (cK a (x * 320 + y * 64))) 198) 5 ?_ ?_
    · exact ⟨0, by omega, by omega, Has.mk ⟨rfl, rfl, rfl, rfl, rfl, trivial⟩, hM1, ha1, (by rw [show x * 320 + 0 * 64 = x * 320 from by omega]; exact hc1)⟩
    clear hM1 ha1 hc1 w1
    rintro k _ w1 ⟨y, rfl, hy, ⟨σ, rfl⟩, hM1, ha1, hc1⟩
    by_cases hlty : y < 5
    · repeat (first
        | (refine L_cons ?_)
        | (refine R_cons rfl ?_)
        | (refine W_seq ?_)
        | (refine W_region (by kernel_rfl) ?_)
        | (refine L_nil ?_)
        | (refine R_nil ?_)
        | (refine W_block ?_)
        | (refine W_skip ?_)
        | (refine W_exit ?_)
        | (refine W_ret ?_)
        | (guard_target =~ thenQ _ _ _ _ _; first | (refine T_next ?_) | (refine T_exit ?_) | (refine T_ret ?_))
        | (guard_target =~ blockQ _ _ _ _ _; first | (refine B_next ?_) | (refine B_same ?_) | (refine B_other (by kernel_rfl) ?_) | (refine B_ret ?_))
        | (refine W_true rfl rfl ?_)
        | (refine W_false rfl rfl ?_)
        | (guard_target =~ WO _ _ (Oper.mk _ (Op.move _) _ _ _ none) _ _ _ _; first | (refine O_move (v := .int _ (Nat.cast (OfNat.ofNat 0))) rfl ?_) | (refine O_move (v := (.int _ (Nat.cast _))) rfl ?_) | (refine O_move (v := (.bool _)) rfl ?_) | (refine O_move (v := (.pointer _)) rfl ?_) | (refine O_move (v := (.slice _ _ _)) rfl ?_) | (refine O_move (v := (.agg _)) rfl ?_) | (refine O_move (v := (.tuple _)) rfl ?_) | (refine O_move (v := (.int _ _)) rfl ?_))
        | (guard_target =~ WO _ _ (Oper.mk _ (Op.binOp BinOp.lss _ _ _ _) _ _ _ none) _ _ _ _; first | (refine O_lss_t (b := 5) rfl rfl (by omega) ?_) | (refine O_lss_f (b := 5) rfl rfl (by omega) ?_) | (refine O_lss (b := 5) rfl rfl ?_) | (refine O_lss_t (b := 64) rfl rfl (by omega) ?_) | (refine O_lss_f (b := 64) rfl rfl (by omega) ?_) | (refine O_lss (b := 64) rfl rfl ?_))
        | (guard_target =~ WO _ _ (Oper.mk _ (Op.assign _) _ _ _ none) _ _ _ _; first | (refine O_assign (v := (.int _ (Nat.cast _))) rfl ?_) | (refine O_assign (v := (.bool _)) rfl ?_) | (refine O_assign (v := (.pointer _)) rfl ?_) | (refine O_assign (v := (.slice _ _ _)) rfl ?_) | (refine O_assign (v := (.agg _)) rfl ?_) | (refine O_assign (v := (.tuple _)) rfl ?_) | (refine O_assign (v := (.int _ _)) rfl ?_))
        | (guard_target =~ WO _ _ (Oper.mk _ (Op.nilCheck _) _ _ _ none) _ _ _ _; first | (refine O_nil rfl ?_))
        | (guard_target =~ WO _ _ (Oper.mk _ (Op.indexAddr 200 _ _) _ _ _ none) _ _ _ _; first | (refine O_index ar200 rfl rfl (by omega) ?_))
        | (guard_target =~ WO _ _ (Oper.mk _ (Op.indexAddr 198 _ _) _ _ _ none) _ _ _ _; first | (refine O_index ar198 rfl rfl (by omega) ?_))
        | (guard_target =~ WO _ _ (Oper.mk _ (Op.indexAddr 197 _ _) _ _ _ none) _ _ _ _; first | (refine O_index ar197 rfl rfl (by omega) ?_))
        | (guard_target =~ WO _ _ (Oper.mk _ (Op.binOp BinOp.neq _ _ _ _) _ _ _ none) _ _ _ _; first | (refine O_bneq Samg.underlying4 rfl rfl ?_))
        | (guard_target =~ WO _ _ (Oper.mk _ (Op.binOp BinOp.add _ _ _ _) _ _ _ none) _ _ _ _; first | (refine O_add (b := 1) rfl rfl (by first | exact fit_i64 (by omega) | exact fit_u64 (by omega) | exact fit_u8 (by omega) | exact fit_i32 (by omega) | exact fit_u16 (by omega)) ?_) | (refine O_add (b := 4) rfl rfl (by first | exact fit_i64 (by omega) | exact fit_u64 (by omega) | exact fit_u8 (by omega) | exact fit_i32 (by omega) | exact fit_u16 (by omega)) ?_) | (refine O_add (b := 63) rfl rfl (by first | exact fit_i64 (by omega) | exact fit_u64 (by omega) | exact fit_u8 (by omega) | exact fit_i32 (by omega) | exact fit_u16 (by omega)) ?_))
        | (guard_target =~ WO _ _ (Oper.mk _ (Op.binOp BinOp.rem _ _ _ _) _ _ _ none) _ _ _ _; first | (refine O_rem (b := 5) rfl rfl (by omega) ?_) | (refine O_rem (b := 64) rfl rfl (by omega) ?_)))
      refine W_loop (fun k ρ w' => ∃ z, k = 64 - z ∧ z ≤ 64 ∧ Has ρ [(0, .pointer (some ⟨ba, 0, none⟩)), (2, .pointer (some ⟨bc, 0, none⟩)), (3, .int .i64 (x : Nat)), (16, .int .i64 (x : Nat)), (19, .int .i64 (y : Nat)),
          (27, .pointer (some ⟨ba, 0 + x * 320 + y * 64, none⟩)), (28, .int .i64 (z : Nat))] ∧
        Mod [ba, bc] w w' ∧ Blk w' ba (bs 1600 a) tb ∧ Blk w' bc (bs 320 (cK a (x * 320 + y * 64 + z))) 198) 64 ?_ ?_
      · exact ⟨0, by omega, by omega, Has.mk ⟨rfl, rfl, rfl, rfl, rfl, rfl, rfl, trivial⟩, hM1, ha1, (by rw [show x * 320 + y * 64 + 0 = x * 320 + y * 64 from by omega]; exact hc1)⟩
      clear hM1 ha1 hc1 w1
      rintro k _ w1 ⟨z, rfl, hz, ⟨σ, rfl⟩, hM1, ha1, hc1⟩
      by_cases hltz : z < 64
      · repeat (first
          | (refine L_cons ?_)
          | (refine R_cons rfl ?_)
          | (refine W_seq ?_)
          | (refine W_region (by kernel_rfl) ?_)
          | (refine L_nil ?_)
          | (refine R_nil ?_)
          | (refine W_block ?_)
          | (refine W_skip ?_)
          | (refine W_exit ?_)
          | (refine W_ret ?_)
          | (guard_target =~ thenQ _ _ _ _ _; first | (refine T_next ?_) | (refine T_exit ?_) | (refine T_ret ?_))
          | (guard_target =~ blockQ _ _ _ _ _; first | (refine B_next ?_) | (refine B_same ?_) | (refine B_other (by kernel_rfl) ?_) | (refine B_ret ?_))
          | (refine W_true rfl rfl ?_)
          | (refine W_false rfl rfl ?_)
          | (guard_target =~ WO _ _ (Oper.mk _ (Op.move _) _ _ _ none) _ _ _ _; first | (refine O_move (v := .int _ (Nat.cast (OfNat.ofNat 0))) rfl ?_) | (refine O_move (v := (.int _ (Nat.cast _))) rfl ?_) | (refine O_move (v := (.bool _)) rfl ?_) | (refine O_move (v := (.pointer _)) rfl ?_) | (refine O_move (v := (.slice _ _ _)) rfl ?_) | (refine O_move (v := (.agg _)) rfl ?_) | (refine O_move (v := (.tuple _)) rfl ?_) | (refine O_move (v := (.int _ _)) rfl ?_))
          | (guard_target =~ WO _ _ (Oper.mk _ (Op.binOp BinOp.lss _ _ _ _) _ _ _ none) _ _ _ _; first | (refine O_lss_t (b := 5) rfl rfl (by omega) ?_) | (refine O_lss_f (b := 5) rfl rfl (by omega) ?_) | (refine O_lss (b := 5) rfl rfl ?_) | (refine O_lss_t (b := 64) rfl rfl (by omega) ?_) | (refine O_lss_f (b := 64) rfl rfl (by omega) ?_) | (refine O_lss (b := 64) rfl rfl ?_))
          | (guard_target =~ WO _ _ (Oper.mk _ (Op.assign _) _ _ _ none) _ _ _ _; first | (refine O_assign (v := (.int _ (Nat.cast _))) rfl ?_) | (refine O_assign (v := (.bool _)) rfl ?_) | (refine O_assign (v := (.pointer _)) rfl ?_) | (refine O_assign (v := (.slice _ _ _)) rfl ?_) | (refine O_assign (v := (.agg _)) rfl ?_) | (refine O_assign (v := (.tuple _)) rfl ?_) | (refine O_assign (v := (.int _ _)) rfl ?_))
          | (guard_target =~ WO _ _ (Oper.mk _ (Op.nilCheck _) _ _ _ none) _ _ _ _; first | (refine O_nil rfl ?_))
          | (guard_target =~ WO _ _ (Oper.mk _ (Op.indexAddr 200 _ _) _ _ _ none) _ _ _ _; first | (refine O_index ar200 rfl rfl (by omega) ?_))
          | (guard_target =~ WO _ _ (Oper.mk _ (Op.indexAddr 198 _ _) _ _ _ none) _ _ _ _; first | (refine O_index ar198 rfl rfl (by omega) ?_))
          | (guard_target =~ WO _ _ (Oper.mk _ (Op.indexAddr 197 _ _) _ _ _ none) _ _ _ _; first | (refine O_index ar197 rfl rfl (by omega) ?_))
          | (guard_target =~ WO _ _ (Oper.mk _ (Op.binOp BinOp.neq _ _ _ _) _ _ _ none) _ _ _ _; first | (refine O_bneq Samg.underlying4 rfl rfl ?_))
          | (guard_target =~ WO _ _ (Oper.mk _ (Op.binOp BinOp.add _ _ _ _) _ _ _ none) _ _ _ _; first | (refine O_add (b := 1) rfl rfl (by first | exact fit_i64 (by omega) | exact fit_u64 (by omega) | exact fit_u8 (by omega) | exact fit_i32 (by omega) | exact fit_u16 (by omega)) ?_) | (refine O_add (b := 4) rfl rfl (by first | exact fit_i64 (by omega) | exact fit_u64 (by omega) | exact fit_u8 (by omega) | exact fit_i32 (by omega) | exact fit_u16 (by omega)) ?_) | (refine O_add (b := 63) rfl rfl (by first | exact fit_i64 (by omega) | exact fit_u64 (by omega) | exact fit_u8 (by omega) | exact fit_i32 (by omega) | exact fit_u16 (by omega)) ?_))
          | (guard_target =~ WO _ _ (Oper.mk _ (Op.binOp BinOp.rem _ _ _ _) _ _ _ none) _ _ _ _; first | (refine O_rem (b := 5) rfl rfl (by omega) ?_) | (refine O_rem (b := 64) rfl rfl (by omega) ?_)))
        refine W_drawn [] [0, 1, 2, 3, 4, 5] mixed (by kernel_rfl) (by kernel_rfl) ?_
        repeat (first
          | (refine L_cons ?_)
          | (refine R_cons rfl ?_)
          | (refine W_seq ?_)
          | (refine W_region (by kernel_rfl) ?_)
          | (refine L_nil ?_)
          | (refine R_nil ?_)
          | (refine W_block ?_)
          | (refine W_skip ?_)
          | (refine W_exit ?_)
          | (refine W_ret ?_)
          | (guard_target =~ thenQ _ _ _ _ _; first | (refine T_next ?_) | (refine T_exit ?_) | (refine T_ret ?_))
          | (guard_target =~ blockQ _ _ _ _ _; first | (refine B_next ?_) | (refine B_same ?_) | (refine B_other (by kernel_rfl) ?_) | (refine B_ret ?_))
          | (refine W_true rfl rfl ?_)
          | (refine W_false rfl rfl ?_)
          | (guard_target =~ WO _ _ (Oper.mk _ (Op.load 4 _) _ _ _ none) _ _ _ _; first | (refine O_load_bs on4 rfl ha1.drew (by omega) ?_))
          | (guard_target =~ WO _ _ (Oper.mk _ (Op.move _) _ _ _ none) _ _ _ _; first | (refine O_move (v := .int _ (Nat.cast (OfNat.ofNat 0))) rfl ?_) | (refine O_move (v := (.int _ (Nat.cast _))) rfl ?_) | (refine O_move (v := (.bool _)) rfl ?_) | (refine O_move (v := (.pointer _)) rfl ?_) | (refine O_move (v := (.slice _ _ _)) rfl ?_) | (refine O_move (v := (.agg _)) rfl ?_) | (refine O_move (v := (.tuple _)) rfl ?_) | (refine O_move (v := (.int _ _)) rfl ?_))
          | (guard_target =~ WO _ _ (Oper.mk _ (Op.binOp BinOp.lss _ _ _ _) _ _ _ none) _ _ _ _; first | (refine O_lss_t (b := 5) rfl rfl (by omega) ?_) | (refine O_lss_f (b := 5) rfl rfl (by omega) ?_) | (refine O_lss (b := 5) rfl rfl ?_) | (refine O_lss_t (b := 64) rfl rfl (by omega) ?_) | (refine O_lss_f (b := 64) rfl rfl (by omega) ?_) | (refine O_lss (b := 64) rfl rfl ?_))
          | (guard_target =~ WO _ _ (Oper.mk _ (Op.assign _) _ _ _ none) _ _ _ _; first | (refine O_assign (v := (.int _ (Nat.cast _))) rfl ?_) | (refine O_assign (v := (.bool _)) rfl ?_) | (refine O_assign (v := (.pointer _)) rfl ?_) | (refine O_assign (v := (.slice _ _ _)) rfl ?_) | (refine O_assign (v := (.agg _)) rfl ?_) | (refine O_assign (v := (.tuple _)) rfl ?_) | (refine O_assign (v := (.int _ _)) rfl ?_))
          | (guard_target =~ WO _ _ (Oper.mk _ (Op.nilCheck _) _ _ _ none) _ _ _ _; first | (refine O_nil rfl ?_))
          | (guard_target =~ WO _ _ (Oper.mk _ (Op.indexAddr 200 _ _) _ _ _ none) _ _ _ _; first | (refine O_index ar200 rfl rfl (by omega) ?_))
          | (guard_target =~ WO _ _ (Oper.mk _ (Op.indexAddr 198 _ _) _ _ _ none) _ _ _ _; first | (refine O_index ar198 rfl rfl (by omega) ?_))
          | (guard_target =~ WO _ _ (Oper.mk _ (Op.indexAddr 197 _ _) _ _ _ none) _ _ _ _; first | (refine O_index ar197 rfl rfl (by omega) ?_))
          | (guard_target =~ WO _ _ (Oper.mk _ (Op.binOp BinOp.neq _ _ _ _) _ _ _ none) _ _ _ _; first | (refine O_bneq Samg.underlying4 rfl rfl ?_))
          | (guard_target =~ WO _ _ (Oper.mk _ (Op.binOp BinOp.add _ _ _ _) _ _ _ none) _ _ _ _; first | (refine O_add (b := 1) rfl rfl (by first | exact fit_i64 (by omega) | exact fit_u64 (by omega) | exact fit_u8 (by omega) | exact fit_i32 (by omega) | exact fit_u16 (by omega)) ?_) | (refine O_add (b := 4) rfl rfl (by first | exact fit_i64 (by omega) | exact fit_u64 (by omega) | exact fit_u8 (by omega) | exact fit_i32 (by omega) | exact fit_u16 (by omega)) ?_) | (refine O_add (b := 63) rfl rfl (by first | exact fit_i64 (by omega) | exact fit_u64 (by omega) | exact fit_u8 (by omega) | exact fit_i32 (by omega) | exact fit_u16 (by omega)) ?_))
          | (guard_target =~ WO _ _ (Oper.mk _ (Op.binOp BinOp.rem _ _ _ _) _ _ _ none) _ _ _ _; first | (refine O_rem (b := 5) rfl rfl (by omega) ?_) | (refine O_rem (b := 64) rfl rfl (by omega) ?_)))
        refine W_drawn [] [0, 1, 2, 3, 4, 5, 6, 7, 8, 9, 10, 11] mixed (by kernel_rfl) (by kernel_rfl) ?_
        repeat (first
          | (refine L_cons ?_)
          | (refine R_cons rfl ?_)
          | (refine W_seq ?_)
          | (refine W_region (by kernel_rfl) ?_)
          | (refine L_nil ?_)
          | (refine R_nil ?_)
          | (refine W_block ?_)
          | (refine W_skip ?_)
          | (refine W_exit ?_)
          | (refine W_ret ?_)
          | (guard_target =~ thenQ _ _ _ _ _; first | (refine T_next ?_) | (refine T_exit ?_) | (refine T_ret ?_))
          | (guard_target =~ blockQ _ _ _ _ _; first | (refine B_next ?_) | (refine B_same ?_) | (refine B_other (by kernel_rfl) ?_) | (refine B_ret ?_))
          | (refine W_true rfl rfl ?_)
          | (refine W_false rfl rfl ?_)
          | (guard_target =~ WO _ _ (Oper.mk _ (Op.load 4 _) _ _ _ none) _ _ _ _; first | (refine O_load_bs on4 rfl hc1.drew.drew (by omega) ?_))
          | (guard_target =~ WO _ _ (Oper.mk _ (Op.move _) _ _ _ none) _ _ _ _; first | (refine O_move (v := .int _ (Nat.cast (OfNat.ofNat 0))) rfl ?_) | (refine O_move (v := (.int _ (Nat.cast _))) rfl ?_) | (refine O_move (v := (.bool _)) rfl ?_) | (refine O_move (v := (.pointer _)) rfl ?_) | (refine O_move (v := (.slice _ _ _)) rfl ?_) | (refine O_move (v := (.agg _)) rfl ?_) | (refine O_move (v := (.tuple _)) rfl ?_) | (refine O_move (v := (.int _ _)) rfl ?_))
          | (guard_target =~ WO _ _ (Oper.mk _ (Op.binOp BinOp.lss _ _ _ _) _ _ _ none) _ _ _ _; first | (refine O_lss_t (b := 5) rfl rfl (by omega) ?_) | (refine O_lss_f (b := 5) rfl rfl (by omega) ?_) | (refine O_lss (b := 5) rfl rfl ?_) | (refine O_lss_t (b := 64) rfl rfl (by omega) ?_) | (refine O_lss_f (b := 64) rfl rfl (by omega) ?_) | (refine O_lss (b := 64) rfl rfl ?_))
          | (guard_target =~ WO _ _ (Oper.mk _ (Op.assign _) _ _ _ none) _ _ _ _; first | (refine O_assign (v := (.int _ (Nat.cast _))) rfl ?_) | (refine O_assign (v := (.bool _)) rfl ?_) | (refine O_assign (v := (.pointer _)) rfl ?_) | (refine O_assign (v := (.slice _ _ _)) rfl ?_) | (refine O_assign (v := (.agg _)) rfl ?_) | (refine O_assign (v := (.tuple _)) rfl ?_) | (refine O_assign (v := (.int _ _)) rfl ?_))
          | (guard_target =~ WO _ _ (Oper.mk _ (Op.nilCheck _) _ _ _ none) _ _ _ _; first | (refine O_nil rfl ?_))
          | (guard_target =~ WO _ _ (Oper.mk _ (Op.indexAddr 200 _ _) _ _ _ none) _ _ _ _; first | (refine O_index ar200 rfl rfl (by omega) ?_))
          | (guard_target =~ WO _ _ (Oper.mk _ (Op.indexAddr 198 _ _) _ _ _ none) _ _ _ _; first | (refine O_index ar198 rfl rfl (by omega) ?_))
          | (guard_target =~ WO _ _ (Oper.mk _ (Op.indexAddr 197 _ _) _ _ _ none) _ _ _ _; first | (refine O_index ar197 rfl rfl (by omega) ?_))
          | (guard_target =~ WO _ _ (Oper.mk _ (Op.binOp BinOp.neq _ _ _ _) _ _ _ none) _ _ _ _; first | (refine O_bneq Samg.underlying4 rfl rfl ?_))
          | (guard_target =~ WO _ _ (Oper.mk _ (Op.binOp BinOp.add _ _ _ _) _ _ _ none) _ _ _ _; first | (refine O_add (b := 1) rfl rfl (by first | exact fit_i64 (by omega) | exact fit_u64 (by omega) | exact fit_u8 (by omega) | exact fit_i32 (by omega) | exact fit_u16 (by omega)) ?_) | (refine O_add (b := 4) rfl rfl (by first | exact fit_i64 (by omega) | exact fit_u64 (by omega) | exact fit_u8 (by omega) | exact fit_i32 (by omega) | exact fit_u16 (by omega)) ?_) | (refine O_add (b := 63) rfl rfl (by first | exact fit_i64 (by omega) | exact fit_u64 (by omega) | exact fit_u8 (by omega) | exact fit_i32 (by omega) | exact fit_u16 (by omega)) ?_))
          | (guard_target =~ WO _ _ (Oper.mk _ (Op.binOp BinOp.rem _ _ _ _) _ _ _ none) _ _ _ _; first | (refine O_rem (b := 5) rfl rfl (by omega) ?_) | (refine O_rem (b := 64) rfl rfl (by omega) ?_)))
        refine O_store_bs on4 rfl rfl hc1.drew.drew (by omega) rfl fun w2 hU => ?_
        repeat (first
          | (refine L_cons ?_)
          | (refine R_cons rfl ?_)
          | (refine W_seq ?_)
          | (refine W_region (by kernel_rfl) ?_)
          | (refine L_nil ?_)
          | (refine R_nil ?_)
          | (refine W_block ?_)
          | (refine W_skip ?_)
          | (refine W_exit ?_)
          | (refine W_ret ?_)
          | (guard_target =~ thenQ _ _ _ _ _; first | (refine T_next ?_) | (refine T_exit ?_) | (refine T_ret ?_))
          | (guard_target =~ blockQ _ _ _ _ _; first | (refine B_next ?_) | (refine B_same ?_) | (refine B_other (by kernel_rfl) ?_) | (refine B_ret ?_))
          | (refine W_true rfl rfl ?_)
          | (refine W_false rfl rfl ?_)
          | (guard_target =~ WO _ _ (Oper.mk _ (Op.move _) _ _ _ none) _ _ _ _; first | (refine O_move (v := .int _ (Nat.cast (OfNat.ofNat 0))) rfl ?_) | (refine O_move (v := (.int _ (Nat.cast _))) rfl ?_) | (refine O_move (v := (.bool _)) rfl ?_) | (refine O_move (v := (.pointer _)) rfl ?_) | (refine O_move (v := (.slice _ _ _)) rfl ?_) | (refine O_move (v := (.agg _)) rfl ?_) | (refine O_move (v := (.tuple _)) rfl ?_) | (refine O_move (v := (.int _ _)) rfl ?_))
          | (guard_target =~ WO _ _ (Oper.mk _ (Op.binOp BinOp.lss _ _ _ _) _ _ _ none) _ _ _ _; first | (refine O_lss_t (b := 5) rfl rfl (by omega) ?_) | (refine O_lss_f (b := 5) rfl rfl (by omega) ?_) | (refine O_lss (b := 5) rfl rfl ?_) | (refine O_lss_t (b := 64) rfl rfl (by omega) ?_) | (refine O_lss_f (b := 64) rfl rfl (by omega) ?_) | (refine O_lss (b := 64) rfl rfl ?_))
          | (guard_target =~ WO _ _ (Oper.mk _ (Op.assign _) _ _ _ none) _ _ _ _; first | (refine O_assign (v := (.int _ (Nat.cast _))) rfl ?_) | (refine O_assign (v := (.bool _)) rfl ?_) | (refine O_assign (v := (.pointer _)) rfl ?_) | (refine O_assign (v := (.slice _ _ _)) rfl ?_) | (refine O_assign (v := (.agg _)) rfl ?_) | (refine O_assign (v := (.tuple _)) rfl ?_) | (refine O_assign (v := (.int _ _)) rfl ?_))
          | (guard_target =~ WO _ _ (Oper.mk _ (Op.nilCheck _) _ _ _ none) _ _ _ _; first | (refine O_nil rfl ?_))
          | (guard_target =~ WO _ _ (Oper.mk _ (Op.indexAddr 200 _ _) _ _ _ none) _ _ _ _; first | (refine O_index ar200 rfl rfl (by omega) ?_))
          | (guard_target =~ WO _ _ (Oper.mk _ (Op.indexAddr 198 _ _) _ _ _ none) _ _ _ _; first | (refine O_index ar198 rfl rfl (by omega) ?_))
          | (guard_target =~ WO _ _ (Oper.mk _ (Op.indexAddr 197 _ _) _ _ _ none) _ _ _ _; first | (refine O_index ar197 rfl rfl (by omega) ?_))
          | (guard_target =~ WO _ _ (Oper.mk _ (Op.binOp BinOp.neq _ _ _ _) _ _ _ none) _ _ _ _; first | (refine O_bneq Samg.underlying4 rfl rfl ?_))
          | (guard_target =~ WO _ _ (Oper.mk _ (Op.binOp BinOp.add _ _ _ _) _ _ _ none) _ _ _ _; first | (refine O_add (b := 1) rfl rfl (by first | exact fit_i64 (by omega) | exact fit_u64 (by omega) | exact fit_u8 (by omega) | exact fit_i32 (by omega) | exact fit_u16 (by omega)) ?_) | (refine O_add (b := 4) rfl rfl (by first | exact fit_i64 (by omega) | exact fit_u64 (by omega) | exact fit_u8 (by omega) | exact fit_i32 (by omega) | exact fit_u16 (by omega)) ?_) | (refine O_add (b := 63) rfl rfl (by first | exact fit_i64 (by omega) | exact fit_u64 (by omega) | exact fit_u8 (by omega) | exact fit_i32 (by omega) | exact fit_u16 (by omega)) ?_))
          | (guard_target =~ WO _ _ (Oper.mk _ (Op.binOp BinOp.rem _ _ _ _) _ _ _ none) _ _ _ _; first | (refine O_rem (b := 5) rfl rfl (by omega) ?_) | (refine O_rem (b := 64) rfl rfl (by omega) ?_)))
        have hU := hU.undrew.undrew
        rw [cK_succ hlt hlty hltz] at hU
        exact ⟨64 - (z + 1), by omega, z + 1, rfl, by omega, Has.mk ⟨rfl, rfl, rfl, rfl, rfl, rfl, rfl, trivial⟩, hM1.trans' hU.mod (by simp), ha1.upd hU hne, hU.here⟩
      · obtain rfl : z = 64 := by omega
        repeat (first
          | (refine L_cons ?_)
          | (refine R_cons rfl ?_)
          | (refine W_seq ?_)
          | (refine W_region (by kernel_rfl) ?_)
          | (refine L_nil ?_)
          | (refine R_nil ?_)
          | (refine W_block ?_)
          | (refine W_skip ?_)
          | (refine W_exit ?_)
          | (refine W_ret ?_)
          | (guard_target =~ thenQ _ _ _ _ _; first | (refine T_next ?_) | (refine T_exit ?_) | (refine T_ret ?_))
          | (guard_target =~ blockQ _ _ _ _ _; first | (refine B_next ?_) | (refine B_same ?_) | (refine B_other (by kernel_rfl) ?_) | (refine B_ret ?_))
          | (refine W_true rfl rfl ?_)
          | (refine W_false rfl rfl ?_)
          | (guard_target =~ WO _ _ (Oper.mk _ (Op.move _) _ _ _ none) _ _ _ _; first | (refine O_move (v := .int _ (Nat.cast (OfNat.ofNat 0))) rfl ?_) | (refine O_move (v := (.int _ (Nat.cast _))) rfl ?_) | (refine O_move (v := (.bool _)) rfl ?_) | (refine O_move (v := (.pointer _)) rfl ?_) | (refine O_move (v := (.slice _ _ _)) rfl ?_) | (refine O_move (v := (.agg _)) rfl ?_) | (refine O_move (v := (.tuple _)) rfl ?_) | (refine O_move (v := (.int _ _)) rfl ?_))
          | (guard_target =~ WO _ _ (Oper.mk _ (Op.binOp BinOp.lss _ _ _ _) _ _ _ none) _ _ _ _; first | (refine O_lss_t (b := 5) rfl rfl (by omega) ?_) | (refine O_lss_f (b := 5) rfl rfl (by omega) ?_) | (refine O_lss (b := 5) rfl rfl ?_) | (refine O_lss_t (b := 64) rfl rfl (by omega) ?_) | (refine O_lss_f (b := 64) rfl rfl (by omega) ?_) | (refine O_lss (b := 64) rfl rfl ?_))
          | (guard_target =~ WO _ _ (Oper.mk _ (Op.assign _) _ _ _ none) _ _ _ _; first | (refine O_assign (v := (.int _ (Nat.cast _))) rfl ?_) | (refine O_assign (v := (.bool _)) rfl ?_) | (refine O_assign (v := (.pointer _)) rfl ?_) | (refine O_assign (v := (.slice _ _ _)) rfl ?_) | (refine O_assign (v := (.agg _)) rfl ?_) | (refine O_assign (v := (.tuple _)) rfl ?_) | (refine O_assign (v := (.int _ _)) rfl ?_))
          | (guard_target =~ WO _ _ (Oper.mk _ (Op.nilCheck _) _ _ _ none) _ _ _ _; first | (refine O_nil rfl ?_))
          | (guard_target =~ WO _ _ (Oper.mk _ (Op.indexAddr 200 _ _) _ _ _ none) _ _ _ _; first | (refine O_index ar200 rfl rfl (by omega) ?_))
          | (guard_target =~ WO _ _ (Oper.mk _ (Op.indexAddr 198 _ _) _ _ _ none) _ _ _ _; first | (refine O_index ar198 rfl rfl (by omega) ?_))
          | (guard_target =~ WO _ _ (Oper.mk _ (Op.indexAddr 197 _ _) _ _ _ none) _ _ _ _; first | (refine O_index ar197 rfl rfl (by omega) ?_))
          | (guard_target =~ WO _ _ (Oper.mk _ (Op.binOp BinOp.neq _ _ _ _) _ _ _ none) _ _ _ _; first | (refine O_bneq Samg.underlying4 rfl rfl ?_))
          | (guard_target =~ WO _ _ (Oper.mk _ (Op.binOp BinOp.add _ _ _ _) _ _ _ none) _ _ _ _; first | (refine O_add (b := 1) rfl rfl (by first | exact fit_i64 (by omega) | exact fit_u64 (by omega) | exact fit_u8 (by omega) | exact fit_i32 (by omega) | exact fit_u16 (by omega)) ?_) | (refine O_add (b := 4) rfl rfl (by first | exact fit_i64 (by omega) | exact fit_u64 (by omega) | exact fit_u8 (by omega) | exact fit_i32 (by omega) | exact fit_u16 (by omega)) ?_) | (refine O_add (b := 63) rfl rfl (by first | exact fit_i64 (by omega) | exact fit_u64 (by omega) | exact fit_u8 (by omega) | exact fit_i32 (by omega) | exact fit_u16 (by omega)) ?_))
          | (guard_target =~ WO _ _ (Oper.mk _ (Op.binOp BinOp.rem _ _ _ _) _ _ _ none) _ _ _ _; first | (refine O_rem (b := 5) rfl rfl (by omega) ?_) | (refine O_rem (b := 64) rfl rfl (by omega) ?_)))
        exact ⟨5 - (y + 1), by omega, y + 1, rfl, by omega, Has.mk ⟨rfl, rfl, rfl, rfl, rfl, trivial⟩, hM1, ha1, by rw [show x * 320 + (y + 1) * 64 = x * 320 + y * 64 + 64 by omega]; exact hc1⟩
    · obtain rfl : y = 5 := by omega
      repeat (first
        | (refine L_cons ?_)
        | (refine R_cons rfl ?_)
        | (refine W_seq ?_)
        | (refine W_region (by kernel_rfl) ?_)
        | (refine L_nil ?_)
        | (refine R_nil ?_)
        | (refine W_block ?_)
        | (refine W_skip ?_)
        | (refine W_exit ?_)
        | (refine W_ret ?_)
        | (guard_target =~ thenQ _ _ _ _ _; first | (refine T_next ?_) | (refine T_exit ?_) | (refine T_ret ?_))
        | (guard_target =~ blockQ _ _ _ _ _; first | (refine B_next ?_) | (refine B_same ?_) | (refine B_other (by kernel_rfl) ?_) | (refine B_ret ?_))
        | (refine W_true rfl rfl ?_)
        | (refine W_false rfl rfl ?_)
        | (guard_target =~ WO _ _ (Oper.mk _ (Op.move _) _ _ _ none) _ _ _ _; first | (refine O_move (v := .int _ (Nat.cast (OfNat.ofNat 0))) rfl ?_) | (refine O_move (v := (.int _ (Nat.cast _))) rfl ?_) | (refine O_move (v := (.bool _)) rfl ?_) | (refine O_move (v := (.pointer _)) rfl ?_) | (refine O_move (v := (.slice _ _ _)) rfl ?_) | (refine O_move (v := (.agg _)) rfl ?_) | (refine O_move (v := (.tuple _)) rfl ?_) | (refine O_move (v := (.int _ _)) rfl ?_))
        | (guard_target =~ WO _ _ (Oper.mk _ (Op.binOp BinOp.lss _ _ _ _) _ _ _ none) _ _ _ _; first | (refine O_lss_t (b := 5) rfl rfl (by omega) ?_) | (refine O_lss_f (b := 5) rfl rfl (by omega) ?_) | (refine O_lss (b := 5) rfl rfl ?_) | (refine O_lss_t (b := 64) rfl rfl (by omega) ?_) | (refine O_lss_f (b := 64) rfl rfl (by omega) ?_) | (refine O_lss (b := 64) rfl rfl ?_))
        | (guard_target =~ WO _ _ (Oper.mk _ (Op.assign _) _ _ _ none) _ _ _ _; first | (refine O_assign (v := (.int _ (Nat.cast _))) rfl ?_) | (refine O_assign (v := (.bool _)) rfl ?_) | (refine O_assign (v := (.pointer _)) rfl ?_) | (refine O_assign (v := (.slice _ _ _)) rfl ?_) | (refine O_assign (v := (.agg _)) rfl ?_) | (refine O_assign (v := (.tuple _)) rfl ?_) | (refine O_assign (v := (.int _ _)) rfl ?_))
        | (guard_target =~ WO _ _ (Oper.mk _ (Op.nilCheck _) _ _ _ none) _ _ _ _; first | (refine O_nil rfl ?_))
        | (guard_target =~ WO _ _ (Oper.mk _ (Op.indexAddr 200 _ _) _ _ _ none) _ _ _ _; first | (refine O_index ar200 rfl rfl (by omega) ?_))
        | (guard_target =~ WO _ _ (Oper.mk _ (Op.indexAddr 198 _ _) _ _ _ none) _ _ _ _; first | (refine O_index ar198 rfl rfl (by omega) ?_))
        | (guard_target =~ WO _ _ (Oper.mk _ (Op.indexAddr 197 _ _) _ _ _ none) _ _ _ _; first | (refine O_index ar197 rfl rfl (by omega) ?_))
        | (guard_target =~ WO _ _ (Oper.mk _ (Op.binOp BinOp.neq _ _ _ _) _ _ _ none) _ _ _ _; first | (refine O_bneq Samg.underlying4 rfl rfl ?_))
        | (guard_target =~ WO _ _ (Oper.mk _ (Op.binOp BinOp.add _ _ _ _) _ _ _ none) _ _ _ _; first | (refine O_add (b := 1) rfl rfl (by first | exact fit_i64 (by omega) | exact fit_u64 (by omega) | exact fit_u8 (by omega) | exact fit_i32 (by omega) | exact fit_u16 (by omega)) ?_) | (refine O_add (b := 4) rfl rfl (by first | exact fit_i64 (by omega) | exact fit_u64 (by omega) | exact fit_u8 (by omega) | exact fit_i32 (by omega) | exact fit_u16 (by omega)) ?_) | (refine O_add (b := 63) rfl rfl (by first | exact fit_i64 (by omega) | exact fit_u64 (by omega) | exact fit_u8 (by omega) | exact fit_i32 (by omega) | exact fit_u16 (by omega)) ?_))
        | (guard_target =~ WO _ _ (Oper.mk _ (Op.binOp BinOp.rem _ _ _ _) _ _ _ none) _ _ _ _; first | (refine O_rem (b := 5) rfl rfl (by omega) ?_) | (refine O_rem (b := 64) rfl rfl (by omega) ?_)))
      exact ⟨5 - (x + 1), by omega, x + 1, rfl, by omega, Has.mk ⟨rfl, rfl, rfl, trivial⟩, hM1, ha1, by rw [show (x + 1) * 320 = x * 320 + 5 * 64 by omega]; exact hc1⟩
  · obtain rfl : x = 5 := by omega
    repeat (first
      | (refine L_cons ?_)
      | (refine R_cons rfl ?_)
      | (refine W_seq ?_)
      | (refine W_region (by kernel_rfl) ?_)
      | (refine L_nil ?_)
      | (refine R_nil ?_)
      | (refine W_block ?_)
      | (refine W_skip ?_)
      | (refine W_exit ?_)
      | (refine W_ret ?_)
      | (guard_target =~ thenQ _ _ _ _ _; first | (refine T_next ?_) | (refine T_exit ?_) | (refine T_ret ?_))
      | (guard_target =~ blockQ _ _ _ _ _; first | (refine B_next ?_) | (refine B_same ?_) | (refine B_other (by kernel_rfl) ?_) | (refine B_ret ?_))
      | (refine W_true rfl rfl ?_)
      | (refine W_false rfl rfl ?_)
      | (guard_target =~ WO _ _ (Oper.mk _ (Op.move _) _ _ _ none) _ _ _ _; first | (refine O_move (v := .int _ (Nat.cast (OfNat.ofNat 0))) rfl ?_) | (refine O_move (v := (.int _ (Nat.cast _))) rfl ?_) | (refine O_move (v := (.bool _)) rfl ?_) | (refine O_move (v := (.pointer _)) rfl ?_) | (refine O_move (v := (.slice _ _ _)) rfl ?_) | (refine O_move (v := (.agg _)) rfl ?_) | (refine O_move (v := (.tuple _)) rfl ?_) | (refine O_move (v := (.int _ _)) rfl ?_))
      | (guard_target =~ WO _ _ (Oper.mk _ (Op.binOp BinOp.lss _ _ _ _) _ _ _ none) _ _ _ _; first | (refine O_lss_t (b := 5) rfl rfl (by omega) ?_) | (refine O_lss_f (b := 5) rfl rfl (by omega) ?_) | (refine O_lss (b := 5) rfl rfl ?_) | (refine O_lss_t (b := 64) rfl rfl (by omega) ?_) | (refine O_lss_f (b := 64) rfl rfl (by omega) ?_) | (refine O_lss (b := 64) rfl rfl ?_))
      | (guard_target =~ WO _ _ (Oper.mk _ (Op.assign _) _ _ _ none) _ _ _ _; first | (refine O_assign (v := (.int _ (Nat.cast _))) rfl ?_) | (refine O_assign (v := (.bool _)) rfl ?_) | (refine O_assign (v := (.pointer _)) rfl ?_) | (refine O_assign (v := (.slice _ _ _)) rfl ?_) | (refine O_assign (v := (.agg _)) rfl ?_) | (refine O_assign (v := (.tuple _)) rfl ?_) | (refine O_assign (v := (.int _ _)) rfl ?_))
      | (guard_target =~ WO _ _ (Oper.mk _ (Op.nilCheck _) _ _ _ none) _ _ _ _; first | (refine O_nil rfl ?_))
      | (guard_target =~ WO _ _ (Oper.mk _ (Op.indexAddr 200 _ _) _ _ _ none) _ _ _ _; first | (refine O_index ar200 rfl rfl (by omega) ?_))
      | (guard_target =~ WO _ _ (Oper.mk _ (Op.indexAddr 198 _ _) _ _ _ none) _ _ _ _; first | (refine O_index ar198 rfl rfl (by omega) ?_))
      | (guard_target =~ WO _ _ (Oper.mk _ (Op.indexAddr 197 _ _) _ _ _ none) _ _ _ _; first | (refine O_index ar197 rfl rfl (by omega) ?_))
      | (guard_target =~ WO _ _ (Oper.mk _ (Op.binOp BinOp.neq _ _ _ _) _ _ _ none) _ _ _ _; first | (refine O_bneq Samg.underlying4 rfl rfl ?_))
      | (guard_target =~ WO _ _ (Oper.mk _ (Op.binOp BinOp.add _ _ _ _) _ _ _ none) _ _ _ _; first | (refine O_add (b := 1) rfl rfl (by first | exact fit_i64 (by omega) | exact fit_u64 (by omega) | exact fit_u8 (by omega) | exact fit_i32 (by omega) | exact fit_u16 (by omega)) ?_) | (refine O_add (b := 4) rfl rfl (by first | exact fit_i64 (by omega) | exact fit_u64 (by omega) | exact fit_u8 (by omega) | exact fit_i32 (by omega) | exact fit_u16 (by omega)) ?_) | (refine O_add (b := 63) rfl rfl (by first | exact fit_i64 (by omega) | exact fit_u64 (by omega) | exact fit_u8 (by omega) | exact fit_i32 (by omega) | exact fit_u16 (by omega)) ?_))
      | (guard_target =~ WO _ _ (Oper.mk _ (Op.binOp BinOp.rem _ _ _ _) _ _ _ none) _ _ _ _; first | (refine O_rem (b := 5) rfl rfl (by omega) ?_) | (refine O_rem (b := 64) rfl rfl (by omega) ?_)))
    rw [show 5 * 320 = 1600 from rfl] at hc1
    refine W_loop (fun k ρ w' => ∃ x, k = 5 - x ∧ x ≤ 5 ∧ Has ρ [(0, .pointer (some ⟨ba, 0, none⟩)), (2, .pointer (some ⟨bc, 0, none⟩)), (48, .int .i64 (x : Nat))] ∧
      Mod [ba, bc] w w' ∧ Blk w' ba (bs 1600 (tK a (x * 320))) tb ∧ Blk w' bc (bs 320 (cK a 1600)) 198) 5 ?_ ?_
    · exact ⟨0, by omega, by omega, Has.mk ⟨rfl, rfl, rfl, trivial⟩, hM1, (by rw [Nat.zero_mul, tK_zero]; exact ha1), hc1⟩
    clear hM1 ha1 hc1 w1
    rintro k _ w1 ⟨x, rfl, hx, ⟨σ, rfl⟩, hM1, ha1, hc1⟩
    by_cases hlt : x < 5
    · repeat (first
        | (refine L_cons ?_)
        | (refine R_cons rfl ?_)
        | (refine W_seq ?_)
        | (refine W_region (by kernel_rfl) ?_)
        | (refine L_nil ?_)
        | (refine R_nil ?_)
        | (refine W_block ?_)
        | (refine W_skip ?_)
        | (refine W_exit ?_)
        | (refine W_ret ?_)
        | (guard_target =~ thenQ _ _ _ _ _; first | (refine T_next ?_) | (refine T_exit ?_) | (refine T_ret ?_))
        | (guard_target =~ blockQ _ _ _ _ _; first | (refine B_next ?_) | (refine B_same ?_) | (refine B_other (by kernel_rfl) ?_) | (refine B_ret ?_))
        | (refine W_true rfl rfl ?_)
        | (refine W_false rfl rfl ?_)
        | (guard_target =~ WO _ _ (Oper.mk _ (Op.move _) _ _ _ none) _ _ _ _; first | (refine O_move (v := .int _ (Nat.cast (OfNat.ofNat 0))) rfl ?_) | (refine O_move (v := (.int _ (Nat.cast _))) rfl ?_) | (refine O_move (v := (.bool _)) rfl ?_) | (refine O_move (v := (.pointer _)) rfl ?_) | (refine O_move (v := (.slice _ _ _)) rfl ?_) | (refine O_move (v := (.agg _)) rfl ?_) | (refine O_move (v := (.tuple _)) rfl ?_) | (refine O_move (v := (.int _ _)) rfl ?_))
        | (guard_target =~ WO _ _ (Oper.mk _ (Op.binOp BinOp.lss _ _ _ _) _ _ _ none) _ _ _ _; first | (refine O_lss_t (b := 5) rfl rfl (by omega) ?_) | (refine O_lss_f (b := 5) rfl rfl (by omega) ?_) | (refine O_lss (b := 5) rfl rfl ?_) | (refine O_lss_t (b := 64) rfl rfl (by omega) ?_) | (refine O_lss_f (b := 64) rfl rfl (by omega) ?_) | (refine O_lss (b := 64) rfl rfl ?_))
        | (guard_target =~ WO _ _ (Oper.mk _ (Op.assign _) _ _ _ none) _ _ _ _; first | (refine O_assign (v := (.int _ (Nat.cast _))) rfl ?_) | (refine O_assign (v := (.bool _)) rfl ?_) | (refine O_assign (v := (.pointer _)) rfl ?_) | (refine O_assign (v := (.slice _ _ _)) rfl ?_) | (refine O_assign (v := (.agg _)) rfl ?_) | (refine O_assign (v := (.tuple _)) rfl ?_) | (refine O_assign (v := (.int _ _)) rfl ?_))
        | (guard_target =~ WO _ _ (Oper.mk _ (Op.nilCheck _) _ _ _ none) _ _ _ _; first | (refine O_nil rfl ?_))
        | (guard_target =~ WO _ _ (Oper.mk _ (Op.indexAddr 200 _ _) _ _ _ none) _ _ _ _; first | (refine O_index ar200 rfl rfl (by omega) ?_))
        | (guard_target =~ WO _ _ (Oper.mk _ (Op.indexAddr 198 _ _) _ _ _ none) _ _ _ _; first | (refine O_index ar198 rfl rfl (by omega) ?_))
        | (guard_target =~ WO _ _ (Oper.mk _ (Op.indexAddr 197 _ _) _ _ _ none) _ _ _ _; first | (refine O_index ar197 rfl rfl (by omega) ?_))
        | (guard_target =~ WO _ _ (Oper.mk _ (Op.binOp BinOp.neq _ _ _ _) _ _ _ none) _ _ _ _; first | (refine O_bneq Samg.underlying4 rfl rfl ?_))
        | (guard_target =~ WO _ _ (Oper.mk _ (Op.binOp BinOp.add _ _ _ _) _ _ _ none) _ _ _ _; first | (refine O_add (b := 1) rfl rfl (by first | exact fit_i64 (by omega) | exact fit_u64 (by omega) | exact fit_u8 (by omega) | exact fit_i32 (by omega) | exact fit_u16 (by omega)) ?_) | (refine O_add (b := 4) rfl rfl (by first | exact fit_i64 (by omega) | exact fit_u64 (by omega) | exact fit_u8 (by omega) | exact fit_i32 (by omega) | exact fit_u16 (by omega)) ?_) | (refine O_add (b := 63) rfl rfl (by first | exact fit_i64 (by omega) | exact fit_u64 (by omega) | exact fit_u8 (by omega) | exact fit_i32 (by omega) | exact fit_u16 (by omega)) ?_))
        | (guard_target =~ WO _ _ (Oper.mk _ (Op.binOp BinOp.rem _ _ _ _) _ _ _ none) _ _ _ _; first | (refine O_rem (b := 5) rfl rfl (by omega) ?_) | (refine O_rem (b := 64) rfl rfl (by omega) ?_)))
      refine O_alloc_agg z197 fun w2 hE2 hs2 hd2 => ?_
      have hda : ba ≠ w1.heap.size := Nat.ne_of_lt ha1.lt
      have hdc : bc ≠ w1.heap.size := Nat.ne_of_lt hc1.lt
      have hds : w.heap.size ≤ w1.heap.size := hM1.size
      have hM2 := hM1.trans (hE2.mod _)
      have ha2 := ha1.ext hE2
      have hc2 := hc1.ext hE2
      clear hM1 ha1 hc1 hE2 hs2
      generalize w1.heap.size = bd at hda hdc hds hd2 ⊢
      clear w1
      repeat (first
        | (refine L_cons ?_)
        | (refine R_cons rfl ?_)
        | (refine W_seq ?_)
        | (refine W_region (by kernel_rfl) ?_)
        | (refine L_nil ?_)
        | (refine R_nil ?_)
        | (refine W_block ?_)
        | (refine W_skip ?_)
        | (refine W_exit ?_)
        | (refine W_ret ?_)
        | (guard_target =~ thenQ _ _ _ _ _; first | (refine T_next ?_) | (refine T_exit ?_) | (refine T_ret ?_))
        | (guard_target =~ blockQ _ _ _ _ _; first | (refine B_next ?_) | (refine B_same ?_) | (refine B_other (by kernel_rfl) ?_) | (refine B_ret ?_))
        | (refine W_true rfl rfl ?_)
        | (refine W_false rfl rfl ?_)
        | (guard_target =~ WO _ _ (Oper.mk _ (Op.move _) _ _ _ none) _ _ _ _; first | (refine O_move (v := .int _ (Nat.cast (OfNat.ofNat 0))) rfl ?_) | (refine O_move (v := (.int _ (Nat.cast _))) rfl ?_) | (refine O_move (v := (.bool _)) rfl ?_) | (refine O_move (v := (.pointer _)) rfl ?_) | (refine O_move (v := (.slice _ _ _)) rfl ?_) | (refine O_move (v := (.agg _)) rfl ?_) | (refine O_move (v := (.tuple _)) rfl ?_) | (refine O_move (v := (.int _ _)) rfl ?_))
        | (guard_target =~ WO _ _ (Oper.mk _ (Op.binOp BinOp.lss _ _ _ _) _ _ _ none) _ _ _ _; first | (refine O_lss_t (b := 5) rfl rfl (by omega) ?_) | (refine O_lss_f (b := 5) rfl rfl (by omega) ?_) | (refine O_lss (b := 5) rfl rfl ?_) | (refine O_lss_t (b := 64) rfl rfl (by omega) ?_) | (refine O_lss_f (b := 64) rfl rfl (by omega) ?_) | (refine O_lss (b := 64) rfl rfl ?_))
        | (guard_target =~ WO _ _ (Oper.mk _ (Op.assign _) _ _ _ none) _ _ _ _; first | (refine O_assign (v := (.int _ (Nat.cast _))) rfl ?_) | (refine O_assign (v := (.bool _)) rfl ?_) | (refine O_assign (v := (.pointer _)) rfl ?_) | (refine O_assign (v := (.slice _ _ _)) rfl ?_) | (refine O_assign (v := (.agg _)) rfl ?_) | (refine O_assign (v := (.tuple _)) rfl ?_) | (refine O_assign (v := (.int _ _)) rfl ?_))
        | (guard_target =~ WO _ _ (Oper.mk _ (Op.nilCheck _) _ _ _ none) _ _ _ _; first | (refine O_nil rfl ?_))
        | (guard_target =~ WO _ _ (Oper.mk _ (Op.indexAddr 200 _ _) _ _ _ none) _ _ _ _; first | (refine O_index ar200 rfl rfl (by omega) ?_))
        | (guard_target =~ WO _ _ (Oper.mk _ (Op.indexAddr 198 _ _) _ _ _ none) _ _ _ _; first | (refine O_index ar198 rfl rfl (by omega) ?_))
        | (guard_target =~ WO _ _ (Oper.mk _ (Op.indexAddr 197 _ _) _ _ _ none) _ _ _ _; first | (refine O_index ar197 rfl rfl (by omega) ?_))
        | (guard_target =~ WO _ _ (Oper.mk _ (Op.binOp BinOp.neq _ _ _ _) _ _ _ none) _ _ _ _; first | (refine O_bneq Samg.underlying4 rfl rfl ?_))
        | (guard_target =~ WO _ _ (Oper.mk _ (Op.binOp BinOp.add _ _ _ _) _ _ _ none) _ _ _ _; first | (refine O_add (b := 1) rfl rfl (by first | exact fit_i64 (by omega) | exact fit_u64 (by omega) | exact fit_u8 (by omega) | exact fit_i32 (by omega) | exact fit_u16 (by omega)) ?_) | (refine O_add (b := 4) rfl rfl (by first | exact fit_i64 (by omega) | exact fit_u64 (by omega) | exact fit_u8 (by omega) | exact fit_i32 (by omega) | exact fit_u16 (by omega)) ?_) | (refine O_add (b := 63) rfl rfl (by first | exact fit_i64 (by omega) | exact fit_u64 (by omega) | exact fit_u8 (by omega) | exact fit_i32 (by omega) | exact fit_u16 (by omega)) ?_))
        | (guard_target =~ WO _ _ (Oper.mk _ (Op.binOp BinOp.rem _ _ _ _) _ _ _ none) _ _ _ _; first | (refine O_rem (b := 5) rfl rfl (by omega) ?_) | (refine O_rem (b := 64) rfl rfl (by omega) ?_)))
      refine W_loop (fun k ρ w' => ∃ z, k = 64 - z ∧ z ≤ 64 ∧ Has ρ [(0, .pointer (some ⟨ba, 0, none⟩)), (2, .pointer (some ⟨bc, 0, none⟩)), (7, .int .i64 (x : Nat)), (8, .pointer (some ⟨bc, 0 + (x + 4) % 5 * 64, none⟩)), (9, .pointer (some ⟨bc, 0 + (x + 1) % 5 * 64, none⟩)),
          (10, .pointer (some ⟨bd, 0, none⟩)), (48, .int .i64 (x : Nat)), (59, .int .i64 (z : Nat))] ∧
        Mod [ba, bc] w w' ∧ Blk w' ba (bs 1600 (tK a (x * 320))) tb ∧ Blk w' bc (bs 320 (cK a 1600)) 198 ∧ Blk w' bd (bs 64 (eK a x z)) 197) 64 ?_ ?_
      · refine ⟨0, by omega, by omega, Has.mk ⟨rfl, rfl, rfl, rfl, rfl, rfl, rfl, rfl, trivial⟩, hM2, ha2, hc2, ?_⟩
        rw [bs_congr (g := fun _ => false) (fun i _ => by simp [eK])]; exact hd2
      clear hM2 ha2 hc2 hd2 w2
      rintro k _ w2 ⟨z, rfl, hz, ⟨σ, rfl⟩, hM2, ha2, hc2, hd2⟩
      by_cases hltz : z < 64
      · repeat (first
          | (refine L_cons ?_)
          | (refine R_cons rfl ?_)
          | (refine W_seq ?_)
          | (refine W_region (by kernel_rfl) ?_)
          | (refine L_nil ?_)
          | (refine R_nil ?_)
          | (refine W_block ?_)
          | (refine W_skip ?_)
          | (refine W_exit ?_)
          | (refine W_ret ?_)
          | (guard_target =~ thenQ _ _ _ _ _; first | (refine T_next ?_) | (refine T_exit ?_) | (refine T_ret ?_))
          | (guard_target =~ blockQ _ _ _ _ _; first | (refine B_next ?_) | (refine B_same ?_) | (refine B_other (by kernel_rfl) ?_) | (refine B_ret ?_))
          | (refine W_true rfl rfl ?_)
          | (refine W_false rfl rfl ?_)
          | (guard_target =~ WO _ _ (Oper.mk _ (Op.move _) _ _ _ none) _ _ _ _; first | (refine O_move (v := .int _ (Nat.cast (OfNat.ofNat 0))) rfl ?_) | (refine O_move (v := (.int _ (Nat.cast _))) rfl ?_) | (refine O_move (v := (.bool _)) rfl ?_) | (refine O_move (v := (.pointer _)) rfl ?_) | (refine O_move (v := (.slice _ _ _)) rfl ?_) | (refine O_move (v := (.agg _)) rfl ?_) | (refine O_move (v := (.tuple _)) rfl ?_) | (refine O_move (v := (.int _ _)) rfl ?_))
          | (guard_target =~ WO _ _ (Oper.mk _ (Op.binOp BinOp.lss _ _ _ _) _ _ _ none) _ _ _ _; first | (refine O_lss_t (b := 5) rfl rfl (by omega) ?_) | (refine O_lss_f (b := 5) rfl rfl (by omega) ?_) | (refine O_lss (b := 5) rfl rfl ?_) | (refine O_lss_t (b := 64) rfl rfl (by omega) ?_) | (refine O_lss_f (b := 64) rfl rfl (by omega) ?_) | (refine O_lss (b := 64) rfl rfl ?_))
          | (guard_target =~ WO _ _ (Oper.mk _ (Op.assign _) _ _ _ none) _ _ _ _; first | (refine O_assign (v := (.int _ (Nat.cast _))) rfl ?_) | (refine O_assign (v := (.bool _)) rfl ?_) | (refine O_assign (v := (.pointer _)) rfl ?_) | (refine O_assign (v := (.slice _ _ _)) rfl ?_) | (refine O_assign (v := (.agg _)) rfl ?_) | (refine O_assign (v := (.tuple _)) rfl ?_) | (refine O_assign (v := (.int _ _)) rfl ?_))
          | (guard_target =~ WO _ _ (Oper.mk _ (Op.nilCheck _) _ _ _ none) _ _ _ _; first | (refine O_nil rfl ?_))
          | (guard_target =~ WO _ _ (Oper.mk _ (Op.indexAddr 200 _ _) _ _ _ none) _ _ _ _; first | (refine O_index ar200 rfl rfl (by omega) ?_))
          | (guard_target =~ WO _ _ (Oper.mk _ (Op.indexAddr 198 _ _) _ _ _ none) _ _ _ _; first | (refine O_index ar198 rfl rfl (by omega) ?_))
          | (guard_target =~ WO _ _ (Oper.mk _ (Op.indexAddr 197 _ _) _ _ _ none) _ _ _ _; first | (refine O_index ar197 rfl rfl (by omega) ?_))
          | (guard_target =~ WO _ _ (Oper.mk _ (Op.binOp BinOp.neq _ _ _ _) _ _ _ none) _ _ _ _; first | (refine O_bneq Samg.underlying4 rfl rfl ?_))
          | (guard_target =~ WO _ _ (Oper.mk _ (Op.binOp BinOp.add _ _ _ _) _ _ _ none) _ _ _ _; first | (refine O_add (b := 1) rfl rfl (by first | exact fit_i64 (by omega) | exact fit_u64 (by omega) | exact fit_u8 (by omega) | exact fit_i32 (by omega) | exact fit_u16 (by omega)) ?_) | (refine O_add (b := 4) rfl rfl (by first | exact fit_i64 (by omega) | exact fit_u64 (by omega) | exact fit_u8 (by omega) | exact fit_i32 (by omega) | exact fit_u16 (by omega)) ?_) | (refine O_add (b := 63) rfl rfl (by first | exact fit_i64 (by omega) | exact fit_u64 (by omega) | exact fit_u8 (by omega) | exact fit_i32 (by omega) | exact fit_u16 (by omega)) ?_))
          | (guard_target =~ WO _ _ (Oper.mk _ (Op.binOp BinOp.rem _ _ _ _) _ _ _ none) _ _ _ _; first | (refine O_rem (b := 5) rfl rfl (by omega) ?_) | (refine O_rem (b := 64) rfl rfl (by omega) ?_)))
        refine W_drawn [] [0, 1, 2, 3, 4, 5, 6, 7, 8, 9, 10, 11, 12, 13, 14, 15] mixed (by kernel_rfl) (by kernel_rfl) ?_
        repeat (first
          | (refine L_cons ?_)
          | (refine R_cons rfl ?_)
          | (refine W_seq ?_)
          | (refine W_region (by kernel_rfl) ?_)
          | (refine L_nil ?_)
          | (refine R_nil ?_)
          | (refine W_block ?_)
          | (refine W_skip ?_)
          | (refine W_exit ?_)
          | (refine W_ret ?_)
          | (guard_target =~ thenQ _ _ _ _ _; first | (refine T_next ?_) | (refine T_exit ?_) | (refine T_ret ?_))
          | (guard_target =~ blockQ _ _ _ _ _; first | (refine B_next ?_) | (refine B_same ?_) | (refine B_other (by kernel_rfl) ?_) | (refine B_ret ?_))
          | (refine W_true rfl rfl ?_)
          | (refine W_false rfl rfl ?_)
          | (guard_target =~ WO _ _ (Oper.mk _ (Op.load 4 _) _ _ _ none) _ _ _ _; first | (refine O_load_bs on4 rfl hc2.drew (by omega) ?_))
          | (guard_target =~ WO _ _ (Oper.mk _ (Op.move _) _ _ _ none) _ _ _ _; first | (refine O_move (v := .int _ (Nat.cast (OfNat.ofNat 0))) rfl ?_) | (refine O_move (v := (.int _ (Nat.cast _))) rfl ?_) | (refine O_move (v := (.bool _)) rfl ?_) | (refine O_move (v := (.pointer _)) rfl ?_) | (refine O_move (v := (.slice _ _ _)) rfl ?_) | (refine O_move (v := (.agg _)) rfl ?_) | (refine O_move (v := (.tuple _)) rfl ?_) | (refine O_move (v := (.int _ _)) rfl ?_))
          | (guard_target =~ WO _ _ (Oper.mk _ (Op.binOp BinOp.lss _ _ _ _) _ _ _ none) _ _ _ _; first | (refine O_lss_t (b := 5) rfl rfl (by omega) ?_) | (refine O_lss_f (b := 5) rfl rfl (by omega) ?_) | (refine O_lss (b := 5) rfl rfl ?_) | (refine O_lss_t (b := 64) rfl rfl (by omega) ?_) | (refine O_lss_f (b := 64) rfl rfl (by omega) ?_) | (refine O_lss (b := 64) rfl rfl ?_))
          | (guard_target =~ WO _ _ (Oper.mk _ (Op.assign _) _ _ _ none) _ _ _ _; first | (refine O_assign (v := (.int _ (Nat.cast _))) rfl ?_) | (refine O_assign (v := (.bool _)) rfl ?_) | (refine O_assign (v := (.pointer _)) rfl ?_) | (refine O_assign (v := (.slice _ _ _)) rfl ?_) | (refine O_assign (v := (.agg _)) rfl ?_) | (refine O_assign (v := (.tuple _)) rfl ?_) | (refine O_assign (v := (.int _ _)) rfl ?_))
          | (guard_target =~ WO _ _ (Oper.mk _ (Op.nilCheck _) _ _ _ none) _ _ _ _; first | (refine O_nil rfl ?_))
          | (guard_target =~ WO _ _ (Oper.mk _ (Op.indexAddr 200 _ _) _ _ _ none) _ _ _ _; first | (refine O_index ar200 rfl rfl (by omega) ?_))
          | (guard_target =~ WO _ _ (Oper.mk _ (Op.indexAddr 198 _ _) _ _ _ none) _ _ _ _; first | (refine O_index ar198 rfl rfl (by omega) ?_))
          | (guard_target =~ WO _ _ (Oper.mk _ (Op.indexAddr 197 _ _) _ _ _ none) _ _ _ _; first | (refine O_index ar197 rfl rfl (by omega) ?_))
          | (guard_target =~ WO _ _ (Oper.mk _ (Op.binOp BinOp.neq _ _ _ _) _ _ _ none) _ _ _ _; first | (refine O_bneq Samg.underlying4 rfl rfl ?_))
          | (guard_target =~ WO _ _ (Oper.mk _ (Op.binOp BinOp.add _ _ _ _) _ _ _ none) _ _ _ _; first | (refine O_add (b := 1) rfl rfl (by first | exact fit_i64 (by omega) | exact fit_u64 (by omega) | exact fit_u8 (by omega) | exact fit_i32 (by omega) | exact fit_u16 (by omega)) ?_) | (refine O_add (b := 4) rfl rfl (by first | exact fit_i64 (by omega) | exact fit_u64 (by omega) | exact fit_u8 (by omega) | exact fit_i32 (by omega) | exact fit_u16 (by omega)) ?_) | (refine O_add (b := 63) rfl rfl (by first | exact fit_i64 (by omega) | exact fit_u64 (by omega) | exact fit_u8 (by omega) | exact fit_i32 (by omega) | exact fit_u16 (by omega)) ?_))
          | (guard_target =~ WO _ _ (Oper.mk _ (Op.binOp BinOp.rem _ _ _ _) _ _ _ none) _ _ _ _; first | (refine O_rem (b := 5) rfl rfl (by omega) ?_) | (refine O_rem (b := 64) rfl rfl (by omega) ?_)))
        refine O_store_bs on4 rfl rfl hd2.drew (by omega) rfl fun w3 hU => ?_
        repeat (first
          | (refine L_cons ?_)
          | (refine R_cons rfl ?_)
          | (refine W_seq ?_)
          | (refine W_region (by kernel_rfl) ?_)
          | (refine L_nil ?_)
          | (refine R_nil ?_)
          | (refine W_block ?_)
          | (refine W_skip ?_)
          | (refine W_exit ?_)
          | (refine W_ret ?_)
          | (guard_target =~ thenQ _ _ _ _ _; first | (refine T_next ?_) | (refine T_exit ?_) | (refine T_ret ?_))
          | (guard_target =~ blockQ _ _ _ _ _; first | (refine B_next ?_) | (refine B_same ?_) | (refine B_other (by kernel_rfl) ?_) | (refine B_ret ?_))
          | (refine W_true rfl rfl ?_)
          | (refine W_false rfl rfl ?_)
          | (guard_target =~ WO _ _ (Oper.mk _ (Op.move _) _ _ _ none) _ _ _ _; first | (refine O_move (v := .int _ (Nat.cast (OfNat.ofNat 0))) rfl ?_) | (refine O_move (v := (.int _ (Nat.cast _))) rfl ?_) | (refine O_move (v := (.bool _)) rfl ?_) | (refine O_move (v := (.pointer _)) rfl ?_) | (refine O_move (v := (.slice _ _ _)) rfl ?_) | (refine O_move (v := (.agg _)) rfl ?_) | (refine O_move (v := (.tuple _)) rfl ?_) | (refine O_move (v := (.int _ _)) rfl ?_))
          | (guard_target =~ WO _ _ (Oper.mk _ (Op.binOp BinOp.lss _ _ _ _) _ _ _ none) _ _ _ _; first | (refine O_lss_t (b := 5) rfl rfl (by omega) ?_) | (refine O_lss_f (b := 5) rfl rfl (by omega) ?_) | (refine O_lss (b := 5) rfl rfl ?_) | (refine O_lss_t (b := 64) rfl rfl (by omega) ?_) | (refine O_lss_f (b := 64) rfl rfl (by omega) ?_) | (refine O_lss (b := 64) rfl rfl ?_))
          | (guard_target =~ WO _ _ (Oper.mk _ (Op.assign _) _ _ _ none) _ _ _ _; first | (refine O_assign (v := (.int _ (Nat.cast _))) rfl ?_) | (refine O_assign (v := (.bool _)) rfl ?_) | (refine O_assign (v := (.pointer _)) rfl ?_) | (refine O_assign (v := (.slice _ _ _)) rfl ?_) | (refine O_assign (v := (.agg _)) rfl ?_) | (refine O_assign (v := (.tuple _)) rfl ?_) | (refine O_assign (v := (.int _ _)) rfl ?_))
          | (guard_target =~ WO _ _ (Oper.mk _ (Op.nilCheck _) _ _ _ none) _ _ _ _; first | (refine O_nil rfl ?_))
          | (guard_target =~ WO _ _ (Oper.mk _ (Op.indexAddr 200 _ _) _ _ _ none) _ _ _ _; first | (refine O_index ar200 rfl rfl (by omega) ?_))
          | (guard_target =~ WO _ _ (Oper.mk _ (Op.indexAddr 198 _ _) _ _ _ none) _ _ _ _; first | (refine O_index ar198 rfl rfl (by omega) ?_))
          | (guard_target =~ WO _ _ (Oper.mk _ (Op.indexAddr 197 _ _) _ _ _ none) _ _ _ _; first | (refine O_index ar197 rfl rfl (by omega) ?_))
          | (guard_target =~ WO _ _ (Oper.mk _ (Op.binOp BinOp.neq _ _ _ _) _ _ _ none) _ _ _ _; first | (refine O_bneq Samg.underlying4 rfl rfl ?_))
          | (guard_target =~ WO _ _ (Oper.mk _ (Op.binOp BinOp.add _ _ _ _) _ _ _ none) _ _ _ _; first | (refine O_add (b := 1) rfl rfl (by first | exact fit_i64 (by omega) | exact fit_u64 (by omega) | exact fit_u8 (by omega) | exact fit_i32 (by omega) | exact fit_u16 (by omega)) ?_) | (refine O_add (b := 4) rfl rfl (by first | exact fit_i64 (by omega) | exact fit_u64 (by omega) | exact fit_u8 (by omega) | exact fit_i32 (by omega) | exact fit_u16 (by omega)) ?_) | (refine O_add (b := 63) rfl rfl (by first | exact fit_i64 (by omega) | exact fit_u64 (by omega) | exact fit_u8 (by omega) | exact fit_i32 (by omega) | exact fit_u16 (by omega)) ?_))
          | (guard_target =~ WO _ _ (Oper.mk _ (Op.binOp BinOp.rem _ _ _ _) _ _ _ none) _ _ _ _; first | (refine O_rem (b := 5) rfl rfl (by omega) ?_) | (refine O_rem (b := 64) rfl rfl (by omega) ?_)))
        have hU := hU.undrew
        rw [eK_succ hltz] at hU
        exact ⟨64 - (z + 1), by omega, z + 1, rfl, by omega, Has.mk ⟨rfl, rfl, rfl, rfl, rfl, rfl, rfl, rfl, trivial⟩, hM2.trans' hU.mod (by simp; omega), ha2.upd hU hda, hc2.upd hU hdc, hU.here⟩
      · obtain rfl : z = 64 := by omega
        repeat (first
          | (refine L_cons ?_)
          | (refine R_cons rfl ?_)
          | (refine W_seq ?_)
          | (refine W_region (by kernel_rfl) ?_)
          | (refine L_nil ?_)
          | (refine R_nil ?_)
          | (refine W_block ?_)
          | (refine W_skip ?_)
          | (refine W_exit ?_)
          | (refine W_ret ?_)
          | (guard_target =~ thenQ _ _ _ _ _; first | (refine T_next ?_) | (refine T_exit ?_) | (refine T_ret ?_))
          | (guard_target =~ blockQ _ _ _ _ _; first | (refine B_next ?_) | (refine B_same ?_) | (refine B_other (by kernel_rfl) ?_) | (refine B_ret ?_))
          | (refine W_true rfl rfl ?_)
          | (refine W_false rfl rfl ?_)
          | (guard_target =~ WO _ _ (Oper.mk _ (Op.move _) _ _ _ none) _ _ _ _; first | (refine O_move (v := .int _ (Nat.cast (OfNat.ofNat 0))) rfl ?_) | (refine O_move (v := (.int _ (Nat.cast _))) rfl ?_) | (refine O_move (v := (.bool _)) rfl ?_) | (refine O_move (v := (.pointer _)) rfl ?_) | (refine O_move (v := (.slice _ _ _)) rfl ?_) | (refine O_move (v := (.agg _)) rfl ?_) | (refine O_move (v := (.tuple _)) rfl ?_) | (refine O_move (v := (.int _ _)) rfl ?_))
          | (guard_target =~ WO _ _ (Oper.mk _ (Op.binOp BinOp.lss _ _ _ _) _ _ _ none) _ _ _ _; first | (refine O_lss_t (b := 5) rfl rfl (by omega) ?_) | (refine O_lss_f (b := 5) rfl rfl (by omega) ?_) | (refine O_lss (b := 5) rfl rfl ?_) | (refine O_lss_t (b := 64) rfl rfl (by omega) ?_) | (refine O_lss_f (b := 64) rfl rfl (by omega) ?_) | (refine O_lss (b := 64) rfl rfl ?_))
          | (guard_target =~ WO _ _ (Oper.mk _ (Op.assign _) _ _ _ none) _ _ _ _; first | (refine O_assign (v := (.int _ (Nat.cast _))) rfl ?_) | (refine O_assign (v := (.bool _)) rfl ?_) | (refine O_assign (v := (.pointer _)) rfl ?_) | (refine O_assign (v := (.slice _ _ _)) rfl ?_) | (refine O_assign (v := (.agg _)) rfl ?_) | (refine O_assign (v := (.tuple _)) rfl ?_) | (refine O_assign (v := (.int _ _)) rfl ?_))
          | (guard_target =~ WO _ _ (Oper.mk _ (Op.nilCheck _) _ _ _ none) _ _ _ _; first | (refine O_nil rfl ?_))
          | (guard_target =~ WO _ _ (Oper.mk _ (Op.indexAddr 200 _ _) _ _ _ none) _ _ _ _; first | (refine O_index ar200 rfl rfl (by omega) ?_))
          | (guard_target =~ WO _ _ (Oper.mk _ (Op.indexAddr 198 _ _) _ _ _ none) _ _ _ _; first | (refine O_index ar198 rfl rfl (by omega) ?_))
          | (guard_target =~ WO _ _ (Oper.mk _ (Op.indexAddr 197 _ _) _ _ _ none) _ _ _ _; first | (refine O_index ar197 rfl rfl (by omega) ?_))
          | (guard_target =~ WO _ _ (Oper.mk _ (Op.binOp BinOp.neq _ _ _ _) _ _ _ none) _ _ _ _; first | (refine O_bneq Samg.underlying4 rfl rfl ?_))
          | (guard_target =~ WO _ _ (Oper.mk _ (Op.binOp BinOp.add _ _ _ _) _ _ _ none) _ _ _ _; first | (refine O_add (b := 1) rfl rfl (by first | exact fit_i64 (by omega) | exact fit_u64 (by omega) | exact fit_u8 (by omega) | exact fit_i32 (by omega) | exact fit_u16 (by omega)) ?_) | (refine O_add (b := 4) rfl rfl (by first | exact fit_i64 (by omega) | exact fit_u64 (by omega) | exact fit_u8 (by omega) | exact fit_i32 (by omega) | exact fit_u16 (by omega)) ?_) | (refine O_add (b := 63) rfl rfl (by first | exact fit_i64 (by omega) | exact fit_u64 (by omega) | exact fit_u8 (by omega) | exact fit_i32 (by omega) | exact fit_u16 (by omega)) ?_))
          | (guard_target =~ WO _ _ (Oper.mk _ (Op.binOp BinOp.rem _ _ _ _) _ _ _ none) _ _ _ _; first | (refine O_rem (b := 5) rfl rfl (by omega) ?_) | (refine O_rem (b := 64) rfl rfl (by omega) ?_)))
        refine W_loop (fun k ρ w' => ∃ y, k = 5 - y ∧ y ≤ 5 ∧ Has ρ [(0, .pointer (some ⟨ba, 0, none⟩)), (2, .pointer (some ⟨bc, 0, none⟩)), (7, .int .i64 (x : Nat)), (10, .pointer (some ⟨bd, 0, none⟩)), (48, .int .i64 (x : Nat)), (78, .int .i64 (y : Nat))] ∧
          Mod [ba, bc] w w' ∧ Blk w' ba (bs 1600 (tK a (x * 320 + y * 64))) tb ∧ Blk w' bc (bs 320 (cK a 1600)) 198 ∧ Blk w' bd (bs 64 (eK a x 64)) 197) 5 ?_ ?_
        · exact ⟨0, by omega, by omega, Has.mk ⟨rfl, rfl, rfl, rfl, rfl, rfl, trivial⟩, hM2, (by rw [show x * 320 + 0 * 64 = x * 320 from by omega]; exact ha2), hc2, hd2⟩
        clear hM2 ha2 hc2 hd2 w2
        rintro k _ w2 ⟨y, rfl, hy, ⟨σ, rfl⟩, hM2, ha2, hc2, hd2⟩
        by_cases hlty : y < 5
        · repeat (first
            | (refine L_cons ?_)
            | (refine R_cons rfl ?_)
            | (refine W_seq ?_)
            | (refine W_region (by kernel_rfl) ?_)
            | (refine L_nil ?_)
            | (refine R_nil ?_)
            | (refine W_block ?_)
            | (refine W_skip ?_)
            | (refine W_exit ?_)
            | (refine W_ret ?_)
            | (guard_target =~ thenQ _ _ _ _ _; first | (refine T_next ?_) | (refine T_exit ?_) | (refine T_ret ?_))
            | (guard_target =~ blockQ _ _ _ _ _; first | (refine B_next ?_) | (refine B_same ?_) | (refine B_other (by kernel_rfl) ?_) | (refine B_ret ?_))
            | (refine W_true rfl rfl ?_)
            | (refine W_false rfl rfl ?_)
            | (guard_target =~ WO _ _ (Oper.mk _ (Op.move _) _ _ _ none) _ _ _ _; first | (refine O_move (v := .int _ (Nat.cast (OfNat.ofNat 0))) rfl ?_) | (refine O_move (v := (.int _ (Nat.cast _))) rfl ?_) | (refine O_move (v := (.bool _)) rfl ?_) | (refine O_move (v := (.pointer _)) rfl ?_) | (refine O_move (v := (.slice _ _ _)) rfl ?_) | (refine O_move (v := (.agg _)) rfl ?_) | (refine O_move (v := (.tuple _)) rfl ?_) | (refine O_move (v := (.int _ _)) rfl ?_))
            | (guard_target =~ WO _ _ (Oper.mk _ (Op.binOp BinOp.lss _ _ _ _) _ _ _ none) _ _ _ _; first | (refine O_lss_t (b := 5) rfl rfl (by omega) ?_) | (refine O_lss_f (b := 5) rfl rfl (by omega) ?_) | (refine O_lss (b := 5) rfl rfl ?_) | (refine O_lss_t (b := 64) rfl rfl (by omega) ?_) | (refine O_lss_f (b := 64) rfl rfl (by omega) ?_) | (refine O_lss (b := 64) rfl rfl ?_))
            | (guard_target =~ WO _ _ (Oper.mk _ (Op.assign _) _ _ _ none) _ _ _ _; first | (refine O_assign (v := (.int _ (Nat.cast _))) rfl ?_) | (refine O_assign (v := (.bool _)) rfl ?_) | (refine O_assign (v := (.pointer _)) rfl ?_) | (refine O_assign (v := (.slice _ _ _)) rfl ?_) | (refine O_assign (v := (.agg _)) rfl ?_) | (refine O_assign (v := (.tuple _)) rfl ?_) | (refine O_assign (v := (.int _ _)) rfl ?_))
            | (guard_target =~ WO _ _ (Oper.mk _ (Op.nilCheck _) _ _ _ none) _ _ _ _; first | (refine O_nil rfl ?_))
            | (guard_target =~ WO _ _ (Oper.mk _ (Op.indexAddr 200 _ _) _ _ _ none) _ _ _ _; first | (refine O_index ar200 rfl rfl (by omega) ?_))
            | (guard_target =~ WO _ _ (Oper.mk _ (Op.indexAddr 198 _ _) _ _ _ none) _ _ _ _; first | (refine O_index ar198 rfl rfl (by omega) ?_))
            | (guard_target =~ WO _ _ (Oper.mk _ (Op.indexAddr 197 _ _) _ _ _ none) _ _ _ _; first | (refine O_index ar197 rfl rfl (by omega) ?_))
            | (guard_target =~ WO _ _ (Oper.mk _ (Op.binOp BinOp.neq _ _ _ _) _ _ _ none) _ _ _ _; first | (refine O_bneq Samg.underlying4 rfl rfl ?_))
            | (guard_target =~ WO _ _ (Oper.mk _ (Op.binOp BinOp.add _ _ _ _) _ _ _ none) _ _ _ _; first | (refine O_add (b := 1) rfl rfl (by first | exact fit_i64 (by omega) | exact fit_u64 (by omega) | exact fit_u8 (by omega) | exact fit_i32 (by omega) | exact fit_u16 (by omega)) ?_) | (refine O_add (b := 4) rfl rfl (by first | exact fit_i64 (by omega) | exact fit_u64 (by omega) | exact fit_u8 (by omega) | exact fit_i32 (by omega) | exact fit_u16 (by omega)) ?_) | (refine O_add (b := 63) rfl rfl (by first | exact fit_i64 (by omega) | exact fit_u64 (by omega) | exact fit_u8 (by omega) | exact fit_i32 (by omega) | exact fit_u16 (by omega)) ?_))
            | (guard_target =~ WO _ _ (Oper.mk _ (Op.binOp BinOp.rem _ _ _ _) _ _ _ none) _ _ _ _; first | (refine O_rem (b := 5) rfl rfl (by omega) ?_) | (refine O_rem (b := 64) rfl rfl (by omega) ?_)))
          refine W_loop (fun k ρ w' => ∃ z, k = 64 - z ∧ z ≤ 64 ∧ Has ρ [(0, .pointer (some ⟨ba, 0, none⟩)), (2, .pointer (some ⟨bc, 0, none⟩)), (7, .int .i64 (x : Nat)), (10, .pointer (some ⟨bd, 0, none⟩)), (13, .pointer (some ⟨ba, 0 + x * 320 + y * 64, none⟩)), (48, .int .i64 (x : Nat)), (78, .int .i64 (y : Nat)), (87, .int .i64 (z : Nat))] ∧
            Mod [ba, bc] w w' ∧ Blk w' ba (bs 1600 (tK a (x * 320 + y * 64 + z))) tb ∧ Blk w' bc (bs 320 (cK a 1600)) 198 ∧ Blk w' bd (bs 64 (eK a x 64)) 197) 64 ?_ ?_
          · exact ⟨0, by omega, by omega, Has.mk ⟨rfl, rfl, rfl, rfl, rfl, rfl, rfl, rfl, trivial⟩, hM2, (by rw [show x * 320 + y * 64 + 0 = x * 320 + y * 64 from by omega]; exact ha2), hc2, hd2⟩
          clear hM2 ha2 hc2 hd2 w2
          rintro k _ w2 ⟨z, rfl, hz, ⟨σ, rfl⟩, hM2, ha2, hc2, hd2⟩
          by_cases hltz : z < 64
          · repeat (first
              | (refine L_cons ?_)
              | (refine R_cons rfl ?_)
              | (refine W_seq ?_)
              | (refine W_region (by kernel_rfl) ?_)
              | (refine L_nil ?_)
              | (refine R_nil ?_)
              | (refine W_block ?_)
              | (refine W_skip ?_)
              | (refine W_exit ?_)
              | (refine W_ret ?_)
              | (guard_target =~ thenQ _ _ _ _ _; first | (refine T_next ?_) | (refine T_exit ?_) | (refine T_ret ?_))
              | (guard_target =~ blockQ _ _ _ _ _; first | (refine B_next ?_) | (refine B_same ?_) | (refine B_other (by kernel_rfl) ?_) | (refine B_ret ?_))
              | (refine W_true rfl rfl ?_)
              | (refine W_false rfl rfl ?_)
              | (guard_target =~ WO _ _ (Oper.mk _ (Op.move _) _ _ _ none) _ _ _ _; first | (refine O_move (v := .int _ (Nat.cast (OfNat.ofNat 0))) rfl ?_) | (refine O_move (v := (.int _ (Nat.cast _))) rfl ?_) | (refine O_move (v := (.bool _)) rfl ?_) | (refine O_move (v := (.pointer _)) rfl ?_) | (refine O_move (v := (.slice _ _ _)) rfl ?_) | (refine O_move (v := (.agg _)) rfl ?_) | (refine O_move (v := (.tuple _)) rfl ?_) | (refine O_move (v := (.int _ _)) rfl ?_))
              | (guard_target =~ WO _ _ (Oper.mk _ (Op.binOp BinOp.lss _ _ _ _) _ _ _ none) _ _ _ _; first | (refine O_lss_t (b := 5) rfl rfl (by omega) ?_) | (refine O_lss_f (b := 5) rfl rfl (by omega) ?_) | (refine O_lss (b := 5) rfl rfl ?_) | (refine O_lss_t (b := 64) rfl rfl (by omega) ?_) | (refine O_lss_f (b := 64) rfl rfl (by omega) ?_) | (refine O_lss (b := 64) rfl rfl ?_))
              | (guard_target =~ WO _ _ (Oper.mk _ (Op.assign _) _ _ _ none) _ _ _ _; first | (refine O_assign (v := (.int _ (Nat.cast _))) rfl ?_) | (refine O_assign (v := (.bool _)) rfl ?_) | (refine O_assign (v := (.pointer _)) rfl ?_) | (refine O_assign (v := (.slice _ _ _)) rfl ?_) | (refine O_assign (v := (.agg _)) rfl ?_) | (refine O_assign (v := (.tuple _)) rfl ?_) | (refine O_assign (v := (.int _ _)) rfl ?_))
              | (guard_target =~ WO _ _ (Oper.mk _ (Op.nilCheck _) _ _ _ none) _ _ _ _; first | (refine O_nil rfl ?_))
              | (guard_target =~ WO _ _ (Oper.mk _ (Op.indexAddr 200 _ _) _ _ _ none) _ _ _ _; first | (refine O_index ar200 rfl rfl (by omega) ?_))
              | (guard_target =~ WO _ _ (Oper.mk _ (Op.indexAddr 198 _ _) _ _ _ none) _ _ _ _; first | (refine O_index ar198 rfl rfl (by omega) ?_))
              | (guard_target =~ WO _ _ (Oper.mk _ (Op.indexAddr 197 _ _) _ _ _ none) _ _ _ _; first | (refine O_index ar197 rfl rfl (by omega) ?_))
              | (guard_target =~ WO _ _ (Oper.mk _ (Op.binOp BinOp.neq _ _ _ _) _ _ _ none) _ _ _ _; first | (refine O_bneq Samg.underlying4 rfl rfl ?_))
              | (guard_target =~ WO _ _ (Oper.mk _ (Op.binOp BinOp.add _ _ _ _) _ _ _ none) _ _ _ _; first | (refine O_add (b := 1) rfl rfl (by first | exact fit_i64 (by omega) | exact fit_u64 (by omega) | exact fit_u8 (by omega) | exact fit_i32 (by omega) | exact fit_u16 (by omega)) ?_) | (refine O_add (b := 4) rfl rfl (by first | exact fit_i64 (by omega) | exact fit_u64 (by omega) | exact fit_u8 (by omega) | exact fit_i32 (by omega) | exact fit_u16 (by omega)) ?_) | (refine O_add (b := 63) rfl rfl (by first | exact fit_i64 (by omega) | exact fit_u64 (by omega) | exact fit_u8 (by omega) | exact fit_i32 (by omega) | exact fit_u16 (by omega)) ?_))
              | (guard_target =~ WO _ _ (Oper.mk _ (Op.binOp BinOp.rem _ _ _ _) _ _ _ none) _ _ _ _; first | (refine O_rem (b := 5) rfl rfl (by omega) ?_) | (refine O_rem (b := 64) rfl rfl (by omega) ?_)))
            refine W_drawn [] [0, 1, 2, 3, 4, 5] mixed (by kernel_rfl) (by kernel_rfl) ?_
            repeat (first
              | (refine L_cons ?_)
              | (refine R_cons rfl ?_)
              | (refine W_seq ?_)
              | (refine W_region (by kernel_rfl) ?_)
              | (refine L_nil ?_)
              | (refine R_nil ?_)
              | (refine W_block ?_)
              | (refine W_skip ?_)
              | (refine W_exit ?_)
              | (refine W_ret ?_)
              | (guard_target =~ thenQ _ _ _ _ _; first | (refine T_next ?_) | (refine T_exit ?_) | (refine T_ret ?_))
              | (guard_target =~ blockQ _ _ _ _ _; first | (refine B_next ?_) | (refine B_same ?_) | (refine B_other (by kernel_rfl) ?_) | (refine B_ret ?_))
              | (refine W_true rfl rfl ?_)
              | (refine W_false rfl rfl ?_)
              | (guard_target =~ WO _ _ (Oper.mk _ (Op.load 4 _) _ _ _ none) _ _ _ _; first | (refine O_load_bs on4 rfl hd2.drew (by omega) ?_))
              | (guard_target =~ WO _ _ (Oper.mk _ (Op.move _) _ _ _ none) _ _ _ _; first | (refine O_move (v := .int _ (Nat.cast (OfNat.ofNat 0))) rfl ?_) | (refine O_move (v := (.int _ (Nat.cast _))) rfl ?_) | (refine O_move (v := (.bool _)) rfl ?_) | (refine O_move (v := (.pointer _)) rfl ?_) | (refine O_move (v := (.slice _ _ _)) rfl ?_) | (refine O_move (v := (.agg _)) rfl ?_) | (refine O_move (v := (.tuple _)) rfl ?_) | (refine O_move (v := (.int _ _)) rfl ?_))
              | (guard_target =~ WO _ _ (Oper.mk _ (Op.binOp BinOp.lss _ _ _ _) _ _ _ none) _ _ _ _; first | (refine O_lss_t (b := 5) rfl rfl (by omega) ?_) | (refine O_lss_f (b := 5) rfl rfl (by omega) ?_) | (refine O_lss (b := 5) rfl rfl ?_) | (refine O_lss_t (b := 64) rfl rfl (by omega) ?_) | (refine O_lss_f (b := 64) rfl rfl (by omega) ?_) | (refine O_lss (b := 64) rfl rfl ?_))
              | (guard_target =~ WO _ _ (Oper.mk _ (Op.assign _) _ _ _ none) _ _ _ _; first | (refine O_assign (v := (.int _ (Nat.cast _))) rfl ?_) | (refine O_assign (v := (.bool _)) rfl ?_) | (refine O_assign (v := (.pointer _)) rfl ?_) | (refine O_assign (v := (.slice _ _ _)) rfl ?_) | (refine O_assign (v := (.agg _)) rfl ?_) | (refine O_assign (v := (.tuple _)) rfl ?_) | (refine O_assign (v := (.int _ _)) rfl ?_))
              | (guard_target =~ WO _ _ (Oper.mk _ (Op.nilCheck _) _ _ _ none) _ _ _ _; first | (refine O_nil rfl ?_))
              | (guard_target =~ WO _ _ (Oper.mk _ (Op.indexAddr 200 _ _) _ _ _ none) _ _ _ _; first | (refine O_index ar200 rfl rfl (by omega) ?_))
              | (guard_target =~ WO _ _ (Oper.mk _ (Op.indexAddr 198 _ _) _ _ _ none) _ _ _ _; first | (refine O_index ar198 rfl rfl (by omega) ?_))
              | (guard_target =~ WO _ _ (Oper.mk _ (Op.indexAddr 197 _ _) _ _ _ none) _ _ _ _; first | (refine O_index ar197 rfl rfl (by omega) ?_))
              | (guard_target =~ WO _ _ (Oper.mk _ (Op.binOp BinOp.neq _ _ _ _) _ _ _ none) _ _ _ _; first | (refine O_bneq Samg.underlying4 rfl rfl ?_))
              | (guard_target =~ WO _ _ (Oper.mk _ (Op.binOp BinOp.add _ _ _ _) _ _ _ none) _ _ _ _; first | (refine O_add (b := 1) rfl rfl (by first | exact fit_i64 (by omega) | exact fit_u64 (by omega) | exact fit_u8 (by omega) | exact fit_i32 (by omega) | exact fit_u16 (by omega)) ?_) | (refine O_add (b := 4) rfl rfl (by first | exact fit_i64 (by omega) | exact fit_u64 (by omega) | exact fit_u8 (by omega) | exact fit_i32 (by omega) | exact fit_u16 (by omega)) ?_) | (refine O_add (b := 63) rfl rfl (by first | exact fit_i64 (by omega) | exact fit_u64 (by omega) | exact fit_u8 (by omega) | exact fit_i32 (by omega) | exact fit_u16 (by omega)) ?_))
              | (guard_target =~ WO _ _ (Oper.mk _ (Op.binOp BinOp.rem _ _ _ _) _ _ _ none) _ _ _ _; first | (refine O_rem (b := 5) rfl rfl (by omega) ?_) | (refine O_rem (b := 64) rfl rfl (by omega) ?_)))
            refine W_drawn [] [0, 1, 2, 3, 4, 5, 6, 7, 8, 9, 10, 11] mixed (by kernel_rfl) (by kernel_rfl) ?_
            repeat (first
              | (refine L_cons ?_)
              | (refine R_cons rfl ?_)
              | (refine W_seq ?_)
              | (refine W_region (by kernel_rfl) ?_)
              | (refine L_nil ?_)
              | (refine R_nil ?_)
              | (refine W_block ?_)
              | (refine W_skip ?_)
              | (refine W_exit ?_)
              | (refine W_ret ?_)
              | (guard_target =~ thenQ _ _ _ _ _; first | (refine T_next ?_) | (refine T_exit ?_) | (refine T_ret ?_))
              | (guard_target =~ blockQ _ _ _ _ _; first | (refine B_next ?_) | (refine B_same ?_) | (refine B_other (by kernel_rfl) ?_) | (refine B_ret ?_))
              | (refine W_true rfl rfl ?_)
              | (refine W_false rfl rfl ?_)
              | (guard_target =~ WO _ _ (Oper.mk _ (Op.load 4 _) _ _ _ none) _ _ _ _; first | (refine O_load_bs on4 rfl ha2.drew.drew (by omega) ?_))
              | (guard_target =~ WO _ _ (Oper.mk _ (Op.move _) _ _ _ none) _ _ _ _; first | (refine O_move (v := .int _ (Nat.cast (OfNat.ofNat 0))) rfl ?_) | (refine O_move (v := (.int _ (Nat.cast _))) rfl ?_) | (refine O_move (v := (.bool _)) rfl ?_) | (refine O_move (v := (.pointer _)) rfl ?_) | (refine O_move (v := (.slice _ _ _)) rfl ?_) | (refine O_move (v := (.agg _)) rfl ?_) | (refine O_move (v := (.tuple _)) rfl ?_) | (refine O_move (v := (.int _ _)) rfl ?_))
              | (guard_target =~ WO _ _ (Oper.mk _ (Op.binOp BinOp.lss _ _ _ _) _ _ _ none) _ _ _ _; first | (refine O_lss_t (b := 5) rfl rfl (by omega) ?_) | (refine O_lss_f (b := 5) rfl rfl (by omega) ?_) | (refine O_lss (b := 5) rfl rfl ?_) | (refine O_lss_t (b := 64) rfl rfl (by omega) ?_) | (refine O_lss_f (b := 64) rfl rfl (by omega) ?_) | (refine O_lss (b := 64) rfl rfl ?_))
              | (guard_target =~ WO _ _ (Oper.mk _ (Op.assign _) _ _ _ none) _ _ _ _; first | (refine O_assign (v := (.int _ (Nat.cast _))) rfl ?_) | (refine O_assign (v := (.bool _)) rfl ?_) | (refine O_assign (v := (.pointer _)) rfl ?_) | (refine O_assign (v := (.slice _ _ _)) rfl ?_) | (refine O_assign (v := (.agg _)) rfl ?_) | (refine O_assign (v := (.tuple _)) rfl ?_) | (refine O_assign (v := (.int _ _)) rfl ?_))
              | (guard_target =~ WO _ _ (Oper.mk _ (Op.nilCheck _) _ _ _ none) _ _ _ _; first | (refine O_nil rfl ?_))
              | (guard_target =~ WO _ _ (Oper.mk _ (Op.indexAddr 200 _ _) _ _ _ none) _ _ _ _; first | (refine O_index ar200 rfl rfl (by omega) ?_))
              | (guard_target =~ WO _ _ (Oper.mk _ (Op.indexAddr 198 _ _) _ _ _ none) _ _ _ _; first | (refine O_index ar198 rfl rfl (by omega) ?_))
              | (guard_target =~ WO _ _ (Oper.mk _ (Op.indexAddr 197 _ _) _ _ _ none) _ _ _ _; first | (refine O_index ar197 rfl rfl (by omega) ?_))
              | (guard_target =~ WO _ _ (Oper.mk _ (Op.binOp BinOp.neq _ _ _ _) _ _ _ none) _ _ _ _; first | (refine O_bneq Samg.underlying4 rfl rfl ?_))
              | (guard_target =~ WO _ _ (Oper.mk _ (Op.binOp BinOp.add _ _ _ _) _ _ _ none) _ _ _ _; first | (refine O_add (b := 1) rfl rfl (by first | exact fit_i64 (by omega) | exact fit_u64 (by omega) | exact fit_u8 (by omega) | exact fit_i32 (by omega) | exact fit_u16 (by omega)) ?_) | (refine O_add (b := 4) rfl rfl (by first | exact fit_i64 (by omega) | exact fit_u64 (by omega) | exact fit_u8 (by omega) | exact fit_i32 (by omega) | exact fit_u16 (by omega)) ?_) | (refine O_add (b := 63) rfl rfl (by first | exact fit_i64 (by omega) | exact fit_u64 (by omega) | exact fit_u8 (by omega) | exact fit_i32 (by omega) | exact fit_u16 (by omega)) ?_))
              | (guard_target =~ WO _ _ (Oper.mk _ (Op.binOp BinOp.rem _ _ _ _) _ _ _ none) _ _ _ _; first | (refine O_rem (b := 5) rfl rfl (by omega) ?_) | (refine O_rem (b := 64) rfl rfl (by omega) ?_)))
            refine O_store_bs on4 rfl rfl ha2.drew.drew (by omega) rfl fun w3 hU => ?_
            repeat (first
              | (refine L_cons ?_)
              | (refine R_cons rfl ?_)
              | (refine W_seq ?_)
              | (refine W_region (by kernel_rfl) ?_)
              | (refine L_nil ?_)
              | (refine R_nil ?_)
              | (refine W_block ?_)
              | (refine W_skip ?_)
              | (refine W_exit ?_)
              | (refine W_ret ?_)
              | (guard_target =~ thenQ _ _ _ _ _; first | (refine T_next ?_) | (refine T_exit ?_) | (refine T_ret ?_))
              | (guard_target =~ blockQ _ _ _ _ _; first | (refine B_next ?_) | (refine B_same ?_) | (refine B_other (by kernel_rfl) ?_) | (refine B_ret ?_))
              | (refine W_true rfl rfl ?_)
              | (refine W_false rfl rfl ?_)
              | (guard_target =~ WO _ _ (Oper.mk _ (Op.move _) _ _ _ none) _ _ _ _; first | (refine O_move (v := .int _ (Nat.cast (OfNat.ofNat 0))) rfl ?_) | (refine O_move (v := (.int _ (Nat.cast _))) rfl ?_) | (refine O_move (v := (.bool _)) rfl ?_) | (refine O_move (v := (.pointer _)) rfl ?_) | (refine O_move (v := (.slice _ _ _)) rfl ?_) | (refine O_move (v := (.agg _)) rfl ?_) | (refine O_move (v := (.tuple _)) rfl ?_) | (refine O_move (v := (.int _ _)) rfl ?_))
              | (guard_target =~ WO _ _ (Oper.mk _ (Op.binOp BinOp.lss _ _ _ _) _ _ _ none) _ _ _ _; first | (refine O_lss_t (b := 5) rfl rfl (by omega) ?_) | (refine O_lss_f (b := 5) rfl rfl (by omega) ?_) | (refine O_lss (b := 5) rfl rfl ?_) | (refine O_lss_t (b := 64) rfl rfl (by omega) ?_) | (refine O_lss_f (b := 64) rfl rfl (by omega) ?_) | (refine O_lss (b := 64) rfl rfl ?_))
              | (guard_target =~ WO _ _ (Oper.mk _ (Op.assign _) _ _ _ none) _ _ _ _; first | (refine O_assign (v := (.int _ (Nat.cast _))) rfl ?_) | (refine O_assign (v := (.bool _)) rfl ?_) | (refine O_assign (v := (.pointer _)) rfl ?_) | (refine O_assign (v := (.slice _ _ _)) rfl ?_) | (refine O_assign (v := (.agg _)) rfl ?_) | (refine O_assign (v := (.tuple _)) rfl ?_) | (refine O_assign (v := (.int _ _)) rfl ?_))
              | (guard_target =~ WO _ _ (Oper.mk _ (Op.nilCheck _) _ _ _ none) _ _ _ _; first | (refine O_nil rfl ?_))
              | (guard_target =~ WO _ _ (Oper.mk _ (Op.indexAddr 200 _ _) _ _ _ none) _ _ _ _; first | (refine O_index ar200 rfl rfl (by omega) ?_))
              | (guard_target =~ WO _ _ (Oper.mk _ (Op.indexAddr 198 _ _) _ _ _ none) _ _ _ _; first | (refine O_index ar198 rfl rfl (by omega) ?_))
              | (guard_target =~ WO _ _ (Oper.mk _ (Op.indexAddr 197 _ _) _ _ _ none) _ _ _ _; first | (refine O_index ar197 rfl rfl (by omega) ?_))
              | (guard_target =~ WO _ _ (Oper.mk _ (Op.binOp BinOp.neq _ _ _ _) _ _ _ none) _ _ _ _; first | (refine O_bneq Samg.underlying4 rfl rfl ?_))
              | (guard_target =~ WO _ _ (Oper.mk _ (Op.binOp BinOp.add _ _ _ _) _ _ _ none) _ _ _ _; first | (refine O_add (b := 1) rfl rfl (by first | exact fit_i64 (by omega) | exact fit_u64 (by omega) | exact fit_u8 (by omega) | exact fit_i32 (by omega) | exact fit_u16 (by omega)) ?_) | (refine O_add (b := 4) rfl rfl (by first | exact fit_i64 (by omega) | exact fit_u64 (by omega) | exact fit_u8 (by omega) | exact fit_i32 (by omega) | exact fit_u16 (by omega)) ?_) | (refine O_add (b := 63) rfl rfl (by first | exact fit_i64 (by omega) | exact fit_u64 (by omega) | exact fit_u8 (by omega) | exact fit_i32 (by omega) | exact fit_u16 (by omega)) ?_))
              | (guard_target =~ WO _ _ (Oper.mk _ (Op.binOp BinOp.rem _ _ _ _) _ _ _ none) _ _ _ _; first | (refine O_rem (b := 5) rfl rfl (by omega) ?_) | (refine O_rem (b := 64) rfl rfl (by omega) ?_)))
            have hU := hU.undrew.undrew
            rw [show eK a x 64 (0 + z * 1) = dK a x (0 + z * 1) from if_pos (by omega), tK_succ hlt hlty hltz] at hU
            exact ⟨64 - (z + 1), by omega, z + 1, rfl, by omega, Has.mk ⟨rfl, rfl, rfl, rfl, rfl, rfl, rfl, rfl, trivial⟩, hM2.trans' hU.mod (by simp), hU.here, hc2.upd hU (Ne.symm hne), hd2.upd hU (Ne.symm hda)⟩
          · obtain rfl : z = 64 := by omega
            repeat (first
              | (refine L_cons ?_)
              | (refine R_cons rfl ?_)
              | (refine W_seq ?_)
              | (refine W_region (by kernel_rfl) ?_)
              | (refine L_nil ?_)
              | (refine R_nil ?_)
              | (refine W_block ?_)
              | (refine W_skip ?_)
              | (refine W_exit ?_)
              | (refine W_ret ?_)
              | (guard_target =~ thenQ _ _ _ _ _; first | (refine T_next ?_) | (refine T_exit ?_) | (refine T_ret ?_))
              | (guard_target =~ blockQ _ _ _ _ _; first | (refine B_next ?_) | (refine B_same ?_) | (refine B_other (by kernel_rfl) ?_) | (refine B_ret ?_))
              | (refine W_true rfl rfl ?_)
              | (refine W_false rfl rfl ?_)
              | (guard_target =~ WO _ _ (Oper.mk _ (Op.move _) _ _ _ none) _ _ _ _; first | (refine O_move (v := .int _ (Nat.cast (OfNat.ofNat 0))) rfl ?_) | (refine O_move (v := (.int _ (Nat.cast _))) rfl ?_) | (refine O_move (v := (.bool _)) rfl ?_) | (refine O_move (v := (.pointer _)) rfl ?_) | (refine O_move (v := (.slice _ _ _)) rfl ?_) | (refine O_move (v := (.agg _)) rfl ?_) | (refine O_move (v := (.tuple _)) rfl ?_) | (refine O_move (v := (.int _ _)) rfl ?_))
              | (guard_target =~ WO _ _ (Oper.mk _ (Op.binOp BinOp.lss _ _ _ _) _ _ _ none) _ _ _ _; first | (refine O_lss_t (b := 5) rfl rfl (by omega) ?_) | (refine O_lss_f (b := 5) rfl rfl (by omega) ?_) | (refine O_lss (b := 5) rfl rfl ?_) | (refine O_lss_t (b := 64) rfl rfl (by omega) ?_) | (refine O_lss_f (b := 64) rfl rfl (by omega) ?_) | (refine O_lss (b := 64) rfl rfl ?_))
              | (guard_target =~ WO _ _ (Oper.mk _ (Op.assign _) _ _ _ none) _ _ _ _; first | (refine O_assign (v := (.int _ (Nat.cast _))) rfl ?_) | (refine O_assign (v := (.bool _)) rfl ?_) | (refine O_assign (v := (.pointer _)) rfl ?_) | (refine O_assign (v := (.slice _ _ _)) rfl ?_) | (refine O_assign (v := (.agg _)) rfl ?_) | (refine O_assign (v := (.tuple _)) rfl ?_) | (refine O_assign (v := (.int _ _)) rfl ?_))
              | (guard_target =~ WO _ _ (Oper.mk _ (Op.nilCheck _) _ _ _ none) _ _ _ _; first | (refine O_nil rfl ?_))
              | (guard_target =~ WO _ _ (Oper.mk _ (Op.indexAddr 200 _ _) _ _ _ none) _ _ _ _; first | (refine O_index ar200 rfl rfl (by omega) ?_))
              | (guard_target =~ WO _ _ (Oper.mk _ (Op.indexAddr 198 _ _) _ _ _ none) _ _ _ _; first | (refine O_index ar198 rfl rfl (by omega) ?_))
              | (guard_target =~ WO _ _ (Oper.mk _ (Op.indexAddr 197 _ _) _ _ _ none) _ _ _ _; first | (refine O_index ar197 rfl rfl (by omega) ?_))
              | (guard_target =~ WO _ _ (Oper.mk _ (Op.binOp BinOp.neq _ _ _ _) _ _ _ none) _ _ _ _; first | (refine O_bneq Samg.underlying4 rfl rfl ?_))
              | (guard_target =~ WO _ _ (Oper.mk _ (Op.binOp BinOp.add _ _ _ _) _ _ _ none) _ _ _ _; first | (refine O_add (b := 1) rfl rfl (by first | exact fit_i64 (by omega) | exact fit_u64 (by omega) | exact fit_u8 (by omega) | exact fit_i32 (by omega) | exact fit_u16 (by omega)) ?_) | (refine O_add (b := 4) rfl rfl (by first | exact fit_i64 (by omega) | exact fit_u64 (by omega) | exact fit_u8 (by omega) | exact fit_i32 (by omega) | exact fit_u16 (by omega)) ?_) | (refine O_add (b := 63) rfl rfl (by first | exact fit_i64 (by omega) | exact fit_u64 (by omega) | exact fit_u8 (by omega) | exact fit_i32 (by omega) | exact fit_u16 (by omega)) ?_))
              | (guard_target =~ WO _ _ (Oper.mk _ (Op.binOp BinOp.rem _ _ _ _) _ _ _ none) _ _ _ _; first | (refine O_rem (b := 5) rfl rfl (by omega) ?_) | (refine O_rem (b := 64) rfl rfl (by omega) ?_)))
            exact ⟨5 - (y + 1), by omega, y + 1, rfl, by omega, Has.mk ⟨rfl, rfl, rfl, rfl, rfl, rfl, trivial⟩, hM2, (by rw [show x * 320 + (y + 1) * 64 = x * 320 + y * 64 + 64 by omega]; exact ha2), hc2, hd2⟩
        · obtain rfl : y = 5 := by omega
          repeat (first
            | (refine L_cons ?_)
            | (refine R_cons rfl ?_)
            | (refine W_seq ?_)
            | (refine W_region (by kernel_rfl) ?_)
            | (refine L_nil ?_)
            | (refine R_nil ?_)
            | (refine W_block ?_)
            | (refine W_skip ?_)
            | (refine W_exit ?_)
            | (refine W_ret ?_)
            | (guard_target =~ thenQ _ _ _ _ _; first | (refine T_next ?_) | (refine T_exit ?_) | (refine T_ret ?_))
            | (guard_target =~ blockQ _ _ _ _ _; first | (refine B_next ?_) | (refine B_same ?_) | (refine B_other (by kernel_rfl) ?_) | (refine B_ret ?_))
            | (refine W_true rfl rfl ?_)
            | (refine W_false rfl rfl ?_)
            | (guard_target =~ WO _ _ (Oper.mk _ (Op.move _) _ _ _ none) _ _ _ _; first | (refine O_move (v := .int _ (Nat.cast (OfNat.ofNat 0))) rfl ?_) | (refine O_move (v := (.int _ (Nat.cast _))) rfl ?_) | (refine O_move (v := (.bool _)) rfl ?_) | (refine O_move (v := (.pointer _)) rfl ?_) | (refine O_move (v := (.slice _ _ _)) rfl ?_) | (refine O_move (v := (.agg _)) rfl ?_) | (refine O_move (v := (.tuple _)) rfl ?_) | (refine O_move (v := (.int _ _)) rfl ?_))
            | (guard_target =~ WO _ _ (Oper.mk _ (Op.binOp BinOp.lss _ _ _ _) _ _ _ none) _ _ _ _; first | (refine O_lss_t (b := 5) rfl rfl (by omega) ?_) | (refine O_lss_f (b := 5) rfl rfl (by omega) ?_) | (refine O_lss (b := 5) rfl rfl ?_) | (refine O_lss_t (b := 64) rfl rfl (by omega) ?_) | (refine O_lss_f (b := 64) rfl rfl (by omega) ?_) | (refine O_lss (b := 64) rfl rfl ?_))
            | (guard_target =~ WO _ _ (Oper.mk _ (Op.assign _) _ _ _ none) _ _ _ _; first | (refine O_assign (v := (.int _ (Nat.cast _))) rfl ?_) | (refine O_assign (v := (.bool _)) rfl ?_) | (refine O_assign (v := (.pointer _)) rfl ?_) | (refine O_assign (v := (.slice _ _ _)) rfl ?_) | (refine O_assign (v := (.agg _)) rfl ?_) | (refine O_assign (v := (.tuple _)) rfl ?_) | (refine O_assign (v := (.int _ _)) rfl ?_))
            | (guard_target =~ WO _ _ (Oper.mk _ (Op.nilCheck _) _ _ _ none) _ _ _ _; first | (refine O_nil rfl ?_))
            | (guard_target =~ WO _ _ (Oper.mk _ (Op.indexAddr 200 _ _) _ _ _ none) _ _ _ _; first | (refine O_index ar200 rfl rfl (by omega) ?_))
            | (guard_target =~ WO _ _ (Oper.mk _ (Op.indexAddr 198 _ _) _ _ _ none) _ _ _ _; first | (refine O_index ar198 rfl rfl (by omega) ?_))
            | (guard_target =~ WO _ _ (Oper.mk _ (Op.indexAddr 197 _ _) _ _ _ none) _ _ _ _; first | (refine O_index ar197 rfl rfl (by omega) ?_))
            | (guard_target =~ WO _ _ (Oper.mk _ (Op.binOp BinOp.neq _ _ _ _) _ _ _ none) _ _ _ _; first | (refine O_bneq Samg.underlying4 rfl rfl ?_))
            | (guard_target =~ WO _ _ (Oper.mk _ (Op.binOp BinOp.add _ _ _ _) _ _ _ none) _ _ _ _; first | (refine O_add (b := 1) rfl rfl (by first | exact fit_i64 (by omega) | exact fit_u64 (by omega) | exact fit_u8 (by omega) | exact fit_i32 (by omega) | exact fit_u16 (by omega)) ?_) | (refine O_add (b := 4) rfl rfl (by first | exact fit_i64 (by omega) | exact fit_u64 (by omega) | exact fit_u8 (by omega) | exact fit_i32 (by omega) | exact fit_u16 (by omega)) ?_) | (refine O_add (b := 63) rfl rfl (by first | exact fit_i64 (by omega) | exact fit_u64 (by omega) | exact fit_u8 (by omega) | exact fit_i32 (by omega) | exact fit_u16 (by omega)) ?_))
            | (guard_target =~ WO _ _ (Oper.mk _ (Op.binOp BinOp.rem _ _ _ _) _ _ _ none) _ _ _ _; first | (refine O_rem (b := 5) rfl rfl (by omega) ?_) | (refine O_rem (b := 64) rfl rfl (by omega) ?_)))
          exact ⟨5 - (x + 1), by omega, x + 1, rfl, by omega, Has.mk ⟨rfl, rfl, rfl, trivial⟩, hM2, (by rw [show (x + 1) * 320 = x * 320 + 5 * 64 by omega]; exact ha2), hc2⟩
    · obtain rfl : x = 5 := by omega
      repeat (first
        | (refine L_cons ?_)
        | (refine R_cons rfl ?_)
        | (refine W_seq ?_)
        | (refine W_region (by kernel_rfl) ?_)
        | (refine L_nil ?_)
        | (refine R_nil ?_)
        | (refine W_block ?_)
        | (refine W_skip ?_)
        | (refine W_exit ?_)
        | (refine W_ret ?_)
        | (guard_target =~ thenQ _ _ _ _ _; first | (refine T_next ?_) | (refine T_exit ?_) | (refine T_ret ?_))
        | (guard_target =~ blockQ _ _ _ _ _; first | (refine B_next ?_) | (refine B_same ?_) | (refine B_other (by kernel_rfl) ?_) | (refine B_ret ?_))
        | (refine W_true rfl rfl ?_)
        | (refine W_false rfl rfl ?_)
        | (guard_target =~ WO _ _ (Oper.mk _ (Op.move _) _ _ _ none) _ _ _ _; first | (refine O_move (v := .int _ (Nat.cast (OfNat.ofNat 0))) rfl ?_) | (refine O_move (v := (.int _ (Nat.cast _))) rfl ?_) | (refine O_move (v := (.bool _)) rfl ?_) | (refine O_move (v := (.pointer _)) rfl ?_) | (refine O_move (v := (.slice _ _ _)) rfl ?_) | (refine O_move (v := (.agg _)) rfl ?_) | (refine O_move (v := (.tuple _)) rfl ?_) | (refine O_move (v := (.int _ _)) rfl ?_))
        | (guard_target =~ WO _ _ (Oper.mk _ (Op.binOp BinOp.lss _ _ _ _) _ _ _ none) _ _ _ _; first | (refine O_lss_t (b := 5) rfl rfl (by omega) ?_) | (refine O_lss_f (b := 5) rfl rfl (by omega) ?_) | (refine O_lss (b := 5) rfl rfl ?_) | (refine O_lss_t (b := 64) rfl rfl (by omega) ?_) | (refine O_lss_f (b := 64) rfl rfl (by omega) ?_) | (refine O_lss (b := 64) rfl rfl ?_))
        | (guard_target =~ WO _ _ (Oper.mk _ (Op.assign _) _ _ _ none) _ _ _ _; first | (refine O_assign (v := (.int _ (Nat.cast _))) rfl ?_) | (refine O_assign (v := (.bool _)) rfl ?_) | (refine O_assign (v := (.pointer _)) rfl ?_) | (refine O_assign (v := (.slice _ _ _)) rfl ?_) | (refine O_assign (v := (.agg _)) rfl ?_) | (refine O_assign (v := (.tuple _)) rfl ?_) | (refine O_assign (v := (.int _ _)) rfl ?_))
        | (guard_target =~ WO _ _ (Oper.mk _ (Op.nilCheck _) _ _ _ none) _ _ _ _; first | (refine O_nil rfl ?_))
        | (guard_target =~ WO _ _ (Oper.mk _ (Op.indexAddr 200 _ _) _ _ _ none) _ _ _ _; first | (refine O_index ar200 rfl rfl (by omega) ?_))
        | (guard_target =~ WO _ _ (Oper.mk _ (Op.indexAddr 198 _ _) _ _ _ none) _ _ _ _; first | (refine O_index ar198 rfl rfl (by omega) ?_))
        | (guard_target =~ WO _ _ (Oper.mk _ (Op.indexAddr 197 _ _) _ _ _ none) _ _ _ _; first | (refine O_index ar197 rfl rfl (by omega) ?_))
        | (guard_target =~ WO _ _ (Oper.mk _ (Op.binOp BinOp.neq _ _ _ _) _ _ _ none) _ _ _ _; first | (refine O_bneq Samg.underlying4 rfl rfl ?_))
        | (guard_target =~ WO _ _ (Oper.mk _ (Op.binOp BinOp.add _ _ _ _) _ _ _ none) _ _ _ _; first | (refine O_add (b := 1) rfl rfl (by first | exact fit_i64 (by omega) | exact fit_u64 (by omega) | exact fit_u8 (by omega) | exact fit_i32 (by omega) | exact fit_u16 (by omega)) ?_) | (refine O_add (b := 4) rfl rfl (by first | exact fit_i64 (by omega) | exact fit_u64 (by omega) | exact fit_u8 (by omega) | exact fit_i32 (by omega) | exact fit_u16 (by omega)) ?_) | (refine O_add (b := 63) rfl rfl (by first | exact fit_i64 (by omega) | exact fit_u64 (by omega) | exact fit_u8 (by omega) | exact fit_i32 (by omega) | exact fit_u16 (by omega)) ?_))
        | (guard_target =~ WO _ _ (Oper.mk _ (Op.binOp BinOp.rem _ _ _ _) _ _ _ none) _ _ _ _; first | (refine O_rem (b := 5) rfl rfl (by omega) ?_) | (refine O_rem (b := 64) rfl rfl (by omega) ?_)))
      refine E_end0 rfl ⟨rfl, ?_, ?_⟩
      · exact ⟨hM1.os, hM1.tape, hM1.output, hM1.size, fun k hk hn => hM1.block k hk (by simp at hn ⊢; omega)⟩
      · rw [bs_congr (g := tK a (5 * 320)) (fun i hi => by rw [tK, if_pos (by omega)])]; exact ha1
end Go.Proofs.Ygcsam
