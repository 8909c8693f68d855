import Derived.Test.YgcsamK5
import Derived.Test.YgcsamRule3
namespace Go.Proofs.Ygcsam
set_option linter.unusedVariables false
set_option maxHeartbeats 1000000

/-- Where bit i of the string lies in the state, and back. -/
def tau (i : Nat) : Nat := i / 64 % 5 * 320 + i / 320 * 64 + i % 64
theorem tau_lt {i : Nat} (h : i < 1600) : tau i < 1600 := by unfold tau; omega
theorem tau_tau {i : Nat} (h : i < 1600) : tau (tau i) = i := by
  unfold tau
  have h1 : (i / 64 % 5 * 320 + i / 320 * 64 + i % 64) / 64 = i / 64 % 5 * 5 + i / 320 := by omega
  have h2 : (i / 64 % 5 * 320 + i / 320 * 64 + i % 64) / 320 = i / 64 % 5 := by omega
  have h3 : (i / 64 % 5 * 320 + i / 320 * 64 + i % 64) % 64 = i % 64 := by omega
  have h5 : i / 320 = i / 64 / 5 := by rw [Nat.div_div_eq_div_mul]
  have h4 : (i / 64 % 5 * 5 + i / 320) % 5 = i / 64 / 5 := by
    rw [h5]
    have hq : i / 64 < 25 := by omega
    generalize i / 64 = q at hq ⊢
    omega
  rw [h1, h2, h3, h4]
  omega
def gK (f : Nat → Bool) (k : Nat) : Nat → Bool := fun j => if tau j < k then f (tau j) else false
theorem gK_succ {f : Nat → Bool} {i : Nat} (hi : i < 1600) : bs 1600 (upb (gK f i) (0 + i / 64 % 5 * 320 + i / 320 * 64 + i % 64 * 1) (f (0 + i * 1))) = bs 1600 (gK f (i + 1)) := by
  have e1 : 0 + i / 64 % 5 * 320 + i / 320 * 64 + i % 64 * 1 = tau i := by unfold tau; omega
  have e2 : 0 + i * 1 = i := by omega
  rw [e1, e2]
  refine bs_congr fun j hj => ?_
  simp only [upb, gK]
  by_cases h : j = tau i
  · subst h; rw [if_pos rfl, tau_tau hi, if_pos (by omega)]
  · have hn : tau j ≠ i := fun h' => h (by rw [← h', tau_tau hj])
    rw [if_neg h]
    by_cases h2 : tau j < i
    · rw [if_pos h2, if_pos (by omega)]
    · rw [if_neg h2, if_neg (by omega)]
def oneRound (i : Nat) (a : Nat → Bool) : Nat → Bool := iotaB (rcAt i 7) (chiB (piB (rhoB (thetaB a))))
def rounds (a : Nat → Bool) : Nat → Nat → Bool
  | 0 => a
  | i + 1 => oneRound i (rounds a i)
def permB (f : Nat → Bool) : Nat → Bool := fun i => rounds (gK f 1600) 24 (tau i)
def qK (f : Nat → Bool) (k : Nat) : Nat → Bool := fun i => if i < k then permB f i else f i
theorem qK_succ {f : Nat → Bool} {i : Nat} (hi : i < 1600) : upb (qK f i) (0 + i * 1) (rounds (gK f 1600) 24 (0 + i / 64 % 5 * 320 + i / 320 * 64 + i % 64 * 1)) = qK f (i + 1) := by
  have e1 : 0 + i / 64 % 5 * 320 + i / 320 * 64 + i % 64 * 1 = tau i := by unfold tau; omega
  have e2 : 0 + i * 1 = i := by omega
  rw [e1, e2]
  funext j
  simp only [upb, qK]
  by_cases h : j = i
  · subst h; rw [if_pos rfl, if_pos (by omega), permB]
  · rw [if_neg h]
    by_cases h2 : j < i
    · rw [if_pos h2, if_pos (by omega)]
    · rw [if_neg h2, if_neg (by omega)]

theorem bs_over {n : Nat} {f g : Nat → Bool} : bs n (fun j => if 0 ≤ j ∧ j < 0 + n then g (j - 0) else f j) = bs n g :=
  bs_congr fun i hi => by rw [if_pos (by omega), Nat.sub_zero]

theorem F_ok {bS : Nat} {f : Nat → Bool} {tb : TypeId} {w : World} (hb : Blk w bS (bs 1600 f) tb) :
    Ret Samg.prog 77 #[.pointer (some ⟨bS, 0, none⟩)] w fun v w' => v = .tuple #[] ∧ Mod [bS] w w' ∧ Blk w' bS (bs 1600 (permB f)) tb := by
  refine W_enter (l := [.pointer (some ⟨bS, 0, none⟩)]) Samg.func77 rfl Samg.ntmps77 rfl ?_
  repeat (first
    | (refine L_cons ?_)
    | (refine R_cons rfl ?_)
    | (refine W_seq ?_)
    | (refine W_region (by kernel_rfl) ?_)
    | (refine L_nil ?_)
    | (refine R_nil ?_)
    | (refine W_block ?_)
    | (refine W_skip ?_)
    | (refine W_exit ?_)
    | (refine W_ret ?_)
    | (guard_target =~ thenQ _ _ _ _ _; first | (refine T_next ?_) | (refine T_exit ?_) | (refine T_ret ?_))
    | (guard_target =~ blockQ _ _ _ _ _; first | (refine B_next ?_) | (refine B_same ?_) | (refine B_other (by kernel_rfl) ?_) | (refine B_ret ?_))
    | (refine W_true rfl rfl ?_)
    | (refine W_false rfl rfl ?_)
    | (guard_target =~ WO _ _ (Oper.mk _ (Op.binOp BinOp.eql 144 _ _ _) _ _ _ none) _ _ _ _; first | (refine O_eqnil Samg.underlying144 rfl rfl ?_))
    | (guard_target =~ WO _ _ (Oper.mk _ (Op.move _) _ _ _ none) _ _ _ _; first | (refine O_move (v := (.int _ (Nat.cast _))) rfl ?_) | (refine O_move (v := (.bool _)) rfl ?_) | (refine O_move (v := (.pointer _)) rfl ?_) | (refine O_move (v := (.slice _ _ _)) rfl ?_) | (refine O_move (v := (.agg _)) rfl ?_) | (refine O_move (v := (.tuple _)) rfl ?_) | (refine O_move (v := (.int _ _)) rfl ?_) | (refine O_move (v := .int _ (Nat.cast (OfNat.ofNat 0))) rfl ?_))
    | (guard_target =~ WO _ _ (Oper.mk _ (Op.binOp BinOp.lss _ _ _ _) _ _ _ none) _ _ _ _; first | (refine O_lss_t (b := 1600) rfl rfl (by omega) ?_) | (refine O_lss_f (b := 1600) rfl rfl (by omega) ?_) | (refine O_lss (b := 1600) rfl rfl ?_) | (refine O_lss_t (b := 24) rfl rfl (by omega) ?_) | (refine O_lss_f (b := 24) rfl rfl (by omega) ?_) | (refine O_lss (b := 24) rfl rfl ?_))
    | (guard_target =~ WO _ _ (Oper.mk _ (Op.nilCheck _) _ _ _ none) _ _ _ _; first | (refine O_nil rfl ?_))
    | (guard_target =~ WO _ _ (Oper.mk _ (Op.indexAddr 142 _ _) _ _ _ none) _ _ _ _; first | (refine O_index ar142 rfl rfl (by omega) ?_))
    | (guard_target =~ WO _ _ (Oper.mk _ (Op.assign _) _ _ _ none) _ _ _ _; first | (refine O_assign (v := (.int _ (Nat.cast _))) rfl ?_) | (refine O_assign (v := (.bool _)) rfl ?_) | (refine O_assign (v := (.pointer _)) rfl ?_) | (refine O_assign (v := (.slice _ _ _)) rfl ?_) | (refine O_assign (v := (.agg _)) rfl ?_) | (refine O_assign (v := (.tuple _)) rfl ?_) | (refine O_assign (v := (.int _ _)) rfl ?_) | (refine O_assign (v := .int _ (Nat.cast (OfNat.ofNat 0))) rfl ?_))
    | (guard_target =~ WO _ _ (Oper.mk _ (Op.binOp BinOp.quo _ _ _ _) _ _ _ none) _ _ _ _; first | (refine O_quo (b := 64) rfl rfl (by first | exact fit_i64 (by omega) | exact fit_u64 (by omega) | exact fit_u8 (by omega) | exact fit_i32 (by omega) | exact fit_u16 (by omega)) (by omega) ?_) | (refine O_quo (b := 320) rfl rfl (by first | exact fit_i64 (by omega) | exact fit_u64 (by omega) | exact fit_u8 (by omega) | exact fit_i32 (by omega) | exact fit_u16 (by omega)) (by omega) ?_))
    | (guard_target =~ WO _ _ (Oper.mk _ (Op.binOp BinOp.rem _ _ _ _) _ _ _ none) _ _ _ _; first | (refine O_rem (b := 5) rfl rfl (by omega) ?_) | (refine O_rem (b := 64) rfl rfl (by omega) ?_))
    | (guard_target =~ WO _ _ (Oper.mk _ (Op.indexAddr 200 _ _) _ _ _ none) _ _ _ _; first | (refine O_index ar200 rfl rfl (by omega) ?_))
    | (guard_target =~ WO _ _ (Oper.mk _ (Op.indexAddr 198 _ _) _ _ _ none) _ _ _ _; first | (refine O_index ar198 rfl rfl (by omega) ?_))
    | (guard_target =~ WO _ _ (Oper.mk _ (Op.indexAddr 197 _ _) _ _ _ none) _ _ _ _; first | (refine O_index ar197 rfl rfl (by omega) ?_))
    | (guard_target =~ WO _ _ (Oper.mk _ (Op.binOp BinOp.add _ _ _ _) _ _ _ none) _ _ _ _; first | (refine O_add (b := 1) rfl rfl (by first | exact fit_i64 (by omega) | exact fit_u64 (by omega) | exact fit_u8 (by omega) | exact fit_i32 (by omega) | exact fit_u16 (by omega)) ?_)))
  refine O_alloc_agg z200 fun w1 hE1 hs1 ha1 => ?_
  have hS1 := hb.ext hE1
  have hne : bS ≠ w.heap.size := Nat.ne_of_lt hb.lt
  obtain ⟨ba, hba⟩ : ∃ b, b = w.heap.size := ⟨_, rfl⟩
  have hge : w.heap.size ≤ ba := by omega
  rw [← hba] at ha1 hne ⊢
  have hM1 : Mod [bS, ba] w w1 := hE1.mod _
  clear hba hs1 hE1
  repeat (first
    | (refine L_cons ?_)
    | (refine R_cons rfl ?_)
    | (refine W_seq ?_)
    | (refine W_region (by kernel_rfl) ?_)
    | (refine L_nil ?_)
    | (refine R_nil ?_)
    | (refine W_block ?_)
    | (refine W_skip ?_)
    | (refine W_exit ?_)
    | (refine W_ret ?_)
    | (guard_target =~ thenQ _ _ _ _ _; first | (refine T_next ?_) | (refine T_exit ?_) | (refine T_ret ?_))
    | (guard_target =~ blockQ _ _ _ _ _; first | (refine B_next ?_) | (refine B_same ?_) | (refine B_other (by kernel_rfl) ?_) | (refine B_ret ?_))
    | (refine W_true rfl rfl ?_)
    | (refine W_false rfl rfl ?_)
    | (guard_target =~ WO _ _ (Oper.mk _ (Op.move _) _ _ _ none) _ _ _ _; first | (refine O_move (v := (.int _ (Nat.cast _))) rfl ?_) | (refine O_move (v := (.bool _)) rfl ?_) | (refine O_move (v := (.pointer _)) rfl ?_) | (refine O_move (v := (.slice _ _ _)) rfl ?_) | (refine O_move (v := (.agg _)) rfl ?_) | (refine O_move (v := (.tuple _)) rfl ?_) | (refine O_move (v := (.int _ _)) rfl ?_) | (refine O_move (v := .int _ (Nat.cast (OfNat.ofNat 0))) rfl ?_))
    | (guard_target =~ WO _ _ (Oper.mk _ (Op.binOp BinOp.lss _ _ _ _) _ _ _ none) _ _ _ _; first | (refine O_lss_t (b := 1600) rfl rfl (by omega) ?_) | (refine O_lss_f (b := 1600) rfl rfl (by omega) ?_) | (refine O_lss (b := 1600) rfl rfl ?_) | (refine O_lss_t (b := 24) rfl rfl (by omega) ?_) | (refine O_lss_f (b := 24) rfl rfl (by omega) ?_) | (refine O_lss (b := 24) rfl rfl ?_))
    | (guard_target =~ WO _ _ (Oper.mk _ (Op.nilCheck _) _ _ _ none) _ _ _ _; first | (refine O_nil rfl ?_))
    | (guard_target =~ WO _ _ (Oper.mk _ (Op.indexAddr 142 _ _) _ _ _ none) _ _ _ _; first | (refine O_index ar142 rfl rfl (by omega) ?_))
    | (guard_target =~ WO _ _ (Oper.mk _ (Op.assign _) _ _ _ none) _ _ _ _; first | (refine O_assign (v := (.int _ (Nat.cast _))) rfl ?_) | (refine O_assign (v := (.bool _)) rfl ?_) | (refine O_assign (v := (.pointer _)) rfl ?_) | (refine O_assign (v := (.slice _ _ _)) rfl ?_) | (refine O_assign (v := (.agg _)) rfl ?_) | (refine O_assign (v := (.tuple _)) rfl ?_) | (refine O_assign (v := (.int _ _)) rfl ?_) | (refine O_assign (v := .int _ (Nat.cast (OfNat.ofNat 0))) rfl ?_))
    | (guard_target =~ WO _ _ (Oper.mk _ (Op.binOp BinOp.quo _ _ _ _) _ _ _ none) _ _ _ _; first | (refine O_quo (b := 64) rfl rfl (by first | exact fit_i64 (by omega) | exact fit_u64 (by omega) | exact fit_u8 (by omega) | exact fit_i32 (by omega) | exact fit_u16 (by omega)) (by omega) ?_) | (refine O_quo (b := 320) rfl rfl (by first | exact fit_i64 (by omega) | exact fit_u64 (by omega) | exact fit_u8 (by omega) | exact fit_i32 (by omega) | exact fit_u16 (by omega)) (by omega) ?_))
    | (guard_target =~ WO _ _ (Oper.mk _ (Op.binOp BinOp.rem _ _ _ _) _ _ _ none) _ _ _ _; first | (refine O_rem (b := 5) rfl rfl (by omega) ?_) | (refine O_rem (b := 64) rfl rfl (by omega) ?_))
    | (guard_target =~ WO _ _ (Oper.mk _ (Op.indexAddr 200 _ _) _ _ _ none) _ _ _ _; first | (refine O_index ar200 rfl rfl (by omega) ?_))
    | (guard_target =~ WO _ _ (Oper.mk _ (Op.indexAddr 198 _ _) _ _ _ none) _ _ _ _; first | (refine O_index ar198 rfl rfl (by omega) ?_))
    | (guard_target =~ WO _ _ (Oper.mk _ (Op.indexAddr 197 _ _) _ _ _ none) _ _ _ _; first | (refine O_index ar197 rfl rfl (by omega) ?_))
    | (guard_target =~ WO _ _ (Oper.mk _ (Op.binOp BinOp.add _ _ _ _) _ _ _ none) _ _ _ _; first | (refine O_add (b := 1) rfl rfl (by first | exact fit_i64 (by omega) | exact fit_u64 (by omega) | exact fit_u8 (by omega) | exact fit_i32 (by omega) | exact fit_u16 (by omega)) ?_)))
  refine W_loop (fun k ρ w' => ∃ i, k = 1600 - i ∧ i ≤ 1600 ∧ Has ρ [(0, .pointer (some ⟨bS, 0, none⟩)), (2, .pointer (some ⟨ba, 0, none⟩)), (11, .pointer (some ⟨bS, 0, none⟩)), (12, .int .i64 (i : Nat))] ∧
    Mod [bS, ba] w w' ∧ Blk w' bS (bs 1600 f) tb ∧ Blk w' ba (bs 1600 (gK f i)) 200) 1600 ?_ ?_
  · refine ⟨0, by omega, by omega, Has.mk ⟨rfl, rfl, rfl, rfl, trivial⟩, hM1, hS1, ?_⟩
    rw [bs_congr (g := fun _ => false) (fun i _ => by simp [gK])]; exact ha1
  clear hM1 hS1 ha1 w1
  rintro k _ w1 ⟨i, rfl, hi, ⟨σ, rfl⟩, hM1, hS1, ha1⟩
  by_cases hlt : i < 1600
  · repeat (first
      | (refine L_cons ?_)
      | (refine R_cons rfl ?_)
      | (refine W_seq ?_)
      | (refine W_region (by kernel_rfl) ?_)
      | (refine L_nil ?_)
      | (refine R_nil ?_)
      | (refine W_block ?_)
      | (refine W_skip ?_)
      | (refine W_exit ?_)
      | (refine W_ret ?_)
      | (guard_target =~ thenQ _ _ _ _ _; first | (refine T_next ?_) | (refine T_exit ?_) | (refine T_ret ?_))
      | (guard_target =~ blockQ _ _ _ _ _; first | (refine B_next ?_) | (refine B_same ?_) | (refine B_other (by kernel_rfl) ?_) | (refine B_ret ?_))
      | (refine W_true rfl rfl ?_)
      | (refine W_false rfl rfl ?_)
      | (guard_target =~ WO _ _ (Oper.mk _ (Op.move _) _ _ _ none) _ _ _ _; first | (refine O_move (v := (.int _ (Nat.cast _))) rfl ?_) | (refine O_move (v := (.bool _)) rfl ?_) | (refine O_move (v := (.pointer _)) rfl ?_) | (refine O_move (v := (.slice _ _ _)) rfl ?_) | (refine O_move (v := (.agg _)) rfl ?_) | (refine O_move (v := (.tuple _)) rfl ?_) | (refine O_move (v := (.int _ _)) rfl ?_) | (refine O_move (v := .int _ (Nat.cast (OfNat.ofNat 0))) rfl ?_))
      | (guard_target =~ WO _ _ (Oper.mk _ (Op.binOp BinOp.lss _ _ _ _) _ _ _ none) _ _ _ _; first | (refine O_lss_t (b := 1600) rfl rfl (by omega) ?_) | (refine O_lss_f (b := 1600) rfl rfl (by omega) ?_) | (refine O_lss (b := 1600) rfl rfl ?_) | (refine O_lss_t (b := 24) rfl rfl (by omega) ?_) | (refine O_lss_f (b := 24) rfl rfl (by omega) ?_) | (refine O_lss (b := 24) rfl rfl ?_))
      | (guard_target =~ WO _ _ (Oper.mk _ (Op.nilCheck _) _ _ _ none) _ _ _ _; first | (refine O_nil rfl ?_))
      | (guard_target =~ WO _ _ (Oper.mk _ (Op.indexAddr 142 _ _) _ _ _ none) _ _ _ _; first | (refine O_index ar142 rfl rfl (by omega) ?_))
      | (guard_target =~ WO _ _ (Oper.mk _ (Op.assign _) _ _ _ none) _ _ _ _; first | (refine O_assign (v := (.int _ (Nat.cast _))) rfl ?_) | (refine O_assign (v := (.bool _)) rfl ?_) | (refine O_assign (v := (.pointer _)) rfl ?_) | (refine O_assign (v := (.slice _ _ _)) rfl ?_) | (refine O_assign (v := (.agg _)) rfl ?_) | (refine O_assign (v := (.tuple _)) rfl ?_) | (refine O_assign (v := (.int _ _)) rfl ?_) | (refine O_assign (v := .int _ (Nat.cast (OfNat.ofNat 0))) rfl ?_))
      | (guard_target =~ WO _ _ (Oper.mk _ (Op.binOp BinOp.quo _ _ _ _) _ _ _ none) _ _ _ _; first | (refine O_quo (b := 64) rfl rfl (by first | exact fit_i64 (by omega) | exact fit_u64 (by omega) | exact fit_u8 (by omega) | exact fit_i32 (by omega) | exact fit_u16 (by omega)) (by omega) ?_) | (refine O_quo (b := 320) rfl rfl (by first | exact fit_i64 (by omega) | exact fit_u64 (by omega) | exact fit_u8 (by omega) | exact fit_i32 (by omega) | exact fit_u16 (by omega)) (by omega) ?_))
      | (guard_target =~ WO _ _ (Oper.mk _ (Op.binOp BinOp.rem _ _ _ _) _ _ _ none) _ _ _ _; first | (refine O_rem (b := 5) rfl rfl (by omega) ?_) | (refine O_rem (b := 64) rfl rfl (by omega) ?_))
      | (guard_target =~ WO _ _ (Oper.mk _ (Op.indexAddr 200 _ _) _ _ _ none) _ _ _ _; first | (refine O_index ar200 rfl rfl (by omega) ?_))
      | (guard_target =~ WO _ _ (Oper.mk _ (Op.indexAddr 198 _ _) _ _ _ none) _ _ _ _; first | (refine O_index ar198 rfl rfl (by omega) ?_))
      | (guard_target =~ WO _ _ (Oper.mk _ (Op.indexAddr 197 _ _) _ _ _ none) _ _ _ _; first | (refine O_index ar197 rfl rfl (by omega) ?_))
      | (guard_target =~ WO _ _ (Oper.mk _ (Op.binOp BinOp.add _ _ _ _) _ _ _ none) _ _ _ _; first | (refine O_add (b := 1) rfl rfl (by first | exact fit_i64 (by omega) | exact fit_u64 (by omega) | exact fit_u8 (by omega) | exact fit_i32 (by omega) | exact fit_u16 (by omega)) ?_)))
    refine W_drawn [] [0, 1, 2, 3, 4, 5] mixed (by kernel_rfl) (by kernel_rfl) ?_
    repeat (first
      | (refine L_cons ?_)
      | (refine R_cons rfl ?_)
      | (refine W_seq ?_)
      | (refine W_region (by kernel_rfl) ?_)
      | (refine L_nil ?_)
      | (refine R_nil ?_)
      | (refine W_block ?_)
      | (refine W_skip ?_)
      | (refine W_exit ?_)
      | (refine W_ret ?_)
      | (guard_target =~ thenQ _ _ _ _ _; first | (refine T_next ?_) | (refine T_exit ?_) | (refine T_ret ?_))
      | (guard_target =~ blockQ _ _ _ _ _; first | (refine B_next ?_) | (refine B_same ?_) | (refine B_other (by kernel_rfl) ?_) | (refine B_ret ?_))
      | (refine W_true rfl rfl ?_)
      | (refine W_false rfl rfl ?_)
      | (guard_target =~ WO _ _ (Oper.mk _ (Op.load 4 _) _ _ _ none) _ _ _ _; first | (refine O_load_bs on4 rfl hS1.drew (by omega) ?_))
      | (guard_target =~ WO _ _ (Oper.mk _ (Op.move _) _ _ _ none) _ _ _ _; first | (refine O_move (v := (.int _ (Nat.cast _))) rfl ?_) | (refine O_move (v := (.bool _)) rfl ?_) | (refine O_move (v := (.pointer _)) rfl ?_) | (refine O_move (v := (.slice _ _ _)) rfl ?_) | (refine O_move (v := (.agg _)) rfl ?_) | (refine O_move (v := (.tuple _)) rfl ?_) | (refine O_move (v := (.int _ _)) rfl ?_) | (refine O_move (v := .int _ (Nat.cast (OfNat.ofNat 0))) rfl ?_))
      | (guard_target =~ WO _ _ (Oper.mk _ (Op.binOp BinOp.lss _ _ _ _) _ _ _ none) _ _ _ _; first | (refine O_lss_t (b := 1600) rfl rfl (by omega) ?_) | (refine O_lss_f (b := 1600) rfl rfl (by omega) ?_) | (refine O_lss (b := 1600) rfl rfl ?_) | (refine O_lss_t (b := 24) rfl rfl (by omega) ?_) | (refine O_lss_f (b := 24) rfl rfl (by omega) ?_) | (refine O_lss (b := 24) rfl rfl ?_))
      | (guard_target =~ WO _ _ (Oper.mk _ (Op.nilCheck _) _ _ _ none) _ _ _ _; first | (refine O_nil rfl ?_))
      | (guard_target =~ WO _ _ (Oper.mk _ (Op.indexAddr 142 _ _) _ _ _ none) _ _ _ _; first | (refine O_index ar142 rfl rfl (by omega) ?_))
      | (guard_target =~ WO _ _ (Oper.mk _ (Op.assign _) _ _ _ none) _ _ _ _; first | (refine O_assign (v := (.int _ (Nat.cast _))) rfl ?_) | (refine O_assign (v := (.bool _)) rfl ?_) | (refine O_assign (v := (.pointer _)) rfl ?_) | (refine O_assign (v := (.slice _ _ _)) rfl ?_) | (refine O_assign (v := (.agg _)) rfl ?_) | (refine O_assign (v := (.tuple _)) rfl ?_) | (refine O_assign (v := (.int _ _)) rfl ?_) | (refine O_assign (v := .int _ (Nat.cast (OfNat.ofNat 0))) rfl ?_))
      | (guard_target =~ WO _ _ (Oper.mk _ (Op.binOp BinOp.quo _ _ _ _) _ _ _ none) _ _ _ _; first | (refine O_quo (b := 64) rfl rfl (by first | exact fit_i64 (by omega) | exact fit_u64 (by omega) | exact fit_u8 (by omega) | exact fit_i32 (by omega) | exact fit_u16 (by omega)) (by omega) ?_) | (refine O_quo (b := 320) rfl rfl (by first | exact fit_i64 (by omega) | exact fit_u64 (by omega) | exact fit_u8 (by omega) | exact fit_i32 (by omega) | exact fit_u16 (by omega)) (by omega) ?_))
      | (guard_target =~ WO _ _ (Oper.mk _ (Op.binOp BinOp.rem _ _ _ _) _ _ _ none) _ _ _ _; first | (refine O_rem (b := 5) rfl rfl (by omega) ?_) | (refine O_rem (b := 64) rfl rfl (by omega) ?_))
      | (guard_target =~ WO _ _ (Oper.mk _ (Op.indexAddr 200 _ _) _ _ _ none) _ _ _ _; first | (refine O_index ar200 rfl rfl (by omega) ?_))
      | (guard_target =~ WO _ _ (Oper.mk _ (Op.indexAddr 198 _ _) _ _ _ none) _ _ _ _; first | (refine O_index ar198 rfl rfl (by omega) ?_))
      | (guard_target =~ WO _ _ (Oper.mk _ (Op.indexAddr 197 _ _) _ _ _ none) _ _ _ _; first | (refine O_index ar197 rfl rfl (by omega) ?_))
      | (guard_target =~ WO _ _ (Oper.mk _ (Op.binOp BinOp.add _ _ _ _) _ _ _ none) _ _ _ _; first | (refine O_add (b := 1) rfl rfl (by first | exact fit_i64 (by omega) | exact fit_u64 (by omega) | exact fit_u8 (by omega) | exact fit_i32 (by omega) | exact fit_u16 (by omega)) ?_)))
    refine O_store_bs on4 rfl rfl ha1.drew (by omega) rfl fun w2 hU => ?_
    have hU := hU.undrew
    rw [gK_succ hlt] at hU
    repeat (first
      | (refine L_cons ?_)
      | (refine R_cons rfl ?_)
      | (refine W_seq ?_)
      | (refine W_region (by kernel_rfl) ?_)
      | (refine L_nil ?_)
      | (refine R_nil ?_)
      | (refine W_block ?_)
      | (refine W_skip ?_)
      | (refine W_exit ?_)
      | (refine W_ret ?_)
      | (guard_target =~ thenQ _ _ _ _ _; first | (refine T_next ?_) | (refine T_exit ?_) | (refine T_ret ?_))
      | (guard_target =~ blockQ _ _ _ _ _; first | (refine B_next ?_) | (refine B_same ?_) | (refine B_other (by kernel_rfl) ?_) | (refine B_ret ?_))
      | (refine W_true rfl rfl ?_)
      | (refine W_false rfl rfl ?_)
      | (guard_target =~ WO _ _ (Oper.mk _ (Op.move _) _ _ _ none) _ _ _ _; first | (refine O_move (v := (.int _ (Nat.cast _))) rfl ?_) | (refine O_move (v := (.bool _)) rfl ?_) | (refine O_move (v := (.pointer _)) rfl ?_) | (refine O_move (v := (.slice _ _ _)) rfl ?_) | (refine O_move (v := (.agg _)) rfl ?_) | (refine O_move (v := (.tuple _)) rfl ?_) | (refine O_move (v := (.int _ _)) rfl ?_) | (refine O_move (v := .int _ (Nat.cast (OfNat.ofNat 0))) rfl ?_))
      | (guard_target =~ WO _ _ (Oper.mk _ (Op.binOp BinOp.lss _ _ _ _) _ _ _ none) _ _ _ _; first | (refine O_lss_t (b := 1600) rfl rfl (by omega) ?_) | (refine O_lss_f (b := 1600) rfl rfl (by omega) ?_) | (refine O_lss (b := 1600) rfl rfl ?_) | (refine O_lss_t (b := 24) rfl rfl (by omega) ?_) | (refine O_lss_f (b := 24) rfl rfl (by omega) ?_) | (refine O_lss (b := 24) rfl rfl ?_))
      | (guard_target =~ WO _ _ (Oper.mk _ (Op.nilCheck _) _ _ _ none) _ _ _ _; first | (refine O_nil rfl ?_))
      | (guard_target =~ WO _ _ (Oper.mk _ (Op.indexAddr 142 _ _) _ _ _ none) _ _ _ _; first | (refine O_index ar142 rfl rfl (by omega) ?_))
      | (guard_target =~ WO _ _ (Oper.mk _ (Op.assign _) _ _ _ none) _ _ _ _; first | (refine O_assign (v := (.int _ (Nat.cast _))) rfl ?_) | (refine O_assign (v := (.bool _)) rfl ?_) | (refine O_assign (v := (.pointer _)) rfl ?_) | (refine O_assign (v := (.slice _ _ _)) rfl ?_) | (refine O_assign (v := (.agg _)) rfl ?_) | (refine O_assign (v := (.tuple _)) rfl ?_) | (refine O_assign (v := (.int _ _)) rfl ?_) | (refine O_assign (v := .int _ (Nat.cast (OfNat.ofNat 0))) rfl ?_))
      | (guard_target =~ WO _ _ (Oper.mk _ (Op.binOp BinOp.quo _ _ _ _) _ _ _ none) _ _ _ _; first | (refine O_quo (b := 64) rfl rfl (by first | exact fit_i64 (by omega) | exact fit_u64 (by omega) | exact fit_u8 (by omega) | exact fit_i32 (by omega) | exact fit_u16 (by omega)) (by omega) ?_) | (refine O_quo (b := 320) rfl rfl (by first | exact fit_i64 (by omega) | exact fit_u64 (by omega) | exact fit_u8 (by omega) | exact fit_i32 (by omega) | exact fit_u16 (by omega)) (by omega) ?_))
      | (guard_target =~ WO _ _ (Oper.mk _ (Op.binOp BinOp.rem _ _ _ _) _ _ _ none) _ _ _ _; first | (refine O_rem (b := 5) rfl rfl (by omega) ?_) | (refine O_rem (b := 64) rfl rfl (by omega) ?_))
      | (guard_target =~ WO _ _ (Oper.mk _ (Op.indexAddr 200 _ _) _ _ _ none) _ _ _ _; first | (refine O_index ar200 rfl rfl (by omega) ?_))
      | (guard_target =~ WO _ _ (Oper.mk _ (Op.indexAddr 198 _ _) _ _ _ none) _ _ _ _; first | (refine O_index ar198 rfl rfl (by omega) ?_))
      | (guard_target =~ WO _ _ (Oper.mk _ (Op.indexAddr 197 _ _) _ _ _ none) _ _ _ _; first | (refine O_index ar197 rfl rfl (by omega) ?_))
      | (guard_target =~ WO _ _ (Oper.mk _ (Op.binOp BinOp.add _ _ _ _) _ _ _ none) _ _ _ _; first | (refine O_add (b := 1) rfl rfl (by first | exact fit_i64 (by omega) | exact fit_u64 (by omega) | exact fit_u8 (by omega) | exact fit_i32 (by omega) | exact fit_u16 (by omega)) ?_)))
    exact ⟨1600 - (i + 1), by omega, i + 1, rfl, by omega, Has.mk ⟨rfl, rfl, rfl, rfl, trivial⟩, hM1.trans' hU.mod (by simp), hS1.upd hU hne, hU.here⟩
  obtain rfl : i = 1600 := by omega
  repeat (first
    | (refine L_cons ?_)
    | (refine R_cons rfl ?_)
    | (refine W_seq ?_)
    | (refine W_region (by kernel_rfl) ?_)
    | (refine L_nil ?_)
    | (refine R_nil ?_)
    | (refine W_block ?_)
    | (refine W_skip ?_)
    | (refine W_exit ?_)
    | (refine W_ret ?_)
    | (guard_target =~ thenQ _ _ _ _ _; first | (refine T_next ?_) | (refine T_exit ?_) | (refine T_ret ?_))
    | (guard_target =~ blockQ _ _ _ _ _; first | (refine B_next ?_) | (refine B_same ?_) | (refine B_other (by kernel_rfl) ?_) | (refine B_ret ?_))
    | (refine W_true rfl rfl ?_)
    | (refine W_false rfl rfl ?_)
    | (guard_target =~ WO _ _ (Oper.mk _ (Op.move _) _ _ _ none) _ _ _ _; first | (refine O_move (v := (.int _ (Nat.cast _))) rfl ?_) | (refine O_move (v := (.bool _)) rfl ?_) | (refine O_move (v := (.pointer _)) rfl ?_) | (refine O_move (v := (.slice _ _ _)) rfl ?_) | (refine O_move (v := (.agg _)) rfl ?_) | (refine O_move (v := (.tuple _)) rfl ?_) | (refine O_move (v := (.int _ _)) rfl ?_) | (refine O_move (v := .int _ (Nat.cast (OfNat.ofNat 0))) rfl ?_))
    | (guard_target =~ WO _ _ (Oper.mk _ (Op.binOp BinOp.lss _ _ _ _) _ _ _ none) _ _ _ _; first | (refine O_lss_t (b := 1600) rfl rfl (by omega) ?_) | (refine O_lss_f (b := 1600) rfl rfl (by omega) ?_) | (refine O_lss (b := 1600) rfl rfl ?_) | (refine O_lss_t (b := 24) rfl rfl (by omega) ?_) | (refine O_lss_f (b := 24) rfl rfl (by omega) ?_) | (refine O_lss (b := 24) rfl rfl ?_))
    | (guard_target =~ WO _ _ (Oper.mk _ (Op.nilCheck _) _ _ _ none) _ _ _ _; first | (refine O_nil rfl ?_))
    | (guard_target =~ WO _ _ (Oper.mk _ (Op.indexAddr 142 _ _) _ _ _ none) _ _ _ _; first | (refine O_index ar142 rfl rfl (by omega) ?_))
    | (guard_target =~ WO _ _ (Oper.mk _ (Op.assign _) _ _ _ none) _ _ _ _; first | (refine O_assign (v := (.int _ (Nat.cast _))) rfl ?_) | (refine O_assign (v := (.bool _)) rfl ?_) | (refine O_assign (v := (.pointer _)) rfl ?_) | (refine O_assign (v := (.slice _ _ _)) rfl ?_) | (refine O_assign (v := (.agg _)) rfl ?_) | (refine O_assign (v := (.tuple _)) rfl ?_) | (refine O_assign (v := (.int _ _)) rfl ?_) | (refine O_assign (v := .int _ (Nat.cast (OfNat.ofNat 0))) rfl ?_))
    | (guard_target =~ WO _ _ (Oper.mk _ (Op.binOp BinOp.quo _ _ _ _) _ _ _ none) _ _ _ _; first | (refine O_quo (b := 64) rfl rfl (by first | exact fit_i64 (by omega) | exact fit_u64 (by omega) | exact fit_u8 (by omega) | exact fit_i32 (by omega) | exact fit_u16 (by omega)) (by omega) ?_) | (refine O_quo (b := 320) rfl rfl (by first | exact fit_i64 (by omega) | exact fit_u64 (by omega) | exact fit_u8 (by omega) | exact fit_i32 (by omega) | exact fit_u16 (by omega)) (by omega) ?_))
    | (guard_target =~ WO _ _ (Oper.mk _ (Op.binOp BinOp.rem _ _ _ _) _ _ _ none) _ _ _ _; first | (refine O_rem (b := 5) rfl rfl (by omega) ?_) | (refine O_rem (b := 64) rfl rfl (by omega) ?_))
    | (guard_target =~ WO _ _ (Oper.mk _ (Op.indexAddr 200 _ _) _ _ _ none) _ _ _ _; first | (refine O_index ar200 rfl rfl (by omega) ?_))
    | (guard_target =~ WO _ _ (Oper.mk _ (Op.indexAddr 198 _ _) _ _ _ none) _ _ _ _; first | (refine O_index ar198 rfl rfl (by omega) ?_))
    | (guard_target =~ WO _ _ (Oper.mk _ (Op.indexAddr 197 _ _) _ _ _ none) _ _ _ _; first | (refine O_index ar197 rfl rfl (by omega) ?_))
    | (guard_target =~ WO _ _ (Oper.mk _ (Op.binOp BinOp.add _ _ _ _) _ _ _ none) _ _ _ _; first | (refine O_add (b := 1) rfl rfl (by first | exact fit_i64 (by omega) | exact fit_u64 (by omega) | exact fit_u8 (by omega) | exact fit_i32 (by omega) | exact fit_u16 (by omega)) ?_)))
  refine W_loop (fun k ρ w' => ∃ i, k = 24 - i ∧ i ≤ 24 ∧ Has ρ [(0, .pointer (some ⟨bS, 0, none⟩)), (2, .pointer (some ⟨ba, 0, none⟩)), (5, .int .u8 (i : Nat))] ∧
    Mod [bS, ba] w w' ∧ Blk w' bS (bs 1600 f) tb ∧ Blk w' ba (bs 1600 (rounds (gK f 1600) i)) 200) 24 ?_ ?_
  · exact ⟨0, by omega, by omega, Has.mk ⟨rfl, rfl, rfl, trivial⟩, hM1, hS1, ha1⟩
  clear hM1 hS1 ha1 w1
  rintro k _ w1 ⟨i, rfl, hi, ⟨σ, rfl⟩, hM1, hS1, ha1⟩
  by_cases hlt : i < 24
  · repeat (first
      | (refine L_cons ?_)
      | (refine R_cons rfl ?_)
      | (refine W_seq ?_)
      | (refine W_region (by kernel_rfl) ?_)
      | (refine L_nil ?_)
      | (refine R_nil ?_)
      | (refine W_block ?_)
      | (refine W_skip ?_)
      | (refine W_exit ?_)
      | (refine W_ret ?_)
      | (guard_target =~ thenQ _ _ _ _ _; first | (refine T_next ?_) | (refine T_exit ?_) | (refine T_ret ?_))
      | (guard_target =~ blockQ _ _ _ _ _; first | (refine B_next ?_) | (refine B_same ?_) | (refine B_other (by kernel_rfl) ?_) | (refine B_ret ?_))
      | (refine W_true rfl rfl ?_)
      | (refine W_false rfl rfl ?_)
      | (guard_target =~ WO _ _ (Oper.mk _ (Op.move _) _ _ _ none) _ _ _ _; first | (refine O_move (v := (.int _ (Nat.cast _))) rfl ?_) | (refine O_move (v := (.bool _)) rfl ?_) | (refine O_move (v := (.pointer _)) rfl ?_) | (refine O_move (v := (.slice _ _ _)) rfl ?_) | (refine O_move (v := (.agg _)) rfl ?_) | (refine O_move (v := (.tuple _)) rfl ?_) | (refine O_move (v := (.int _ _)) rfl ?_) | (refine O_move (v := .int _ (Nat.cast (OfNat.ofNat 0))) rfl ?_))
      | (guard_target =~ WO _ _ (Oper.mk _ (Op.binOp BinOp.lss _ _ _ _) _ _ _ none) _ _ _ _; first | (refine O_lss_t (b := 1600) rfl rfl (by omega) ?_) | (refine O_lss_f (b := 1600) rfl rfl (by omega) ?_) | (refine O_lss (b := 1600) rfl rfl ?_) | (refine O_lss_t (b := 24) rfl rfl (by omega) ?_) | (refine O_lss_f (b := 24) rfl rfl (by omega) ?_) | (refine O_lss (b := 24) rfl rfl ?_))
      | (guard_target =~ WO _ _ (Oper.mk _ (Op.nilCheck _) _ _ _ none) _ _ _ _; first | (refine O_nil rfl ?_))
      | (guard_target =~ WO _ _ (Oper.mk _ (Op.indexAddr 142 _ _) _ _ _ none) _ _ _ _; first | (refine O_index ar142 rfl rfl (by omega) ?_))
      | (guard_target =~ WO _ _ (Oper.mk _ (Op.assign _) _ _ _ none) _ _ _ _; first | (refine O_assign (v := (.int _ (Nat.cast _))) rfl ?_) | (refine O_assign (v := (.bool _)) rfl ?_) | (refine O_assign (v := (.pointer _)) rfl ?_) | (refine O_assign (v := (.slice _ _ _)) rfl ?_) | (refine O_assign (v := (.agg _)) rfl ?_) | (refine O_assign (v := (.tuple _)) rfl ?_) | (refine O_assign (v := (.int _ _)) rfl ?_) | (refine O_assign (v := .int _ (Nat.cast (OfNat.ofNat 0))) rfl ?_))
      | (guard_target =~ WO _ _ (Oper.mk _ (Op.binOp BinOp.quo _ _ _ _) _ _ _ none) _ _ _ _; first | (refine O_quo (b := 64) rfl rfl (by first | exact fit_i64 (by omega) | exact fit_u64 (by omega) | exact fit_u8 (by omega) | exact fit_i32 (by omega) | exact fit_u16 (by omega)) (by omega) ?_) | (refine O_quo (b := 320) rfl rfl (by first | exact fit_i64 (by omega) | exact fit_u64 (by omega) | exact fit_u8 (by omega) | exact fit_i32 (by omega) | exact fit_u16 (by omega)) (by omega) ?_))
      | (guard_target =~ WO _ _ (Oper.mk _ (Op.binOp BinOp.rem _ _ _ _) _ _ _ none) _ _ _ _; first | (refine O_rem (b := 5) rfl rfl (by omega) ?_) | (refine O_rem (b := 64) rfl rfl (by omega) ?_))
      | (guard_target =~ WO _ _ (Oper.mk _ (Op.indexAddr 200 _ _) _ _ _ none) _ _ _ _; first | (refine O_index ar200 rfl rfl (by omega) ?_))
      | (guard_target =~ WO _ _ (Oper.mk _ (Op.indexAddr 198 _ _) _ _ _ none) _ _ _ _; first | (refine O_index ar198 rfl rfl (by omega) ?_))
      | (guard_target =~ WO _ _ (Oper.mk _ (Op.indexAddr 197 _ _) _ _ _ none) _ _ _ _; first | (refine O_index ar197 rfl rfl (by omega) ?_))
      | (guard_target =~ WO _ _ (Oper.mk _ (Op.binOp BinOp.add _ _ _ _) _ _ _ none) _ _ _ _; first | (refine O_add (b := 1) rfl rfl (by first | exact fit_i64 (by omega) | exact fit_u64 (by omega) | exact fit_u8 (by omega) | exact fit_i32 (by omega) | exact fit_u16 (by omega)) ?_)))
    refine O_call (l := [.pointer (some ⟨ba, 0, none⟩)]) cl109 (by rfl) ((theta_ok ha1).mono ?_)
    rintro v w2 ⟨rfl, hM0, ha2⟩
    refine ⟨nof, ?_⟩
    have hS2 := hS1.mod hM0 (by simpa using hne)
    have hM2 := hM1.trans' hM0 (by simp)
    clear hM0
    clear hM1 hS1 ha1 w1
    repeat (first
      | (refine L_cons ?_)
      | (refine R_cons rfl ?_)
      | (refine W_seq ?_)
      | (refine W_region (by kernel_rfl) ?_)
      | (refine L_nil ?_)
      | (refine R_nil ?_)
      | (refine W_block ?_)
      | (refine W_skip ?_)
      | (refine W_exit ?_)
      | (refine W_ret ?_)
      | (guard_target =~ thenQ _ _ _ _ _; first | (refine T_next ?_) | (refine T_exit ?_) | (refine T_ret ?_))
      | (guard_target =~ blockQ _ _ _ _ _; first | (refine B_next ?_) | (refine B_same ?_) | (refine B_other (by kernel_rfl) ?_) | (refine B_ret ?_))
      | (refine W_true rfl rfl ?_)
      | (refine W_false rfl rfl ?_)
      | (guard_target =~ WO _ _ (Oper.mk _ (Op.move _) _ _ _ none) _ _ _ _; first | (refine O_move (v := (.int _ (Nat.cast _))) rfl ?_) | (refine O_move (v := (.bool _)) rfl ?_) | (refine O_move (v := (.pointer _)) rfl ?_) | (refine O_move (v := (.slice _ _ _)) rfl ?_) | (refine O_move (v := (.agg _)) rfl ?_) | (refine O_move (v := (.tuple _)) rfl ?_) | (refine O_move (v := (.int _ _)) rfl ?_) | (refine O_move (v := .int _ (Nat.cast (OfNat.ofNat 0))) rfl ?_))
      | (guard_target =~ WO _ _ (Oper.mk _ (Op.binOp BinOp.lss _ _ _ _) _ _ _ none) _ _ _ _; first | (refine O_lss_t (b := 1600) rfl rfl (by omega) ?_) | (refine O_lss_f (b := 1600) rfl rfl (by omega) ?_) | (refine O_lss (b := 1600) rfl rfl ?_) | (refine O_lss_t (b := 24) rfl rfl (by omega) ?_) | (refine O_lss_f (b := 24) rfl rfl (by omega) ?_) | (refine O_lss (b := 24) rfl rfl ?_))
      | (guard_target =~ WO _ _ (Oper.mk _ (Op.nilCheck _) _ _ _ none) _ _ _ _; first | (refine O_nil rfl ?_))
      | (guard_target =~ WO _ _ (Oper.mk _ (Op.indexAddr 142 _ _) _ _ _ none) _ _ _ _; first | (refine O_index ar142 rfl rfl (by omega) ?_))
      | (guard_target =~ WO _ _ (Oper.mk _ (Op.assign _) _ _ _ none) _ _ _ _; first | (refine O_assign (v := (.int _ (Nat.cast _))) rfl ?_) | (refine O_assign (v := (.bool _)) rfl ?_) | (refine O_assign (v := (.pointer _)) rfl ?_) | (refine O_assign (v := (.slice _ _ _)) rfl ?_) | (refine O_assign (v := (.agg _)) rfl ?_) | (refine O_assign (v := (.tuple _)) rfl ?_) | (refine O_assign (v := (.int _ _)) rfl ?_) | (refine O_assign (v := .int _ (Nat.cast (OfNat.ofNat 0))) rfl ?_))
      | (guard_target =~ WO _ _ (Oper.mk _ (Op.binOp BinOp.quo _ _ _ _) _ _ _ none) _ _ _ _; first | (refine O_quo (b := 64) rfl rfl (by first | exact fit_i64 (by omega) | exact fit_u64 (by omega) | exact fit_u8 (by omega) | exact fit_i32 (by omega) | exact fit_u16 (by omega)) (by omega) ?_) | (refine O_quo (b := 320) rfl rfl (by first | exact fit_i64 (by omega) | exact fit_u64 (by omega) | exact fit_u8 (by omega) | exact fit_i32 (by omega) | exact fit_u16 (by omega)) (by omega) ?_))
      | (guard_target =~ WO _ _ (Oper.mk _ (Op.binOp BinOp.rem _ _ _ _) _ _ _ none) _ _ _ _; first | (refine O_rem (b := 5) rfl rfl (by omega) ?_) | (refine O_rem (b := 64) rfl rfl (by omega) ?_))
      | (guard_target =~ WO _ _ (Oper.mk _ (Op.indexAddr 200 _ _) _ _ _ none) _ _ _ _; first | (refine O_index ar200 rfl rfl (by omega) ?_))
      | (guard_target =~ WO _ _ (Oper.mk _ (Op.indexAddr 198 _ _) _ _ _ none) _ _ _ _; first | (refine O_index ar198 rfl rfl (by omega) ?_))
      | (guard_target =~ WO _ _ (Oper.mk _ (Op.indexAddr 197 _ _) _ _ _ none) _ _ _ _; first | (refine O_index ar197 rfl rfl (by omega) ?_))
      | (guard_target =~ WO _ _ (Oper.mk _ (Op.binOp BinOp.add _ _ _ _) _ _ _ none) _ _ _ _; first | (refine O_add (b := 1) rfl rfl (by first | exact fit_i64 (by omega) | exact fit_u64 (by omega) | exact fit_u8 (by omega) | exact fit_i32 (by omega) | exact fit_u16 (by omega)) ?_)))
    refine O_call (l := [.pointer (some ⟨ba, 0, none⟩)]) cl110 (by rfl) ((rho_ok ha2).mono ?_)
    rintro v w3 ⟨rfl, hE3⟩
    refine ⟨nof, ?_⟩
    have hS3 := hS2.ext hE3
    have ha3 := ha2.ext hE3
    have hM3 := hM2.trans (hE3.mod _)
    clear hM2 hS2 ha2 hE3 w2
    repeat (first
      | (refine L_cons ?_)
      | (refine R_cons rfl ?_)
      | (refine W_seq ?_)
      | (refine W_region (by kernel_rfl) ?_)
      | (refine L_nil ?_)
      | (refine R_nil ?_)
      | (refine W_block ?_)
      | (refine W_skip ?_)
      | (refine W_exit ?_)
      | (refine W_ret ?_)
      | (guard_target =~ thenQ _ _ _ _ _; first | (refine T_next ?_) | (refine T_exit ?_) | (refine T_ret ?_))
      | (guard_target =~ blockQ _ _ _ _ _; first | (refine B_next ?_) | (refine B_same ?_) | (refine B_other (by kernel_rfl) ?_) | (refine B_ret ?_))
      | (refine W_true rfl rfl ?_)
      | (refine W_false rfl rfl ?_)
      | (guard_target =~ WO _ _ (Oper.mk _ (Op.move _) _ _ _ none) _ _ _ _; first | (refine O_move (v := (.int _ (Nat.cast _))) rfl ?_) | (refine O_move (v := (.bool _)) rfl ?_) | (refine O_move (v := (.pointer _)) rfl ?_) | (refine O_move (v := (.slice _ _ _)) rfl ?_) | (refine O_move (v := (.agg _)) rfl ?_) | (refine O_move (v := (.tuple _)) rfl ?_) | (refine O_move (v := (.int _ _)) rfl ?_) | (refine O_move (v := .int _ (Nat.cast (OfNat.ofNat 0))) rfl ?_))
      | (guard_target =~ WO _ _ (Oper.mk _ (Op.binOp BinOp.lss _ _ _ _) _ _ _ none) _ _ _ _; first | (refine O_lss_t (b := 1600) rfl rfl (by omega) ?_) | (refine O_lss_f (b := 1600) rfl rfl (by omega) ?_) | (refine O_lss (b := 1600) rfl rfl ?_) | (refine O_lss_t (b := 24) rfl rfl (by omega) ?_) | (refine O_lss_f (b := 24) rfl rfl (by omega) ?_) | (refine O_lss (b := 24) rfl rfl ?_))
      | (guard_target =~ WO _ _ (Oper.mk _ (Op.nilCheck _) _ _ _ none) _ _ _ _; first | (refine O_nil rfl ?_))
      | (guard_target =~ WO _ _ (Oper.mk _ (Op.indexAddr 142 _ _) _ _ _ none) _ _ _ _; first | (refine O_index ar142 rfl rfl (by omega) ?_))
      | (guard_target =~ WO _ _ (Oper.mk _ (Op.assign _) _ _ _ none) _ _ _ _; first | (refine O_assign (v := (.int _ (Nat.cast _))) rfl ?_) | (refine O_assign (v := (.bool _)) rfl ?_) | (refine O_assign (v := (.pointer _)) rfl ?_) | (refine O_assign (v := (.slice _ _ _)) rfl ?_) | (refine O_assign (v := (.agg _)) rfl ?_) | (refine O_assign (v := (.tuple _)) rfl ?_) | (refine O_assign (v := (.int _ _)) rfl ?_) | (refine O_assign (v := .int _ (Nat.cast (OfNat.ofNat 0))) rfl ?_))
      | (guard_target =~ WO _ _ (Oper.mk _ (Op.binOp BinOp.quo _ _ _ _) _ _ _ none) _ _ _ _; first | (refine O_quo (b := 64) rfl rfl (by first | exact fit_i64 (by omega) | exact fit_u64 (by omega) | exact fit_u8 (by omega) | exact fit_i32 (by omega) | exact fit_u16 (by omega)) (by omega) ?_) | (refine O_quo (b := 320) rfl rfl (by first | exact fit_i64 (by omega) | exact fit_u64 (by omega) | exact fit_u8 (by omega) | exact fit_i32 (by omega) | exact fit_u16 (by omega)) (by omega) ?_))
      | (guard_target =~ WO _ _ (Oper.mk _ (Op.binOp BinOp.rem _ _ _ _) _ _ _ none) _ _ _ _; first | (refine O_rem (b := 5) rfl rfl (by omega) ?_) | (refine O_rem (b := 64) rfl rfl (by omega) ?_))
      | (guard_target =~ WO _ _ (Oper.mk _ (Op.indexAddr 200 _ _) _ _ _ none) _ _ _ _; first | (refine O_index ar200 rfl rfl (by omega) ?_))
      | (guard_target =~ WO _ _ (Oper.mk _ (Op.indexAddr 198 _ _) _ _ _ none) _ _ _ _; first | (refine O_index ar198 rfl rfl (by omega) ?_))
      | (guard_target =~ WO _ _ (Oper.mk _ (Op.indexAddr 197 _ _) _ _ _ none) _ _ _ _; first | (refine O_index ar197 rfl rfl (by omega) ?_))
      | (guard_target =~ WO _ _ (Oper.mk _ (Op.binOp BinOp.add _ _ _ _) _ _ _ none) _ _ _ _; first | (refine O_add (b := 1) rfl rfl (by first | exact fit_i64 (by omega) | exact fit_u64 (by omega) | exact fit_u8 (by omega) | exact fit_i32 (by omega) | exact fit_u16 (by omega)) ?_)))
    refine O_alloc_agg z200 fun w4 hE4 hs4 hb4 => ?_
    have hS4 := hS3.ext hE4
    have ha4 := ha3.ext hE4
    have hM4 := hM3.trans (hE4.mod _)
    have n1 : bS ≠ w3.heap.size := Nat.ne_of_lt hS3.lt
    have n2 : ba ≠ w3.heap.size := Nat.ne_of_lt ha3.lt
    have n3 : w.heap.size ≤ w3.heap.size := hM3.size
    clear hM3 hS3 ha3 hE4 hs4
    generalize w3.heap.size = b1 at n1 n2 n3 hb4 ⊢
    clear w3
    repeat (first
      | (refine L_cons ?_)
      | (refine R_cons rfl ?_)
      | (refine W_seq ?_)
      | (refine W_region (by kernel_rfl) ?_)
      | (refine L_nil ?_)
      | (refine R_nil ?_)
      | (refine W_block ?_)
      | (refine W_skip ?_)
      | (refine W_exit ?_)
      | (refine W_ret ?_)
      | (guard_target =~ thenQ _ _ _ _ _; first | (refine T_next ?_) | (refine T_exit ?_) | (refine T_ret ?_))
      | (guard_target =~ blockQ _ _ _ _ _; first | (refine B_next ?_) | (refine B_same ?_) | (refine B_other (by kernel_rfl) ?_) | (refine B_ret ?_))
      | (refine W_true rfl rfl ?_)
      | (refine W_false rfl rfl ?_)
      | (guard_target =~ WO _ _ (Oper.mk _ (Op.move _) _ _ _ none) _ _ _ _; first | (refine O_move (v := (.int _ (Nat.cast _))) rfl ?_) | (refine O_move (v := (.bool _)) rfl ?_) | (refine O_move (v := (.pointer _)) rfl ?_) | (refine O_move (v := (.slice _ _ _)) rfl ?_) | (refine O_move (v := (.agg _)) rfl ?_) | (refine O_move (v := (.tuple _)) rfl ?_) | (refine O_move (v := (.int _ _)) rfl ?_) | (refine O_move (v := .int _ (Nat.cast (OfNat.ofNat 0))) rfl ?_))
      | (guard_target =~ WO _ _ (Oper.mk _ (Op.binOp BinOp.lss _ _ _ _) _ _ _ none) _ _ _ _; first | (refine O_lss_t (b := 1600) rfl rfl (by omega) ?_) | (refine O_lss_f (b := 1600) rfl rfl (by omega) ?_) | (refine O_lss (b := 1600) rfl rfl ?_) | (refine O_lss_t (b := 24) rfl rfl (by omega) ?_) | (refine O_lss_f (b := 24) rfl rfl (by omega) ?_) | (refine O_lss (b := 24) rfl rfl ?_))
      | (guard_target =~ WO _ _ (Oper.mk _ (Op.nilCheck _) _ _ _ none) _ _ _ _; first | (refine O_nil rfl ?_))
      | (guard_target =~ WO _ _ (Oper.mk _ (Op.indexAddr 142 _ _) _ _ _ none) _ _ _ _; first | (refine O_index ar142 rfl rfl (by omega) ?_))
      | (guard_target =~ WO _ _ (Oper.mk _ (Op.assign _) _ _ _ none) _ _ _ _; first | (refine O_assign (v := (.int _ (Nat.cast _))) rfl ?_) | (refine O_assign (v := (.bool _)) rfl ?_) | (refine O_assign (v := (.pointer _)) rfl ?_) | (refine O_assign (v := (.slice _ _ _)) rfl ?_) | (refine O_assign (v := (.agg _)) rfl ?_) | (refine O_assign (v := (.tuple _)) rfl ?_) | (refine O_assign (v := (.int _ _)) rfl ?_) | (refine O_assign (v := .int _ (Nat.cast (OfNat.ofNat 0))) rfl ?_))
      | (guard_target =~ WO _ _ (Oper.mk _ (Op.binOp BinOp.quo _ _ _ _) _ _ _ none) _ _ _ _; first | (refine O_quo (b := 64) rfl rfl (by first | exact fit_i64 (by omega) | exact fit_u64 (by omega) | exact fit_u8 (by omega) | exact fit_i32 (by omega) | exact fit_u16 (by omega)) (by omega) ?_) | (refine O_quo (b := 320) rfl rfl (by first | exact fit_i64 (by omega) | exact fit_u64 (by omega) | exact fit_u8 (by omega) | exact fit_i32 (by omega) | exact fit_u16 (by omega)) (by omega) ?_))
      | (guard_target =~ WO _ _ (Oper.mk _ (Op.binOp BinOp.rem _ _ _ _) _ _ _ none) _ _ _ _; first | (refine O_rem (b := 5) rfl rfl (by omega) ?_) | (refine O_rem (b := 64) rfl rfl (by omega) ?_))
      | (guard_target =~ WO _ _ (Oper.mk _ (Op.indexAddr 200 _ _) _ _ _ none) _ _ _ _; first | (refine O_index ar200 rfl rfl (by omega) ?_))
      | (guard_target =~ WO _ _ (Oper.mk _ (Op.indexAddr 198 _ _) _ _ _ none) _ _ _ _; first | (refine O_index ar198 rfl rfl (by omega) ?_))
      | (guard_target =~ WO _ _ (Oper.mk _ (Op.indexAddr 197 _ _) _ _ _ none) _ _ _ _; first | (refine O_index ar197 rfl rfl (by omega) ?_))
      | (guard_target =~ WO _ _ (Oper.mk _ (Op.binOp BinOp.add _ _ _ _) _ _ _ none) _ _ _ _; first | (refine O_add (b := 1) rfl rfl (by first | exact fit_i64 (by omega) | exact fit_u64 (by omega) | exact fit_u8 (by omega) | exact fit_i32 (by omega) | exact fit_u16 (by omega)) ?_)))
    refine O_store_bss ag200 rfl rfl hb4 (by omega) rfl fun w5 hU5 => ?_
    rw [bs_over] at hU5
    have hS5 := hS4.upd hU5 n1
    have ha5 := ha4.upd hU5 n2
    have hb5 := hU5.here
    have hM5 := hM4.trans' hU5.mod (by simp; omega)
    clear hM4 hS4 ha4 hU5 hb4 w4
    repeat (first
      | (refine L_cons ?_)
      | (refine R_cons rfl ?_)
      | (refine W_seq ?_)
      | (refine W_region (by kernel_rfl) ?_)
      | (refine L_nil ?_)
      | (refine R_nil ?_)
      | (refine W_block ?_)
      | (refine W_skip ?_)
      | (refine W_exit ?_)
      | (refine W_ret ?_)
      | (guard_target =~ thenQ _ _ _ _ _; first | (refine T_next ?_) | (refine T_exit ?_) | (refine T_ret ?_))
      | (guard_target =~ blockQ _ _ _ _ _; first | (refine B_next ?_) | (refine B_same ?_) | (refine B_other (by kernel_rfl) ?_) | (refine B_ret ?_))
      | (refine W_true rfl rfl ?_)
      | (refine W_false rfl rfl ?_)
      | (guard_target =~ WO _ _ (Oper.mk _ (Op.move _) _ _ _ none) _ _ _ _; first | (refine O_move (v := (.int _ (Nat.cast _))) rfl ?_) | (refine O_move (v := (.bool _)) rfl ?_) | (refine O_move (v := (.pointer _)) rfl ?_) | (refine O_move (v := (.slice _ _ _)) rfl ?_) | (refine O_move (v := (.agg _)) rfl ?_) | (refine O_move (v := (.tuple _)) rfl ?_) | (refine O_move (v := (.int _ _)) rfl ?_) | (refine O_move (v := .int _ (Nat.cast (OfNat.ofNat 0))) rfl ?_))
      | (guard_target =~ WO _ _ (Oper.mk _ (Op.binOp BinOp.lss _ _ _ _) _ _ _ none) _ _ _ _; first | (refine O_lss_t (b := 1600) rfl rfl (by omega) ?_) | (refine O_lss_f (b := 1600) rfl rfl (by omega) ?_) | (refine O_lss (b := 1600) rfl rfl ?_) | (refine O_lss_t (b := 24) rfl rfl (by omega) ?_) | (refine O_lss_f (b := 24) rfl rfl (by omega) ?_) | (refine O_lss (b := 24) rfl rfl ?_))
      | (guard_target =~ WO _ _ (Oper.mk _ (Op.nilCheck _) _ _ _ none) _ _ _ _; first | (refine O_nil rfl ?_))
      | (guard_target =~ WO _ _ (Oper.mk _ (Op.indexAddr 142 _ _) _ _ _ none) _ _ _ _; first | (refine O_index ar142 rfl rfl (by omega) ?_))
      | (guard_target =~ WO _ _ (Oper.mk _ (Op.assign _) _ _ _ none) _ _ _ _; first | (refine O_assign (v := (.int _ (Nat.cast _))) rfl ?_) | (refine O_assign (v := (.bool _)) rfl ?_) | (refine O_assign (v := (.pointer _)) rfl ?_) | (refine O_assign (v := (.slice _ _ _)) rfl ?_) | (refine O_assign (v := (.agg _)) rfl ?_) | (refine O_assign (v := (.tuple _)) rfl ?_) | (refine O_assign (v := (.int _ _)) rfl ?_) | (refine O_assign (v := .int _ (Nat.cast (OfNat.ofNat 0))) rfl ?_))
      | (guard_target =~ WO _ _ (Oper.mk _ (Op.binOp BinOp.quo _ _ _ _) _ _ _ none) _ _ _ _; first | (refine O_quo (b := 64) rfl rfl (by first | exact fit_i64 (by omega) | exact fit_u64 (by omega) | exact fit_u8 (by omega) | exact fit_i32 (by omega) | exact fit_u16 (by omega)) (by omega) ?_) | (refine O_quo (b := 320) rfl rfl (by first | exact fit_i64 (by omega) | exact fit_u64 (by omega) | exact fit_u8 (by omega) | exact fit_i32 (by omega) | exact fit_u16 (by omega)) (by omega) ?_))
      | (guard_target =~ WO _ _ (Oper.mk _ (Op.binOp BinOp.rem _ _ _ _) _ _ _ none) _ _ _ _; first | (refine O_rem (b := 5) rfl rfl (by omega) ?_) | (refine O_rem (b := 64) rfl rfl (by omega) ?_))
      | (guard_target =~ WO _ _ (Oper.mk _ (Op.indexAddr 200 _ _) _ _ _ none) _ _ _ _; first | (refine O_index ar200 rfl rfl (by omega) ?_))
      | (guard_target =~ WO _ _ (Oper.mk _ (Op.indexAddr 198 _ _) _ _ _ none) _ _ _ _; first | (refine O_index ar198 rfl rfl (by omega) ?_))
      | (guard_target =~ WO _ _ (Oper.mk _ (Op.indexAddr 197 _ _) _ _ _ none) _ _ _ _; first | (refine O_index ar197 rfl rfl (by omega) ?_))
      | (guard_target =~ WO _ _ (Oper.mk _ (Op.binOp BinOp.add _ _ _ _) _ _ _ none) _ _ _ _; first | (refine O_add (b := 1) rfl rfl (by first | exact fit_i64 (by omega) | exact fit_u64 (by omega) | exact fit_u8 (by omega) | exact fit_i32 (by omega) | exact fit_u16 (by omega)) ?_)))
    refine O_call (l := [.pointer (some ⟨b1, 0, none⟩)]) cl111 (by rfl) ((pi_ok hb5).mono ?_)
    rintro v w3 ⟨rfl, hE3⟩
    refine ⟨nof, ?_⟩
    have hS3 := hS5.ext hE3
    have ha3 := ha5.ext hE3
    have hM3 := hM5.trans (hE3.mod _)
    clear hM5 hS5 ha5 hE3 hb5 w5
    repeat (first
      | (refine L_cons ?_)
      | (refine R_cons rfl ?_)
      | (refine W_seq ?_)
      | (refine W_region (by kernel_rfl) ?_)
      | (refine L_nil ?_)
      | (refine R_nil ?_)
      | (refine W_block ?_)
      | (refine W_skip ?_)
      | (refine W_exit ?_)
      | (refine W_ret ?_)
      | (guard_target =~ thenQ _ _ _ _ _; first | (refine T_next ?_) | (refine T_exit ?_) | (refine T_ret ?_))
      | (guard_target =~ blockQ _ _ _ _ _; first | (refine B_next ?_) | (refine B_same ?_) | (refine B_other (by kernel_rfl) ?_) | (refine B_ret ?_))
      | (refine W_true rfl rfl ?_)
      | (refine W_false rfl rfl ?_)
      | (guard_target =~ WO _ _ (Oper.mk _ (Op.move _) _ _ _ none) _ _ _ _; first | (refine O_move (v := (.int _ (Nat.cast _))) rfl ?_) | (refine O_move (v := (.bool _)) rfl ?_) | (refine O_move (v := (.pointer _)) rfl ?_) | (refine O_move (v := (.slice _ _ _)) rfl ?_) | (refine O_move (v := (.agg _)) rfl ?_) | (refine O_move (v := (.tuple _)) rfl ?_) | (refine O_move (v := (.int _ _)) rfl ?_) | (refine O_move (v := .int _ (Nat.cast (OfNat.ofNat 0))) rfl ?_))
      | (guard_target =~ WO _ _ (Oper.mk _ (Op.binOp BinOp.lss _ _ _ _) _ _ _ none) _ _ _ _; first | (refine O_lss_t (b := 1600) rfl rfl (by omega) ?_) | (refine O_lss_f (b := 1600) rfl rfl (by omega) ?_) | (refine O_lss (b := 1600) rfl rfl ?_) | (refine O_lss_t (b := 24) rfl rfl (by omega) ?_) | (refine O_lss_f (b := 24) rfl rfl (by omega) ?_) | (refine O_lss (b := 24) rfl rfl ?_))
      | (guard_target =~ WO _ _ (Oper.mk _ (Op.nilCheck _) _ _ _ none) _ _ _ _; first | (refine O_nil rfl ?_))
      | (guard_target =~ WO _ _ (Oper.mk _ (Op.indexAddr 142 _ _) _ _ _ none) _ _ _ _; first | (refine O_index ar142 rfl rfl (by omega) ?_))
      | (guard_target =~ WO _ _ (Oper.mk _ (Op.assign _) _ _ _ none) _ _ _ _; first | (refine O_assign (v := (.int _ (Nat.cast _))) rfl ?_) | (refine O_assign (v := (.bool _)) rfl ?_) | (refine O_assign (v := (.pointer _)) rfl ?_) | (refine O_assign (v := (.slice _ _ _)) rfl ?_) | (refine O_assign (v := (.agg _)) rfl ?_) | (refine O_assign (v := (.tuple _)) rfl ?_) | (refine O_assign (v := (.int _ _)) rfl ?_) | (refine O_assign (v := .int _ (Nat.cast (OfNat.ofNat 0))) rfl ?_))
      | (guard_target =~ WO _ _ (Oper.mk _ (Op.binOp BinOp.quo _ _ _ _) _ _ _ none) _ _ _ _; first | (refine O_quo (b := 64) rfl rfl (by first | exact fit_i64 (by omega) | exact fit_u64 (by omega) | exact fit_u8 (by omega) | exact fit_i32 (by omega) | exact fit_u16 (by omega)) (by omega) ?_) | (refine O_quo (b := 320) rfl rfl (by first | exact fit_i64 (by omega) | exact fit_u64 (by omega) | exact fit_u8 (by omega) | exact fit_i32 (by omega) | exact fit_u16 (by omega)) (by omega) ?_))
      | (guard_target =~ WO _ _ (Oper.mk _ (Op.binOp BinOp.rem _ _ _ _) _ _ _ none) _ _ _ _; first | (refine O_rem (b := 5) rfl rfl (by omega) ?_) | (refine O_rem (b := 64) rfl rfl (by omega) ?_))
      | (guard_target =~ WO _ _ (Oper.mk _ (Op.indexAddr 200 _ _) _ _ _ none) _ _ _ _; first | (refine O_index ar200 rfl rfl (by omega) ?_))
      | (guard_target =~ WO _ _ (Oper.mk _ (Op.indexAddr 198 _ _) _ _ _ none) _ _ _ _; first | (refine O_index ar198 rfl rfl (by omega) ?_))
      | (guard_target =~ WO _ _ (Oper.mk _ (Op.indexAddr 197 _ _) _ _ _ none) _ _ _ _; first | (refine O_index ar197 rfl rfl (by omega) ?_))
      | (guard_target =~ WO _ _ (Oper.mk _ (Op.binOp BinOp.add _ _ _ _) _ _ _ none) _ _ _ _; first | (refine O_add (b := 1) rfl rfl (by first | exact fit_i64 (by omega) | exact fit_u64 (by omega) | exact fit_u8 (by omega) | exact fit_i32 (by omega) | exact fit_u16 (by omega)) ?_)))
    refine O_alloc_agg z200 fun w4 hE4 hs4 hb4 => ?_
    have hS4 := hS3.ext hE4
    have ha4 := ha3.ext hE4
    have hM4 := hM3.trans (hE4.mod _)
    have n4 : bS ≠ w3.heap.size := Nat.ne_of_lt hS3.lt
    have n5 : ba ≠ w3.heap.size := Nat.ne_of_lt ha3.lt
    have n6 : w.heap.size ≤ w3.heap.size := hM3.size
    clear hM3 hS3 ha3 hE4 hs4
    generalize w3.heap.size = b2 at n4 n5 n6 hb4 ⊢
    clear w3
    repeat (first
      | (refine L_cons ?_)
      | (refine R_cons rfl ?_)
      | (refine W_seq ?_)
      | (refine W_region (by kernel_rfl) ?_)
      | (refine L_nil ?_)
      | (refine R_nil ?_)
      | (refine W_block ?_)
      | (refine W_skip ?_)
      | (refine W_exit ?_)
      | (refine W_ret ?_)
      | (guard_target =~ thenQ _ _ _ _ _; first | (refine T_next ?_) | (refine T_exit ?_) | (refine T_ret ?_))
      | (guard_target =~ blockQ _ _ _ _ _; first | (refine B_next ?_) | (refine B_same ?_) | (refine B_other (by kernel_rfl) ?_) | (refine B_ret ?_))
      | (refine W_true rfl rfl ?_)
      | (refine W_false rfl rfl ?_)
      | (guard_target =~ WO _ _ (Oper.mk _ (Op.move _) _ _ _ none) _ _ _ _; first | (refine O_move (v := (.int _ (Nat.cast _))) rfl ?_) | (refine O_move (v := (.bool _)) rfl ?_) | (refine O_move (v := (.pointer _)) rfl ?_) | (refine O_move (v := (.slice _ _ _)) rfl ?_) | (refine O_move (v := (.agg _)) rfl ?_) | (refine O_move (v := (.tuple _)) rfl ?_) | (refine O_move (v := (.int _ _)) rfl ?_) | (refine O_move (v := .int _ (Nat.cast (OfNat.ofNat 0))) rfl ?_))
      | (guard_target =~ WO _ _ (Oper.mk _ (Op.binOp BinOp.lss _ _ _ _) _ _ _ none) _ _ _ _; first | (refine O_lss_t (b := 1600) rfl rfl (by omega) ?_) | (refine O_lss_f (b := 1600) rfl rfl (by omega) ?_) | (refine O_lss (b := 1600) rfl rfl ?_) | (refine O_lss_t (b := 24) rfl rfl (by omega) ?_) | (refine O_lss_f (b := 24) rfl rfl (by omega) ?_) | (refine O_lss (b := 24) rfl rfl ?_))
      | (guard_target =~ WO _ _ (Oper.mk _ (Op.nilCheck _) _ _ _ none) _ _ _ _; first | (refine O_nil rfl ?_))
      | (guard_target =~ WO _ _ (Oper.mk _ (Op.indexAddr 142 _ _) _ _ _ none) _ _ _ _; first | (refine O_index ar142 rfl rfl (by omega) ?_))
      | (guard_target =~ WO _ _ (Oper.mk _ (Op.assign _) _ _ _ none) _ _ _ _; first | (refine O_assign (v := (.int _ (Nat.cast _))) rfl ?_) | (refine O_assign (v := (.bool _)) rfl ?_) | (refine O_assign (v := (.pointer _)) rfl ?_) | (refine O_assign (v := (.slice _ _ _)) rfl ?_) | (refine O_assign (v := (.agg _)) rfl ?_) | (refine O_assign (v := (.tuple _)) rfl ?_) | (refine O_assign (v := (.int _ _)) rfl ?_) | (refine O_assign (v := .int _ (Nat.cast (OfNat.ofNat 0))) rfl ?_))
      | (guard_target =~ WO _ _ (Oper.mk _ (Op.binOp BinOp.quo _ _ _ _) _ _ _ none) _ _ _ _; first | (refine O_quo (b := 64) rfl rfl (by first | exact fit_i64 (by omega) | exact fit_u64 (by omega) | exact fit_u8 (by omega) | exact fit_i32 (by omega) | exact fit_u16 (by omega)) (by omega) ?_) | (refine O_quo (b := 320) rfl rfl (by first | exact fit_i64 (by omega) | exact fit_u64 (by omega) | exact fit_u8 (by omega) | exact fit_i32 (by omega) | exact fit_u16 (by omega)) (by omega) ?_))
      | (guard_target =~ WO _ _ (Oper.mk _ (Op.binOp BinOp.rem _ _ _ _) _ _ _ none) _ _ _ _; first | (refine O_rem (b := 5) rfl rfl (by omega) ?_) | (refine O_rem (b := 64) rfl rfl (by omega) ?_))
      | (guard_target =~ WO _ _ (Oper.mk _ (Op.indexAddr 200 _ _) _ _ _ none) _ _ _ _; first | (refine O_index ar200 rfl rfl (by omega) ?_))
      | (guard_target =~ WO _ _ (Oper.mk _ (Op.indexAddr 198 _ _) _ _ _ none) _ _ _ _; first | (refine O_index ar198 rfl rfl (by omega) ?_))
      | (guard_target =~ WO _ _ (Oper.mk _ (Op.indexAddr 197 _ _) _ _ _ none) _ _ _ _; first | (refine O_index ar197 rfl rfl (by omega) ?_))
      | (guard_target =~ WO _ _ (Oper.mk _ (Op.binOp BinOp.add _ _ _ _) _ _ _ none) _ _ _ _; first | (refine O_add (b := 1) rfl rfl (by first | exact fit_i64 (by omega) | exact fit_u64 (by omega) | exact fit_u8 (by omega) | exact fit_i32 (by omega) | exact fit_u16 (by omega)) ?_)))
    refine O_store_bss ag200 rfl rfl hb4 (by omega) rfl fun w5 hU5 => ?_
    rw [bs_over] at hU5
    have hS5 := hS4.upd hU5 n4
    have ha5 := ha4.upd hU5 n5
    have hb5 := hU5.here
    have hM5 := hM4.trans' hU5.mod (by simp; omega)
    clear hM4 hS4 ha4 hU5 hb4 w4
    repeat (first
      | (refine L_cons ?_)
      | (refine R_cons rfl ?_)
      | (refine W_seq ?_)
      | (refine W_region (by kernel_rfl) ?_)
      | (refine L_nil ?_)
      | (refine R_nil ?_)
      | (refine W_block ?_)
      | (refine W_skip ?_)
      | (refine W_exit ?_)
      | (refine W_ret ?_)
      | (guard_target =~ thenQ _ _ _ _ _; first | (refine T_next ?_) | (refine T_exit ?_) | (refine T_ret ?_))
      | (guard_target =~ blockQ _ _ _ _ _; first | (refine B_next ?_) | (refine B_same ?_) | (refine B_other (by kernel_rfl) ?_) | (refine B_ret ?_))
      | (refine W_true rfl rfl ?_)
      | (refine W_false rfl rfl ?_)
      | (guard_target =~ WO _ _ (Oper.mk _ (Op.move _) _ _ _ none) _ _ _ _; first | (refine O_move (v := (.int _ (Nat.cast _))) rfl ?_) | (refine O_move (v := (.bool _)) rfl ?_) | (refine O_move (v := (.pointer _)) rfl ?_) | (refine O_move (v := (.slice _ _ _)) rfl ?_) | (refine O_move (v := (.agg _)) rfl ?_) | (refine O_move (v := (.tuple _)) rfl ?_) | (refine O_move (v := (.int _ _)) rfl ?_) | (refine O_move (v := .int _ (Nat.cast (OfNat.ofNat 0))) rfl ?_))
      | (guard_target =~ WO _ _ (Oper.mk _ (Op.binOp BinOp.lss _ _ _ _) _ _ _ none) _ _ _ _; first | (refine O_lss_t (b := 1600) rfl rfl (by omega) ?_) | (refine O_lss_f (b := 1600) rfl rfl (by omega) ?_) | (refine O_lss (b := 1600) rfl rfl ?_) | (refine O_lss_t (b := 24) rfl rfl (by omega) ?_) | (refine O_lss_f (b := 24) rfl rfl (by omega) ?_) | (refine O_lss (b := 24) rfl rfl ?_))
      | (guard_target =~ WO _ _ (Oper.mk _ (Op.nilCheck _) _ _ _ none) _ _ _ _; first | (refine O_nil rfl ?_))
      | (guard_target =~ WO _ _ (Oper.mk _ (Op.indexAddr 142 _ _) _ _ _ none) _ _ _ _; first | (refine O_index ar142 rfl rfl (by omega) ?_))
      | (guard_target =~ WO _ _ (Oper.mk _ (Op.assign _) _ _ _ none) _ _ _ _; first | (refine O_assign (v := (.int _ (Nat.cast _))) rfl ?_) | (refine O_assign (v := (.bool _)) rfl ?_) | (refine O_assign (v := (.pointer _)) rfl ?_) | (refine O_assign (v := (.slice _ _ _)) rfl ?_) | (refine O_assign (v := (.agg _)) rfl ?_) | (refine O_assign (v := (.tuple _)) rfl ?_) | (refine O_assign (v := (.int _ _)) rfl ?_) | (refine O_assign (v := .int _ (Nat.cast (OfNat.ofNat 0))) rfl ?_))
      | (guard_target =~ WO _ _ (Oper.mk _ (Op.binOp BinOp.quo _ _ _ _) _ _ _ none) _ _ _ _; first | (refine O_quo (b := 64) rfl rfl (by first | exact fit_i64 (by omega) | exact fit_u64 (by omega) | exact fit_u8 (by omega) | exact fit_i32 (by omega) | exact fit_u16 (by omega)) (by omega) ?_) | (refine O_quo (b := 320) rfl rfl (by first | exact fit_i64 (by omega) | exact fit_u64 (by omega) | exact fit_u8 (by omega) | exact fit_i32 (by omega) | exact fit_u16 (by omega)) (by omega) ?_))
      | (guard_target =~ WO _ _ (Oper.mk _ (Op.binOp BinOp.rem _ _ _ _) _ _ _ none) _ _ _ _; first | (refine O_rem (b := 5) rfl rfl (by omega) ?_) | (refine O_rem (b := 64) rfl rfl (by omega) ?_))
      | (guard_target =~ WO _ _ (Oper.mk _ (Op.indexAddr 200 _ _) _ _ _ none) _ _ _ _; first | (refine O_index ar200 rfl rfl (by omega) ?_))
      | (guard_target =~ WO _ _ (Oper.mk _ (Op.indexAddr 198 _ _) _ _ _ none) _ _ _ _; first | (refine O_index ar198 rfl rfl (by omega) ?_))
      | (guard_target =~ WO _ _ (Oper.mk _ (Op.indexAddr 197 _ _) _ _ _ none) _ _ _ _; first | (refine O_index ar197 rfl rfl (by omega) ?_))
      | (guard_target =~ WO _ _ (Oper.mk _ (Op.binOp BinOp.add _ _ _ _) _ _ _ none) _ _ _ _; first | (refine O_add (b := 1) rfl rfl (by first | exact fit_i64 (by omega) | exact fit_u64 (by omega) | exact fit_u8 (by omega) | exact fit_i32 (by omega) | exact fit_u16 (by omega)) ?_)))
    refine O_call (l := [.pointer (some ⟨b2, 0, none⟩)]) cl112 (by rfl) ((chi_ok hb5).mono ?_)
    rintro v w3 ⟨rfl, hE3⟩
    refine ⟨nof, ?_⟩
    have hS3 := hS5.ext hE3
    have ha3 := ha5.ext hE3
    have hM3 := hM5.trans (hE3.mod _)
    clear hM5 hS5 ha5 hE3 hb5 w5
    repeat (first
      | (refine L_cons ?_)
      | (refine R_cons rfl ?_)
      | (refine W_seq ?_)
      | (refine W_region (by kernel_rfl) ?_)
      | (refine L_nil ?_)
      | (refine R_nil ?_)
      | (refine W_block ?_)
      | (refine W_skip ?_)
      | (refine W_exit ?_)
      | (refine W_ret ?_)
      | (guard_target =~ thenQ _ _ _ _ _; first | (refine T_next ?_) | (refine T_exit ?_) | (refine T_ret ?_))
      | (guard_target =~ blockQ _ _ _ _ _; first | (refine B_next ?_) | (refine B_same ?_) | (refine B_other (by kernel_rfl) ?_) | (refine B_ret ?_))
      | (refine W_true rfl rfl ?_)
      | (refine W_false rfl rfl ?_)
      | (guard_target =~ WO _ _ (Oper.mk _ (Op.move _) _ _ _ none) _ _ _ _; first | (refine O_move (v := (.int _ (Nat.cast _))) rfl ?_) | (refine O_move (v := (.bool _)) rfl ?_) | (refine O_move (v := (.pointer _)) rfl ?_) | (refine O_move (v := (.slice _ _ _)) rfl ?_) | (refine O_move (v := (.agg _)) rfl ?_) | (refine O_move (v := (.tuple _)) rfl ?_) | (refine O_move (v := (.int _ _)) rfl ?_) | (refine O_move (v := .int _ (Nat.cast (OfNat.ofNat 0))) rfl ?_))
      | (guard_target =~ WO _ _ (Oper.mk _ (Op.binOp BinOp.lss _ _ _ _) _ _ _ none) _ _ _ _; first | (refine O_lss_t (b := 1600) rfl rfl (by omega) ?_) | (refine O_lss_f (b := 1600) rfl rfl (by omega) ?_) | (refine O_lss (b := 1600) rfl rfl ?_) | (refine O_lss_t (b := 24) rfl rfl (by omega) ?_) | (refine O_lss_f (b := 24) rfl rfl (by omega) ?_) | (refine O_lss (b := 24) rfl rfl ?_))
      | (guard_target =~ WO _ _ (Oper.mk _ (Op.nilCheck _) _ _ _ none) _ _ _ _; first | (refine O_nil rfl ?_))
      | (guard_target =~ WO _ _ (Oper.mk _ (Op.indexAddr 142 _ _) _ _ _ none) _ _ _ _; first | (refine O_index ar142 rfl rfl (by omega) ?_))
      | (guard_target =~ WO _ _ (Oper.mk _ (Op.assign _) _ _ _ none) _ _ _ _; first | (refine O_assign (v := (.int _ (Nat.cast _))) rfl ?_) | (refine O_assign (v := (.bool _)) rfl ?_) | (refine O_assign (v := (.pointer _)) rfl ?_) | (refine O_assign (v := (.slice _ _ _)) rfl ?_) | (refine O_assign (v := (.agg _)) rfl ?_) | (refine O_assign (v := (.tuple _)) rfl ?_) | (refine O_assign (v := (.int _ _)) rfl ?_) | (refine O_assign (v := .int _ (Nat.cast (OfNat.ofNat 0))) rfl ?_))
      | (guard_target =~ WO _ _ (Oper.mk _ (Op.binOp BinOp.quo _ _ _ _) _ _ _ none) _ _ _ _; first | (refine O_quo (b := 64) rfl rfl (by first | exact fit_i64 (by omega) | exact fit_u64 (by omega) | exact fit_u8 (by omega) | exact fit_i32 (by omega) | exact fit_u16 (by omega)) (by omega) ?_) | (refine O_quo (b := 320) rfl rfl (by first | exact fit_i64 (by omega) | exact fit_u64 (by omega) | exact fit_u8 (by omega) | exact fit_i32 (by omega) | exact fit_u16 (by omega)) (by omega) ?_))
      | (guard_target =~ WO _ _ (Oper.mk _ (Op.binOp BinOp.rem _ _ _ _) _ _ _ none) _ _ _ _; first | (refine O_rem (b := 5) rfl rfl (by omega) ?_) | (refine O_rem (b := 64) rfl rfl (by omega) ?_))
      | (guard_target =~ WO _ _ (Oper.mk _ (Op.indexAddr 200 _ _) _ _ _ none) _ _ _ _; first | (refine O_index ar200 rfl rfl (by omega) ?_))
      | (guard_target =~ WO _ _ (Oper.mk _ (Op.indexAddr 198 _ _) _ _ _ none) _ _ _ _; first | (refine O_index ar198 rfl rfl (by omega) ?_))
      | (guard_target =~ WO _ _ (Oper.mk _ (Op.indexAddr 197 _ _) _ _ _ none) _ _ _ _; first | (refine O_index ar197 rfl rfl (by omega) ?_))
      | (guard_target =~ WO _ _ (Oper.mk _ (Op.binOp BinOp.add _ _ _ _) _ _ _ none) _ _ _ _; first | (refine O_add (b := 1) rfl rfl (by first | exact fit_i64 (by omega) | exact fit_u64 (by omega) | exact fit_u8 (by omega) | exact fit_i32 (by omega) | exact fit_u16 (by omega)) ?_)))
    refine O_store_bss ag200 rfl rfl ha3 (by omega) rfl fun w5 hU5 => ?_
    rw [bs_over] at hU5
    have hS5 := hS3.upd hU5 hne
    have ha5 := hU5.here
    have hM5 := hM3.trans' hU5.mod (by simp)
    clear hM3 hS3 ha3 hU5 w3
    repeat (first
      | (refine L_cons ?_)
      | (refine R_cons rfl ?_)
      | (refine W_seq ?_)
      | (refine W_region (by kernel_rfl) ?_)
      | (refine L_nil ?_)
      | (refine R_nil ?_)
      | (refine W_block ?_)
      | (refine W_skip ?_)
      | (refine W_exit ?_)
      | (refine W_ret ?_)
      | (guard_target =~ thenQ _ _ _ _ _; first | (refine T_next ?_) | (refine T_exit ?_) | (refine T_ret ?_))
      | (guard_target =~ blockQ _ _ _ _ _; first | (refine B_next ?_) | (refine B_same ?_) | (refine B_other (by kernel_rfl) ?_) | (refine B_ret ?_))
      | (refine W_true rfl rfl ?_)
      | (refine W_false rfl rfl ?_)
      | (guard_target =~ WO _ _ (Oper.mk _ (Op.move _) _ _ _ none) _ _ _ _; first | (refine O_move (v := (.int _ (Nat.cast _))) rfl ?_) | (refine O_move (v := (.bool _)) rfl ?_) | (refine O_move (v := (.pointer _)) rfl ?_) | (refine O_move (v := (.slice _ _ _)) rfl ?_) | (refine O_move (v := (.agg _)) rfl ?_) | (refine O_move (v := (.tuple _)) rfl ?_) | (refine O_move (v := (.int _ _)) rfl ?_) | (refine O_move (v := .int _ (Nat.cast (OfNat.ofNat 0))) rfl ?_))
      | (guard_target =~ WO _ _ (Oper.mk _ (Op.binOp BinOp.lss _ _ _ _) _ _ _ none) _ _ _ _; first | (refine O_lss_t (b := 1600) rfl rfl (by omega) ?_) | (refine O_lss_f (b := 1600) rfl rfl (by omega) ?_) | (refine O_lss (b := 1600) rfl rfl ?_) | (refine O_lss_t (b := 24) rfl rfl (by omega) ?_) | (refine O_lss_f (b := 24) rfl rfl (by omega) ?_) | (refine O_lss (b := 24) rfl rfl ?_))
      | (guard_target =~ WO _ _ (Oper.mk _ (Op.nilCheck _) _ _ _ none) _ _ _ _; first | (refine O_nil rfl ?_))
      | (guard_target =~ WO _ _ (Oper.mk _ (Op.indexAddr 142 _ _) _ _ _ none) _ _ _ _; first | (refine O_index ar142 rfl rfl (by omega) ?_))
      | (guard_target =~ WO _ _ (Oper.mk _ (Op.assign _) _ _ _ none) _ _ _ _; first | (refine O_assign (v := (.int _ (Nat.cast _))) rfl ?_) | (refine O_assign (v := (.bool _)) rfl ?_) | (refine O_assign (v := (.pointer _)) rfl ?_) | (refine O_assign (v := (.slice _ _ _)) rfl ?_) | (refine O_assign (v := (.agg _)) rfl ?_) | (refine O_assign (v := (.tuple _)) rfl ?_) | (refine O_assign (v := (.int _ _)) rfl ?_) | (refine O_assign (v := .int _ (Nat.cast (OfNat.ofNat 0))) rfl ?_))
      | (guard_target =~ WO _ _ (Oper.mk _ (Op.binOp BinOp.quo _ _ _ _) _ _ _ none) _ _ _ _; first | (refine O_quo (b := 64) rfl rfl (by first | exact fit_i64 (by omega) | exact fit_u64 (by omega) | exact fit_u8 (by omega) | exact fit_i32 (by omega) | exact fit_u16 (by omega)) (by omega) ?_) | (refine O_quo (b := 320) rfl rfl (by first | exact fit_i64 (by omega) | exact fit_u64 (by omega) | exact fit_u8 (by omega) | exact fit_i32 (by omega) | exact fit_u16 (by omega)) (by omega) ?_))
      | (guard_target =~ WO _ _ (Oper.mk _ (Op.binOp BinOp.rem _ _ _ _) _ _ _ none) _ _ _ _; first | (refine O_rem (b := 5) rfl rfl (by omega) ?_) | (refine O_rem (b := 64) rfl rfl (by omega) ?_))
      | (guard_target =~ WO _ _ (Oper.mk _ (Op.indexAddr 200 _ _) _ _ _ none) _ _ _ _; first | (refine O_index ar200 rfl rfl (by omega) ?_))
      | (guard_target =~ WO _ _ (Oper.mk _ (Op.indexAddr 198 _ _) _ _ _ none) _ _ _ _; first | (refine O_index ar198 rfl rfl (by omega) ?_))
      | (guard_target =~ WO _ _ (Oper.mk _ (Op.indexAddr 197 _ _) _ _ _ none) _ _ _ _; first | (refine O_index ar197 rfl rfl (by omega) ?_))
      | (guard_target =~ WO _ _ (Oper.mk _ (Op.binOp BinOp.add _ _ _ _) _ _ _ none) _ _ _ _; first | (refine O_add (b := 1) rfl rfl (by first | exact fit_i64 (by omega) | exact fit_u64 (by omega) | exact fit_u8 (by omega) | exact fit_i32 (by omega) | exact fit_u16 (by omega)) ?_)))
    refine O_call (l := [.pointer (some ⟨ba, 0, none⟩), .int .u8 (i : Nat)]) cl113 (by rfl) ((iota_ok hlt ha5).mono ?_)
    rintro v w2 ⟨rfl, hM0, ha2⟩
    refine ⟨nof, ?_⟩
    have hS2 := hS5.mod hM0 (by simpa using hne)
    have hM2 := hM5.trans' hM0 (by simp)
    clear hM0
    repeat (first
      | (refine L_cons ?_)
      | (refine R_cons rfl ?_)
      | (refine W_seq ?_)
      | (refine W_region (by kernel_rfl) ?_)
      | (refine L_nil ?_)
      | (refine R_nil ?_)
      | (refine W_block ?_)
      | (refine W_skip ?_)
      | (refine W_exit ?_)
      | (refine W_ret ?_)
      | (guard_target =~ thenQ _ _ _ _ _; first | (refine T_next ?_) | (refine T_exit ?_) | (refine T_ret ?_))
      | (guard_target =~ blockQ _ _ _ _ _; first | (refine B_next ?_) | (refine B_same ?_) | (refine B_other (by kernel_rfl) ?_) | (refine B_ret ?_))
      | (refine W_true rfl rfl ?_)
      | (refine W_false rfl rfl ?_)
      | (guard_target =~ WO _ _ (Oper.mk _ (Op.move _) _ _ _ none) _ _ _ _; first | (refine O_move (v := (.int _ (Nat.cast _))) rfl ?_) | (refine O_move (v := (.bool _)) rfl ?_) | (refine O_move (v := (.pointer _)) rfl ?_) | (refine O_move (v := (.slice _ _ _)) rfl ?_) | (refine O_move (v := (.agg _)) rfl ?_) | (refine O_move (v := (.tuple _)) rfl ?_) | (refine O_move (v := (.int _ _)) rfl ?_) | (refine O_move (v := .int _ (Nat.cast (OfNat.ofNat 0))) rfl ?_))
      | (guard_target =~ WO _ _ (Oper.mk _ (Op.binOp BinOp.lss _ _ _ _) _ _ _ none) _ _ _ _; first | (refine O_lss_t (b := 1600) rfl rfl (by omega) ?_) | (refine O_lss_f (b := 1600) rfl rfl (by omega) ?_) | (refine O_lss (b := 1600) rfl rfl ?_) | (refine O_lss_t (b := 24) rfl rfl (by omega) ?_) | (refine O_lss_f (b := 24) rfl rfl (by omega) ?_) | (refine O_lss (b := 24) rfl rfl ?_))
      | (guard_target =~ WO _ _ (Oper.mk _ (Op.nilCheck _) _ _ _ none) _ _ _ _; first | (refine O_nil rfl ?_))
      | (guard_target =~ WO _ _ (Oper.mk _ (Op.indexAddr 142 _ _) _ _ _ none) _ _ _ _; first | (refine O_index ar142 rfl rfl (by omega) ?_))
      | (guard_target =~ WO _ _ (Oper.mk _ (Op.assign _) _ _ _ none) _ _ _ _; first | (refine O_assign (v := (.int _ (Nat.cast _))) rfl ?_) | (refine O_assign (v := (.bool _)) rfl ?_) | (refine O_assign (v := (.pointer _)) rfl ?_) | (refine O_assign (v := (.slice _ _ _)) rfl ?_) | (refine O_assign (v := (.agg _)) rfl ?_) | (refine O_assign (v := (.tuple _)) rfl ?_) | (refine O_assign (v := (.int _ _)) rfl ?_) | (refine O_assign (v := .int _ (Nat.cast (OfNat.ofNat 0))) rfl ?_))
      | (guard_target =~ WO _ _ (Oper.mk _ (Op.binOp BinOp.quo _ _ _ _) _ _ _ none) _ _ _ _; first | (refine O_quo (b := 64) rfl rfl (by first | exact fit_i64 (by omega) | exact fit_u64 (by omega) | exact fit_u8 (by omega) | exact fit_i32 (by omega) | exact fit_u16 (by omega)) (by omega) ?_) | (refine O_quo (b := 320) rfl rfl (by first | exact fit_i64 (by omega) | exact fit_u64 (by omega) | exact fit_u8 (by omega) | exact fit_i32 (by omega) | exact fit_u16 (by omega)) (by omega) ?_))
      | (guard_target =~ WO _ _ (Oper.mk _ (Op.binOp BinOp.rem _ _ _ _) _ _ _ none) _ _ _ _; first | (refine O_rem (b := 5) rfl rfl (by omega) ?_) | (refine O_rem (b := 64) rfl rfl (by omega) ?_))
      | (guard_target =~ WO _ _ (Oper.mk _ (Op.indexAddr 200 _ _) _ _ _ none) _ _ _ _; first | (refine O_index ar200 rfl rfl (by omega) ?_))
      | (guard_target =~ WO _ _ (Oper.mk _ (Op.indexAddr 198 _ _) _ _ _ none) _ _ _ _; first | (refine O_index ar198 rfl rfl (by omega) ?_))
      | (guard_target =~ WO _ _ (Oper.mk _ (Op.indexAddr 197 _ _) _ _ _ none) _ _ _ _; first | (refine O_index ar197 rfl rfl (by omega) ?_))
      | (guard_target =~ WO _ _ (Oper.mk _ (Op.binOp BinOp.add _ _ _ _) _ _ _ none) _ _ _ _; first | (refine O_add (b := 1) rfl rfl (by first | exact fit_i64 (by omega) | exact fit_u64 (by omega) | exact fit_u8 (by omega) | exact fit_i32 (by omega) | exact fit_u16 (by omega)) ?_)))
    exact ⟨24 - (i + 1), by omega, i + 1, rfl, by omega, Has.mk ⟨rfl, rfl, rfl, trivial⟩, hM2, hS2, ha2⟩
  obtain rfl : i = 24 := by omega
  repeat (first
    | (refine L_cons ?_)
    | (refine R_cons rfl ?_)
    | (refine W_seq ?_)
    | (refine W_region (by kernel_rfl) ?_)
    | (refine L_nil ?_)
    | (refine R_nil ?_)
    | (refine W_block ?_)
    | (refine W_skip ?_)
    | (refine W_exit ?_)
    | (refine W_ret ?_)
    | (guard_target =~ thenQ _ _ _ _ _; first | (refine T_next ?_) | (refine T_exit ?_) | (refine T_ret ?_))
    | (guard_target =~ blockQ _ _ _ _ _; first | (refine B_next ?_) | (refine B_same ?_) | (refine B_other (by kernel_rfl) ?_) | (refine B_ret ?_))
    | (refine W_true rfl rfl ?_)
    | (refine W_false rfl rfl ?_)
    | (guard_target =~ WO _ _ (Oper.mk _ (Op.move _) _ _ _ none) _ _ _ _; first | (refine O_move (v := (.int _ (Nat.cast _))) rfl ?_) | (refine O_move (v := (.bool _)) rfl ?_) | (refine O_move (v := (.pointer _)) rfl ?_) | (refine O_move (v := (.slice _ _ _)) rfl ?_) | (refine O_move (v := (.agg _)) rfl ?_) | (refine O_move (v := (.tuple _)) rfl ?_) | (refine O_move (v := (.int _ _)) rfl ?_) | (refine O_move (v := .int _ (Nat.cast (OfNat.ofNat 0))) rfl ?_))
    | (guard_target =~ WO _ _ (Oper.mk _ (Op.binOp BinOp.lss _ _ _ _) _ _ _ none) _ _ _ _; first | (refine O_lss_t (b := 1600) rfl rfl (by omega) ?_) | (refine O_lss_f (b := 1600) rfl rfl (by omega) ?_) | (refine O_lss (b := 1600) rfl rfl ?_) | (refine O_lss_t (b := 24) rfl rfl (by omega) ?_) | (refine O_lss_f (b := 24) rfl rfl (by omega) ?_) | (refine O_lss (b := 24) rfl rfl ?_))
    | (guard_target =~ WO _ _ (Oper.mk _ (Op.nilCheck _) _ _ _ none) _ _ _ _; first | (refine O_nil rfl ?_))
    | (guard_target =~ WO _ _ (Oper.mk _ (Op.indexAddr 142 _ _) _ _ _ none) _ _ _ _; first | (refine O_index ar142 rfl rfl (by omega) ?_))
    | (guard_target =~ WO _ _ (Oper.mk _ (Op.assign _) _ _ _ none) _ _ _ _; first | (refine O_assign (v := (.int _ (Nat.cast _))) rfl ?_) | (refine O_assign (v := (.bool _)) rfl ?_) | (refine O_assign (v := (.pointer _)) rfl ?_) | (refine O_assign (v := (.slice _ _ _)) rfl ?_) | (refine O_assign (v := (.agg _)) rfl ?_) | (refine O_assign (v := (.tuple _)) rfl ?_) | (refine O_assign (v := (.int _ _)) rfl ?_) | (refine O_assign (v := .int _ (Nat.cast (OfNat.ofNat 0))) rfl ?_))
    | (guard_target =~ WO _ _ (Oper.mk _ (Op.binOp BinOp.quo _ _ _ _) _ _ _ none) _ _ _ _; first | (refine O_quo (b := 64) rfl rfl (by first | exact fit_i64 (by omega) | exact fit_u64 (by omega) | exact fit_u8 (by omega) | exact fit_i32 (by omega) | exact fit_u16 (by omega)) (by omega) ?_) | (refine O_quo (b := 320) rfl rfl (by first | exact fit_i64 (by omega) | exact fit_u64 (by omega) | exact fit_u8 (by omega) | exact fit_i32 (by omega) | exact fit_u16 (by omega)) (by omega) ?_))
    | (guard_target =~ WO _ _ (Oper.mk _ (Op.binOp BinOp.rem _ _ _ _) _ _ _ none) _ _ _ _; first | (refine O_rem (b := 5) rfl rfl (by omega) ?_) | (refine O_rem (b := 64) rfl rfl (by omega) ?_))
    | (guard_target =~ WO _ _ (Oper.mk _ (Op.indexAddr 200 _ _) _ _ _ none) _ _ _ _; first | (refine O_index ar200 rfl rfl (by omega) ?_))
    | (guard_target =~ WO _ _ (Oper.mk _ (Op.indexAddr 198 _ _) _ _ _ none) _ _ _ _; first | (refine O_index ar198 rfl rfl (by omega) ?_))
    | (guard_target =~ WO _ _ (Oper.mk _ (Op.indexAddr 197 _ _) _ _ _ none) _ _ _ _; first | (refine O_index ar197 rfl rfl (by omega) ?_))
    | (guard_target =~ WO _ _ (Oper.mk _ (Op.binOp BinOp.add _ _ _ _) _ _ _ none) _ _ _ _; first | (refine O_add (b := 1) rfl rfl (by first | exact fit_i64 (by omega) | exact fit_u64 (by omega) | exact fit_u8 (by omega) | exact fit_i32 (by omega) | exact fit_u16 (by omega)) ?_)))
  refine W_loop (fun k ρ w' => ∃ i, k = 1600 - i ∧ i ≤ 1600 ∧ Has ρ [(0, .pointer (some ⟨bS, 0, none⟩)), (2, .pointer (some ⟨ba, 0, none⟩)), (40, .int .i64 (i : Nat))] ∧
    Mod [bS, ba] w w' ∧ Blk w' bS (bs 1600 (qK f i)) tb ∧ Blk w' ba (bs 1600 (rounds (gK f 1600) 24)) 200) 1600 ?_ ?_
  · refine ⟨0, by omega, by omega, Has.mk ⟨rfl, rfl, rfl, trivial⟩, hM1, ?_, ha1⟩
    rw [bs_congr (g := f) (fun i _ => by simp [qK])]; exact hS1
  clear hM1 hS1 ha1 w1
  rintro k _ w1 ⟨i, rfl, hi, ⟨σ, rfl⟩, hM1, hS1, ha1⟩
  by_cases hlt : i < 1600
  · repeat (first
      | (refine L_cons ?_)
      | (refine R_cons rfl ?_)
      | (refine W_seq ?_)
      | (refine W_region (by kernel_rfl) ?_)
      | (refine L_nil ?_)
      | (refine R_nil ?_)
      | (refine W_block ?_)
      | (refine W_skip ?_)
      | (refine W_exit ?_)
      | (refine W_ret ?_)
      | (guard_target =~ thenQ _ _ _ _ _; first | (refine T_next ?_) | (refine T_exit ?_) | (refine T_ret ?_))
      | (guard_target =~ blockQ _ _ _ _ _; first | (refine B_next ?_) | (refine B_same ?_) | (refine B_other (by kernel_rfl) ?_) | (refine B_ret ?_))
      | (refine W_true rfl rfl ?_)
      | (refine W_false rfl rfl ?_)
      | (guard_target =~ WO _ _ (Oper.mk _ (Op.move _) _ _ _ none) _ _ _ _; first | (refine O_move (v := (.int _ (Nat.cast _))) rfl ?_) | (refine O_move (v := (.bool _)) rfl ?_) | (refine O_move (v := (.pointer _)) rfl ?_) | (refine O_move (v := (.slice _ _ _)) rfl ?_) | (refine O_move (v := (.agg _)) rfl ?_) | (refine O_move (v := (.tuple _)) rfl ?_) | (refine O_move (v := (.int _ _)) rfl ?_) | (refine O_move (v := .int _ (Nat.cast (OfNat.ofNat 0))) rfl ?_))
      | (guard_target =~ WO _ _ (Oper.mk _ (Op.binOp BinOp.lss _ _ _ _) _ _ _ none) _ _ _ _; first | (refine O_lss_t (b := 1600) rfl rfl (by omega) ?_) | (refine O_lss_f (b := 1600) rfl rfl (by omega) ?_) | (refine O_lss (b := 1600) rfl rfl ?_) | (refine O_lss_t (b := 24) rfl rfl (by omega) ?_) | (refine O_lss_f (b := 24) rfl rfl (by omega) ?_) | (refine O_lss (b := 24) rfl rfl ?_))
      | (guard_target =~ WO _ _ (Oper.mk _ (Op.nilCheck _) _ _ _ none) _ _ _ _; first | (refine O_nil rfl ?_))
      | (guard_target =~ WO _ _ (Oper.mk _ (Op.indexAddr 142 _ _) _ _ _ none) _ _ _ _; first | (refine O_index ar142 rfl rfl (by omega) ?_))
      | (guard_target =~ WO _ _ (Oper.mk _ (Op.assign _) _ _ _ none) _ _ _ _; first | (refine O_assign (v := (.int _ (Nat.cast _))) rfl ?_) | (refine O_assign (v := (.bool _)) rfl ?_) | (refine O_assign (v := (.pointer _)) rfl ?_) | (refine O_assign (v := (.slice _ _ _)) rfl ?_) | (refine O_assign (v := (.agg _)) rfl ?_) | (refine O_assign (v := (.tuple _)) rfl ?_) | (refine O_assign (v := (.int _ _)) rfl ?_) | (refine O_assign (v := .int _ (Nat.cast (OfNat.ofNat 0))) rfl ?_))
      | (guard_target =~ WO _ _ (Oper.mk _ (Op.binOp BinOp.quo _ _ _ _) _ _ _ none) _ _ _ _; first | (refine O_quo (b := 64) rfl rfl (by first | exact fit_i64 (by omega) | exact fit_u64 (by omega) | exact fit_u8 (by omega) | exact fit_i32 (by omega) | exact fit_u16 (by omega)) (by omega) ?_) | (refine O_quo (b := 320) rfl rfl (by first | exact fit_i64 (by omega) | exact fit_u64 (by omega) | exact fit_u8 (by omega) | exact fit_i32 (by omega) | exact fit_u16 (by omega)) (by omega) ?_))
      | (guard_target =~ WO _ _ (Oper.mk _ (Op.binOp BinOp.rem _ _ _ _) _ _ _ none) _ _ _ _; first | (refine O_rem (b := 5) rfl rfl (by omega) ?_) | (refine O_rem (b := 64) rfl rfl (by omega) ?_))
      | (guard_target =~ WO _ _ (Oper.mk _ (Op.indexAddr 200 _ _) _ _ _ none) _ _ _ _; first | (refine O_index ar200 rfl rfl (by omega) ?_))
      | (guard_target =~ WO _ _ (Oper.mk _ (Op.indexAddr 198 _ _) _ _ _ none) _ _ _ _; first | (refine O_index ar198 rfl rfl (by omega) ?_))
      | (guard_target =~ WO _ _ (Oper.mk _ (Op.indexAddr 197 _ _) _ _ _ none) _ _ _ _; first | (refine O_index ar197 rfl rfl (by omega) ?_))
      | (guard_target =~ WO _ _ (Oper.mk _ (Op.binOp BinOp.add _ _ _ _) _ _ _ none) _ _ _ _; first | (refine O_add (b := 1) rfl rfl (by first | exact fit_i64 (by omega) | exact fit_u64 (by omega) | exact fit_u8 (by omega) | exact fit_i32 (by omega) | exact fit_u16 (by omega)) ?_)))
    refine W_drawn [] [0, 1, 2, 3, 4, 5, 6, 7, 8, 9, 10, 11, 12, 13, 14, 15] mixed (by kernel_rfl) (by kernel_rfl) ?_
    repeat (first
      | (refine L_cons ?_)
      | (refine R_cons rfl ?_)
      | (refine W_seq ?_)
      | (refine W_region (by kernel_rfl) ?_)
      | (refine L_nil ?_)
      | (refine R_nil ?_)
      | (refine W_block ?_)
      | (refine W_skip ?_)
      | (refine W_exit ?_)
      | (refine W_ret ?_)
      | (guard_target =~ thenQ _ _ _ _ _; first | (refine T_next ?_) | (refine T_exit ?_) | (refine T_ret ?_))
      | (guard_target =~ blockQ _ _ _ _ _; first | (refine B_next ?_) | (refine B_same ?_) | (refine B_other (by kernel_rfl) ?_) | (refine B_ret ?_))
      | (refine W_true rfl rfl ?_)
      | (refine W_false rfl rfl ?_)
      | (guard_target =~ WO _ _ (Oper.mk _ (Op.load 4 _) _ _ _ none) _ _ _ _; first | (refine O_load_bs on4 rfl ha1.drew (by omega) ?_))
      | (guard_target =~ WO _ _ (Oper.mk _ (Op.move _) _ _ _ none) _ _ _ _; first | (refine O_move (v := (.int _ (Nat.cast _))) rfl ?_) | (refine O_move (v := (.bool _)) rfl ?_) | (refine O_move (v := (.pointer _)) rfl ?_) | (refine O_move (v := (.slice _ _ _)) rfl ?_) | (refine O_move (v := (.agg _)) rfl ?_) | (refine O_move (v := (.tuple _)) rfl ?_) | (refine O_move (v := (.int _ _)) rfl ?_) | (refine O_move (v := .int _ (Nat.cast (OfNat.ofNat 0))) rfl ?_))
      | (guard_target =~ WO _ _ (Oper.mk _ (Op.binOp BinOp.lss _ _ _ _) _ _ _ none) _ _ _ _; first | (refine O_lss_t (b := 1600) rfl rfl (by omega) ?_) | (refine O_lss_f (b := 1600) rfl rfl (by omega) ?_) | (refine O_lss (b := 1600) rfl rfl ?_) | (refine O_lss_t (b := 24) rfl rfl (by omega) ?_) | (refine O_lss_f (b := 24) rfl rfl (by omega) ?_) | (refine O_lss (b := 24) rfl rfl ?_))
      | (guard_target =~ WO _ _ (Oper.mk _ (Op.nilCheck _) _ _ _ none) _ _ _ _; first | (refine O_nil rfl ?_))
      | (guard_target =~ WO _ _ (Oper.mk _ (Op.indexAddr 142 _ _) _ _ _ none) _ _ _ _; first | (refine O_index ar142 rfl rfl (by omega) ?_))
      | (guard_target =~ WO _ _ (Oper.mk _ (Op.assign _) _ _ _ none) _ _ _ _; first | (refine O_assign (v := (.int _ (Nat.cast _))) rfl ?_) | (refine O_assign (v := (.bool _)) rfl ?_) | (refine O_assign (v := (.pointer _)) rfl ?_) | (refine O_assign (v := (.slice _ _ _)) rfl ?_) | (refine O_assign (v := (.agg _)) rfl ?_) | (refine O_assign (v := (.tuple _)) rfl ?_) | (refine O_assign (v := (.int _ _)) rfl ?_) | (refine O_assign (v := .int _ (Nat.cast (OfNat.ofNat 0))) rfl ?_))
      | (guard_target =~ WO _ _ (Oper.mk _ (Op.binOp BinOp.quo _ _ _ _) _ _ _ none) _ _ _ _; first | (refine O_quo (b := 64) rfl rfl (by first | exact fit_i64 (by omega) | exact fit_u64 (by omega) | exact fit_u8 (by omega) | exact fit_i32 (by omega) | exact fit_u16 (by omega)) (by omega) ?_) | (refine O_quo (b := 320) rfl rfl (by first | exact fit_i64 (by omega) | exact fit_u64 (by omega) | exact fit_u8 (by omega) | exact fit_i32 (by omega) | exact fit_u16 (by omega)) (by omega) ?_))
      | (guard_target =~ WO _ _ (Oper.mk _ (Op.binOp BinOp.rem _ _ _ _) _ _ _ none) _ _ _ _; first | (refine O_rem (b := 5) rfl rfl (by omega) ?_) | (refine O_rem (b := 64) rfl rfl (by omega) ?_))
      | (guard_target =~ WO _ _ (Oper.mk _ (Op.indexAddr 200 _ _) _ _ _ none) _ _ _ _; first | (refine O_index ar200 rfl rfl (by omega) ?_))
      | (guard_target =~ WO _ _ (Oper.mk _ (Op.indexAddr 198 _ _) _ _ _ none) _ _ _ _; first | (refine O_index ar198 rfl rfl (by omega) ?_))
      | (guard_target =~ WO _ _ (Oper.mk _ (Op.indexAddr 197 _ _) _ _ _ none) _ _ _ _; first | (refine O_index ar197 rfl rfl (by omega) ?_))
      | (guard_target =~ WO _ _ (Oper.mk _ (Op.binOp BinOp.add _ _ _ _) _ _ _ none) _ _ _ _; first | (refine O_add (b := 1) rfl rfl (by first | exact fit_i64 (by omega) | exact fit_u64 (by omega) | exact fit_u8 (by omega) | exact fit_i32 (by omega) | exact fit_u16 (by omega)) ?_)))
    refine O_store_bs on4 rfl rfl hS1.drew (by omega) rfl fun w2 hU => ?_
    have hU := hU.undrew
    rw [qK_succ hlt] at hU
    repeat (first
      | (refine L_cons ?_)
      | (refine R_cons rfl ?_)
      | (refine W_seq ?_)
      | (refine W_region (by kernel_rfl) ?_)
      | (refine L_nil ?_)
      | (refine R_nil ?_)
      | (refine W_block ?_)
      | (refine W_skip ?_)
      | (refine W_exit ?_)
      | (refine W_ret ?_)
      | (guard_target =~ thenQ _ _ _ _ _; first | (refine T_next ?_) | (refine T_exit ?_) | (refine T_ret ?_))
      | (guard_target =~ blockQ _ _ _ _ _; first | (refine B_next ?_) | (refine B_same ?_) | (refine B_other (by kernel_rfl) ?_) | (refine B_ret ?_))
      | (refine W_true rfl rfl ?_)
      | (refine W_false rfl rfl ?_)
      | (guard_target =~ WO _ _ (Oper.mk _ (Op.move _) _ _ _ none) _ _ _ _; first | (refine O_move (v := (.int _ (Nat.cast _))) rfl ?_) | (refine O_move (v := (.bool _)) rfl ?_) | (refine O_move (v := (.pointer _)) rfl ?_) | (refine O_move (v := (.slice _ _ _)) rfl ?_) | (refine O_move (v := (.agg _)) rfl ?_) | (refine O_move (v := (.tuple _)) rfl ?_) | (refine O_move (v := (.int _ _)) rfl ?_) | (refine O_move (v := .int _ (Nat.cast (OfNat.ofNat 0))) rfl ?_))
      | (guard_target =~ WO _ _ (Oper.mk _ (Op.binOp BinOp.lss _ _ _ _) _ _ _ none) _ _ _ _; first | (refine O_lss_t (b := 1600) rfl rfl (by omega) ?_) | (refine O_lss_f (b := 1600) rfl rfl (by omega) ?_) | (refine O_lss (b := 1600) rfl rfl ?_) | (refine O_lss_t (b := 24) rfl rfl (by omega) ?_) | (refine O_lss_f (b := 24) rfl rfl (by omega) ?_) | (refine O_lss (b := 24) rfl rfl ?_))
      | (guard_target =~ WO _ _ (Oper.mk _ (Op.nilCheck _) _ _ _ none) _ _ _ _; first | (refine O_nil rfl ?_))
      | (guard_target =~ WO _ _ (Oper.mk _ (Op.indexAddr 142 _ _) _ _ _ none) _ _ _ _; first | (refine O_index ar142 rfl rfl (by omega) ?_))
      | (guard_target =~ WO _ _ (Oper.mk _ (Op.assign _) _ _ _ none) _ _ _ _; first | (refine O_assign (v := (.int _ (Nat.cast _))) rfl ?_) | (refine O_assign (v := (.bool _)) rfl ?_) | (refine O_assign (v := (.pointer _)) rfl ?_) | (refine O_assign (v := (.slice _ _ _)) rfl ?_) | (refine O_assign (v := (.agg _)) rfl ?_) | (refine O_assign (v := (.tuple _)) rfl ?_) | (refine O_assign (v := (.int _ _)) rfl ?_) | (refine O_assign (v := .int _ (Nat.cast (OfNat.ofNat 0))) rfl ?_))
      | (guard_target =~ WO _ _ (Oper.mk _ (Op.binOp BinOp.quo _ _ _ _) _ _ _ none) _ _ _ _; first | (refine O_quo (b := 64) rfl rfl (by first | exact fit_i64 (by omega) | exact fit_u64 (by omega) | exact fit_u8 (by omega) | exact fit_i32 (by omega) | exact fit_u16 (by omega)) (by omega) ?_) | (refine O_quo (b := 320) rfl rfl (by first | exact fit_i64 (by omega) | exact fit_u64 (by omega) | exact fit_u8 (by omega) | exact fit_i32 (by omega) | exact fit_u16 (by omega)) (by omega) ?_))
      | (guard_target =~ WO _ _ (Oper.mk _ (Op.binOp BinOp.rem _ _ _ _) _ _ _ none) _ _ _ _; first | (refine O_rem (b := 5) rfl rfl (by omega) ?_) | (refine O_rem (b := 64) rfl rfl (by omega) ?_))
      | (guard_target =~ WO _ _ (Oper.mk _ (Op.indexAddr 200 _ _) _ _ _ none) _ _ _ _; first | (refine O_index ar200 rfl rfl (by omega) ?_))
      | (guard_target =~ WO _ _ (Oper.mk _ (Op.indexAddr 198 _ _) _ _ _ none) _ _ _ _; first | (refine O_index ar198 rfl rfl (by omega) ?_))
      | (guard_target =~ WO _ _ (Oper.mk _ (Op.indexAddr 197 _ _) _ _ _ none) _ _ _ _; first | (refine O_index ar197 rfl rfl (by omega) ?_))
      | (guard_target =~ WO _ _ (Oper.mk _ (Op.binOp BinOp.add _ _ _ _) _ _ _ none) _ _ _ _; first | (refine O_add (b := 1) rfl rfl (by first | exact fit_i64 (by omega) | exact fit_u64 (by omega) | exact fit_u8 (by omega) | exact fit_i32 (by omega) | exact fit_u16 (by omega)) ?_)))
    exact ⟨1600 - (i + 1), by omega, i + 1, rfl, by omega, Has.mk ⟨rfl, rfl, rfl, trivial⟩, hM1.trans' hU.mod (by simp), hU.here, ha1.upd hU (Ne.symm hne)⟩
  obtain rfl : i = 1600 := by omega
  repeat (first
    | (refine L_cons ?_)
    | (refine R_cons rfl ?_)
    | (refine W_seq ?_)
    | (refine W_region (by kernel_rfl) ?_)
    | (refine L_nil ?_)
    | (refine R_nil ?_)
    | (refine W_block ?_)
    | (refine W_skip ?_)
    | (refine W_exit ?_)
    | (refine W_ret ?_)
    | (guard_target =~ thenQ _ _ _ _ _; first | (refine T_next ?_) | (refine T_exit ?_) | (refine T_ret ?_))
    | (guard_target =~ blockQ _ _ _ _ _; first | (refine B_next ?_) | (refine B_same ?_) | (refine B_other (by kernel_rfl) ?_) | (refine B_ret ?_))
    | (refine W_true rfl rfl ?_)
    | (refine W_false rfl rfl ?_)
    | (guard_target =~ WO _ _ (Oper.mk _ (Op.move _) _ _ _ none) _ _ _ _; first | (refine O_move (v := (.int _ (Nat.cast _))) rfl ?_) | (refine O_move (v := (.bool _)) rfl ?_) | (refine O_move (v := (.pointer _)) rfl ?_) | (refine O_move (v := (.slice _ _ _)) rfl ?_) | (refine O_move (v := (.agg _)) rfl ?_) | (refine O_move (v := (.tuple _)) rfl ?_) | (refine O_move (v := (.int _ _)) rfl ?_) | (refine O_move (v := .int _ (Nat.cast (OfNat.ofNat 0))) rfl ?_))
    | (guard_target =~ WO _ _ (Oper.mk _ (Op.binOp BinOp.lss _ _ _ _) _ _ _ none) _ _ _ _; first | (refine O_lss_t (b := 1600) rfl rfl (by omega) ?_) | (refine O_lss_f (b := 1600) rfl rfl (by omega) ?_) | (refine O_lss (b := 1600) rfl rfl ?_) | (refine O_lss_t (b := 24) rfl rfl (by omega) ?_) | (refine O_lss_f (b := 24) rfl rfl (by omega) ?_) | (refine O_lss (b := 24) rfl rfl ?_))
    | (guard_target =~ WO _ _ (Oper.mk _ (Op.nilCheck _) _ _ _ none) _ _ _ _; first | (refine O_nil rfl ?_))
    | (guard_target =~ WO _ _ (Oper.mk _ (Op.indexAddr 142 _ _) _ _ _ none) _ _ _ _; first | (refine O_index ar142 rfl rfl (by omega) ?_))
    | (guard_target =~ WO _ _ (Oper.mk _ (Op.assign _) _ _ _ none) _ _ _ _; first | (refine O_assign (v := (.int _ (Nat.cast _))) rfl ?_) | (refine O_assign (v := (.bool _)) rfl ?_) | (refine O_assign (v := (.pointer _)) rfl ?_) | (refine O_assign (v := (.slice _ _ _)) rfl ?_) | (refine O_assign (v := (.agg _)) rfl ?_) | (refine O_assign (v := (.tuple _)) rfl ?_) | (refine O_assign (v := (.int _ _)) rfl ?_) | (refine O_assign (v := .int _ (Nat.cast (OfNat.ofNat 0))) rfl ?_))
    | (guard_target =~ WO _ _ (Oper.mk _ (Op.binOp BinOp.quo _ _ _ _) _ _ _ none) _ _ _ _; first | (refine O_quo (b := 64) rfl rfl (by first | exact fit_i64 (by omega) | exact fit_u64 (by omega) | exact fit_u8 (by omega) | exact fit_i32 (by omega) | exact fit_u16 (by omega)) (by omega) ?_) | (refine O_quo (b := 320) rfl rfl (by first | exact fit_i64 (by omega) | exact fit_u64 (by omega) | exact fit_u8 (by omega) | exact fit_i32 (by omega) | exact fit_u16 (by omega)) (by omega) ?_))
    | (guard_target =~ WO _ _ (Oper.mk _ (Op.binOp BinOp.rem _ _ _ _) _ _ _ none) _ _ _ _; first | (refine O_rem (b := 5) rfl rfl (by omega) ?_) | (refine O_rem (b := 64) rfl rfl (by omega) ?_))
    | (guard_target =~ WO _ _ (Oper.mk _ (Op.indexAddr 200 _ _) _ _ _ none) _ _ _ _; first | (refine O_index ar200 rfl rfl (by omega) ?_))
    | (guard_target =~ WO _ _ (Oper.mk _ (Op.indexAddr 198 _ _) _ _ _ none) _ _ _ _; first | (refine O_index ar198 rfl rfl (by omega) ?_))
    | (guard_target =~ WO _ _ (Oper.mk _ (Op.indexAddr 197 _ _) _ _ _ none) _ _ _ _; first | (refine O_index ar197 rfl rfl (by omega) ?_))
    | (guard_target =~ WO _ _ (Oper.mk _ (Op.binOp BinOp.add _ _ _ _) _ _ _ none) _ _ _ _; first | (refine O_add (b := 1) rfl rfl (by first | exact fit_i64 (by omega) | exact fit_u64 (by omega) | exact fit_u8 (by omega) | exact fit_i32 (by omega) | exact fit_u16 (by omega)) ?_)))
  refine E_end0 rfl ⟨rfl, ?_, ?_⟩
  · exact ⟨hM1.os, hM1.tape, hM1.output, hM1.size, fun k hk hn => hM1.block k hk (by simp at hn ⊢; omega)⟩
  · rw [bs_congr (g := qK f 1600) (fun i hi => by rw [qK, if_pos hi])]; exact hS1
end Go.Proofs.Ygcsam
