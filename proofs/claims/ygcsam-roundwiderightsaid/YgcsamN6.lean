/-
  ONE ROUND OF ALGORITHM D. Own work.
-/
import Derived.Test.YgcsamN5
namespace Go.Proofs.Ygcsam
set_option linter.unusedVariables false
set_option maxHeartbeats 1000000

theorem pow_s (B m : Nat) : B ^ (m + 1) = B * B ^ m := by rw [Nat.pow_succ, Nat.mul_comm]
theorem val_three (B : Nat) (F : Nat → Nat) (m : Nat) : val B F (m + 3) = ((F (m + 2) * B + F (m + 1)) * B + F m) * B ^ m + val B F m := by
  rw [val_succ, val_succ, val_succ, pow_s B (m + 1), pow_s B m]
  simp only [Nat.add_mul, Nat.mul_assoc]
  omega
theorem val_two (B : Nat) (F : Nat → Nat) (m : Nat) : val B F (m + 2) = (F (m + 1) * B + F m) * B ^ m + val B F m := by
  rw [val_succ, val_succ, pow_s B m]
  simp only [Nat.add_mul, Nat.mul_assoc]
  omega
theorem val_top_le {B : Nat} {F G : Nat → Nat} {n : Nat} (hB : 0 < B) (hG : ∀ i, i < n → G i < B) (h : val B F (n + 2) < val B G (n + 1) * B) : F (n + 1) ≤ G n := by
  have h1 : F (n + 1) * B ^ (n + 1) ≤ val B F (n + 2) := by rw [val_succ]; exact Nat.le_add_left _ _
  have h2 : val B G (n + 1) < (G n + 1) * B ^ n := by
    rw [val_succ, Nat.add_mul, Nat.one_mul, Nat.add_comm]
    exact Nat.add_lt_add_left (val_lt hG) _
  have h3 : F (n + 1) * B ^ (n + 1) < (G n + 1) * B ^ (n + 1) := by
    have h4 := Nat.mul_lt_mul_of_pos_right h2 hB
    rw [Nat.mul_assoc, ← Nat.pow_succ] at h4
    exact Nat.lt_of_le_of_lt h1 (Nat.lt_trans h h4)
  exact Nat.le_of_lt_succ (Nat.lt_of_mul_lt_mul_right h3)
theorem val_le_pow {B : Nat} {f : Nat → Nat} {n : Nat} (hB : 0 < B) (h : ∀ i, i < n → f i < B) : val B f n ≤ B ^ (n + 1) :=
  Nat.le_of_lt (Nat.lt_of_lt_of_le (val_lt h) (Nat.pow_le_pow_right hB (Nat.le_succ _)))

/-- The trial digit of the n+1 limbs F by the n limbs G. -/
def trialOf (F G : Nat → Nat) (n : Nat) : Nat × Nat := trialN (F n) (F (n - 1)) (F (n - 2)) (G (n - 1)) (G (n - 2))

theorem trialOf_spec {F G : Nat → Nat} {n : Nat} (hn : 2 ≤ n) (hF : ∀ i, i ≤ n → F i < 18446744073709551616) (hG : ∀ i, i < n → G i < 18446744073709551616) (ht : 9223372036854775808 ≤ G (n - 1)) (hUV : val 18446744073709551616 F (n + 1) < val 18446744073709551616 G n * 18446744073709551616) :
    F n ≤ G (n - 1) ∧ 0 < val 18446744073709551616 G n ∧ (trialOf F G n).2 ≤ 2 ∧ (trialOf F G n).1 < 18446744073709551616 ∧ val 18446744073709551616 F (n + 1) / val 18446744073709551616 G n ≤ (trialOf F G n).1 ∧ (trialOf F G n).1 ≤ val 18446744073709551616 F (n + 1) / val 18446744073709551616 G n + 1 := by
  obtain ⟨m, rfl⟩ : ∃ m, n = m + 2 := ⟨n - 2, by omega⟩
  have hX : 0 < 18446744073709551616 ^ m := Nat.pow_pos (by omega)
  have hFl : val 18446744073709551616 F m < 18446744073709551616 ^ m := val_lt fun i hi => hF i (by omega)
  have hGl : val 18446744073709551616 G m < 18446744073709551616 ^ m := val_lt fun i hi => hG i (by omega)
  have e1 := val_three 18446744073709551616 F m
  have e2 := val_two 18446744073709551616 G m
  have hG1 := hG m (by omega)
  have hG2 := hG (m + 1) (by omega)
  have hF1 := hF m (by omega)
  have hF2 := hF (m + 1) (by omega)
  unfold trialOf
  rw [show m + 2 - 1 = m + 1 by omega] at ht
  rw [show m + 2 - 1 = m + 1 by omega, show m + 2 - 2 = m by omega, show m + 2 + 1 = m + 3 by omega]
  rw [show m + 2 + 1 = m + 3 by omega] at hUV
  have hV0 : 0 < val 18446744073709551616 G (m + 2) := by
    have : 1 * 18446744073709551616 ^ m ≤ (G (m + 1) * 18446744073709551616 + G m) * 18446744073709551616 ^ m := Nat.mul_le_mul_right _ (by omega)
    omega
  have hs := trialN_spec (high := F (m + 2)) (mid := F (m + 1)) (low := F m) (top := G (m + 1)) (next := G m) (U := val 18446744073709551616 F (m + 3)) (V := val 18446744073709551616 G (m + 2)) (X := 18446744073709551616 ^ m) hF2 hF1 hG1 ht hG2 hX (by omega) (by rw [Nat.add_mul, Nat.one_mul]; omega) (by omega) (by rw [Nat.add_mul, Nat.one_mul]; omega) hUV
  refine ⟨?_, hV0, hs⟩
  exact val_top_le (by omega) (fun i hi => hG i (by omega)) hUV

theorem round_end0 {U V T Y : Nat} (h : Y + T * V = U) (hq : U / V ≤ T) (hV : 0 < V) : T = U / V ∧ Y = U % V := by
  have h1 : T ≤ U / V := (Nat.le_div_iff_mul_le hV).2 (by omega)
  have h2 : T = U / V := by omega
  refine ⟨h2, ?_⟩
  have := Nat.div_add_mod U V
  rw [Nat.mul_comm, ← h2] at this
  omega
theorem round_end1 {U V T Y Z P r : Nat} (h : Y + T * V = U + P) (hY : Y < P) (hq2 : T ≤ U / V + 1) (hV : 0 < V) (hZ : Z + r * P = Y + V) (hZl : Z < P) (hVP : V ≤ P) : T = U / V + 1 ∧ Z = U % V := by
  have h1 : U / V < T := (Nat.div_lt_iff_lt_mul hV).2 (by omega)
  have h2 : T = U / V + 1 := by omega
  refine ⟨h2, ?_⟩
  have h3 := Nat.div_add_mod U V
  have h4 : T * V = V * (U / V) + V := by rw [h2, Nat.add_mul, Nat.one_mul, Nat.mul_comm]
  have h5 : U % V < V := Nat.mod_lt _ hV
  rcases (show r = 0 ∨ r = 1 ∨ 2 ≤ r by omega) with rfl | rfl | h6
  · omega
  · omega
  · have : 2 * P ≤ r * P := Nat.mul_le_mul_right _ h6
    omega

theorem round_ok {w : World} {b N o n cap b2 N2 o2 cap2 : Nat} {tb tb2 : TypeId} {f g : Nat → Nat} (hb : Blk w b (ns .u64 N f) tb) (hb2 : Blk w b2 (ns .u64 N2 g) tb2) (hne : b2 ≠ b) (hN : o + n < N) (hN2 : o2 + n ≤ N2) (hn : n < 4294967296)
    (hf : ∀ i, i < N → f i < 18446744073709551616) (hg : ∀ i, i < N2 → g i < 18446744073709551616) (h2 : 2 ≤ n) (ht : 9223372036854775808 ≤ g (o2 + (n - 1))) (hUV : val 18446744073709551616 (fun j => f (o + j)) (n + 1) < val 18446744073709551616 (fun j => g (o2 + j)) n * 18446744073709551616) :
    Ret Samg.prog 75 #[.slice (some ⟨b, o, none⟩) (n + 1) cap, .slice (some ⟨b2, o2, none⟩) n cap2] w fun v w' => ∃ f', Mod [b] w w' ∧ Blk w' b (ns .u64 N f') tb ∧ (∀ j, ¬ (o ≤ j ∧ j < o + (n + 1)) → f' j = f j) ∧ (∀ j, j < N → f' j < 18446744073709551616) ∧
      val 18446744073709551616 (fun j => f' (o + j)) (n + 1) = val 18446744073709551616 (fun j => f (o + j)) (n + 1) % val 18446744073709551616 (fun j => g (o2 + j)) n ∧
      v = .tuple #[.int .u64 ((val 18446744073709551616 (fun j => f (o + j)) (n + 1) / val 18446744073709551616 (fun j => g (o2 + j)) n : Nat) : Int), .int .u8 (((trialOf (fun j => f (o + j)) (fun j => g (o2 + j)) n).2 : Nat) : Int), .bool (decide ((trialOf (fun j => f (o + j)) (fun j => g (o2 + j)) n).1 ≠ val 18446744073709551616 (fun j => f (o + j)) (n + 1) / val 18446744073709551616 (fun j => g (o2 + j)) n))] := by
  refine W_enter (l := [.slice (some ⟨b, o, none⟩) (n + 1) cap, .slice (some ⟨b2, o2, none⟩) n cap2]) Samg.func75 rfl Samg.ntmps75 rfl ?_
  obtain ⟨s1, s2, s3, s4, s5, s6⟩ := trialOf_spec (F := fun j => f (o + j)) (G := fun j => g (o2 + j)) h2 (fun i hi => hf _ (by omega)) (fun i hi => hg _ (by omega)) ht hUV
  repeat (first
    | (refine L_cons ?_)
    | (refine R_cons rfl ?_)
    | (refine W_seq ?_)
    | (refine W_region (by kernel_rfl) ?_)
    | (refine L_nil ?_)
    | (refine R_nil ?_)
    | (refine W_block ?_)
    | (refine W_skip ?_)
    | (refine W_exit ?_)
    | (refine W_ret ?_)
    | (guard_target =~ thenQ _ _ _ _ _; first | (refine T_next ?_) | (refine T_exit ?_) | (refine T_ret ?_))
    | (guard_target =~ blockQ _ _ _ _ _; first | (refine B_next ?_) | (refine B_same ?_) | (refine B_other (by kernel_rfl) ?_) | (refine B_ret ?_))
    | (refine W_true rfl rfl ?_)
    | (refine W_false rfl rfl ?_)
    | (guard_target =~ WO _ _ (Oper.mk _ (Op.assign _) _ _ _ none) _ _ _ _; first | (refine O_assign (v := .int _ (Nat.cast (0 : Nat))) rfl ?_) | (refine O_assign (v := (.int _ (Nat.cast _))) rfl ?_) | (refine O_assign (v := (.bool _)) rfl ?_) | (refine O_assign (v := (.pointer _)) rfl ?_) | (refine O_assign (v := (.slice _ _ _)) rfl ?_) | (refine O_assign (v := (.agg _)) rfl ?_) | (refine O_assign (v := (.tuple _)) rfl ?_) | (refine O_assign (v := (.int _ _)) rfl ?_))
    | (guard_target =~ WO _ _ (Oper.mk _ (Op.move _) _ _ _ none) _ _ _ _; first | (refine O_move (v := (.int _ (Nat.cast _))) rfl ?_) | (refine O_move (v := (.bool _)) rfl ?_) | (refine O_move (v := (.pointer _)) rfl ?_) | (refine O_move (v := (.slice _ _ _)) rfl ?_) | (refine O_move (v := (.agg _)) rfl ?_) | (refine O_move (v := (.tuple _)) rfl ?_) | (refine O_move (v := (.int _ _)) rfl ?_))
    | (guard_target =~ WO _ _ (Oper.mk _ (Op.call _) _ _ _ none) _ _ _ _; first | (refine O_len Samg.underlying133 rfl rfl ?_))
    | (guard_target =~ WO _ _ (Oper.mk _ (Op.indexAddr 133 _ _) _ _ _ none) _ _ _ _; first | (refine O_index_s1 sl133 rfl rfl (by omega) ?_))
    | (guard_target =~ WO _ _ (Oper.mk _ (Op.binOp BinOp.sub _ _ _ _) _ _ _ none) _ _ _ _; first | (refine O_sub (b := 1) rfl rfl (by first | exact fit_i64 (by omega) | exact fit_u64 (by omega) | exact fit_u8 (by omega) | exact fit_i32 (by omega) | exact fit_u16 (by omega)) (by omega) ?_) | (refine O_sub (b := 2) rfl rfl (by first | exact fit_i64 (by omega) | exact fit_u64 (by omega) | exact fit_u8 (by omega) | exact fit_i32 (by omega) | exact fit_u16 (by omega)) (by omega) ?_))
    | (guard_target =~ WO _ _ (Oper.mk _ (Op.extract _ _) _ _ _ none) _ _ _ _; first | (refine O_extract rfl rfl ?_)))
  refine W_drawn [] [0, 1, 2, 3, 4, 5, 6, 7, 8, 9, 10, 11, 12, 13, 14, 15, 16, 17, 18, 19, 20, 21, 22, 23, 24, 25, 26, 27, 28, 29] mixed (by kernel_rfl) (by kernel_rfl) ?_
  repeat (first
    | (refine L_cons ?_)
    | (refine R_cons rfl ?_)
    | (refine W_seq ?_)
    | (refine W_region (by kernel_rfl) ?_)
    | (refine L_nil ?_)
    | (refine R_nil ?_)
    | (refine W_block ?_)
    | (refine W_skip ?_)
    | (refine W_exit ?_)
    | (refine W_ret ?_)
    | (guard_target =~ thenQ _ _ _ _ _; first | (refine T_next ?_) | (refine T_exit ?_) | (refine T_ret ?_))
    | (guard_target =~ blockQ _ _ _ _ _; first | (refine B_next ?_) | (refine B_same ?_) | (refine B_other (by kernel_rfl) ?_) | (refine B_ret ?_))
    | (refine W_true rfl rfl ?_)
    | (refine W_false rfl rfl ?_)
    | (guard_target =~ WO _ _ (Oper.mk _ (Op.load 27 _) _ _ _ none) _ _ _ _; first | (refine O_load_ns on27 rfl hb.drew (by omega) ?_) | (refine O_load_ns on27 rfl hb2.drew (by omega) ?_))
    | (guard_target =~ WO _ _ (Oper.mk _ (Op.assign _) _ _ _ none) _ _ _ _; first | (refine O_assign (v := .int _ (Nat.cast (0 : Nat))) rfl ?_) | (refine O_assign (v := (.int _ (Nat.cast _))) rfl ?_) | (refine O_assign (v := (.bool _)) rfl ?_) | (refine O_assign (v := (.pointer _)) rfl ?_) | (refine O_assign (v := (.slice _ _ _)) rfl ?_) | (refine O_assign (v := (.agg _)) rfl ?_) | (refine O_assign (v := (.tuple _)) rfl ?_) | (refine O_assign (v := (.int _ _)) rfl ?_))
    | (guard_target =~ WO _ _ (Oper.mk _ (Op.move _) _ _ _ none) _ _ _ _; first | (refine O_move (v := (.int _ (Nat.cast _))) rfl ?_) | (refine O_move (v := (.bool _)) rfl ?_) | (refine O_move (v := (.pointer _)) rfl ?_) | (refine O_move (v := (.slice _ _ _)) rfl ?_) | (refine O_move (v := (.agg _)) rfl ?_) | (refine O_move (v := (.tuple _)) rfl ?_) | (refine O_move (v := (.int _ _)) rfl ?_))
    | (guard_target =~ WO _ _ (Oper.mk _ (Op.call _) _ _ _ none) _ _ _ _; first | (refine O_len Samg.underlying133 rfl rfl ?_))
    | (guard_target =~ WO _ _ (Oper.mk _ (Op.indexAddr 133 _ _) _ _ _ none) _ _ _ _; first | (refine O_index_s1 sl133 rfl rfl (by omega) ?_))
    | (guard_target =~ WO _ _ (Oper.mk _ (Op.binOp BinOp.sub _ _ _ _) _ _ _ none) _ _ _ _; first | (refine O_sub (b := 1) rfl rfl (by first | exact fit_i64 (by omega) | exact fit_u64 (by omega) | exact fit_u8 (by omega) | exact fit_i32 (by omega) | exact fit_u16 (by omega)) (by omega) ?_) | (refine O_sub (b := 2) rfl rfl (by first | exact fit_i64 (by omega) | exact fit_u64 (by omega) | exact fit_u8 (by omega) | exact fit_i32 (by omega) | exact fit_u16 (by omega)) (by omega) ?_))
    | (guard_target =~ WO _ _ (Oper.mk _ (Op.extract _ _) _ _ _ none) _ _ _ _; first | (refine O_extract rfl rfl ?_)))
  refine O_call (l := [.int .u64 ((f (o + n) : Nat) : Int), .int .u64 ((f (o + (n - 1)) : Nat) : Int), .int .u64 ((f (o + (n - 2)) : Nat) : Int), .int .u64 ((g (o2 + (n - 1)) : Nat) : Int), .int .u64 ((g (o2 + (n - 2)) : Nat) : Int)]) cl102 (by rfl) ((trial_ok s1 (hf _ (by omega)) (hf _ (by omega)) (hg _ (by omega)) ht (hg _ (by omega)) _).mono ?_)
  rintro v w1 ⟨rfl, hE⟩
  refine ⟨nof, ?_⟩
  replace hE := (Ext.drew w).trans hE
  have hT : trialN (f (o + n)) (f (o + (n - 1))) (f (o + (n - 2))) (g (o2 + (n - 1))) (g (o2 + (n - 2))) = trialOf (fun j => f (o + j)) (fun j => g (o2 + j)) n := rfl
  rw [hT]
  clear hT
  obtain ⟨p, hp⟩ : ∃ p, trialOf (fun j => f (o + j)) (fun j => g (o2 + j)) n = p := ⟨_, rfl⟩
  rw [hp] at s3 s4 s5 s6 ⊢
  clear hp
  obtain ⟨T, c⟩ := p
  simp only at s3 s4 s5 s6 ⊢
  repeat (first
    | (refine L_cons ?_)
    | (refine R_cons rfl ?_)
    | (refine W_seq ?_)
    | (refine W_region (by kernel_rfl) ?_)
    | (refine L_nil ?_)
    | (refine R_nil ?_)
    | (refine W_block ?_)
    | (refine W_skip ?_)
    | (refine W_exit ?_)
    | (refine W_ret ?_)
    | (guard_target =~ thenQ _ _ _ _ _; first | (refine T_next ?_) | (refine T_exit ?_) | (refine T_ret ?_))
    | (guard_target =~ blockQ _ _ _ _ _; first | (refine B_next ?_) | (refine B_same ?_) | (refine B_other (by kernel_rfl) ?_) | (refine B_ret ?_))
    | (refine W_true rfl rfl ?_)
    | (refine W_false rfl rfl ?_)
    | (guard_target =~ WO _ _ (Oper.mk _ (Op.assign _) _ _ _ none) _ _ _ _; first | (refine O_assign (v := .int _ (Nat.cast (0 : Nat))) rfl ?_) | (refine O_assign (v := (.int _ (Nat.cast _))) rfl ?_) | (refine O_assign (v := (.bool _)) rfl ?_) | (refine O_assign (v := (.pointer _)) rfl ?_) | (refine O_assign (v := (.slice _ _ _)) rfl ?_) | (refine O_assign (v := (.agg _)) rfl ?_) | (refine O_assign (v := (.tuple _)) rfl ?_) | (refine O_assign (v := (.int _ _)) rfl ?_))
    | (guard_target =~ WO _ _ (Oper.mk _ (Op.move _) _ _ _ none) _ _ _ _; first | (refine O_move (v := (.int _ (Nat.cast _))) rfl ?_) | (refine O_move (v := (.bool _)) rfl ?_) | (refine O_move (v := (.pointer _)) rfl ?_) | (refine O_move (v := (.slice _ _ _)) rfl ?_) | (refine O_move (v := (.agg _)) rfl ?_) | (refine O_move (v := (.tuple _)) rfl ?_) | (refine O_move (v := (.int _ _)) rfl ?_))
    | (guard_target =~ WO _ _ (Oper.mk _ (Op.call _) _ _ _ none) _ _ _ _; first | (refine O_len Samg.underlying133 rfl rfl ?_))
    | (guard_target =~ WO _ _ (Oper.mk _ (Op.indexAddr 133 _ _) _ _ _ none) _ _ _ _; first | (refine O_index_s1 sl133 rfl rfl (by omega) ?_))
    | (guard_target =~ WO _ _ (Oper.mk _ (Op.binOp BinOp.sub _ _ _ _) _ _ _ none) _ _ _ _; first | (refine O_sub (b := 1) rfl rfl (by first | exact fit_i64 (by omega) | exact fit_u64 (by omega) | exact fit_u8 (by omega) | exact fit_i32 (by omega) | exact fit_u16 (by omega)) (by omega) ?_) | (refine O_sub (b := 2) rfl rfl (by first | exact fit_i64 (by omega) | exact fit_u64 (by omega) | exact fit_u8 (by omega) | exact fit_i32 (by omega) | exact fit_u16 (by omega)) (by omega) ?_))
    | (guard_target =~ WO _ _ (Oper.mk _ (Op.extract _ _) _ _ _ none) _ _ _ _; first | (refine O_extract rfl rfl ?_)))
  refine O_call (l := [.slice (some ⟨b, o, none⟩) (n + 1) cap, .slice (some ⟨b2, o2, none⟩) n cap2, .int .u64 ((T : Nat) : Int)]) cl103 (by rfl) ((takeTimes_ok (hb.ext hE) (hb2.ext hE) hne hN hN2 hn hf hg s4).mono ?_)
  rintro v w2 ⟨f1, r, hP, hr, rfl, hv⟩
  refine ⟨nof, ?_⟩
  have small1 : val 18446744073709551616 (fun j => f1 (o + j)) (n + 1) < 18446744073709551616 ^ (n + 1) := val_lt fun i hi => hP.small _ (by omega)
  rcases (show r = 0 ∨ r = 1 by omega) with rfl | rfl
  · simp only [Nat.zero_mul, Nat.add_zero] at hv
    obtain ⟨t1, t2⟩ := round_end0 hv s5 s2
    repeat (first
      | (refine L_cons ?_)
      | (refine R_cons rfl ?_)
      | (refine W_seq ?_)
      | (refine W_region (by kernel_rfl) ?_)
      | (refine L_nil ?_)
      | (refine R_nil ?_)
      | (refine W_block ?_)
      | (refine W_skip ?_)
      | (refine W_exit ?_)
      | (refine W_ret ?_)
      | (guard_target =~ thenQ _ _ _ _ _; first | (refine T_next ?_) | (refine T_exit ?_) | (refine T_ret ?_))
      | (guard_target =~ blockQ _ _ _ _ _; first | (refine B_next ?_) | (refine B_same ?_) | (refine B_other (by kernel_rfl) ?_) | (refine B_ret ?_))
      | (refine W_true rfl rfl ?_)
      | (refine W_false rfl rfl ?_)
      | (refine W_false rfl rfl ?_)
      | (guard_target =~ WO _ _ (Oper.mk _ (Op.assign _) _ _ _ none) _ _ _ _; first | (refine O_assign (v := .int _ (Nat.cast (0 : Nat))) rfl ?_) | (refine O_assign (v := (.int _ (Nat.cast _))) rfl ?_) | (refine O_assign (v := (.bool _)) rfl ?_) | (refine O_assign (v := (.pointer _)) rfl ?_) | (refine O_assign (v := (.slice _ _ _)) rfl ?_) | (refine O_assign (v := (.agg _)) rfl ?_) | (refine O_assign (v := (.tuple _)) rfl ?_) | (refine O_assign (v := (.int _ _)) rfl ?_))
      | (guard_target =~ WO _ _ (Oper.mk _ (Op.move _) _ _ _ none) _ _ _ _; first | (refine O_move (v := (.int _ (Nat.cast _))) rfl ?_) | (refine O_move (v := (.bool _)) rfl ?_) | (refine O_move (v := (.pointer _)) rfl ?_) | (refine O_move (v := (.slice _ _ _)) rfl ?_) | (refine O_move (v := (.agg _)) rfl ?_) | (refine O_move (v := (.tuple _)) rfl ?_) | (refine O_move (v := (.int _ _)) rfl ?_))
      | (guard_target =~ WO _ _ (Oper.mk _ (Op.call _) _ _ _ none) _ _ _ _; first | (refine O_len Samg.underlying133 rfl rfl ?_))
      | (guard_target =~ WO _ _ (Oper.mk _ (Op.indexAddr 133 _ _) _ _ _ none) _ _ _ _; first | (refine O_index_s1 sl133 rfl rfl (by omega) ?_))
      | (guard_target =~ WO _ _ (Oper.mk _ (Op.binOp BinOp.sub _ _ _ _) _ _ _ none) _ _ _ _; first | (refine O_sub (b := 1) rfl rfl (by first | exact fit_i64 (by omega) | exact fit_u64 (by omega) | exact fit_u8 (by omega) | exact fit_i32 (by omega) | exact fit_u16 (by omega)) (by omega) ?_) | (refine O_sub (b := 2) rfl rfl (by first | exact fit_i64 (by omega) | exact fit_u64 (by omega) | exact fit_u8 (by omega) | exact fit_i32 (by omega) | exact fit_u16 (by omega)) (by omega) ?_))
      | (guard_target =~ WO _ _ (Oper.mk _ (Op.extract _ _) _ _ _ none) _ _ _ _; first | (refine O_extract rfl rfl ?_)))
    refine E_ret3 (v := .int .u64 ((T : Nat) : Int)) (v' := .int .u8 (c : Nat)) (v'' := .bool false) rfl rfl rfl rfl rfl rfl rfl ⟨f1, (hE.mod [b]).trans hP.upd.mod, hP.upd.here, hP.same, hP.small, t2, ?_⟩
    rw [← t1]
    simp
  · rw [Nat.one_mul] at hv
    repeat (first
      | (refine L_cons ?_)
      | (refine R_cons rfl ?_)
      | (refine W_seq ?_)
      | (refine W_region (by kernel_rfl) ?_)
      | (refine L_nil ?_)
      | (refine R_nil ?_)
      | (refine W_block ?_)
      | (refine W_skip ?_)
      | (refine W_exit ?_)
      | (refine W_ret ?_)
      | (guard_target =~ thenQ _ _ _ _ _; first | (refine T_next ?_) | (refine T_exit ?_) | (refine T_ret ?_))
      | (guard_target =~ blockQ _ _ _ _ _; first | (refine B_next ?_) | (refine B_same ?_) | (refine B_other (by kernel_rfl) ?_) | (refine B_ret ?_))
      | (refine W_true rfl rfl ?_)
      | (refine W_false rfl rfl ?_)
      | (refine W_true rfl rfl ?_)
      | (guard_target =~ WO _ _ (Oper.mk _ (Op.assign _) _ _ _ none) _ _ _ _; first | (refine O_assign (v := .int _ (Nat.cast (0 : Nat))) rfl ?_) | (refine O_assign (v := (.int _ (Nat.cast _))) rfl ?_) | (refine O_assign (v := (.bool _)) rfl ?_) | (refine O_assign (v := (.pointer _)) rfl ?_) | (refine O_assign (v := (.slice _ _ _)) rfl ?_) | (refine O_assign (v := (.agg _)) rfl ?_) | (refine O_assign (v := (.tuple _)) rfl ?_) | (refine O_assign (v := (.int _ _)) rfl ?_))
      | (guard_target =~ WO _ _ (Oper.mk _ (Op.move _) _ _ _ none) _ _ _ _; first | (refine O_move (v := (.int _ (Nat.cast _))) rfl ?_) | (refine O_move (v := (.bool _)) rfl ?_) | (refine O_move (v := (.pointer _)) rfl ?_) | (refine O_move (v := (.slice _ _ _)) rfl ?_) | (refine O_move (v := (.agg _)) rfl ?_) | (refine O_move (v := (.tuple _)) rfl ?_) | (refine O_move (v := (.int _ _)) rfl ?_))
      | (guard_target =~ WO _ _ (Oper.mk _ (Op.call _) _ _ _ none) _ _ _ _; first | (refine O_len Samg.underlying133 rfl rfl ?_))
      | (guard_target =~ WO _ _ (Oper.mk _ (Op.indexAddr 133 _ _) _ _ _ none) _ _ _ _; first | (refine O_index_s1 sl133 rfl rfl (by omega) ?_))
      | (guard_target =~ WO _ _ (Oper.mk _ (Op.binOp BinOp.sub _ _ _ _) _ _ _ none) _ _ _ _; first | (refine O_sub (b := 1) rfl rfl (by first | exact fit_i64 (by omega) | exact fit_u64 (by omega) | exact fit_u8 (by omega) | exact fit_i32 (by omega) | exact fit_u16 (by omega)) (by omega) ?_) | (refine O_sub (b := 2) rfl rfl (by first | exact fit_i64 (by omega) | exact fit_u64 (by omega) | exact fit_u8 (by omega) | exact fit_i32 (by omega) | exact fit_u16 (by omega)) (by omega) ?_))
      | (guard_target =~ WO _ _ (Oper.mk _ (Op.extract _ _) _ _ _ none) _ _ _ _; first | (refine O_extract rfl rfl ?_)))
    refine O_call (l := [.slice (some ⟨b, o, none⟩) (n + 1) cap, .slice (some ⟨b2, o2, none⟩) n cap2]) cl104 (by rfl) ((putBack_ok hP.upd.here ((hb2.ext hE).upd hP.upd hne) hne hN hN2 hn hP.small hg).mono ?_)
    rintro v w3 ⟨f2, r2, hP2, hv2⟩
    refine ⟨nof, ?_⟩
    have small2 : val 18446744073709551616 (fun j => f2 (o + j)) (n + 1) < 18446744073709551616 ^ (n + 1) := val_lt fun i hi => hP2.small _ (by omega)
    have hVP : val 18446744073709551616 (fun j => g (o2 + j)) n ≤ 18446744073709551616 ^ (n + 1) := val_le_pow (by omega) fun i hi => hg _ (by omega)
    obtain ⟨t1, t2⟩ := round_end1 hv small1 s6 s2 hv2 small2 hVP
    have hT1 : 1 ≤ T := by rw [t1]; exact Nat.le_add_left _ _
    repeat (first
      | (refine L_cons ?_)
      | (refine R_cons rfl ?_)
      | (refine W_seq ?_)
      | (refine W_region (by kernel_rfl) ?_)
      | (refine L_nil ?_)
      | (refine R_nil ?_)
      | (refine W_block ?_)
      | (refine W_skip ?_)
      | (refine W_exit ?_)
      | (refine W_ret ?_)
      | (guard_target =~ thenQ _ _ _ _ _; first | (refine T_next ?_) | (refine T_exit ?_) | (refine T_ret ?_))
      | (guard_target =~ blockQ _ _ _ _ _; first | (refine B_next ?_) | (refine B_same ?_) | (refine B_other (by kernel_rfl) ?_) | (refine B_ret ?_))
      | (refine W_true rfl rfl ?_)
      | (refine W_false rfl rfl ?_)
      | (guard_target =~ WO _ _ (Oper.mk _ (Op.assign _) _ _ _ none) _ _ _ _; first | (refine O_assign (v := .int _ (Nat.cast (0 : Nat))) rfl ?_) | (refine O_assign (v := (.int _ (Nat.cast _))) rfl ?_) | (refine O_assign (v := (.bool _)) rfl ?_) | (refine O_assign (v := (.pointer _)) rfl ?_) | (refine O_assign (v := (.slice _ _ _)) rfl ?_) | (refine O_assign (v := (.agg _)) rfl ?_) | (refine O_assign (v := (.tuple _)) rfl ?_) | (refine O_assign (v := (.int _ _)) rfl ?_))
      | (guard_target =~ WO _ _ (Oper.mk _ (Op.move _) _ _ _ none) _ _ _ _; first | (refine O_move (v := (.int _ (Nat.cast _))) rfl ?_) | (refine O_move (v := (.bool _)) rfl ?_) | (refine O_move (v := (.pointer _)) rfl ?_) | (refine O_move (v := (.slice _ _ _)) rfl ?_) | (refine O_move (v := (.agg _)) rfl ?_) | (refine O_move (v := (.tuple _)) rfl ?_) | (refine O_move (v := (.int _ _)) rfl ?_))
      | (guard_target =~ WO _ _ (Oper.mk _ (Op.call _) _ _ _ none) _ _ _ _; first | (refine O_len Samg.underlying133 rfl rfl ?_))
      | (guard_target =~ WO _ _ (Oper.mk _ (Op.indexAddr 133 _ _) _ _ _ none) _ _ _ _; first | (refine O_index_s1 sl133 rfl rfl (by omega) ?_))
      | (guard_target =~ WO _ _ (Oper.mk _ (Op.binOp BinOp.sub _ _ _ _) _ _ _ none) _ _ _ _; first | (refine O_sub (b := 1) rfl rfl (by first | exact fit_i64 (by omega) | exact fit_u64 (by omega) | exact fit_u8 (by omega) | exact fit_i32 (by omega) | exact fit_u16 (by omega)) (by omega) ?_) | (refine O_sub (b := 2) rfl rfl (by first | exact fit_i64 (by omega) | exact fit_u64 (by omega) | exact fit_u8 (by omega) | exact fit_i32 (by omega) | exact fit_u16 (by omega)) (by omega) ?_))
      | (guard_target =~ WO _ _ (Oper.mk _ (Op.extract _ _) _ _ _ none) _ _ _ _; first | (refine O_extract rfl rfl ?_)))
    refine E_ret3 (v := .int .u64 ((T - 1 : Nat) : Int)) (v' := .int .u8 (c : Nat)) (v'' := .bool true) rfl rfl rfl rfl rfl rfl rfl ⟨f2, ((hE.mod [b]).trans hP.upd.mod).trans hP2.upd.mod, hP2.upd.here, fun j hj => (hP2.same j hj).trans (hP.same j hj), hP2.small, t2, ?_⟩
    rw [t1]
    simp
end Go.Proofs.Ygcsam
