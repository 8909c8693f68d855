/-
  NUMBERS AS LISTS OF BYTES: Add, take, Sub. Own work.
-/
import Derived.Test.YgcsamM3
namespace Go.Proofs.Ygcsam
set_option linter.unusedVariables false
set_option maxHeartbeats 1000000

/-- The digits g, and zeros from k on. -/
def pad (g : Nat → Nat) (k : Nat) : Nat → Nat := fun i => if i < k then g i else 0
theorem pad_lt {g : Nat → Nat} {k i : Nat} (h : i < k) : pad g k i = g i := if_pos h
theorem pad_ge {g : Nat → Nat} {k i : Nat} (h : ¬ i < k) : pad g k i = 0 := if_neg h
theorem val_pad {g : Nat → Nat} {k n : Nat} (h : k ≤ n) : val 256 (pad g k) n = val 256 g k := by
  rw [val_top h fun i h1 h2 => pad_ge (by omega)]
  exact val_congr fun i hi => pad_lt hi

theorem add_step {P F G H c p q : Nat} (h : H + c * P = F + G) : (H + (c + p + q) % 256 * P) + (c + p + q) / 256 * (P * 256) = (F + p * P) + (G + q * P) := by
  have e1 : (c + p + q) % 256 + (c + p + q) / 256 * 256 = c + p + q := by omega
  have e2 : ((c + p + q) % 256 + (c + p + q) / 256 * 256) * P = (c + p + q) * P := by rw [e1]
  rw [Nat.mul_comm P, ← Nat.mul_assoc]
  simp only [Nat.add_mul] at e2 h ⊢
  omega

theorem val_put {h : Nat → Nat} {i v : Nat} : val 256 (upn h (0 + i) v) (i + 1) = val 256 h i + v * 256 ^ i := by rw [Nat.zero_add]; exact val_upn_top

theorem add_ok {w : World} {va vb : Value} {x y L : Nat} (ha : NatV w va x L) (hb : NatV w vb y L) (hL : L ≤ 4294967296) :
    Ret Samg.prog 105 #[va, vb] w fun v w' => Ext w w' ∧ NatV w' v (x + y) (L + 1) := by
  obtain ⟨a, len, cap, g, rfl, hD, hx, hlen⟩ := ha
  obtain ⟨a2, len2, cap2, g2, rfl, hD2, hx2, hlen2⟩ := hb
  refine W_enter (l := [.slice a len cap, .slice a2 len2 cap2]) Samg.func105 rfl Samg.ntmps105 rfl ?_
  repeat (first
    | (refine L_cons ?_)
    | (refine R_cons rfl ?_)
    | (refine W_seq ?_)
    | (refine W_region (by kernel_rfl) ?_)
    | (refine L_nil ?_)
    | (refine R_nil ?_)
    | (refine W_block ?_)
    | (refine W_skip ?_)
    | (refine W_exit ?_)
    | (refine W_ret ?_)
    | (guard_target =~ thenQ _ _ _ _ _; first | (refine T_next ?_) | (refine T_exit ?_) | (refine T_ret ?_))
    | (guard_target =~ blockQ _ _ _ _ _; first | (refine B_next ?_) | (refine B_same ?_) | (refine B_other (by kernel_rfl) ?_) | (refine B_ret ?_))
    | (refine W_true rfl rfl ?_)
    | (refine W_false rfl rfl ?_)
    | (guard_target =~ WO _ _ (Oper.mk _ (Op.assign _) _ _ _ none) _ _ _ _; first | (refine O_assign (v := .slice _ _ _) rfl ?_) | (refine O_assign (v := .int _ (Nat.cast (0 : Nat))) rfl ?_) | (refine O_assign (v := (.int _ (Nat.cast _))) rfl ?_) | (refine O_assign (v := (.bool _)) rfl ?_) | (refine O_assign (v := (.pointer _)) rfl ?_) | (refine O_assign (v := (.slice _ _ _)) rfl ?_) | (refine O_assign (v := (.agg _)) rfl ?_) | (refine O_assign (v := (.tuple _)) rfl ?_) | (refine O_assign (v := (.int _ _)) rfl ?_))
    | (guard_target =~ WO _ _ (Oper.mk _ (Op.move _) _ _ _ none) _ _ _ _; first | (refine O_move (v := .int _ (Nat.cast (0 : Nat))) rfl ?_) | (refine O_move (v := (.int _ (Nat.cast _))) rfl ?_) | (refine O_move (v := (.bool _)) rfl ?_) | (refine O_move (v := (.pointer _)) rfl ?_) | (refine O_move (v := (.slice _ _ _)) rfl ?_) | (refine O_move (v := (.agg _)) rfl ?_) | (refine O_move (v := (.tuple _)) rfl ?_) | (refine O_move (v := (.int _ _)) rfl ?_))
    | (guard_target =~ WO _ _ (Oper.mk _ (Op.call _) _ _ _ none) _ _ _ _; first | (refine O_len Samg.underlying134 rfl rfl ?_))
    | (guard_target =~ WO _ _ (Oper.mk _ (Op.binOp BinOp.lss _ _ _ _) _ _ _ none) _ _ _ _; first | (refine O_lss_t rfl rfl (by omega) ?_) | (refine O_lss_f rfl rfl (by omega) ?_) | (refine O_lss rfl rfl ?_))
    | (guard_target =~ WO _ _ (Oper.mk _ (Op.binOp BinOp.add _ _ _ _) _ _ _ none) _ _ _ _; first | (refine O_add (b := 1) rfl rfl (by first | exact fit_i64 (by omega) | exact fit_u64 (by omega) | exact fit_u8 (by omega) | exact fit_i32 (by omega) | exact fit_u16 (by omega)) ?_) | (refine O_add rfl rfl (by first | exact fit_i64 (by omega) | exact fit_u64 (by omega) | exact fit_u8 (by omega) | exact fit_i32 (by omega) | exact fit_u16 (by omega)) ?_))
    | (guard_target =~ WO _ _ (Oper.mk _ (Op.indexAddr 134 _ _) _ _ _ none) _ _ _ _; first | (refine O_index_s1 sl134 rfl rfl (by omega) ?_))
    | (guard_target =~ WO _ _ (Oper.mk _ (Op.convert 5 22 _) _ _ _ none) _ _ _ _; first | (refine O_conv Samg.underlying5 Samg.underlying22 rfl (by first | exact fit_i64 (by omega) | exact fit_u64 (by omega) | exact fit_u8 (by omega) | exact fit_i32 (by omega) | exact fit_u16 (by omega)) ?_))
    | (guard_target =~ WO _ _ (Oper.mk _ (Op.convert 22 5 _) _ _ _ none) _ _ _ _; first | (refine O_conv Samg.underlying22 Samg.underlying5 rfl (by first | exact fit_i64 (by omega) | exact fit_u64 (by omega) | exact fit_u8 (by omega) | exact fit_i32 (by omega) | exact fit_u16 (by omega)) ?_))
    | (guard_target =~ WO _ _ (Oper.mk _ (Op.binOp BinOp.shr _ _ _ _) _ _ _ none) _ _ _ _; first | (refine O_shr (b := 8) rfl rfl (by simp only [IntKind.bits]; omega) ?_)))
  refine O_call (l := [.slice a len cap]) cl101 (by rfl) ((trim_ok hD (by omega)).mono ?_)
  rintro v w1 ⟨rfl, k, rfl, hk, hD, hv, ht⟩
  refine ⟨nof, ?_⟩
  repeat (first
    | (refine L_cons ?_)
    | (refine R_cons rfl ?_)
    | (refine W_seq ?_)
    | (refine W_region (by kernel_rfl) ?_)
    | (refine L_nil ?_)
    | (refine R_nil ?_)
    | (refine W_block ?_)
    | (refine W_skip ?_)
    | (refine W_exit ?_)
    | (refine W_ret ?_)
    | (guard_target =~ thenQ _ _ _ _ _; first | (refine T_next ?_) | (refine T_exit ?_) | (refine T_ret ?_))
    | (guard_target =~ blockQ _ _ _ _ _; first | (refine B_next ?_) | (refine B_same ?_) | (refine B_other (by kernel_rfl) ?_) | (refine B_ret ?_))
    | (refine W_true rfl rfl ?_)
    | (refine W_false rfl rfl ?_)
    | (guard_target =~ WO _ _ (Oper.mk _ (Op.assign _) _ _ _ none) _ _ _ _; first | (refine O_assign (v := .int _ (Nat.cast (0 : Nat))) rfl ?_) | (refine O_assign (v := (.int _ (Nat.cast _))) rfl ?_) | (refine O_assign (v := (.bool _)) rfl ?_) | (refine O_assign (v := (.pointer _)) rfl ?_) | (refine O_assign (v := (.slice _ _ _)) rfl ?_) | (refine O_assign (v := (.agg _)) rfl ?_) | (refine O_assign (v := (.tuple _)) rfl ?_) | (refine O_assign (v := (.int _ _)) rfl ?_))
    | (guard_target =~ WO _ _ (Oper.mk _ (Op.move _) _ _ _ none) _ _ _ _; first | (refine O_move (v := .int _ (Nat.cast (0 : Nat))) rfl ?_) | (refine O_move (v := (.int _ (Nat.cast _))) rfl ?_) | (refine O_move (v := (.bool _)) rfl ?_) | (refine O_move (v := (.pointer _)) rfl ?_) | (refine O_move (v := (.slice _ _ _)) rfl ?_) | (refine O_move (v := (.agg _)) rfl ?_) | (refine O_move (v := (.tuple _)) rfl ?_) | (refine O_move (v := (.int _ _)) rfl ?_))
    | (guard_target =~ WO _ _ (Oper.mk _ (Op.call _) _ _ _ none) _ _ _ _; first | (refine O_len Samg.underlying134 rfl rfl ?_))
    | (guard_target =~ WO _ _ (Oper.mk _ (Op.binOp BinOp.lss _ _ _ _) _ _ _ none) _ _ _ _; first | (refine O_lss_t rfl rfl (by omega) ?_) | (refine O_lss_f rfl rfl (by omega) ?_) | (refine O_lss rfl rfl ?_))
    | (guard_target =~ WO _ _ (Oper.mk _ (Op.binOp BinOp.add _ _ _ _) _ _ _ none) _ _ _ _; first | (refine O_add (b := 1) rfl rfl (by first | exact fit_i64 (by omega) | exact fit_u64 (by omega) | exact fit_u8 (by omega) | exact fit_i32 (by omega) | exact fit_u16 (by omega)) ?_) | (refine O_add rfl rfl (by first | exact fit_i64 (by omega) | exact fit_u64 (by omega) | exact fit_u8 (by omega) | exact fit_i32 (by omega) | exact fit_u16 (by omega)) ?_))
    | (guard_target =~ WO _ _ (Oper.mk _ (Op.indexAddr 134 _ _) _ _ _ none) _ _ _ _; first | (refine O_index_s1 sl134 rfl rfl (by omega) ?_))
    | (guard_target =~ WO _ _ (Oper.mk _ (Op.convert 5 22 _) _ _ _ none) _ _ _ _; first | (refine O_conv Samg.underlying5 Samg.underlying22 rfl (by first | exact fit_i64 (by omega) | exact fit_u64 (by omega) | exact fit_u8 (by omega) | exact fit_i32 (by omega) | exact fit_u16 (by omega)) ?_))
    | (guard_target =~ WO _ _ (Oper.mk _ (Op.convert 22 5 _) _ _ _ none) _ _ _ _; first | (refine O_conv Samg.underlying22 Samg.underlying5 rfl (by first | exact fit_i64 (by omega) | exact fit_u64 (by omega) | exact fit_u8 (by omega) | exact fit_i32 (by omega) | exact fit_u16 (by omega)) ?_))
    | (guard_target =~ WO _ _ (Oper.mk _ (Op.binOp BinOp.shr _ _ _ _) _ _ _ none) _ _ _ _; first | (refine O_shr (b := 8) rfl rfl (by simp only [IntKind.bits]; omega) ?_)))
  refine O_call (l := [.slice a2 len2 cap2]) cl101 (by rfl) ((trim_ok hD2 (by omega)).mono ?_)
  rintro v w2 ⟨rfl, k2, rfl, hk2, hD2, hv2, ht2⟩
  refine ⟨nof, ?_⟩
  rw [hx] at hv
  rw [hx2] at hv2
  by_cases h1 : k < k2
  · repeat (first
      | (refine L_cons ?_)
      | (refine R_cons rfl ?_)
      | (refine W_seq ?_)
      | (refine W_region (by kernel_rfl) ?_)
      | (refine L_nil ?_)
      | (refine R_nil ?_)
      | (refine W_block ?_)
      | (refine W_skip ?_)
      | (refine W_exit ?_)
      | (refine W_ret ?_)
      | (guard_target =~ thenQ _ _ _ _ _; first | (refine T_next ?_) | (refine T_exit ?_) | (refine T_ret ?_))
      | (guard_target =~ blockQ _ _ _ _ _; first | (refine B_next ?_) | (refine B_same ?_) | (refine B_other (by kernel_rfl) ?_) | (refine B_ret ?_))
      | (refine W_true rfl rfl ?_)
      | (refine W_false rfl rfl ?_)
      | (guard_target =~ WO _ _ (Oper.mk _ (Op.assign _) _ _ _ none) _ _ _ _; first | (refine O_assign (v := .int _ (Nat.cast (0 : Nat))) rfl ?_) | (refine O_assign (v := (.int _ (Nat.cast _))) rfl ?_) | (refine O_assign (v := (.bool _)) rfl ?_) | (refine O_assign (v := (.pointer _)) rfl ?_) | (refine O_assign (v := (.slice _ _ _)) rfl ?_) | (refine O_assign (v := (.agg _)) rfl ?_) | (refine O_assign (v := (.tuple _)) rfl ?_) | (refine O_assign (v := (.int _ _)) rfl ?_))
      | (guard_target =~ WO _ _ (Oper.mk _ (Op.move _) _ _ _ none) _ _ _ _; first | (refine O_move (v := .int _ (Nat.cast (0 : Nat))) rfl ?_) | (refine O_move (v := (.int _ (Nat.cast _))) rfl ?_) | (refine O_move (v := (.bool _)) rfl ?_) | (refine O_move (v := (.pointer _)) rfl ?_) | (refine O_move (v := (.slice _ _ _)) rfl ?_) | (refine O_move (v := (.agg _)) rfl ?_) | (refine O_move (v := (.tuple _)) rfl ?_) | (refine O_move (v := (.int _ _)) rfl ?_))
      | (guard_target =~ WO _ _ (Oper.mk _ (Op.call _) _ _ _ none) _ _ _ _; first | (refine O_len Samg.underlying134 rfl rfl ?_))
      | (guard_target =~ WO _ _ (Oper.mk _ (Op.binOp BinOp.lss _ _ _ _) _ _ _ none) _ _ _ _; first | (refine O_lss_t rfl rfl (by omega) ?_) | (refine O_lss_f rfl rfl (by omega) ?_) | (refine O_lss rfl rfl ?_))
      | (guard_target =~ WO _ _ (Oper.mk _ (Op.binOp BinOp.add _ _ _ _) _ _ _ none) _ _ _ _; first | (refine O_add (b := 1) rfl rfl (by first | exact fit_i64 (by omega) | exact fit_u64 (by omega) | exact fit_u8 (by omega) | exact fit_i32 (by omega) | exact fit_u16 (by omega)) ?_) | (refine O_add rfl rfl (by first | exact fit_i64 (by omega) | exact fit_u64 (by omega) | exact fit_u8 (by omega) | exact fit_i32 (by omega) | exact fit_u16 (by omega)) ?_))
      | (guard_target =~ WO _ _ (Oper.mk _ (Op.indexAddr 134 _ _) _ _ _ none) _ _ _ _; first | (refine O_index_s1 sl134 rfl rfl (by omega) ?_))
      | (guard_target =~ WO _ _ (Oper.mk _ (Op.convert 5 22 _) _ _ _ none) _ _ _ _; first | (refine O_conv Samg.underlying5 Samg.underlying22 rfl (by first | exact fit_i64 (by omega) | exact fit_u64 (by omega) | exact fit_u8 (by omega) | exact fit_i32 (by omega) | exact fit_u16 (by omega)) ?_))
      | (guard_target =~ WO _ _ (Oper.mk _ (Op.convert 22 5 _) _ _ _ none) _ _ _ _; first | (refine O_conv Samg.underlying22 Samg.underlying5 rfl (by first | exact fit_i64 (by omega) | exact fit_u64 (by omega) | exact fit_u8 (by omega) | exact fit_i32 (by omega) | exact fit_u16 (by omega)) ?_))
      | (guard_target =~ WO _ _ (Oper.mk _ (Op.binOp BinOp.shr _ _ _ _) _ _ _ none) _ _ _ _; first | (refine O_shr (b := 8) rfl rfl (by simp only [IntKind.bits]; omega) ?_)))
    rw [Nat.add_comm x y]
    refine O_makeB sl134 by5 z5 rfl rfl (by omega) fun w3 hE3 hs3 hB3 => ?_
    repeat (first
      | (refine L_cons ?_)
      | (refine R_cons rfl ?_)
      | (refine W_seq ?_)
      | (refine W_region (by kernel_rfl) ?_)
      | (refine L_nil ?_)
      | (refine R_nil ?_)
      | (refine W_block ?_)
      | (refine W_skip ?_)
      | (refine W_exit ?_)
      | (refine W_ret ?_)
      | (guard_target =~ thenQ _ _ _ _ _; first | (refine T_next ?_) | (refine T_exit ?_) | (refine T_ret ?_))
      | (guard_target =~ blockQ _ _ _ _ _; first | (refine B_next ?_) | (refine B_same ?_) | (refine B_other (by kernel_rfl) ?_) | (refine B_ret ?_))
      | (refine W_true rfl rfl ?_)
      | (refine W_false rfl rfl ?_)
      | (guard_target =~ WO _ _ (Oper.mk _ (Op.assign _) _ _ _ none) _ _ _ _; first | (refine O_assign (v := .int _ (Nat.cast (0 : Nat))) rfl ?_) | (refine O_assign (v := (.int _ (Nat.cast _))) rfl ?_) | (refine O_assign (v := (.bool _)) rfl ?_) | (refine O_assign (v := (.pointer _)) rfl ?_) | (refine O_assign (v := (.slice _ _ _)) rfl ?_) | (refine O_assign (v := (.agg _)) rfl ?_) | (refine O_assign (v := (.tuple _)) rfl ?_) | (refine O_assign (v := (.int _ _)) rfl ?_))
      | (guard_target =~ WO _ _ (Oper.mk _ (Op.move _) _ _ _ none) _ _ _ _; first | (refine O_move (v := .int _ (Nat.cast (0 : Nat))) rfl ?_) | (refine O_move (v := (.int _ (Nat.cast _))) rfl ?_) | (refine O_move (v := (.bool _)) rfl ?_) | (refine O_move (v := (.pointer _)) rfl ?_) | (refine O_move (v := (.slice _ _ _)) rfl ?_) | (refine O_move (v := (.agg _)) rfl ?_) | (refine O_move (v := (.tuple _)) rfl ?_) | (refine O_move (v := (.int _ _)) rfl ?_))
      | (guard_target =~ WO _ _ (Oper.mk _ (Op.call _) _ _ _ none) _ _ _ _; first | (refine O_len Samg.underlying134 rfl rfl ?_))
      | (guard_target =~ WO _ _ (Oper.mk _ (Op.binOp BinOp.lss _ _ _ _) _ _ _ none) _ _ _ _; first | (refine O_lss_t rfl rfl (by omega) ?_) | (refine O_lss_f rfl rfl (by omega) ?_) | (refine O_lss rfl rfl ?_))
      | (guard_target =~ WO _ _ (Oper.mk _ (Op.binOp BinOp.add _ _ _ _) _ _ _ none) _ _ _ _; first | (refine O_add (b := 1) rfl rfl (by first | exact fit_i64 (by omega) | exact fit_u64 (by omega) | exact fit_u8 (by omega) | exact fit_i32 (by omega) | exact fit_u16 (by omega)) ?_) | (refine O_add rfl rfl (by first | exact fit_i64 (by omega) | exact fit_u64 (by omega) | exact fit_u8 (by omega) | exact fit_i32 (by omega) | exact fit_u16 (by omega)) ?_))
      | (guard_target =~ WO _ _ (Oper.mk _ (Op.indexAddr 134 _ _) _ _ _ none) _ _ _ _; first | (refine O_index_s1 sl134 rfl rfl (by omega) ?_))
      | (guard_target =~ WO _ _ (Oper.mk _ (Op.convert 5 22 _) _ _ _ none) _ _ _ _; first | (refine O_conv Samg.underlying5 Samg.underlying22 rfl (by first | exact fit_i64 (by omega) | exact fit_u64 (by omega) | exact fit_u8 (by omega) | exact fit_i32 (by omega) | exact fit_u16 (by omega)) ?_))
      | (guard_target =~ WO _ _ (Oper.mk _ (Op.convert 22 5 _) _ _ _ none) _ _ _ _; first | (refine O_conv Samg.underlying22 Samg.underlying5 rfl (by first | exact fit_i64 (by omega) | exact fit_u64 (by omega) | exact fit_u8 (by omega) | exact fit_i32 (by omega) | exact fit_u16 (by omega)) ?_))
      | (guard_target =~ WO _ _ (Oper.mk _ (Op.binOp BinOp.shr _ _ _ _) _ _ _ none) _ _ _ _; first | (refine O_shr (b := 8) rfl rfl (by simp only [IntKind.bits]; omega) ?_)))
    refine W_loop (fun m ρ w' => Ext w2 w' ∧ ∃ i h c, m = k2 - i ∧ i ≤ k2 ∧ c ≤ 1 ∧ Blk w' w2.heap.size (ns .u8 (k2 + 1) h) 5 ∧ (∀ q, q < k2 + 1 → h q < 256) ∧ val 256 h i + c * 256 ^ i = val 256 g2 i + val 256 (pad g k) i ∧
      Has ρ [(0, .slice a2 k2 k2), (1, .slice a k k), (5, .slice (some ⟨w2.heap.size, 0, none⟩) (k2 + 1) (k2 + 1)), (6, .int .u16 (c : Nat)), (24, .slice a2 k2 k2), (25, .int .i64 (k2 : Nat)), (26, .int .i64 (i : Nat))]) k2 ?_ ?_
    · exact ⟨hE3, 0, _, 0, rfl, Nat.zero_le _, by omega, hB3, fun q hq => by show (0 : Nat) < 256; omega, by simp [val_zero], Has.mk ⟨rfl, rfl, rfl, rfl, rfl, rfl, rfl, trivial⟩⟩
    rintro m ρ w4 ⟨hE4, i, h, c, rfl, hi, hc, hB4, hh, hI, σ, rfl⟩
    by_cases h5 : i < k2
    · obtain ⟨b, o, cc, t, e1, hS, hsz, hg⟩ := (hD2.ext hE4).at h5
      rw [e1]
      have q1 := hg i h5
      have r1 := hD2.2.1 i h5
      by_cases h6 : i < k
      · obtain ⟨b2, o2, cc2, t2, e2, hS2, hsz2, hg2⟩ := (hD.ext hE4).at h6
        rw [e2]
        have q2 := hg2 i h6
        have r2 := hD.2.1 i h6
        repeat (first
          | (refine L_cons ?_)
          | (refine R_cons rfl ?_)
          | (refine W_seq ?_)
          | (refine W_region (by kernel_rfl) ?_)
          | (refine L_nil ?_)
          | (refine R_nil ?_)
          | (refine W_block ?_)
          | (refine W_skip ?_)
          | (refine W_exit ?_)
          | (refine W_ret ?_)
          | (guard_target =~ thenQ _ _ _ _ _; first | (refine T_next ?_) | (refine T_exit ?_) | (refine T_ret ?_))
          | (guard_target =~ blockQ _ _ _ _ _; first | (refine B_next ?_) | (refine B_same ?_) | (refine B_other (by kernel_rfl) ?_) | (refine B_ret ?_))
          | (refine W_true rfl rfl ?_)
          | (refine W_false rfl rfl ?_)
          | (guard_target =~ WO _ _ (Oper.mk _ (Op.load 5 _) _ _ _ none) _ _ _ _; first | (refine O_load on5 rfl hS q1 ?_) | (refine O_load on5 rfl hS2 q2 ?_))
          | (guard_target =~ WO _ _ (Oper.mk _ (Op.convert 22 5 _) _ _ _ none) _ _ _ _; first | (refine O_convw8 Samg.underlying22 Samg.underlying5 rfl ?_) | (refine O_conv Samg.underlying22 Samg.underlying5 rfl (by first | exact fit_i64 (by omega) | exact fit_u64 (by omega) | exact fit_u8 (by omega) | exact fit_i32 (by omega) | exact fit_u16 (by omega)) ?_))
          | (guard_target =~ WO _ _ (Oper.mk _ (Op.assign _) _ _ _ none) _ _ _ _; first | (refine O_assign (v := .int _ (Nat.cast (0 : Nat))) rfl ?_) | (refine O_assign (v := (.int _ (Nat.cast _))) rfl ?_) | (refine O_assign (v := (.bool _)) rfl ?_) | (refine O_assign (v := (.pointer _)) rfl ?_) | (refine O_assign (v := (.slice _ _ _)) rfl ?_) | (refine O_assign (v := (.agg _)) rfl ?_) | (refine O_assign (v := (.tuple _)) rfl ?_) | (refine O_assign (v := (.int _ _)) rfl ?_))
          | (guard_target =~ WO _ _ (Oper.mk _ (Op.move _) _ _ _ none) _ _ _ _; first | (refine O_move (v := .int _ (Nat.cast (0 : Nat))) rfl ?_) | (refine O_move (v := (.int _ (Nat.cast _))) rfl ?_) | (refine O_move (v := (.bool _)) rfl ?_) | (refine O_move (v := (.pointer _)) rfl ?_) | (refine O_move (v := (.slice _ _ _)) rfl ?_) | (refine O_move (v := (.agg _)) rfl ?_) | (refine O_move (v := (.tuple _)) rfl ?_) | (refine O_move (v := (.int _ _)) rfl ?_))
          | (guard_target =~ WO _ _ (Oper.mk _ (Op.call _) _ _ _ none) _ _ _ _; first | (refine O_len Samg.underlying134 rfl rfl ?_))
          | (guard_target =~ WO _ _ (Oper.mk _ (Op.binOp BinOp.lss _ _ _ _) _ _ _ none) _ _ _ _; first | (refine O_lss_t rfl rfl (by omega) ?_) | (refine O_lss_f rfl rfl (by omega) ?_) | (refine O_lss rfl rfl ?_))
          | (guard_target =~ WO _ _ (Oper.mk _ (Op.binOp BinOp.add _ _ _ _) _ _ _ none) _ _ _ _; first | (refine O_add (b := 1) rfl rfl (by first | exact fit_i64 (by omega) | exact fit_u64 (by omega) | exact fit_u8 (by omega) | exact fit_i32 (by omega) | exact fit_u16 (by omega)) ?_) | (refine O_add rfl rfl (by first | exact fit_i64 (by omega) | exact fit_u64 (by omega) | exact fit_u8 (by omega) | exact fit_i32 (by omega) | exact fit_u16 (by omega)) ?_))
          | (guard_target =~ WO _ _ (Oper.mk _ (Op.indexAddr 134 _ _) _ _ _ none) _ _ _ _; first | (refine O_index_s1 sl134 rfl rfl (by omega) ?_))
          | (guard_target =~ WO _ _ (Oper.mk _ (Op.convert 5 22 _) _ _ _ none) _ _ _ _; first | (refine O_conv Samg.underlying5 Samg.underlying22 rfl (by first | exact fit_i64 (by omega) | exact fit_u64 (by omega) | exact fit_u8 (by omega) | exact fit_i32 (by omega) | exact fit_u16 (by omega)) ?_))
          | (guard_target =~ WO _ _ (Oper.mk _ (Op.binOp BinOp.shr _ _ _ _) _ _ _ none) _ _ _ _; first | (refine O_shr (b := 8) rfl rfl (by simp only [IntKind.bits]; omega) ?_)))
        refine O_store_ns on5 rfl rfl hB4 (by omega) rfl fun w5 hU => ?_
        repeat (first
          | (refine L_cons ?_)
          | (refine R_cons rfl ?_)
          | (refine W_seq ?_)
          | (refine W_region (by kernel_rfl) ?_)
          | (refine L_nil ?_)
          | (refine R_nil ?_)
          | (refine W_block ?_)
          | (refine W_skip ?_)
          | (refine W_exit ?_)
          | (refine W_ret ?_)
          | (guard_target =~ thenQ _ _ _ _ _; first | (refine T_next ?_) | (refine T_exit ?_) | (refine T_ret ?_))
          | (guard_target =~ blockQ _ _ _ _ _; first | (refine B_next ?_) | (refine B_same ?_) | (refine B_other (by kernel_rfl) ?_) | (refine B_ret ?_))
          | (refine W_true rfl rfl ?_)
          | (refine W_false rfl rfl ?_)
          | (guard_target =~ WO _ _ (Oper.mk _ (Op.binOp BinOp.shr _ _ _ _) _ _ _ none) _ _ _ _; first | (refine O_shrd (b := 8) 256 rfl rfl (by decide) rfl ?_) | (refine O_shr (b := 8) rfl rfl (by simp only [IntKind.bits]; omega) ?_))
          | (guard_target =~ WO _ _ (Oper.mk _ (Op.assign _) _ _ _ none) _ _ _ _; first | (refine O_assign (v := .int _ (Nat.cast (0 : Nat))) rfl ?_) | (refine O_assign (v := (.int _ (Nat.cast _))) rfl ?_) | (refine O_assign (v := (.bool _)) rfl ?_) | (refine O_assign (v := (.pointer _)) rfl ?_) | (refine O_assign (v := (.slice _ _ _)) rfl ?_) | (refine O_assign (v := (.agg _)) rfl ?_) | (refine O_assign (v := (.tuple _)) rfl ?_) | (refine O_assign (v := (.int _ _)) rfl ?_))
          | (guard_target =~ WO _ _ (Oper.mk _ (Op.move _) _ _ _ none) _ _ _ _; first | (refine O_move (v := .int _ (Nat.cast (0 : Nat))) rfl ?_) | (refine O_move (v := (.int _ (Nat.cast _))) rfl ?_) | (refine O_move (v := (.bool _)) rfl ?_) | (refine O_move (v := (.pointer _)) rfl ?_) | (refine O_move (v := (.slice _ _ _)) rfl ?_) | (refine O_move (v := (.agg _)) rfl ?_) | (refine O_move (v := (.tuple _)) rfl ?_) | (refine O_move (v := (.int _ _)) rfl ?_))
          | (guard_target =~ WO _ _ (Oper.mk _ (Op.call _) _ _ _ none) _ _ _ _; first | (refine O_len Samg.underlying134 rfl rfl ?_))
          | (guard_target =~ WO _ _ (Oper.mk _ (Op.binOp BinOp.lss _ _ _ _) _ _ _ none) _ _ _ _; first | (refine O_lss_t rfl rfl (by omega) ?_) | (refine O_lss_f rfl rfl (by omega) ?_) | (refine O_lss rfl rfl ?_))
          | (guard_target =~ WO _ _ (Oper.mk _ (Op.binOp BinOp.add _ _ _ _) _ _ _ none) _ _ _ _; first | (refine O_add (b := 1) rfl rfl (by first | exact fit_i64 (by omega) | exact fit_u64 (by omega) | exact fit_u8 (by omega) | exact fit_i32 (by omega) | exact fit_u16 (by omega)) ?_) | (refine O_add rfl rfl (by first | exact fit_i64 (by omega) | exact fit_u64 (by omega) | exact fit_u8 (by omega) | exact fit_i32 (by omega) | exact fit_u16 (by omega)) ?_))
          | (guard_target =~ WO _ _ (Oper.mk _ (Op.indexAddr 134 _ _) _ _ _ none) _ _ _ _; first | (refine O_index_s1 sl134 rfl rfl (by omega) ?_))
          | (guard_target =~ WO _ _ (Oper.mk _ (Op.convert 5 22 _) _ _ _ none) _ _ _ _; first | (refine O_conv Samg.underlying5 Samg.underlying22 rfl (by first | exact fit_i64 (by omega) | exact fit_u64 (by omega) | exact fit_u8 (by omega) | exact fit_i32 (by omega) | exact fit_u16 (by omega)) ?_))
          | (guard_target =~ WO _ _ (Oper.mk _ (Op.convert 22 5 _) _ _ _ none) _ _ _ _; first | (refine O_conv Samg.underlying22 Samg.underlying5 rfl (by first | exact fit_i64 (by omega) | exact fit_u64 (by omega) | exact fit_u8 (by omega) | exact fit_i32 (by omega) | exact fit_u16 (by omega)) ?_)))
        refine ⟨k2 - (i + 1), by omega, hE4.new hU (Nat.le_refl _), i + 1, _, _, rfl, by omega, ?_, hU.here, fun q hq => ?_, ?_, Has.mk ⟨rfl, rfl, rfl, rfl, rfl, rfl, rfl, trivial⟩⟩
        · omega
        · unfold upn; split
          · omega
          · exact hh q hq
        · rw [val_put, val_succ, val_succ, pad_lt h6, Nat.pow_succ]
          exact add_step hI
      · repeat (first
          | (refine L_cons ?_)
          | (refine R_cons rfl ?_)
          | (refine W_seq ?_)
          | (refine W_region (by kernel_rfl) ?_)
          | (refine L_nil ?_)
          | (refine R_nil ?_)
          | (refine W_block ?_)
          | (refine W_skip ?_)
          | (refine W_exit ?_)
          | (refine W_ret ?_)
          | (guard_target =~ thenQ _ _ _ _ _; first | (refine T_next ?_) | (refine T_exit ?_) | (refine T_ret ?_))
          | (guard_target =~ blockQ _ _ _ _ _; first | (refine B_next ?_) | (refine B_same ?_) | (refine B_other (by kernel_rfl) ?_) | (refine B_ret ?_))
          | (refine W_true rfl rfl ?_)
          | (refine W_false rfl rfl ?_)
          | (guard_target =~ WO _ _ (Oper.mk _ (Op.load 5 _) _ _ _ none) _ _ _ _; first | (refine O_load on5 rfl hS q1 ?_))
          | (guard_target =~ WO _ _ (Oper.mk _ (Op.convert 22 5 _) _ _ _ none) _ _ _ _; first | (refine O_convw8 Samg.underlying22 Samg.underlying5 rfl ?_) | (refine O_conv Samg.underlying22 Samg.underlying5 rfl (by first | exact fit_i64 (by omega) | exact fit_u64 (by omega) | exact fit_u8 (by omega) | exact fit_i32 (by omega) | exact fit_u16 (by omega)) ?_))
          | (guard_target =~ WO _ _ (Oper.mk _ (Op.assign _) _ _ _ none) _ _ _ _; first | (refine O_assign (v := .int _ (Nat.cast (0 : Nat))) rfl ?_) | (refine O_assign (v := (.int _ (Nat.cast _))) rfl ?_) | (refine O_assign (v := (.bool _)) rfl ?_) | (refine O_assign (v := (.pointer _)) rfl ?_) | (refine O_assign (v := (.slice _ _ _)) rfl ?_) | (refine O_assign (v := (.agg _)) rfl ?_) | (refine O_assign (v := (.tuple _)) rfl ?_) | (refine O_assign (v := (.int _ _)) rfl ?_))
          | (guard_target =~ WO _ _ (Oper.mk _ (Op.move _) _ _ _ none) _ _ _ _; first | (refine O_move (v := .int _ (Nat.cast (0 : Nat))) rfl ?_) | (refine O_move (v := (.int _ (Nat.cast _))) rfl ?_) | (refine O_move (v := (.bool _)) rfl ?_) | (refine O_move (v := (.pointer _)) rfl ?_) | (refine O_move (v := (.slice _ _ _)) rfl ?_) | (refine O_move (v := (.agg _)) rfl ?_) | (refine O_move (v := (.tuple _)) rfl ?_) | (refine O_move (v := (.int _ _)) rfl ?_))
          | (guard_target =~ WO _ _ (Oper.mk _ (Op.call _) _ _ _ none) _ _ _ _; first | (refine O_len Samg.underlying134 rfl rfl ?_))
          | (guard_target =~ WO _ _ (Oper.mk _ (Op.binOp BinOp.lss _ _ _ _) _ _ _ none) _ _ _ _; first | (refine O_lss_t rfl rfl (by omega) ?_) | (refine O_lss_f rfl rfl (by omega) ?_) | (refine O_lss rfl rfl ?_))
          | (guard_target =~ WO _ _ (Oper.mk _ (Op.binOp BinOp.add _ _ _ _) _ _ _ none) _ _ _ _; first | (refine O_add (b := 1) rfl rfl (by first | exact fit_i64 (by omega) | exact fit_u64 (by omega) | exact fit_u8 (by omega) | exact fit_i32 (by omega) | exact fit_u16 (by omega)) ?_) | (refine O_add rfl rfl (by first | exact fit_i64 (by omega) | exact fit_u64 (by omega) | exact fit_u8 (by omega) | exact fit_i32 (by omega) | exact fit_u16 (by omega)) ?_))
          | (guard_target =~ WO _ _ (Oper.mk _ (Op.indexAddr 134 _ _) _ _ _ none) _ _ _ _; first | (refine O_index_s1 sl134 rfl rfl (by omega) ?_))
          | (guard_target =~ WO _ _ (Oper.mk _ (Op.convert 5 22 _) _ _ _ none) _ _ _ _; first | (refine O_conv Samg.underlying5 Samg.underlying22 rfl (by first | exact fit_i64 (by omega) | exact fit_u64 (by omega) | exact fit_u8 (by omega) | exact fit_i32 (by omega) | exact fit_u16 (by omega)) ?_))
          | (guard_target =~ WO _ _ (Oper.mk _ (Op.binOp BinOp.shr _ _ _ _) _ _ _ none) _ _ _ _; first | (refine O_shr (b := 8) rfl rfl (by simp only [IntKind.bits]; omega) ?_)))
        refine O_store_ns on5 rfl rfl hB4 (by omega) rfl fun w5 hU => ?_
        repeat (first
          | (refine L_cons ?_)
          | (refine R_cons rfl ?_)
          | (refine W_seq ?_)
          | (refine W_region (by kernel_rfl) ?_)
          | (refine L_nil ?_)
          | (refine R_nil ?_)
          | (refine W_block ?_)
          | (refine W_skip ?_)
          | (refine W_exit ?_)
          | (refine W_ret ?_)
          | (guard_target =~ thenQ _ _ _ _ _; first | (refine T_next ?_) | (refine T_exit ?_) | (refine T_ret ?_))
          | (guard_target =~ blockQ _ _ _ _ _; first | (refine B_next ?_) | (refine B_same ?_) | (refine B_other (by kernel_rfl) ?_) | (refine B_ret ?_))
          | (refine W_true rfl rfl ?_)
          | (refine W_false rfl rfl ?_)
          | (guard_target =~ WO _ _ (Oper.mk _ (Op.binOp BinOp.shr _ _ _ _) _ _ _ none) _ _ _ _; first | (refine O_shrd (b := 8) 256 rfl rfl (by decide) rfl ?_) | (refine O_shr (b := 8) rfl rfl (by simp only [IntKind.bits]; omega) ?_))
          | (guard_target =~ WO _ _ (Oper.mk _ (Op.assign _) _ _ _ none) _ _ _ _; first | (refine O_assign (v := .int _ (Nat.cast (0 : Nat))) rfl ?_) | (refine O_assign (v := (.int _ (Nat.cast _))) rfl ?_) | (refine O_assign (v := (.bool _)) rfl ?_) | (refine O_assign (v := (.pointer _)) rfl ?_) | (refine O_assign (v := (.slice _ _ _)) rfl ?_) | (refine O_assign (v := (.agg _)) rfl ?_) | (refine O_assign (v := (.tuple _)) rfl ?_) | (refine O_assign (v := (.int _ _)) rfl ?_))
          | (guard_target =~ WO _ _ (Oper.mk _ (Op.move _) _ _ _ none) _ _ _ _; first | (refine O_move (v := .int _ (Nat.cast (0 : Nat))) rfl ?_) | (refine O_move (v := (.int _ (Nat.cast _))) rfl ?_) | (refine O_move (v := (.bool _)) rfl ?_) | (refine O_move (v := (.pointer _)) rfl ?_) | (refine O_move (v := (.slice _ _ _)) rfl ?_) | (refine O_move (v := (.agg _)) rfl ?_) | (refine O_move (v := (.tuple _)) rfl ?_) | (refine O_move (v := (.int _ _)) rfl ?_))
          | (guard_target =~ WO _ _ (Oper.mk _ (Op.call _) _ _ _ none) _ _ _ _; first | (refine O_len Samg.underlying134 rfl rfl ?_))
          | (guard_target =~ WO _ _ (Oper.mk _ (Op.binOp BinOp.lss _ _ _ _) _ _ _ none) _ _ _ _; first | (refine O_lss_t rfl rfl (by omega) ?_) | (refine O_lss_f rfl rfl (by omega) ?_) | (refine O_lss rfl rfl ?_))
          | (guard_target =~ WO _ _ (Oper.mk _ (Op.binOp BinOp.add _ _ _ _) _ _ _ none) _ _ _ _; first | (refine O_add (b := 1) rfl rfl (by first | exact fit_i64 (by omega) | exact fit_u64 (by omega) | exact fit_u8 (by omega) | exact fit_i32 (by omega) | exact fit_u16 (by omega)) ?_) | (refine O_add rfl rfl (by first | exact fit_i64 (by omega) | exact fit_u64 (by omega) | exact fit_u8 (by omega) | exact fit_i32 (by omega) | exact fit_u16 (by omega)) ?_))
          | (guard_target =~ WO _ _ (Oper.mk _ (Op.indexAddr 134 _ _) _ _ _ none) _ _ _ _; first | (refine O_index_s1 sl134 rfl rfl (by omega) ?_))
          | (guard_target =~ WO _ _ (Oper.mk _ (Op.convert 5 22 _) _ _ _ none) _ _ _ _; first | (refine O_conv Samg.underlying5 Samg.underlying22 rfl (by first | exact fit_i64 (by omega) | exact fit_u64 (by omega) | exact fit_u8 (by omega) | exact fit_i32 (by omega) | exact fit_u16 (by omega)) ?_))
          | (guard_target =~ WO _ _ (Oper.mk _ (Op.convert 22 5 _) _ _ _ none) _ _ _ _; first | (refine O_conv Samg.underlying22 Samg.underlying5 rfl (by first | exact fit_i64 (by omega) | exact fit_u64 (by omega) | exact fit_u8 (by omega) | exact fit_i32 (by omega) | exact fit_u16 (by omega)) ?_)))
        refine ⟨k2 - (i + 1), by omega, hE4.new hU (Nat.le_refl _), i + 1, _, _, rfl, by omega, ?_, hU.here, fun q hq => ?_, ?_, Has.mk ⟨rfl, rfl, rfl, rfl, rfl, rfl, rfl, trivial⟩⟩
        · omega
        · unfold upn; split
          · omega
          · exact hh q hq
        · rw [val_put, val_succ, val_succ, pad_ge h6, Nat.pow_succ]
          have := add_step (p := g2 i) (q := 0) hI
          rw [Nat.add_zero] at this
          exact this
    · have h5 : i = k2 := by omega
      subst h5
      repeat (first
        | (refine L_cons ?_)
        | (refine R_cons rfl ?_)
        | (refine W_seq ?_)
        | (refine W_region (by kernel_rfl) ?_)
        | (refine L_nil ?_)
        | (refine R_nil ?_)
        | (refine W_block ?_)
        | (refine W_skip ?_)
        | (refine W_exit ?_)
        | (refine W_ret ?_)
        | (guard_target =~ thenQ _ _ _ _ _; first | (refine T_next ?_) | (refine T_exit ?_) | (refine T_ret ?_))
        | (guard_target =~ blockQ _ _ _ _ _; first | (refine B_next ?_) | (refine B_same ?_) | (refine B_other (by kernel_rfl) ?_) | (refine B_ret ?_))
        | (refine W_true rfl rfl ?_)
        | (refine W_false rfl rfl ?_)
        | (guard_target =~ WO _ _ (Oper.mk _ (Op.convert 22 5 _) _ _ _ none) _ _ _ _; first | (refine O_convw8 Samg.underlying22 Samg.underlying5 rfl ?_) | (refine O_conv Samg.underlying22 Samg.underlying5 rfl (by first | exact fit_i64 (by omega) | exact fit_u64 (by omega) | exact fit_u8 (by omega) | exact fit_i32 (by omega) | exact fit_u16 (by omega)) ?_))
        | (guard_target =~ WO _ _ (Oper.mk _ (Op.assign _) _ _ _ none) _ _ _ _; first | (refine O_assign (v := .int _ (Nat.cast (0 : Nat))) rfl ?_) | (refine O_assign (v := (.int _ (Nat.cast _))) rfl ?_) | (refine O_assign (v := (.bool _)) rfl ?_) | (refine O_assign (v := (.pointer _)) rfl ?_) | (refine O_assign (v := (.slice _ _ _)) rfl ?_) | (refine O_assign (v := (.agg _)) rfl ?_) | (refine O_assign (v := (.tuple _)) rfl ?_) | (refine O_assign (v := (.int _ _)) rfl ?_))
        | (guard_target =~ WO _ _ (Oper.mk _ (Op.move _) _ _ _ none) _ _ _ _; first | (refine O_move (v := .int _ (Nat.cast (0 : Nat))) rfl ?_) | (refine O_move (v := (.int _ (Nat.cast _))) rfl ?_) | (refine O_move (v := (.bool _)) rfl ?_) | (refine O_move (v := (.pointer _)) rfl ?_) | (refine O_move (v := (.slice _ _ _)) rfl ?_) | (refine O_move (v := (.agg _)) rfl ?_) | (refine O_move (v := (.tuple _)) rfl ?_) | (refine O_move (v := (.int _ _)) rfl ?_))
        | (guard_target =~ WO _ _ (Oper.mk _ (Op.call _) _ _ _ none) _ _ _ _; first | (refine O_len Samg.underlying134 rfl rfl ?_))
        | (guard_target =~ WO _ _ (Oper.mk _ (Op.binOp BinOp.lss _ _ _ _) _ _ _ none) _ _ _ _; first | (refine O_lss_t rfl rfl (by omega) ?_) | (refine O_lss_f rfl rfl (by omega) ?_) | (refine O_lss rfl rfl ?_))
        | (guard_target =~ WO _ _ (Oper.mk _ (Op.binOp BinOp.add _ _ _ _) _ _ _ none) _ _ _ _; first | (refine O_add (b := 1) rfl rfl (by first | exact fit_i64 (by omega) | exact fit_u64 (by omega) | exact fit_u8 (by omega) | exact fit_i32 (by omega) | exact fit_u16 (by omega)) ?_) | (refine O_add rfl rfl (by first | exact fit_i64 (by omega) | exact fit_u64 (by omega) | exact fit_u8 (by omega) | exact fit_i32 (by omega) | exact fit_u16 (by omega)) ?_))
        | (guard_target =~ WO _ _ (Oper.mk _ (Op.indexAddr 134 _ _) _ _ _ none) _ _ _ _; first | (refine O_index_s1 sl134 rfl rfl (by omega) ?_))
        | (guard_target =~ WO _ _ (Oper.mk _ (Op.convert 5 22 _) _ _ _ none) _ _ _ _; first | (refine O_conv Samg.underlying5 Samg.underlying22 rfl (by first | exact fit_i64 (by omega) | exact fit_u64 (by omega) | exact fit_u8 (by omega) | exact fit_i32 (by omega) | exact fit_u16 (by omega)) ?_))
        | (guard_target =~ WO _ _ (Oper.mk _ (Op.binOp BinOp.shr _ _ _ _) _ _ _ none) _ _ _ _; first | (refine O_shr (b := 8) rfl rfl (by simp only [IntKind.bits]; omega) ?_)))
      refine O_store_ns on5 rfl rfl hB4 (by omega) rfl fun w5 hU => ?_
      repeat (first
        | (refine L_cons ?_)
        | (refine R_cons rfl ?_)
        | (refine W_seq ?_)
        | (refine W_region (by kernel_rfl) ?_)
        | (refine L_nil ?_)
        | (refine R_nil ?_)
        | (refine W_block ?_)
        | (refine W_skip ?_)
        | (refine W_exit ?_)
        | (refine W_ret ?_)
        | (guard_target =~ thenQ _ _ _ _ _; first | (refine T_next ?_) | (refine T_exit ?_) | (refine T_ret ?_))
        | (guard_target =~ blockQ _ _ _ _ _; first | (refine B_next ?_) | (refine B_same ?_) | (refine B_other (by kernel_rfl) ?_) | (refine B_ret ?_))
        | (refine W_true rfl rfl ?_)
        | (refine W_false rfl rfl ?_)
        | (guard_target =~ WO _ _ (Oper.mk _ (Op.assign _) _ _ _ none) _ _ _ _; first | (refine O_assign (v := .int _ (Nat.cast (0 : Nat))) rfl ?_) | (refine O_assign (v := (.int _ (Nat.cast _))) rfl ?_) | (refine O_assign (v := (.bool _)) rfl ?_) | (refine O_assign (v := (.pointer _)) rfl ?_) | (refine O_assign (v := (.slice _ _ _)) rfl ?_) | (refine O_assign (v := (.agg _)) rfl ?_) | (refine O_assign (v := (.tuple _)) rfl ?_) | (refine O_assign (v := (.int _ _)) rfl ?_))
        | (guard_target =~ WO _ _ (Oper.mk _ (Op.move _) _ _ _ none) _ _ _ _; first | (refine O_move (v := .int _ (Nat.cast (0 : Nat))) rfl ?_) | (refine O_move (v := (.int _ (Nat.cast _))) rfl ?_) | (refine O_move (v := (.bool _)) rfl ?_) | (refine O_move (v := (.pointer _)) rfl ?_) | (refine O_move (v := (.slice _ _ _)) rfl ?_) | (refine O_move (v := (.agg _)) rfl ?_) | (refine O_move (v := (.tuple _)) rfl ?_) | (refine O_move (v := (.int _ _)) rfl ?_))
        | (guard_target =~ WO _ _ (Oper.mk _ (Op.call _) _ _ _ none) _ _ _ _; first | (refine O_len Samg.underlying134 rfl rfl ?_))
        | (guard_target =~ WO _ _ (Oper.mk _ (Op.binOp BinOp.lss _ _ _ _) _ _ _ none) _ _ _ _; first | (refine O_lss_t rfl rfl (by omega) ?_) | (refine O_lss_f rfl rfl (by omega) ?_) | (refine O_lss rfl rfl ?_))
        | (guard_target =~ WO _ _ (Oper.mk _ (Op.binOp BinOp.add _ _ _ _) _ _ _ none) _ _ _ _; first | (refine O_add (b := 1) rfl rfl (by first | exact fit_i64 (by omega) | exact fit_u64 (by omega) | exact fit_u8 (by omega) | exact fit_i32 (by omega) | exact fit_u16 (by omega)) ?_) | (refine O_add rfl rfl (by first | exact fit_i64 (by omega) | exact fit_u64 (by omega) | exact fit_u8 (by omega) | exact fit_i32 (by omega) | exact fit_u16 (by omega)) ?_))
        | (guard_target =~ WO _ _ (Oper.mk _ (Op.indexAddr 134 _ _) _ _ _ none) _ _ _ _; first | (refine O_index_s1 sl134 rfl rfl (by omega) ?_))
        | (guard_target =~ WO _ _ (Oper.mk _ (Op.convert 5 22 _) _ _ _ none) _ _ _ _; first | (refine O_conv Samg.underlying5 Samg.underlying22 rfl (by first | exact fit_i64 (by omega) | exact fit_u64 (by omega) | exact fit_u8 (by omega) | exact fit_i32 (by omega) | exact fit_u16 (by omega)) ?_))
        | (guard_target =~ WO _ _ (Oper.mk _ (Op.convert 22 5 _) _ _ _ none) _ _ _ _; first | (refine O_conv Samg.underlying22 Samg.underlying5 rfl (by first | exact fit_i64 (by omega) | exact fit_u64 (by omega) | exact fit_u8 (by omega) | exact fit_i32 (by omega) | exact fit_u16 (by omega)) ?_))
        | (guard_target =~ WO _ _ (Oper.mk _ (Op.binOp BinOp.shr _ _ _ _) _ _ _ none) _ _ _ _; first | (refine O_shr (b := 8) rfl rfl (by simp only [IntKind.bits]; omega) ?_)))
      rw [val_pad (by omega), hv2, hv] at hI
      refine O_call (l := [.slice (some ⟨w2.heap.size, 0, none⟩) (i + 1) (i + 1)]) cl126 (by rfl) ((clip_ok (x := (y+x)) (NatV.ofBlk hU.here (fun q hq => ?_) ?_) (by omega)).mono ?_)
      · unfold upn; split
        · omega
        · exact hh q hq
      · rw [val_put, show c % 256 = c by omega]
        exact hI
      rintro v w6 ⟨rfl, hN⟩
      refine ⟨nof, ?_⟩
      repeat (first
        | (refine L_cons ?_)
        | (refine R_cons rfl ?_)
        | (refine W_seq ?_)
        | (refine W_region (by kernel_rfl) ?_)
        | (refine L_nil ?_)
        | (refine R_nil ?_)
        | (refine W_block ?_)
        | (refine W_skip ?_)
        | (refine W_exit ?_)
        | (refine W_ret ?_)
        | (guard_target =~ thenQ _ _ _ _ _; first | (refine T_next ?_) | (refine T_exit ?_) | (refine T_ret ?_))
        | (guard_target =~ blockQ _ _ _ _ _; first | (refine B_next ?_) | (refine B_same ?_) | (refine B_other (by kernel_rfl) ?_) | (refine B_ret ?_))
        | (refine W_true rfl rfl ?_)
        | (refine W_false rfl rfl ?_)
        | (guard_target =~ WO _ _ (Oper.mk _ (Op.assign _) _ _ _ none) _ _ _ _; first | (refine O_assign (v := v) rfl ?_) | (refine O_assign (v := .int _ (Nat.cast (0 : Nat))) rfl ?_) | (refine O_assign (v := (.int _ (Nat.cast _))) rfl ?_) | (refine O_assign (v := (.bool _)) rfl ?_) | (refine O_assign (v := (.pointer _)) rfl ?_) | (refine O_assign (v := (.slice _ _ _)) rfl ?_) | (refine O_assign (v := (.agg _)) rfl ?_) | (refine O_assign (v := (.tuple _)) rfl ?_) | (refine O_assign (v := (.int _ _)) rfl ?_))
        | (guard_target =~ WO _ _ (Oper.mk _ (Op.move _) _ _ _ none) _ _ _ _; first | (refine O_move (v := .int _ (Nat.cast (0 : Nat))) rfl ?_) | (refine O_move (v := (.int _ (Nat.cast _))) rfl ?_) | (refine O_move (v := (.bool _)) rfl ?_) | (refine O_move (v := (.pointer _)) rfl ?_) | (refine O_move (v := (.slice _ _ _)) rfl ?_) | (refine O_move (v := (.agg _)) rfl ?_) | (refine O_move (v := (.tuple _)) rfl ?_) | (refine O_move (v := (.int _ _)) rfl ?_))
        | (guard_target =~ WO _ _ (Oper.mk _ (Op.call _) _ _ _ none) _ _ _ _; first | (refine O_len Samg.underlying134 rfl rfl ?_))
        | (guard_target =~ WO _ _ (Oper.mk _ (Op.binOp BinOp.lss _ _ _ _) _ _ _ none) _ _ _ _; first | (refine O_lss_t rfl rfl (by omega) ?_) | (refine O_lss_f rfl rfl (by omega) ?_) | (refine O_lss rfl rfl ?_))
        | (guard_target =~ WO _ _ (Oper.mk _ (Op.binOp BinOp.add _ _ _ _) _ _ _ none) _ _ _ _; first | (refine O_add (b := 1) rfl rfl (by first | exact fit_i64 (by omega) | exact fit_u64 (by omega) | exact fit_u8 (by omega) | exact fit_i32 (by omega) | exact fit_u16 (by omega)) ?_) | (refine O_add rfl rfl (by first | exact fit_i64 (by omega) | exact fit_u64 (by omega) | exact fit_u8 (by omega) | exact fit_i32 (by omega) | exact fit_u16 (by omega)) ?_))
        | (guard_target =~ WO _ _ (Oper.mk _ (Op.indexAddr 134 _ _) _ _ _ none) _ _ _ _; first | (refine O_index_s1 sl134 rfl rfl (by omega) ?_))
        | (guard_target =~ WO _ _ (Oper.mk _ (Op.convert 5 22 _) _ _ _ none) _ _ _ _; first | (refine O_conv Samg.underlying5 Samg.underlying22 rfl (by first | exact fit_i64 (by omega) | exact fit_u64 (by omega) | exact fit_u8 (by omega) | exact fit_i32 (by omega) | exact fit_u16 (by omega)) ?_))
        | (guard_target =~ WO _ _ (Oper.mk _ (Op.convert 22 5 _) _ _ _ none) _ _ _ _; first | (refine O_conv Samg.underlying22 Samg.underlying5 rfl (by first | exact fit_i64 (by omega) | exact fit_u64 (by omega) | exact fit_u8 (by omega) | exact fit_i32 (by omega) | exact fit_u16 (by omega)) ?_))
        | (guard_target =~ WO _ _ (Oper.mk _ (Op.binOp BinOp.shr _ _ _ _) _ _ _ none) _ _ _ _; first | (refine O_shr (b := 8) rfl rfl (by simp only [IntKind.bits]; omega) ?_)))
      exact E_ret rfl rfl rfl ⟨hE4.new hU (Nat.le_refl _), hN.mono (by omega)⟩
  · repeat (first
      | (refine L_cons ?_)
      | (refine R_cons rfl ?_)
      | (refine W_seq ?_)
      | (refine W_region (by kernel_rfl) ?_)
      | (refine L_nil ?_)
      | (refine R_nil ?_)
      | (refine W_block ?_)
      | (refine W_skip ?_)
      | (refine W_exit ?_)
      | (refine W_ret ?_)
      | (guard_target =~ thenQ _ _ _ _ _; first | (refine T_next ?_) | (refine T_exit ?_) | (refine T_ret ?_))
      | (guard_target =~ blockQ _ _ _ _ _; first | (refine B_next ?_) | (refine B_same ?_) | (refine B_other (by kernel_rfl) ?_) | (refine B_ret ?_))
      | (refine W_true rfl rfl ?_)
      | (refine W_false rfl rfl ?_)
      | (guard_target =~ WO _ _ (Oper.mk _ (Op.assign _) _ _ _ none) _ _ _ _; first | (refine O_assign (v := .int _ (Nat.cast (0 : Nat))) rfl ?_) | (refine O_assign (v := (.int _ (Nat.cast _))) rfl ?_) | (refine O_assign (v := (.bool _)) rfl ?_) | (refine O_assign (v := (.pointer _)) rfl ?_) | (refine O_assign (v := (.slice _ _ _)) rfl ?_) | (refine O_assign (v := (.agg _)) rfl ?_) | (refine O_assign (v := (.tuple _)) rfl ?_) | (refine O_assign (v := (.int _ _)) rfl ?_))
      | (guard_target =~ WO _ _ (Oper.mk _ (Op.move _) _ _ _ none) _ _ _ _; first | (refine O_move (v := .int _ (Nat.cast (0 : Nat))) rfl ?_) | (refine O_move (v := (.int _ (Nat.cast _))) rfl ?_) | (refine O_move (v := (.bool _)) rfl ?_) | (refine O_move (v := (.pointer _)) rfl ?_) | (refine O_move (v := (.slice _ _ _)) rfl ?_) | (refine O_move (v := (.agg _)) rfl ?_) | (refine O_move (v := (.tuple _)) rfl ?_) | (refine O_move (v := (.int _ _)) rfl ?_))
      | (guard_target =~ WO _ _ (Oper.mk _ (Op.call _) _ _ _ none) _ _ _ _; first | (refine O_len Samg.underlying134 rfl rfl ?_))
      | (guard_target =~ WO _ _ (Oper.mk _ (Op.binOp BinOp.lss _ _ _ _) _ _ _ none) _ _ _ _; first | (refine O_lss_t rfl rfl (by omega) ?_) | (refine O_lss_f rfl rfl (by omega) ?_) | (refine O_lss rfl rfl ?_))
      | (guard_target =~ WO _ _ (Oper.mk _ (Op.binOp BinOp.add _ _ _ _) _ _ _ none) _ _ _ _; first | (refine O_add (b := 1) rfl rfl (by first | exact fit_i64 (by omega) | exact fit_u64 (by omega) | exact fit_u8 (by omega) | exact fit_i32 (by omega) | exact fit_u16 (by omega)) ?_) | (refine O_add rfl rfl (by first | exact fit_i64 (by omega) | exact fit_u64 (by omega) | exact fit_u8 (by omega) | exact fit_i32 (by omega) | exact fit_u16 (by omega)) ?_))
      | (guard_target =~ WO _ _ (Oper.mk _ (Op.indexAddr 134 _ _) _ _ _ none) _ _ _ _; first | (refine O_index_s1 sl134 rfl rfl (by omega) ?_))
      | (guard_target =~ WO _ _ (Oper.mk _ (Op.convert 5 22 _) _ _ _ none) _ _ _ _; first | (refine O_conv Samg.underlying5 Samg.underlying22 rfl (by first | exact fit_i64 (by omega) | exact fit_u64 (by omega) | exact fit_u8 (by omega) | exact fit_i32 (by omega) | exact fit_u16 (by omega)) ?_))
      | (guard_target =~ WO _ _ (Oper.mk _ (Op.convert 22 5 _) _ _ _ none) _ _ _ _; first | (refine O_conv Samg.underlying22 Samg.underlying5 rfl (by first | exact fit_i64 (by omega) | exact fit_u64 (by omega) | exact fit_u8 (by omega) | exact fit_i32 (by omega) | exact fit_u16 (by omega)) ?_))
      | (guard_target =~ WO _ _ (Oper.mk _ (Op.binOp BinOp.shr _ _ _ _) _ _ _ none) _ _ _ _; first | (refine O_shr (b := 8) rfl rfl (by simp only [IntKind.bits]; omega) ?_)))
    refine O_makeB sl134 by5 z5 rfl rfl (by omega) fun w3 hE3 hs3 hB3 => ?_
    repeat (first
      | (refine L_cons ?_)
      | (refine R_cons rfl ?_)
      | (refine W_seq ?_)
      | (refine W_region (by kernel_rfl) ?_)
      | (refine L_nil ?_)
      | (refine R_nil ?_)
      | (refine W_block ?_)
      | (refine W_skip ?_)
      | (refine W_exit ?_)
      | (refine W_ret ?_)
      | (guard_target =~ thenQ _ _ _ _ _; first | (refine T_next ?_) | (refine T_exit ?_) | (refine T_ret ?_))
      | (guard_target =~ blockQ _ _ _ _ _; first | (refine B_next ?_) | (refine B_same ?_) | (refine B_other (by kernel_rfl) ?_) | (refine B_ret ?_))
      | (refine W_true rfl rfl ?_)
      | (refine W_false rfl rfl ?_)
      | (guard_target =~ WO _ _ (Oper.mk _ (Op.assign _) _ _ _ none) _ _ _ _; first | (refine O_assign (v := .int _ (Nat.cast (0 : Nat))) rfl ?_) | (refine O_assign (v := (.int _ (Nat.cast _))) rfl ?_) | (refine O_assign (v := (.bool _)) rfl ?_) | (refine O_assign (v := (.pointer _)) rfl ?_) | (refine O_assign (v := (.slice _ _ _)) rfl ?_) | (refine O_assign (v := (.agg _)) rfl ?_) | (refine O_assign (v := (.tuple _)) rfl ?_) | (refine O_assign (v := (.int _ _)) rfl ?_))
      | (guard_target =~ WO _ _ (Oper.mk _ (Op.move _) _ _ _ none) _ _ _ _; first | (refine O_move (v := .int _ (Nat.cast (0 : Nat))) rfl ?_) | (refine O_move (v := (.int _ (Nat.cast _))) rfl ?_) | (refine O_move (v := (.bool _)) rfl ?_) | (refine O_move (v := (.pointer _)) rfl ?_) | (refine O_move (v := (.slice _ _ _)) rfl ?_) | (refine O_move (v := (.agg _)) rfl ?_) | (refine O_move (v := (.tuple _)) rfl ?_) | (refine O_move (v := (.int _ _)) rfl ?_))
      | (guard_target =~ WO _ _ (Oper.mk _ (Op.call _) _ _ _ none) _ _ _ _; first | (refine O_len Samg.underlying134 rfl rfl ?_))
      | (guard_target =~ WO _ _ (Oper.mk _ (Op.binOp BinOp.lss _ _ _ _) _ _ _ none) _ _ _ _; first | (refine O_lss_t rfl rfl (by omega) ?_) | (refine O_lss_f rfl rfl (by omega) ?_) | (refine O_lss rfl rfl ?_))
      | (guard_target =~ WO _ _ (Oper.mk _ (Op.binOp BinOp.add _ _ _ _) _ _ _ none) _ _ _ _; first | (refine O_add (b := 1) rfl rfl (by first | exact fit_i64 (by omega) | exact fit_u64 (by omega) | exact fit_u8 (by omega) | exact fit_i32 (by omega) | exact fit_u16 (by omega)) ?_) | (refine O_add rfl rfl (by first | exact fit_i64 (by omega) | exact fit_u64 (by omega) | exact fit_u8 (by omega) | exact fit_i32 (by omega) | exact fit_u16 (by omega)) ?_))
      | (guard_target =~ WO _ _ (Oper.mk _ (Op.indexAddr 134 _ _) _ _ _ none) _ _ _ _; first | (refine O_index_s1 sl134 rfl rfl (by omega) ?_))
      | (guard_target =~ WO _ _ (Oper.mk _ (Op.convert 5 22 _) _ _ _ none) _ _ _ _; first | (refine O_conv Samg.underlying5 Samg.underlying22 rfl (by first | exact fit_i64 (by omega) | exact fit_u64 (by omega) | exact fit_u8 (by omega) | exact fit_i32 (by omega) | exact fit_u16 (by omega)) ?_))
      | (guard_target =~ WO _ _ (Oper.mk _ (Op.convert 22 5 _) _ _ _ none) _ _ _ _; first | (refine O_conv Samg.underlying22 Samg.underlying5 rfl (by first | exact fit_i64 (by omega) | exact fit_u64 (by omega) | exact fit_u8 (by omega) | exact fit_i32 (by omega) | exact fit_u16 (by omega)) ?_))
      | (guard_target =~ WO _ _ (Oper.mk _ (Op.binOp BinOp.shr _ _ _ _) _ _ _ none) _ _ _ _; first | (refine O_shr (b := 8) rfl rfl (by simp only [IntKind.bits]; omega) ?_)))
    refine W_loop (fun m ρ w' => Ext w2 w' ∧ ∃ i h c, m = k - i ∧ i ≤ k ∧ c ≤ 1 ∧ Blk w' w2.heap.size (ns .u8 (k + 1) h) 5 ∧ (∀ q, q < k + 1 → h q < 256) ∧ val 256 h i + c * 256 ^ i = val 256 g i + val 256 (pad g2 k2) i ∧
      Has ρ [(0, .slice a k k), (1, .slice a2 k2 k2), (5, .slice (some ⟨w2.heap.size, 0, none⟩) (k + 1) (k + 1)), (6, .int .u16 (c : Nat)), (24, .slice a k k), (25, .int .i64 (k : Nat)), (26, .int .i64 (i : Nat))]) k ?_ ?_
    · exact ⟨hE3, 0, _, 0, rfl, Nat.zero_le _, by omega, hB3, fun q hq => by show (0 : Nat) < 256; omega, by simp [val_zero], Has.mk ⟨rfl, rfl, rfl, rfl, rfl, rfl, rfl, trivial⟩⟩
    rintro m ρ w4 ⟨hE4, i, h, c, rfl, hi, hc, hB4, hh, hI, σ, rfl⟩
    by_cases h5 : i < k
    · obtain ⟨b, o, cc, t, e1, hS, hsz, hg⟩ := (hD.ext hE4).at h5
      rw [e1]
      have q1 := hg i h5
      have r1 := hD.2.1 i h5
      by_cases h6 : i < k2
      · obtain ⟨b2, o2, cc2, t2, e2, hS2, hsz2, hg2⟩ := (hD2.ext hE4).at h6
        rw [e2]
        have q2 := hg2 i h6
        have r2 := hD2.2.1 i h6
        repeat (first
          | (refine L_cons ?_)
          | (refine R_cons rfl ?_)
          | (refine W_seq ?_)
          | (refine W_region (by kernel_rfl) ?_)
          | (refine L_nil ?_)
          | (refine R_nil ?_)
          | (refine W_block ?_)
          | (refine W_skip ?_)
          | (refine W_exit ?_)
          | (refine W_ret ?_)
          | (guard_target =~ thenQ _ _ _ _ _; first | (refine T_next ?_) | (refine T_exit ?_) | (refine T_ret ?_))
          | (guard_target =~ blockQ _ _ _ _ _; first | (refine B_next ?_) | (refine B_same ?_) | (refine B_other (by kernel_rfl) ?_) | (refine B_ret ?_))
          | (refine W_true rfl rfl ?_)
          | (refine W_false rfl rfl ?_)
          | (guard_target =~ WO _ _ (Oper.mk _ (Op.load 5 _) _ _ _ none) _ _ _ _; first | (refine O_load on5 rfl hS q1 ?_) | (refine O_load on5 rfl hS2 q2 ?_))
          | (guard_target =~ WO _ _ (Oper.mk _ (Op.convert 22 5 _) _ _ _ none) _ _ _ _; first | (refine O_convw8 Samg.underlying22 Samg.underlying5 rfl ?_) | (refine O_conv Samg.underlying22 Samg.underlying5 rfl (by first | exact fit_i64 (by omega) | exact fit_u64 (by omega) | exact fit_u8 (by omega) | exact fit_i32 (by omega) | exact fit_u16 (by omega)) ?_))
          | (guard_target =~ WO _ _ (Oper.mk _ (Op.assign _) _ _ _ none) _ _ _ _; first | (refine O_assign (v := .int _ (Nat.cast (0 : Nat))) rfl ?_) | (refine O_assign (v := (.int _ (Nat.cast _))) rfl ?_) | (refine O_assign (v := (.bool _)) rfl ?_) | (refine O_assign (v := (.pointer _)) rfl ?_) | (refine O_assign (v := (.slice _ _ _)) rfl ?_) | (refine O_assign (v := (.agg _)) rfl ?_) | (refine O_assign (v := (.tuple _)) rfl ?_) | (refine O_assign (v := (.int _ _)) rfl ?_))
          | (guard_target =~ WO _ _ (Oper.mk _ (Op.move _) _ _ _ none) _ _ _ _; first | (refine O_move (v := .int _ (Nat.cast (0 : Nat))) rfl ?_) | (refine O_move (v := (.int _ (Nat.cast _))) rfl ?_) | (refine O_move (v := (.bool _)) rfl ?_) | (refine O_move (v := (.pointer _)) rfl ?_) | (refine O_move (v := (.slice _ _ _)) rfl ?_) | (refine O_move (v := (.agg _)) rfl ?_) | (refine O_move (v := (.tuple _)) rfl ?_) | (refine O_move (v := (.int _ _)) rfl ?_))
          | (guard_target =~ WO _ _ (Oper.mk _ (Op.call _) _ _ _ none) _ _ _ _; first | (refine O_len Samg.underlying134 rfl rfl ?_))
          | (guard_target =~ WO _ _ (Oper.mk _ (Op.binOp BinOp.lss _ _ _ _) _ _ _ none) _ _ _ _; first | (refine O_lss_t rfl rfl (by omega) ?_) | (refine O_lss_f rfl rfl (by omega) ?_) | (refine O_lss rfl rfl ?_))
          | (guard_target =~ WO _ _ (Oper.mk _ (Op.binOp BinOp.add _ _ _ _) _ _ _ none) _ _ _ _; first | (refine O_add (b := 1) rfl rfl (by first | exact fit_i64 (by omega) | exact fit_u64 (by omega) | exact fit_u8 (by omega) | exact fit_i32 (by omega) | exact fit_u16 (by omega)) ?_) | (refine O_add rfl rfl (by first | exact fit_i64 (by omega) | exact fit_u64 (by omega) | exact fit_u8 (by omega) | exact fit_i32 (by omega) | exact fit_u16 (by omega)) ?_))
          | (guard_target =~ WO _ _ (Oper.mk _ (Op.indexAddr 134 _ _) _ _ _ none) _ _ _ _; first | (refine O_index_s1 sl134 rfl rfl (by omega) ?_))
          | (guard_target =~ WO _ _ (Oper.mk _ (Op.convert 5 22 _) _ _ _ none) _ _ _ _; first | (refine O_conv Samg.underlying5 Samg.underlying22 rfl (by first | exact fit_i64 (by omega) | exact fit_u64 (by omega) | exact fit_u8 (by omega) | exact fit_i32 (by omega) | exact fit_u16 (by omega)) ?_))
          | (guard_target =~ WO _ _ (Oper.mk _ (Op.binOp BinOp.shr _ _ _ _) _ _ _ none) _ _ _ _; first | (refine O_shr (b := 8) rfl rfl (by simp only [IntKind.bits]; omega) ?_)))
        refine O_store_ns on5 rfl rfl hB4 (by omega) rfl fun w5 hU => ?_
        repeat (first
          | (refine L_cons ?_)
          | (refine R_cons rfl ?_)
          | (refine W_seq ?_)
          | (refine W_region (by kernel_rfl) ?_)
          | (refine L_nil ?_)
          | (refine R_nil ?_)
          | (refine W_block ?_)
          | (refine W_skip ?_)
          | (refine W_exit ?_)
          | (refine W_ret ?_)
          | (guard_target =~ thenQ _ _ _ _ _; first | (refine T_next ?_) | (refine T_exit ?_) | (refine T_ret ?_))
          | (guard_target =~ blockQ _ _ _ _ _; first | (refine B_next ?_) | (refine B_same ?_) | (refine B_other (by kernel_rfl) ?_) | (refine B_ret ?_))
          | (refine W_true rfl rfl ?_)
          | (refine W_false rfl rfl ?_)
          | (guard_target =~ WO _ _ (Oper.mk _ (Op.binOp BinOp.shr _ _ _ _) _ _ _ none) _ _ _ _; first | (refine O_shrd (b := 8) 256 rfl rfl (by decide) rfl ?_) | (refine O_shr (b := 8) rfl rfl (by simp only [IntKind.bits]; omega) ?_))
          | (guard_target =~ WO _ _ (Oper.mk _ (Op.assign _) _ _ _ none) _ _ _ _; first | (refine O_assign (v := .int _ (Nat.cast (0 : Nat))) rfl ?_) | (refine O_assign (v := (.int _ (Nat.cast _))) rfl ?_) | (refine O_assign (v := (.bool _)) rfl ?_) | (refine O_assign (v := (.pointer _)) rfl ?_) | (refine O_assign (v := (.slice _ _ _)) rfl ?_) | (refine O_assign (v := (.agg _)) rfl ?_) | (refine O_assign (v := (.tuple _)) rfl ?_) | (refine O_assign (v := (.int _ _)) rfl ?_))
          | (guard_target =~ WO _ _ (Oper.mk _ (Op.move _) _ _ _ none) _ _ _ _; first | (refine O_move (v := .int _ (Nat.cast (0 : Nat))) rfl ?_) | (refine O_move (v := (.int _ (Nat.cast _))) rfl ?_) | (refine O_move (v := (.bool _)) rfl ?_) | (refine O_move (v := (.pointer _)) rfl ?_) | (refine O_move (v := (.slice _ _ _)) rfl ?_) | (refine O_move (v := (.agg _)) rfl ?_) | (refine O_move (v := (.tuple _)) rfl ?_) | (refine O_move (v := (.int _ _)) rfl ?_))
          | (guard_target =~ WO _ _ (Oper.mk _ (Op.call _) _ _ _ none) _ _ _ _; first | (refine O_len Samg.underlying134 rfl rfl ?_))
          | (guard_target =~ WO _ _ (Oper.mk _ (Op.binOp BinOp.lss _ _ _ _) _ _ _ none) _ _ _ _; first | (refine O_lss_t rfl rfl (by omega) ?_) | (refine O_lss_f rfl rfl (by omega) ?_) | (refine O_lss rfl rfl ?_))
          | (guard_target =~ WO _ _ (Oper.mk _ (Op.binOp BinOp.add _ _ _ _) _ _ _ none) _ _ _ _; first | (refine O_add (b := 1) rfl rfl (by first | exact fit_i64 (by omega) | exact fit_u64 (by omega) | exact fit_u8 (by omega) | exact fit_i32 (by omega) | exact fit_u16 (by omega)) ?_) | (refine O_add rfl rfl (by first | exact fit_i64 (by omega) | exact fit_u64 (by omega) | exact fit_u8 (by omega) | exact fit_i32 (by omega) | exact fit_u16 (by omega)) ?_))
          | (guard_target =~ WO _ _ (Oper.mk _ (Op.indexAddr 134 _ _) _ _ _ none) _ _ _ _; first | (refine O_index_s1 sl134 rfl rfl (by omega) ?_))
          | (guard_target =~ WO _ _ (Oper.mk _ (Op.convert 5 22 _) _ _ _ none) _ _ _ _; first | (refine O_conv Samg.underlying5 Samg.underlying22 rfl (by first | exact fit_i64 (by omega) | exact fit_u64 (by omega) | exact fit_u8 (by omega) | exact fit_i32 (by omega) | exact fit_u16 (by omega)) ?_))
          | (guard_target =~ WO _ _ (Oper.mk _ (Op.convert 22 5 _) _ _ _ none) _ _ _ _; first | (refine O_conv Samg.underlying22 Samg.underlying5 rfl (by first | exact fit_i64 (by omega) | exact fit_u64 (by omega) | exact fit_u8 (by omega) | exact fit_i32 (by omega) | exact fit_u16 (by omega)) ?_)))
        refine ⟨k - (i + 1), by omega, hE4.new hU (Nat.le_refl _), i + 1, _, _, rfl, by omega, ?_, hU.here, fun q hq => ?_, ?_, Has.mk ⟨rfl, rfl, rfl, rfl, rfl, rfl, rfl, trivial⟩⟩
        · omega
        · unfold upn; split
          · omega
          · exact hh q hq
        · rw [val_put, val_succ, val_succ, pad_lt h6, Nat.pow_succ]
          exact add_step hI
      · repeat (first
          | (refine L_cons ?_)
          | (refine R_cons rfl ?_)
          | (refine W_seq ?_)
          | (refine W_region (by kernel_rfl) ?_)
          | (refine L_nil ?_)
          | (refine R_nil ?_)
          | (refine W_block ?_)
          | (refine W_skip ?_)
          | (refine W_exit ?_)
          | (refine W_ret ?_)
          | (guard_target =~ thenQ _ _ _ _ _; first | (refine T_next ?_) | (refine T_exit ?_) | (refine T_ret ?_))
          | (guard_target =~ blockQ _ _ _ _ _; first | (refine B_next ?_) | (refine B_same ?_) | (refine B_other (by kernel_rfl) ?_) | (refine B_ret ?_))
          | (refine W_true rfl rfl ?_)
          | (refine W_false rfl rfl ?_)
          | (guard_target =~ WO _ _ (Oper.mk _ (Op.load 5 _) _ _ _ none) _ _ _ _; first | (refine O_load on5 rfl hS q1 ?_))
          | (guard_target =~ WO _ _ (Oper.mk _ (Op.convert 22 5 _) _ _ _ none) _ _ _ _; first | (refine O_convw8 Samg.underlying22 Samg.underlying5 rfl ?_) | (refine O_conv Samg.underlying22 Samg.underlying5 rfl (by first | exact fit_i64 (by omega) | exact fit_u64 (by omega) | exact fit_u8 (by omega) | exact fit_i32 (by omega) | exact fit_u16 (by omega)) ?_))
          | (guard_target =~ WO _ _ (Oper.mk _ (Op.assign _) _ _ _ none) _ _ _ _; first | (refine O_assign (v := .int _ (Nat.cast (0 : Nat))) rfl ?_) | (refine O_assign (v := (.int _ (Nat.cast _))) rfl ?_) | (refine O_assign (v := (.bool _)) rfl ?_) | (refine O_assign (v := (.pointer _)) rfl ?_) | (refine O_assign (v := (.slice _ _ _)) rfl ?_) | (refine O_assign (v := (.agg _)) rfl ?_) | (refine O_assign (v := (.tuple _)) rfl ?_) | (refine O_assign (v := (.int _ _)) rfl ?_))
          | (guard_target =~ WO _ _ (Oper.mk _ (Op.move _) _ _ _ none) _ _ _ _; first | (refine O_move (v := .int _ (Nat.cast (0 : Nat))) rfl ?_) | (refine O_move (v := (.int _ (Nat.cast _))) rfl ?_) | (refine O_move (v := (.bool _)) rfl ?_) | (refine O_move (v := (.pointer _)) rfl ?_) | (refine O_move (v := (.slice _ _ _)) rfl ?_) | (refine O_move (v := (.agg _)) rfl ?_) | (refine O_move (v := (.tuple _)) rfl ?_) | (refine O_move (v := (.int _ _)) rfl ?_))
          | (guard_target =~ WO _ _ (Oper.mk _ (Op.call _) _ _ _ none) _ _ _ _; first | (refine O_len Samg.underlying134 rfl rfl ?_))
          | (guard_target =~ WO _ _ (Oper.mk _ (Op.binOp BinOp.lss _ _ _ _) _ _ _ none) _ _ _ _; first | (refine O_lss_t rfl rfl (by omega) ?_) | (refine O_lss_f rfl rfl (by omega) ?_) | (refine O_lss rfl rfl ?_))
          | (guard_target =~ WO _ _ (Oper.mk _ (Op.binOp BinOp.add _ _ _ _) _ _ _ none) _ _ _ _; first | (refine O_add (b := 1) rfl rfl (by first | exact fit_i64 (by omega) | exact fit_u64 (by omega) | exact fit_u8 (by omega) | exact fit_i32 (by omega) | exact fit_u16 (by omega)) ?_) | (refine O_add rfl rfl (by first | exact fit_i64 (by omega) | exact fit_u64 (by omega) | exact fit_u8 (by omega) | exact fit_i32 (by omega) | exact fit_u16 (by omega)) ?_))
          | (guard_target =~ WO _ _ (Oper.mk _ (Op.indexAddr 134 _ _) _ _ _ none) _ _ _ _; first | (refine O_index_s1 sl134 rfl rfl (by omega) ?_))
          | (guard_target =~ WO _ _ (Oper.mk _ (Op.convert 5 22 _) _ _ _ none) _ _ _ _; first | (refine O_conv Samg.underlying5 Samg.underlying22 rfl (by first | exact fit_i64 (by omega) | exact fit_u64 (by omega) | exact fit_u8 (by omega) | exact fit_i32 (by omega) | exact fit_u16 (by omega)) ?_))
          | (guard_target =~ WO _ _ (Oper.mk _ (Op.binOp BinOp.shr _ _ _ _) _ _ _ none) _ _ _ _; first | (refine O_shr (b := 8) rfl rfl (by simp only [IntKind.bits]; omega) ?_)))
        refine O_store_ns on5 rfl rfl hB4 (by omega) rfl fun w5 hU => ?_
        repeat (first
          | (refine L_cons ?_)
          | (refine R_cons rfl ?_)
          | (refine W_seq ?_)
          | (refine W_region (by kernel_rfl) ?_)
          | (refine L_nil ?_)
          | (refine R_nil ?_)
          | (refine W_block ?_)
          | (refine W_skip ?_)
          | (refine W_exit ?_)
          | (refine W_ret ?_)
          | (guard_target =~ thenQ _ _ _ _ _; first | (refine T_next ?_) | (refine T_exit ?_) | (refine T_ret ?_))
          | (guard_target =~ blockQ _ _ _ _ _; first | (refine B_next ?_) | (refine B_same ?_) | (refine B_other (by kernel_rfl) ?_) | (refine B_ret ?_))
          | (refine W_true rfl rfl ?_)
          | (refine W_false rfl rfl ?_)
          | (guard_target =~ WO _ _ (Oper.mk _ (Op.binOp BinOp.shr _ _ _ _) _ _ _ none) _ _ _ _; first | (refine O_shrd (b := 8) 256 rfl rfl (by decide) rfl ?_) | (refine O_shr (b := 8) rfl rfl (by simp only [IntKind.bits]; omega) ?_))
          | (guard_target =~ WO _ _ (Oper.mk _ (Op.assign _) _ _ _ none) _ _ _ _; first | (refine O_assign (v := .int _ (Nat.cast (0 : Nat))) rfl ?_) | (refine O_assign (v := (.int _ (Nat.cast _))) rfl ?_) | (refine O_assign (v := (.bool _)) rfl ?_) | (refine O_assign (v := (.pointer _)) rfl ?_) | (refine O_assign (v := (.slice _ _ _)) rfl ?_) | (refine O_assign (v := (.agg _)) rfl ?_) | (refine O_assign (v := (.tuple _)) rfl ?_) | (refine O_assign (v := (.int _ _)) rfl ?_))
          | (guard_target =~ WO _ _ (Oper.mk _ (Op.move _) _ _ _ none) _ _ _ _; first | (refine O_move (v := .int _ (Nat.cast (0 : Nat))) rfl ?_) | (refine O_move (v := (.int _ (Nat.cast _))) rfl ?_) | (refine O_move (v := (.bool _)) rfl ?_) | (refine O_move (v := (.pointer _)) rfl ?_) | (refine O_move (v := (.slice _ _ _)) rfl ?_) | (refine O_move (v := (.agg _)) rfl ?_) | (refine O_move (v := (.tuple _)) rfl ?_) | (refine O_move (v := (.int _ _)) rfl ?_))
          | (guard_target =~ WO _ _ (Oper.mk _ (Op.call _) _ _ _ none) _ _ _ _; first | (refine O_len Samg.underlying134 rfl rfl ?_))
          | (guard_target =~ WO _ _ (Oper.mk _ (Op.binOp BinOp.lss _ _ _ _) _ _ _ none) _ _ _ _; first | (refine O_lss_t rfl rfl (by omega) ?_) | (refine O_lss_f rfl rfl (by omega) ?_) | (refine O_lss rfl rfl ?_))
          | (guard_target =~ WO _ _ (Oper.mk _ (Op.binOp BinOp.add _ _ _ _) _ _ _ none) _ _ _ _; first | (refine O_add (b := 1) rfl rfl (by first | exact fit_i64 (by omega) | exact fit_u64 (by omega) | exact fit_u8 (by omega) | exact fit_i32 (by omega) | exact fit_u16 (by omega)) ?_) | (refine O_add rfl rfl (by first | exact fit_i64 (by omega) | exact fit_u64 (by omega) | exact fit_u8 (by omega) | exact fit_i32 (by omega) | exact fit_u16 (by omega)) ?_))
          | (guard_target =~ WO _ _ (Oper.mk _ (Op.indexAddr 134 _ _) _ _ _ none) _ _ _ _; first | (refine O_index_s1 sl134 rfl rfl (by omega) ?_))
          | (guard_target =~ WO _ _ (Oper.mk _ (Op.convert 5 22 _) _ _ _ none) _ _ _ _; first | (refine O_conv Samg.underlying5 Samg.underlying22 rfl (by first | exact fit_i64 (by omega) | exact fit_u64 (by omega) | exact fit_u8 (by omega) | exact fit_i32 (by omega) | exact fit_u16 (by omega)) ?_))
          | (guard_target =~ WO _ _ (Oper.mk _ (Op.convert 22 5 _) _ _ _ none) _ _ _ _; first | (refine O_conv Samg.underlying22 Samg.underlying5 rfl (by first | exact fit_i64 (by omega) | exact fit_u64 (by omega) | exact fit_u8 (by omega) | exact fit_i32 (by omega) | exact fit_u16 (by omega)) ?_)))
        refine ⟨k - (i + 1), by omega, hE4.new hU (Nat.le_refl _), i + 1, _, _, rfl, by omega, ?_, hU.here, fun q hq => ?_, ?_, Has.mk ⟨rfl, rfl, rfl, rfl, rfl, rfl, rfl, trivial⟩⟩
        · omega
        · unfold upn; split
          · omega
          · exact hh q hq
        · rw [val_put, val_succ, val_succ, pad_ge h6, Nat.pow_succ]
          have := add_step (p := g i) (q := 0) hI
          rw [Nat.add_zero] at this
          exact this
    · have h5 : i = k := by omega
      subst h5
      repeat (first
        | (refine L_cons ?_)
        | (refine R_cons rfl ?_)
        | (refine W_seq ?_)
        | (refine W_region (by kernel_rfl) ?_)
        | (refine L_nil ?_)
        | (refine R_nil ?_)
        | (refine W_block ?_)
        | (refine W_skip ?_)
        | (refine W_exit ?_)
        | (refine W_ret ?_)
        | (guard_target =~ thenQ _ _ _ _ _; first | (refine T_next ?_) | (refine T_exit ?_) | (refine T_ret ?_))
        | (guard_target =~ blockQ _ _ _ _ _; first | (refine B_next ?_) | (refine B_same ?_) | (refine B_other (by kernel_rfl) ?_) | (refine B_ret ?_))
        | (refine W_true rfl rfl ?_)
        | (refine W_false rfl rfl ?_)
        | (guard_target =~ WO _ _ (Oper.mk _ (Op.convert 22 5 _) _ _ _ none) _ _ _ _; first | (refine O_convw8 Samg.underlying22 Samg.underlying5 rfl ?_) | (refine O_conv Samg.underlying22 Samg.underlying5 rfl (by first | exact fit_i64 (by omega) | exact fit_u64 (by omega) | exact fit_u8 (by omega) | exact fit_i32 (by omega) | exact fit_u16 (by omega)) ?_))
        | (guard_target =~ WO _ _ (Oper.mk _ (Op.assign _) _ _ _ none) _ _ _ _; first | (refine O_assign (v := .int _ (Nat.cast (0 : Nat))) rfl ?_) | (refine O_assign (v := (.int _ (Nat.cast _))) rfl ?_) | (refine O_assign (v := (.bool _)) rfl ?_) | (refine O_assign (v := (.pointer _)) rfl ?_) | (refine O_assign (v := (.slice _ _ _)) rfl ?_) | (refine O_assign (v := (.agg _)) rfl ?_) | (refine O_assign (v := (.tuple _)) rfl ?_) | (refine O_assign (v := (.int _ _)) rfl ?_))
        | (guard_target =~ WO _ _ (Oper.mk _ (Op.move _) _ _ _ none) _ _ _ _; first | (refine O_move (v := .int _ (Nat.cast (0 : Nat))) rfl ?_) | (refine O_move (v := (.int _ (Nat.cast _))) rfl ?_) | (refine O_move (v := (.bool _)) rfl ?_) | (refine O_move (v := (.pointer _)) rfl ?_) | (refine O_move (v := (.slice _ _ _)) rfl ?_) | (refine O_move (v := (.agg _)) rfl ?_) | (refine O_move (v := (.tuple _)) rfl ?_) | (refine O_move (v := (.int _ _)) rfl ?_))
        | (guard_target =~ WO _ _ (Oper.mk _ (Op.call _) _ _ _ none) _ _ _ _; first | (refine O_len Samg.underlying134 rfl rfl ?_))
        | (guard_target =~ WO _ _ (Oper.mk _ (Op.binOp BinOp.lss _ _ _ _) _ _ _ none) _ _ _ _; first | (refine O_lss_t rfl rfl (by omega) ?_) | (refine O_lss_f rfl rfl (by omega) ?_) | (refine O_lss rfl rfl ?_))
        | (guard_target =~ WO _ _ (Oper.mk _ (Op.binOp BinOp.add _ _ _ _) _ _ _ none) _ _ _ _; first | (refine O_add (b := 1) rfl rfl (by first | exact fit_i64 (by omega) | exact fit_u64 (by omega) | exact fit_u8 (by omega) | exact fit_i32 (by omega) | exact fit_u16 (by omega)) ?_) | (refine O_add rfl rfl (by first | exact fit_i64 (by omega) | exact fit_u64 (by omega) | exact fit_u8 (by omega) | exact fit_i32 (by omega) | exact fit_u16 (by omega)) ?_))
        | (guard_target =~ WO _ _ (Oper.mk _ (Op.indexAddr 134 _ _) _ _ _ none) _ _ _ _; first | (refine O_index_s1 sl134 rfl rfl (by omega) ?_))
        | (guard_target =~ WO _ _ (Oper.mk _ (Op.convert 5 22 _) _ _ _ none) _ _ _ _; first | (refine O_conv Samg.underlying5 Samg.underlying22 rfl (by first | exact fit_i64 (by omega) | exact fit_u64 (by omega) | exact fit_u8 (by omega) | exact fit_i32 (by omega) | exact fit_u16 (by omega)) ?_))
        | (guard_target =~ WO _ _ (Oper.mk _ (Op.binOp BinOp.shr _ _ _ _) _ _ _ none) _ _ _ _; first | (refine O_shr (b := 8) rfl rfl (by simp only [IntKind.bits]; omega) ?_)))
      refine O_store_ns on5 rfl rfl hB4 (by omega) rfl fun w5 hU => ?_
      repeat (first
        | (refine L_cons ?_)
        | (refine R_cons rfl ?_)
        | (refine W_seq ?_)
        | (refine W_region (by kernel_rfl) ?_)
        | (refine L_nil ?_)
        | (refine R_nil ?_)
        | (refine W_block ?_)
        | (refine W_skip ?_)
        | (refine W_exit ?_)
        | (refine W_ret ?_)
        | (guard_target =~ thenQ _ _ _ _ _; first | (refine T_next ?_) | (refine T_exit ?_) | (refine T_ret ?_))
        | (guard_target =~ blockQ _ _ _ _ _; first | (refine B_next ?_) | (refine B_same ?_) | (refine B_other (by kernel_rfl) ?_) | (refine B_ret ?_))
        | (refine W_true rfl rfl ?_)
        | (refine W_false rfl rfl ?_)
        | (guard_target =~ WO _ _ (Oper.mk _ (Op.assign _) _ _ _ none) _ _ _ _; first | (refine O_assign (v := .int _ (Nat.cast (0 : Nat))) rfl ?_) | (refine O_assign (v := (.int _ (Nat.cast _))) rfl ?_) | (refine O_assign (v := (.bool _)) rfl ?_) | (refine O_assign (v := (.pointer _)) rfl ?_) | (refine O_assign (v := (.slice _ _ _)) rfl ?_) | (refine O_assign (v := (.agg _)) rfl ?_) | (refine O_assign (v := (.tuple _)) rfl ?_) | (refine O_assign (v := (.int _ _)) rfl ?_))
        | (guard_target =~ WO _ _ (Oper.mk _ (Op.move _) _ _ _ none) _ _ _ _; first | (refine O_move (v := .int _ (Nat.cast (0 : Nat))) rfl ?_) | (refine O_move (v := (.int _ (Nat.cast _))) rfl ?_) | (refine O_move (v := (.bool _)) rfl ?_) | (refine O_move (v := (.pointer _)) rfl ?_) | (refine O_move (v := (.slice _ _ _)) rfl ?_) | (refine O_move (v := (.agg _)) rfl ?_) | (refine O_move (v := (.tuple _)) rfl ?_) | (refine O_move (v := (.int _ _)) rfl ?_))
        | (guard_target =~ WO _ _ (Oper.mk _ (Op.call _) _ _ _ none) _ _ _ _; first | (refine O_len Samg.underlying134 rfl rfl ?_))
        | (guard_target =~ WO _ _ (Oper.mk _ (Op.binOp BinOp.lss _ _ _ _) _ _ _ none) _ _ _ _; first | (refine O_lss_t rfl rfl (by omega) ?_) | (refine O_lss_f rfl rfl (by omega) ?_) | (refine O_lss rfl rfl ?_))
        | (guard_target =~ WO _ _ (Oper.mk _ (Op.binOp BinOp.add _ _ _ _) _ _ _ none) _ _ _ _; first | (refine O_add (b := 1) rfl rfl (by first | exact fit_i64 (by omega) | exact fit_u64 (by omega) | exact fit_u8 (by omega) | exact fit_i32 (by omega) | exact fit_u16 (by omega)) ?_) | (refine O_add rfl rfl (by first | exact fit_i64 (by omega) | exact fit_u64 (by omega) | exact fit_u8 (by omega) | exact fit_i32 (by omega) | exact fit_u16 (by omega)) ?_))
        | (guard_target =~ WO _ _ (Oper.mk _ (Op.indexAddr 134 _ _) _ _ _ none) _ _ _ _; first | (refine O_index_s1 sl134 rfl rfl (by omega) ?_))
        | (guard_target =~ WO _ _ (Oper.mk _ (Op.convert 5 22 _) _ _ _ none) _ _ _ _; first | (refine O_conv Samg.underlying5 Samg.underlying22 rfl (by first | exact fit_i64 (by omega) | exact fit_u64 (by omega) | exact fit_u8 (by omega) | exact fit_i32 (by omega) | exact fit_u16 (by omega)) ?_))
        | (guard_target =~ WO _ _ (Oper.mk _ (Op.convert 22 5 _) _ _ _ none) _ _ _ _; first | (refine O_conv Samg.underlying22 Samg.underlying5 rfl (by first | exact fit_i64 (by omega) | exact fit_u64 (by omega) | exact fit_u8 (by omega) | exact fit_i32 (by omega) | exact fit_u16 (by omega)) ?_))
        | (guard_target =~ WO _ _ (Oper.mk _ (Op.binOp BinOp.shr _ _ _ _) _ _ _ none) _ _ _ _; first | (refine O_shr (b := 8) rfl rfl (by simp only [IntKind.bits]; omega) ?_)))
      rw [val_pad (by omega), hv, hv2] at hI
      refine O_call (l := [.slice (some ⟨w2.heap.size, 0, none⟩) (i + 1) (i + 1)]) cl126 (by rfl) ((clip_ok (x := (x+y)) (NatV.ofBlk hU.here (fun q hq => ?_) ?_) (by omega)).mono ?_)
      · unfold upn; split
        · omega
        · exact hh q hq
      · rw [val_put, show c % 256 = c by omega]
        exact hI
      rintro v w6 ⟨rfl, hN⟩
      refine ⟨nof, ?_⟩
      repeat (first
        | (refine L_cons ?_)
        | (refine R_cons rfl ?_)
        | (refine W_seq ?_)
        | (refine W_region (by kernel_rfl) ?_)
        | (refine L_nil ?_)
        | (refine R_nil ?_)
        | (refine W_block ?_)
        | (refine W_skip ?_)
        | (refine W_exit ?_)
        | (refine W_ret ?_)
        | (guard_target =~ thenQ _ _ _ _ _; first | (refine T_next ?_) | (refine T_exit ?_) | (refine T_ret ?_))
        | (guard_target =~ blockQ _ _ _ _ _; first | (refine B_next ?_) | (refine B_same ?_) | (refine B_other (by kernel_rfl) ?_) | (refine B_ret ?_))
        | (refine W_true rfl rfl ?_)
        | (refine W_false rfl rfl ?_)
        | (guard_target =~ WO _ _ (Oper.mk _ (Op.assign _) _ _ _ none) _ _ _ _; first | (refine O_assign (v := v) rfl ?_) | (refine O_assign (v := .int _ (Nat.cast (0 : Nat))) rfl ?_) | (refine O_assign (v := (.int _ (Nat.cast _))) rfl ?_) | (refine O_assign (v := (.bool _)) rfl ?_) | (refine O_assign (v := (.pointer _)) rfl ?_) | (refine O_assign (v := (.slice _ _ _)) rfl ?_) | (refine O_assign (v := (.agg _)) rfl ?_) | (refine O_assign (v := (.tuple _)) rfl ?_) | (refine O_assign (v := (.int _ _)) rfl ?_))
        | (guard_target =~ WO _ _ (Oper.mk _ (Op.move _) _ _ _ none) _ _ _ _; first | (refine O_move (v := .int _ (Nat.cast (0 : Nat))) rfl ?_) | (refine O_move (v := (.int _ (Nat.cast _))) rfl ?_) | (refine O_move (v := (.bool _)) rfl ?_) | (refine O_move (v := (.pointer _)) rfl ?_) | (refine O_move (v := (.slice _ _ _)) rfl ?_) | (refine O_move (v := (.agg _)) rfl ?_) | (refine O_move (v := (.tuple _)) rfl ?_) | (refine O_move (v := (.int _ _)) rfl ?_))
        | (guard_target =~ WO _ _ (Oper.mk _ (Op.call _) _ _ _ none) _ _ _ _; first | (refine O_len Samg.underlying134 rfl rfl ?_))
        | (guard_target =~ WO _ _ (Oper.mk _ (Op.binOp BinOp.lss _ _ _ _) _ _ _ none) _ _ _ _; first | (refine O_lss_t rfl rfl (by omega) ?_) | (refine O_lss_f rfl rfl (by omega) ?_) | (refine O_lss rfl rfl ?_))
        | (guard_target =~ WO _ _ (Oper.mk _ (Op.binOp BinOp.add _ _ _ _) _ _ _ none) _ _ _ _; first | (refine O_add (b := 1) rfl rfl (by first | exact fit_i64 (by omega) | exact fit_u64 (by omega) | exact fit_u8 (by omega) | exact fit_i32 (by omega) | exact fit_u16 (by omega)) ?_) | (refine O_add rfl rfl (by first | exact fit_i64 (by omega) | exact fit_u64 (by omega) | exact fit_u8 (by omega) | exact fit_i32 (by omega) | exact fit_u16 (by omega)) ?_))
        | (guard_target =~ WO _ _ (Oper.mk _ (Op.indexAddr 134 _ _) _ _ _ none) _ _ _ _; first | (refine O_index_s1 sl134 rfl rfl (by omega) ?_))
        | (guard_target =~ WO _ _ (Oper.mk _ (Op.convert 5 22 _) _ _ _ none) _ _ _ _; first | (refine O_conv Samg.underlying5 Samg.underlying22 rfl (by first | exact fit_i64 (by omega) | exact fit_u64 (by omega) | exact fit_u8 (by omega) | exact fit_i32 (by omega) | exact fit_u16 (by omega)) ?_))
        | (guard_target =~ WO _ _ (Oper.mk _ (Op.convert 22 5 _) _ _ _ none) _ _ _ _; first | (refine O_conv Samg.underlying22 Samg.underlying5 rfl (by first | exact fit_i64 (by omega) | exact fit_u64 (by omega) | exact fit_u8 (by omega) | exact fit_i32 (by omega) | exact fit_u16 (by omega)) ?_))
        | (guard_target =~ WO _ _ (Oper.mk _ (Op.binOp BinOp.shr _ _ _ _) _ _ _ none) _ _ _ _; first | (refine O_shr (b := 8) rfl rfl (by simp only [IntKind.bits]; omega) ?_)))
      exact E_ret rfl rfl rfl ⟨hE4.new hU (Nat.le_refl _), hN.mono (by omega)⟩
end Go.Proofs.Ygcsam
