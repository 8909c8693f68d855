/-
  THE HASHES THAT FreshAddrs MEETS. Plain: no Go is walked here. Own work.
-/
import Derived.Test.YgcsamP2
namespace Go.Proofs.Ygcsam
set_option linter.unusedVariables false
set_option linter.unusedSimpArgs false

theorem and1 (v k : Nat) : decide (v >>> k &&& 1 = 1) = v.testBit k := by
  rw [Nat.and_one_is_mod, Nat.shiftRight_eq_div_pow, Nat.testBit_eq_decide_div_mod_eq]

theorem padN_eq (len : Nat) : padN len = 1088 * (len / 136 + 1) := by unfold padN; omega

theorem or2_bit {b n m j : Nat} : (b ||| 2 ^ n ||| 2 ^ m).testBit j = (b.testBit j || decide (j = n) || decide (j = m)) := by
  rw [Nat.testBit_or, Nat.testBit_or, Nat.testBit_two_pow, Nat.testBit_two_pow]
  rw [decide_eq_decide.2 (eq_comm (a := n) (b := j)), decide_eq_decide.2 (eq_comm (a := m) (b := j))]
theorem lt_pow {b n k : Nat} (h : b < 2 ^ n) (hk : n ≤ k) : b < 2 ^ k := Nat.lt_of_lt_of_le h (Nat.pow_le_pow_right (by omega) hk)
theorem two_lt {n m k : Nat} (hn : n < k) (hm : m < k) : 2 ^ n ||| 2 ^ m < 2 ^ k := Nat.or_lt_two_pow (Nat.pow_lt_pow_right (by omega) hn) (Nat.pow_lt_pow_right (by omega) hm)
theorem or2_lt {b n m k : Nat} (hb : b < 2 ^ k) (hn : n < k) (hm : m < k) : b ||| 2 ^ n ||| 2 ^ m < 2 ^ k :=
  Nat.or_lt_two_pow (Nat.or_lt_two_pow hb (Nat.pow_lt_pow_right (by omega) hn)) (Nat.pow_lt_pow_right (by omega) hm)

theorem rep_zero : Rep 1600 0 (fun _ => false) := fun i _ => by simp

/-- A string of at most 135 bytes. -/
theorem one_block {g : Nat → Nat} {len b n8 nb : Nat} (hn8 : n8 = 8 * len) (hlen : len ≤ 135) (hb : ∀ j, j < 8 * len → (g (j / 8)).testBit (j % 8) = b.testBit j) (hnb : nb ≤ 8 * len) (hlt : b < 2 ^ nb) :
    Rep 1600 (permN (b ||| 2 ^ n8 ||| 2 ^ 1087)) (sK (padB g len) (padN len)) := by
  subst hn8
  obtain ⟨q, hq⟩ : ∃ q : Nat, q = 1087 := ⟨_, rfl⟩
  rw [← hq]
  have hN : padN len = 1088 * (0 + 1) := by rw [padN_eq]; omega
  rw [hN]
  obtain ⟨k, hk⟩ : ∃ k : Nat, k = 1088 := ⟨_, rfl⟩
  have h := absorb (nb := k) (Nat.le_of_eq hk) (B := padB g len) (m := 0) (Z := 0) (b := b ||| 2 ^ (8 * len) ||| 2 ^ q) (by rw [Nat.mul_zero]; exact rep_zero) (fun j hj => ?_)
    (or2_lt (lt_pow hlt (by omega)) (by omega) (by omega))
  · rw [Nat.zero_xor] at h; exact h
  · rw [Nat.mul_zero, Nat.zero_add, or2_bit]
    simp only [padB]
    by_cases h1 : j < 8 * len
    · rw [if_pos h1, and1, hb j h1, decide_eq_false (show ¬ j = 8 * len by omega), decide_eq_false (show ¬ j = q by omega)]; simp
    · rw [if_neg h1, far_bit hlt (by omega), hN, show 1088 * (0 + 1) - 1 = q by omega]; simp

/-- n bytes, each zero. -/
theorem zeros_block (n : Nat) : Rep 1600 (innerN n) (sK (padB (fun _ => 0) n) (padN n)) := by
  have hz : ∀ m, m ≤ n / 136 → Rep 1600 (zst m) (sK (padB (fun _ => 0) n) (1088 * m)) := by
    intro m
    induction m with
    | zero => intro _; rw [Nat.mul_zero]; exact rep_zero
    | succ m ih =>
      intro hm
      have := absorb (nb := 0) (by omega) (b := 0) (ih (by omega)) (fun j hj => by
        simp only [padB]
        rw [if_pos (by omega), and1]; simp) (Nat.two_pow_pos _)
      rw [Nat.xor_zero] at this
      exact this
  rw [padN_eq]
  unfold innerN
  obtain ⟨q, hq⟩ : ∃ q : Nat, q = 1087 := ⟨_, rfl⟩
  rw [← hq]
  have h8 : 8 * (n % 136) < 1088 := by omega
  obtain ⟨k, hk⟩ : ∃ k : Nat, k = 1088 := ⟨_, rfl⟩
  refine absorb (nb := k) (Nat.le_of_eq hk) (hz _ (Nat.le_refl _)) (fun j hj => ?_) (two_lt (by omega) (by omega))
  rw [Nat.testBit_or, Nat.testBit_two_pow, Nat.testBit_two_pow]
  simp only [padB]
  by_cases h1 : 1088 * (n / 136) + j < 8 * n
  · rw [if_pos h1, and1, decide_eq_false (show ¬ 8 * (n % 136) = j by omega), decide_eq_false (show ¬ q = j by omega)]; simp
  · rw [if_neg h1, padN_eq]
    rw [← Bool.decide_or]
    exact decide_eq_decide.2 (by omega)

/-- The 85 bytes that madeBy2 hashes. -/
def g85 (h : Nat → Nat) : Nat → Nat := fun j => if j = 0 then 255 else if j = 20 then 1 else if 53 ≤ j then h (j - 53) else 0
theorem outer_block {h : Nat → Nat} {z : Nat} (hh : ∀ j, j < 32 → h j = (z >>> (8 * j)) % 256) : Rep 1600 (outerN z) (sK (padB (g85 h) 85) (padN 85)) := by
  unfold outerN
  obtain ⟨k, hk⟩ : ∃ k : Nat, k = 680 := ⟨_, rfl⟩
  refine one_block (g := g85 h) (len := 85) (b := 255 ||| 2 ^ 160 ||| (z % 2 ^ 256) <<< 424) (n8 := 680) (nb := k) rfl (by omega) (fun j hj => ?_) (Nat.le_of_eq hk) ?_
  · rw [Nat.testBit_or, Nat.testBit_or, Nat.testBit_two_pow, Nat.testBit_shiftLeft, Nat.testBit_mod_two_pow, show 255 = 2 ^ 8 - 1 from rfl, Nat.testBit_two_pow_sub_one]
    unfold g85
    by_cases h1 : j < 8
    · rw [if_pos (by omega), show 255 = 2 ^ 8 - 1 from rfl, Nat.testBit_two_pow_sub_one, decide_eq_true h1, decide_eq_true (show j % 8 < 8 by omega)]; simp
    · rw [if_neg (by omega), decide_eq_false h1]
      by_cases h2 : j / 8 = 20
      · rw [if_pos h2, decide_eq_false (show ¬ j ≥ 424 by omega)]
        have : Nat.testBit 1 (j % 8) = decide (160 = j) := by
          rw [show (1 : Nat) = 2 ^ 0 from rfl, Nat.testBit_two_pow]
          exact decide_eq_decide.2 (by omega)
        rw [this]; simp
      · rw [if_neg h2, decide_eq_false (show ¬ 160 = j by omega)]
        by_cases h3 : 53 ≤ j / 8
        · rw [if_pos h3, hh _ (by omega), show 256 = 2 ^ 8 from rfl, Nat.testBit_mod_two_pow, Nat.testBit_shiftRight, decide_eq_true (show j ≥ 424 by omega), decide_eq_true (show j - 424 < 2 ^ 8 by omega), decide_eq_true (show j % 8 < 8 by omega), show 8 * (j / 8 - 53) + j % 8 = j - 424 by omega]; simp
        · rw [if_neg h3, decide_eq_false (show ¬ j ≥ 424 by omega)]; simp
  · refine Nat.or_lt_two_pow (Nat.or_lt_two_pow (lt_pow (show 255 < 2 ^ 8 by decide) (by omega)) (lt_pow (n := 161) (Nat.pow_lt_pow_right (by omega) (by omega)) (by omega))) (lt_pow (shl_lt (Nat.mod_lt z (Nat.two_pow_pos 256))) (by omega))

theorem fresh_of {s : Nat → Bool} {Z : Nat} (h : Rep 1600 Z s) (hf : freshN Z = true) : ∃ i, i < 19 ∧ oK s 256 (12 + i) ≠ 0 := by
  refine Classical.byContradiction fun hno => ?_
  have hall : ∀ i, i < 19 → oK s 256 (12 + i) = 0 := fun i hi => Classical.byContradiction fun hne => hno ⟨i, hi, hne⟩
  have : (Z >>> 96) % 2 ^ 152 = 0 := by
    apply Nat.eq_of_testBit_eq
    intro b
    rw [Nat.testBit_mod_two_pow, Nat.testBit_shiftRight, Nat.zero_testBit]
    by_cases hb : b < 152
    · have h0 := hall (b / 8) (by omega)
      have h1 := out_bit s 256 (12 + b / 8) (b % 8) (by omega)
      rw [h0, Nat.zero_testBit, decide_eq_true (show 8 * (12 + b / 8) + b % 8 < 256 by omega), Bool.true_and, h _ (by omega), show 8 * (12 + b / 8) + b % 8 = 96 + b by omega] at h1
      rw [← h1]; simp
    · simp [hb]
  unfold freshN at hf
  rw [this] at hf
  cases hf

/-! ### the two constants -/
def g23 (a b : Nat) : Nat → Nat := fun j => if j = 0 then 214 else if j = 1 then 148 else if j = 21 then a else if j = 22 then b else 0
end Go.Proofs.Ygcsam
