/-
  THE INVARIANT AHEAD OF A ROUND, in numbers. Own work: no Go in sight.
-/
import Derived.Test.YgcsamV2
namespace Go.Proofs.Ygcsam
set_option linter.unusedVariables false
set_option linter.unusedSectionVars false

/-- Ahead of the round at j: n limbs of the divisor G with the top bit set, and what is left of F above j is below it. -/
abbrev MidB (B : Nat) (F G : Nat → Nat) (n j : Nat) : Prop := 2 ≤ n ∧ n ≤ 8 ∧ j + n ≤ 16 ∧ val B G 8 < B ^ n ∧ B ^ n ≤ 2 * val B G 8 ∧ val B (fun i => F (j + 1 + i)) (16 - j) < val B G 8


theorem mid_limbs {B H : Nat} (hB : B = 2 * H) (hH : 0 < H) {G : Nat → Nat} {n : Nat} {L : Nat} (hG : ∀ i, i < 8 → G i < B) (hn1 : 1 ≤ n) (hn8 : n ≤ 8) (hL : L ≤ 8) (hz : ∀ i, L ≤ i → i < 8 → G i = 0) (ht : L = 0 ∨ G (L - 1) ≠ 0) (h1 : val B G 8 < B ^ n) (h2 : B ^ n ≤ 2 * val B G 8) : L = n := by
  have hV : val B G 8 = val B G L := val_top hL hz
  have hVL : val B G L < B ^ L := val_lt fun i hi => hG i (by omega)
  rcases Nat.lt_trichotomy L n with h | h | h
  · exfalso
    have h3 : B ^ L ≤ B ^ (n - 1) := Nat.pow_le_pow_right (by omega) (by omega)
    have h4 : 2 * B ^ (n - 1) ≤ B ^ n := by
      rw [show n = (n - 1) + 1 by omega, Nat.pow_succ, Nat.mul_comm, Nat.add_sub_cancel]
      exact Nat.mul_le_mul_left _ (by omega)
    omega
  · exact h
  · exfalso
    rcases ht with ht | ht
    · omega
    · have h3 : B ^ (L - 1) ≤ val B G (L - 1 + 1) := val_ge (by omega) ht
      rw [show L - 1 + 1 = L by omega] at h3
      have h4 : B ^ n ≤ B ^ (L - 1) := Nat.pow_le_pow_right (by omega) (by omega)
      omega
theorem mid_bit {B H : Nat} (hB : B = 2 * H) (hH : 0 < H) {G : Nat → Nat} {n : Nat} (hG : ∀ i, i < 8 → G i < B) (hn1 : 1 ≤ n) (hn8 : n ≤ 8) (hz : ∀ i, n ≤ i → i < 8 → G i = 0) : B ^ n ≤ 2 * val B G 8 ↔ H ≤ G (n - 1) := by
  have hV : val B G 8 = val B G n := val_top hn8 hz
  obtain ⟨m, rfl⟩ : ∃ m, n = m + 1 := ⟨n - 1, by omega⟩
  rw [hV, val_succ, Nat.add_sub_cancel, Nat.pow_succ, Nat.mul_add]
  have h1 : val B G m < B ^ m := val_lt fun i hi => hG i (by omega)
  constructor
  · intro h
    rcases Nat.lt_or_ge (G m) H with h2 | h2
    · exfalso
      have h3 : (2 * G m + 2) * B ^ m ≤ B * B ^ m := Nat.mul_le_mul_right _ (by omega)
      rw [Nat.add_mul, Nat.mul_assoc] at h3
      rw [Nat.mul_comm (B ^ m) B] at h
      omega
    · exact h2
  · intro h
    have h3 : B * B ^ m ≤ (2 * G m) * B ^ m := Nat.mul_le_mul_right _ (by omega)
    rw [Nat.mul_assoc] at h3
    rw [Nat.mul_comm (B ^ m) B]
    omega
theorem mid_small {B H : Nat} (hB : B = 2 * H) (hH : 0 < H) {G : Nat → Nat} {n : Nat} (hG : ∀ i, i < 8 → G i < B) (hn8 : n ≤ 8) (hz : ∀ i, n ≤ i → i < 8 → G i = 0) : val B G 8 < B ^ n := by
  rw [val_top hn8 hz]; exact val_lt fun i hi => hG i (by omega)
theorem mid_high {B H : Nat} (hB : B = 2 * H) (hH : 0 < H) {F G : Nat → Nat} {n j : Nat} {i : Nat} (h1 : val B G 8 < B ^ n) (hi : j + n + 1 ≤ i) (hi2 : i < 17) (hF : F i ≠ 0) : ¬ val B (fun i => F (j + 1 + i)) (16 - j) < val B G 8 := by
  have h2 : B ^ (i - (j + 1)) ≤ val B (fun i => F (j + 1 + i)) (i - (j + 1) + 1) := val_ge (by omega) (by rw [show j + 1 + (i - (j + 1)) = i by omega]; exact hF)
  have h3 : B ^ n ≤ B ^ (i - (j + 1)) := Nat.pow_le_pow_right (by omega) (by omega)
  have h4 : val B (fun i => F (j + 1 + i)) (i - (j + 1) + 1) ≤ val B (fun i => F (j + 1 + i)) (16 - j) := val_mono (by omega)
  omega
theorem mid_low {B H : Nat} (hB : B = 2 * H) (hH : 0 < H) {F : Nat → Nat} {n j : Nat} (hjn : j + n ≤ 16) (h : ∀ i, j + n + 1 ≤ i → i < 17 → F i = 0) : val B (fun i => F (j + 1 + i)) (16 - j) = val B (fun i => F (j + 1 + i)) n :=
  val_top (by omega) fun i h1 h2 => h _ (by omega) (by omega)
theorem lex {B H : Nat} (hB : B = 2 * H) (hH : 0 < H) {n : Nat} {f g : Nat → Nat} {i : Nat} (hf : ∀ i, i < n → f i < B) (hg : ∀ i, i < n → g i < B) (hi : i < n) (he : ∀ k, i < k → k < n → f k = g k) (hne : f i ≠ g i) : val B f n < val B g n ↔ f i < g i := by
  obtain ⟨c, e1, e2⟩ := val_cmp_top (B := B) (f := f) (g := g) (k := i + 1) (n := n) (by omega) fun k h1 h2 => he k (by omega) h2
  rcases Nat.lt_or_ge (f i) (g i) with h | h
  · have := val_cmp_lt (B := B) (f := f) (g := g) (n := i) (fun k hk => hf k (by omega)) h
    omega
  · have := val_cmp_lt (B := B) (f := g) (g := f) (n := i) (fun k hk => hg k (by omega)) (by omega)
    omega
end Go.Proofs.Ygcsam
