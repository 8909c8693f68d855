/-
  NUMBERS BY THEIR DIGITS. Own work: no Go in sight.
-/
import Derived.Test.YgcsamNs
namespace Go.Proofs.Ygcsam
set_option linter.unusedVariables false

/-- The number whose n digits to the base B are f, the least first. -/
def val (B : Nat) (f : Nat → Nat) : Nat → Nat
  | 0 => 0
  | n + 1 => val B f n + f n * B ^ n

theorem val_succ (B : Nat) (f : Nat → Nat) (n : Nat) : val B f (n + 1) = val B f n + f n * B ^ n := rfl
theorem val_zero (B : Nat) (f : Nat → Nat) : val B f 0 = 0 := rfl
theorem val_congr {B : Nat} {f g : Nat → Nat} : ∀ {n : Nat}, (∀ i, i < n → f i = g i) → val B f n = val B g n
  | 0, _ => rfl
  | n + 1, h => by rw [val_succ, val_succ, val_congr (n := n) fun i hi => h i (by omega), h n (by omega)]
theorem val_lt {B : Nat} {f : Nat → Nat} : ∀ {n : Nat}, (∀ i, i < n → f i < B) → val B f n < B ^ n
  | 0, _ => by rw [val_zero, Nat.pow_zero]; exact Nat.one_pos
  | n + 1, h => by
    have h1 := val_lt (n := n) fun i hi => h i (by omega)
    have h2 : (f n + 1) * B ^ n ≤ B * B ^ n := Nat.mul_le_mul_right _ (h n (by omega))
    rw [val_succ, Nat.pow_succ, Nat.mul_comm (B ^ n) B]
    rw [Nat.add_mul, Nat.one_mul] at h2
    omega
theorem val_add {B : Nat} {f : Nat → Nat} (m : Nat) : ∀ (n : Nat), val B f (m + n) = val B f m + val B (fun i => f (m + i)) n * B ^ m
  | 0 => by rw [Nat.add_zero, val_zero, Nat.zero_mul, Nat.add_zero]
  | n + 1 => by
    rw [← Nat.add_assoc, val_succ, val_succ, val_add m n, Nat.add_mul, Nat.pow_add, ← Nat.add_assoc]
    congr 1
    rw [Nat.mul_assoc, Nat.mul_comm (B ^ n)]
theorem val_top {B : Nat} {f : Nat → Nat} {k : Nat} : ∀ {n : Nat}, k ≤ n → (∀ i, k ≤ i → i < n → f i = 0) → val B f n = val B f k
  | 0, hk, _ => by rw [show k = 0 by omega]
  | n + 1, hk, h => by
    by_cases h1 : k = n + 1
    · rw [h1]
    · rw [val_succ, val_top (n := n) (by omega) (fun i h2 h3 => h i h2 (by omega)), h n (by omega) (by omega), Nat.zero_mul, Nat.add_zero]
theorem val_ge {B : Nat} {f : Nat → Nat} {n : Nat} (hB : 0 < B) (h : f n ≠ 0) : B ^ n ≤ val B f (n + 1) := by
  rw [val_succ]
  have : 1 * B ^ n ≤ f n * B ^ n := Nat.mul_le_mul_right _ (by omega)
  omega
theorem val_mono {B : Nat} {f : Nat → Nat} {k n : Nat} (h : k ≤ n) : val B f k ≤ val B f n := by
  obtain ⟨d, rfl⟩ := Nat.exists_eq_add_of_le h
  rw [val_add]; exact Nat.le_add_right _ _
theorem val_upn_top {B : Nat} {f : Nat → Nat} {n v : Nat} : val B (upn f n v) (n + 1) = val B f n + v * B ^ n := by
  rw [val_succ, val_congr (g := f) fun i hi => ?_]
  · unfold upn; rw [if_pos rfl]
  · unfold upn; rw [if_neg (by omega)]
theorem val_upn {B : Nat} {f : Nat → Nat} {n m v : Nat} (h : n ≤ m) : val B (upn f m v) n = val B f n :=
  val_congr fun i hi => by unfold upn; rw [if_neg (by omega)]
theorem val_zeros {B : Nat} {f : Nat → Nat} {n : Nat} (h : ∀ i, i < n → f i = 0) : val B f n = 0 := by
  rw [val_top (k := 0) (Nat.zero_le _) fun i _ hi => h i hi]; rfl
theorem val_eq0 {B : Nat} {f : Nat → Nat} (hB : 0 < B) : ∀ {n : Nat}, val B f n = 0 → ∀ i, i < n → f i = 0
  | 0, _, i, hi => by omega
  | n + 1, h, i, hi => by
    rw [val_succ] at h
    have h1 : val B f n = 0 := by omega
    have h2 : f n * B ^ n = 0 := by omega
    have h3 : f n = 0 := by
      rcases Nat.mul_eq_zero.1 h2 with h | h
      · exact h
      · have := Nat.pow_pos (n := n) hB; omega
    by_cases hin : i = n
    · rw [hin]; exact h3
    · exact val_eq0 hB h1 i (by omega)

/-! ### comparing -/
theorem val_cmp_lt {B : Nat} {f g : Nat → Nat} {n : Nat} (hf : ∀ i, i < n → f i < B) (h : f n < g n) : val B f (n + 1) < val B g (n + 1) := by
  have h1 := val_lt hf
  have h2 : (f n + 1) * B ^ n ≤ g n * B ^ n := Nat.mul_le_mul_right _ h
  rw [Nat.add_mul, Nat.one_mul] at h2
  rw [val_succ, val_succ]
  omega
theorem val_cmp_top {B : Nat} {f g : Nat → Nat} {k n : Nat} (hk : k ≤ n) (h : ∀ i, k ≤ i → i < n → f i = g i) : ∃ c, val B f n = val B f k + c ∧ val B g n = val B g k + c := by
  obtain ⟨d, rfl⟩ := Nat.exists_eq_add_of_le hk
  exact ⟨_, val_add k d, by rw [val_add k d, val_congr (f := fun i => f (k + i)) (g := fun i => g (k + i)) fun i hi => h _ (by omega) (by omega)]⟩

/-! ### limbs and bytes -/
theorem val_limb (x : Nat) : val 256 (fun i => x / 256 ^ i % 256) 8 = x % 18446744073709551616 := by
  simp only [val, Nat.reducePow, Nat.pow_zero, Nat.div_one]
  omega
theorem val_bytes {f : Nat → Nat} : ∀ {n : Nat}, (∀ i, i < n → f i < 18446744073709551616) → val 256 (fun i => f (i / 8) / 256 ^ (i % 8) % 256) (8 * n) = val 18446744073709551616 f n
  | 0, _ => rfl
  | n + 1, h => by
    rw [show 8 * (n + 1) = 8 * n + 8 by omega, val_add, val_bytes fun i hi => h i (by omega), val_succ 18446744073709551616 f n]
    have e : val 256 (fun i => f ((8 * n + i) / 8) / 256 ^ ((8 * n + i) % 8) % 256) 8 = val 256 (fun i => f n / 256 ^ i % 256) 8 :=
      val_congr fun i hi => by
        rw [show (8 * n + i) / 8 = n by omega, show (8 * n + i) % 8 = i by omega]
    rw [e, val_limb, Nat.mod_eq_of_lt (h n (by omega)), show (256 : Nat) ^ (8 * n) = 18446744073709551616 ^ n by rw [Nat.pow_mul]]
end Go.Proofs.Ygcsam
