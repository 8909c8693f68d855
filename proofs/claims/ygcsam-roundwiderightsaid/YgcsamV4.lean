/-
  LONG DIVISION, bit by bit. Own work: no Go in sight.
-/
import Derived.Test.YgcsamV3
namespace Go.Proofs.Ygcsam
set_option linter.unusedVariables false

theorem val_digit {B : Nat} {f : Nat → Nat} {n k : Nat} (hf : ∀ i, i < n → f i < B) (hk : k < n) (hB : 0 < B) : val B f n / B ^ k % B = f k := by
  obtain ⟨m, rfl⟩ : ∃ m, n = k + (1 + m) := ⟨n - k - 1, by omega⟩
  rw [val_add, val_add, Nat.pow_one, val_succ, val_zero, Nat.pow_zero, Nat.mul_one, Nat.zero_add]
  have h1 : val B f k < B ^ k := val_lt fun i hi => hf i (by omega)
  rw [Nat.add_mul_div_right _ _ (Nat.pow_pos hB), Nat.div_eq_of_lt h1, Nat.zero_add, Nat.add_mul_mod_self_right, Nat.add_zero]
  exact Nat.mod_eq_of_lt (hf k (by omega))
theorem val_upn_in {B : Nat} {f : Nat → Nat} {k v : Nat} : ∀ {n : Nat}, k < n → val B (upn f k v) n + f k * B ^ k = val B f n + v * B ^ k
  | 0, h => by omega
  | n + 1, h => by
    by_cases hk : k = n
    · subst hk
      rw [val_upn_top, val_succ]; omega
    · have := val_upn_in (B := B) (f := f) (v := v) (n := n) (k := k) (by omega)
      rw [val_succ, val_succ]
      have e : upn f k v n = f n := by unfold upn; rw [if_neg (by omega)]
      rw [e]; omega

/-- The bit that is brought down. -/
theorem bit_down {X i : Nat} {g : Nat → Nat} {k : Nat} (hg : ∀ q, q < k → g q < 256) (hX : val 256 g k = X) (hi : 0 < i) (hk : i ≤ 8 * k) :
    (g ((i - 1) / 8) >>> ((i - 1) % 8)) &&& 1 ≤ 1 ∧ X / 2 ^ (i - 1) = 2 * (X / 2 ^ i) + ((g ((i - 1) / 8) >>> ((i - 1) % 8)) &&& 1) := by
  have h1 := val_digit hg (k := (i - 1) / 8) (by omega) (by omega)
  rw [hX] at h1
  have h2 : (g ((i - 1) / 8) >>> ((i - 1) % 8)) &&& 1 = X / 2 ^ (i - 1) % 2 := by
    rw [Nat.and_one_is_mod, Nat.shiftRight_eq_div_pow, ← h1]
    have e : 2 ^ (i - 1) = 256 ^ ((i - 1) / 8) * 2 ^ ((i - 1) % 8) := by
      rw [show (256 : Nat) = 2 ^ 8 by rfl, ← Nat.pow_mul, ← Nat.pow_add]; congr 1; omega
    rw [e, ← Nat.div_div_eq_div_mul]
    generalize X / 256 ^ ((i - 1) / 8) = Z
    rcases (show (i - 1) % 8 = 0 ∨ (i - 1) % 8 = 1 ∨ (i - 1) % 8 = 2 ∨ (i - 1) % 8 = 3 ∨ (i - 1) % 8 = 4 ∨ (i - 1) % 8 = 5 ∨ (i - 1) % 8 = 6 ∨ (i - 1) % 8 = 7 by omega) with h | h | h | h | h | h | h | h <;> rw [h] <;> omega
  rw [h2]
  refine ⟨by omega, ?_⟩
  have e : X / 2 ^ i = X / 2 ^ (i - 1) / 2 := by
    rw [Nat.div_div_eq_div_mul, ← Nat.pow_succ]; congr 2; omega
  rw [e]
  omega
theorem div_step1 {N Y c : Nat} (hY : 0 < Y) (hc : c ≤ 1) (h : Y ≤ 2 * (N % Y) + c) : (2 * N + c) / Y = 2 * (N / Y) + 1 ∧ (2 * N + c) % Y = 2 * (N % Y) + c - Y := by
  have h1 := Nat.div_add_mod N Y
  have h2 := Nat.mod_lt N hY
  refine (Nat.div_mod_unique hY).2 ⟨?_, by omega⟩
  rw [Nat.mul_add, Nat.mul_one, Nat.mul_left_comm]
  generalize Y * (N / Y) = p at *
  omega
theorem div_step0 {N Y c : Nat} (hY : 0 < Y) (hc : c ≤ 1) (h : ¬ Y ≤ 2 * (N % Y) + c) : (2 * N + c) / Y = 2 * (N / Y) ∧ (2 * N + c) % Y = 2 * (N % Y) + c := by
  have h1 := Nat.div_add_mod N Y
  refine (Nat.div_mod_unique hY).2 ⟨?_, by omega⟩
  rw [Nat.mul_left_comm]
  generalize Y * (N / Y) = p at *
  omega
theorem dbl_step {P F H c0 c d : Nat} (h : H + c * P = 2 * F + c0) : (H + (d * 2 % 256 + c) * P) + d / 128 * (P * 256) = 2 * (F + d * P) + c0 := by
  have e1 : d * 2 % 256 + c + d / 128 * 256 = 2 * d + c := by omega
  have e2 : (d * 2 % 256 + c + d / 128 * 256) * P = (2 * d + c) * P := by rw [e1]
  rw [Nat.mul_comm P, ← Nat.mul_assoc]
  simp only [Nat.add_mul, Nat.mul_add] at e2 h ⊢
  have e3 : 2 * d * P = 2 * (d * P) := Nat.mul_assoc _ _ _
  omega
theorem or_one (a c : Nat) (hc : c ≤ 1) : (a * 2 ^ 1 % 256) ||| c = a * 2 % 256 + c := by
  have e : a * 2 ^ 1 % 256 = (a % 128) <<< 1 := by
    rw [Nat.shiftLeft_eq, Nat.pow_one]
    omega
  have := Nat.shiftLeft_add_eq_or_of_lt (b := c) (i := 1) (by omega) (a % 128)
  rw [e, ← this, ← e, Nat.pow_one]
/-- The bit that is set. -/
theorem bit_set {f : Nat → Nat} {k i Q : Nat} (hf : ∀ q, q < k → f q < 256) (hi : 0 < i) (hk : i ≤ 8 * k) (hv : val 256 f k = Q * 2 ^ i) :
    f ((i - 1) / 8) ||| 1 * 2 ^ ((i - 1) % 8) % 256 < 256 ∧ val 256 (upn f ((i - 1) / 8) (f ((i - 1) / 8) ||| 1 * 2 ^ ((i - 1) % 8) % 256)) k = (2 * Q + 1) * 2 ^ (i - 1) := by
  obtain ⟨at_, bit, h1, h2, h3⟩ : ∃ at_ bit, (i - 1) / 8 = at_ ∧ (i - 1) % 8 = bit ∧ bit < 8 := ⟨_, _, rfl, rfl, by omega⟩
  have hi2 : i = 8 * at_ + bit + 1 := by omega
  have hi3 : i - 1 = 8 * at_ + bit := by omega
  have hdig := val_digit hf (k := at_) (by omega) (by omega)
  have hp : 2 ^ bit ≤ 2 ^ 7 := Nat.pow_le_pow_right (by omega) (by omega)
  have hlt : 2 ^ bit < 256 := Nat.lt_of_le_of_lt hp (by decide)
  have e1 : Q * 2 ^ i = Q * 2 ^ (bit + 1) * 256 ^ at_ := by
    rw [Nat.mul_assoc, show (256 : Nat) = 2 ^ 8 by rfl, ← Nat.pow_mul, ← Nat.pow_add, hi2]; congr 2; omega
  have e2 : Q * 2 ^ (bit + 1) % 256 = Q % 2 ^ (7 - bit) * 2 ^ (bit + 1) := by
    rw [show (256 : Nat) = 2 ^ (7 - bit) * 2 ^ (bit + 1) by rw [← Nat.pow_add, show 7 - bit + (bit + 1) = 8 by omega], Nat.mul_mod_mul_right]
  rw [hv, e1, Nat.mul_div_cancel _ (Nat.pow_pos (by omega)), e2] at hdig
  have e3 : f at_ ||| 1 * 2 ^ bit % 256 = f at_ + 2 ^ bit := by
    rw [Nat.one_mul, Nat.mod_eq_of_lt hlt, ← hdig, ← Nat.shiftLeft_eq]
    exact (Nat.shiftLeft_add_eq_or_of_lt (Nat.pow_lt_pow_right (by decide) (Nat.lt_succ_self _)) _).symm
  rw [h1, h2]
  refine ⟨Nat.or_lt_two_pow (n := 8) (hf _ (by omega)) (Nat.mod_lt _ (by omega)), ?_⟩
  rw [e3]
  have h4 := val_upn_in (B := 256) (f := f) (k := at_) (v := f at_ + 2 ^ bit) (n := k) (by omega)
  rw [hv, Nat.add_mul] at h4
  have e4 : 2 ^ bit * 256 ^ at_ = 2 ^ (i - 1) := by
    rw [show (256 : Nat) = 2 ^ 8 by rfl, ← Nat.pow_mul, ← Nat.pow_add, hi3]; congr 1; omega
  have e5 : Q * 2 ^ i = 2 * Q * 2 ^ (i - 1) := by
    rw [show i = (i - 1) + 1 by omega, Nat.pow_succ, Nat.add_sub_cancel, Nat.mul_comm (2 ^ (i - 1)) 2, ← Nat.mul_assoc, Nat.mul_comm Q 2]
  rw [e4, e5] at h4
  rw [Nat.add_mul, Nat.one_mul]
  omega
end Go.Proofs.Ygcsam
