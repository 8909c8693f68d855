/-
  KNUTH'S TRIAL DIGIT. Own work: no Go in sight.
-/
import Derived.Test.YgcsamV1
namespace Go.Proofs.Ygcsam
set_option linter.unusedVariables false

/-- The corrections of a trial digit: at most so many; the digit and how often it fell. -/
def fixN (next low top : Nat) : Nat → Nat → Nat → Nat → Nat × Nat
  | 0, t, r, c => (t, c)
  | k + 1, t, r, c => if r < 18446744073709551616 ∧ r * 18446744073709551616 + low < t * next then fixN next low top k (t - 1) (r + top) (c + 1) else (t, c)
def trial0 (high mid top : Nat) : Nat := min ((high * 18446744073709551616 + mid) / top) 18446744073709551615
def trialN (high mid low top next : Nat) : Nat × Nat := fixN next low top 2 (trial0 high mid top) (high * 18446744073709551616 + mid - trial0 high mid top * top) 0

theorem fixN_stop {next low top k t r c : Nat} (h : ¬ (r < 18446744073709551616 ∧ r * 18446744073709551616 + low < t * next)) : fixN next low top k t r c = (t, c) := by
  cases k with
  | zero => rfl
  | succ k => unfold fixN; rw [if_neg h]
theorem fixN_step {next low top k t r c : Nat} (h : r < 18446744073709551616 ∧ r * 18446744073709551616 + low < t * next) : fixN next low top (k + 1) t r c = fixN next low top k (t - 1) (r + top) (c + 1) := by
  conv => lhs; unfold fixN
  rw [if_pos h]

/-- What the corrections keep. -/
theorem fixN_spec {next low top two : Nat} (hn : next < 18446744073709551616) (ht : 9223372036854775808 ≤ top) : ∀ (k t r c : Nat), k ≤ 2 → t * top + r = two → 18446744073709551616 ≤ r + k * 9223372036854775808 → t < 18446744073709551616 → ∀ t' c', fixN next low top k t r c = (t', c') →
    t' ≤ t ∧ c' ≤ c + k ∧ t' * (top * 18446744073709551616 + next) ≤ two * 18446744073709551616 + low ∧ ∀ V U X, (top * 18446744073709551616 + next) * X ≤ V → U < (two * 18446744073709551616 + low + 1) * X → U / V ≤ t → 0 < V → U / V ≤ t' := by
  have expand : ∀ t r, t * top + r = two → t * (top * 18446744073709551616 + next) + r * 18446744073709551616 = two * 18446744073709551616 + t * next := by
    intro t r h
    rw [← h, Nat.mul_add, Nat.add_mul, ← Nat.mul_assoc]; omega
  have stop : ∀ t r, t * top + r = two → t < 18446744073709551616 → ¬ (r < 18446744073709551616 ∧ r * 18446744073709551616 + low < t * next) → t * (top * 18446744073709551616 + next) ≤ two * 18446744073709551616 + low := by
    intro t r h htl hs
    have e := expand t r h
    by_cases hr : r < 18446744073709551616
    · have : ¬ r * 18446744073709551616 + low < t * next := fun h => hs ⟨hr, h⟩
      omega
    · have : t * next ≤ 18446744073709551615 * 18446744073709551615 := Nat.mul_le_mul (by omega) (by omega)
      omega
  intro k
  induction k with
  | zero =>
    intro t r c _ h hr htl t' c' he
    have he : (t, c) = (t', c') := he
    obtain ⟨rfl, rfl⟩ := Prod.mk.inj he
    exact ⟨Nat.le_refl _, Nat.le_refl _, stop t r h htl (by omega), fun V U X _ _ h _ => h⟩
  | succ k ih =>
    intro t r c hk h hr htl t' c' he
    by_cases hs : r < 18446744073709551616 ∧ r * 18446744073709551616 + low < t * next
    · rw [fixN_step hs] at he
      have h1 : 1 ≤ t := by
        rcases Nat.eq_zero_or_pos t with h0 | h0
        · subst h0; omega
        · exact h0
      have h2 : (t - 1) * top + (r + top) = two := by
        have : t * top = (t - 1) * top + top := by
          conv => lhs; rw [show t = (t - 1) + 1 by omega]
          rw [Nat.add_mul, Nat.one_mul]
        omega
      obtain ⟨a1, a2, a3, a4⟩ := ih (t - 1) (r + top) (c + 1) (by omega) h2 (by omega) (by omega) t' c' he
      refine ⟨by omega, by omega, a3, fun V U X hV hU hq hpos => a4 V U X hV hU ?_ hpos⟩
      have e := expand t r h
      have h3 : two * 18446744073709551616 + low + 1 ≤ t * (top * 18446744073709551616 + next) := by omega
      have h4 : (two * 18446744073709551616 + low + 1) * X ≤ t * V := by
        calc (two * 18446744073709551616 + low + 1) * X ≤ t * (top * 18446744073709551616 + next) * X := Nat.mul_le_mul_right _ h3
          _ = t * ((top * 18446744073709551616 + next) * X) := Nat.mul_assoc _ _ _
          _ ≤ t * V := Nat.mul_le_mul_left _ hV
      exact Nat.le_sub_one_of_lt ((Nat.div_lt_iff_lt_mul hpos).2 (Nat.lt_of_lt_of_le hU h4))
    · rw [fixN_stop hs] at he
      obtain ⟨rfl, rfl⟩ := Prod.mk.inj he
      exact ⟨Nat.le_refl _, by omega, stop t r h htl hs, fun V U X _ _ h _ => h⟩

/-- The trial digit is the quotient's digit or one above it, and fell at most twice. -/
theorem trialN_spec {high mid low top next U V X : Nat} (hm : mid < 18446744073709551616) (hl : low < 18446744073709551616) (hn : next < 18446744073709551616) (ht : 9223372036854775808 ≤ top) (ht2 : top < 18446744073709551616)
    (hX : 0 < X) (hV1 : (top * 18446744073709551616 + next) * X ≤ V) (hV2 : V < (top * 18446744073709551616 + next + 1) * X)
    (hU1 : ((high * 18446744073709551616 + mid) * 18446744073709551616 + low) * X ≤ U) (hU2 : U < ((high * 18446744073709551616 + mid) * 18446744073709551616 + low + 1) * X) (hUV : U < V * 18446744073709551616) :
    (trialN high mid low top next).2 ≤ 2 ∧ (trialN high mid low top next).1 < 18446744073709551616 ∧ U / V ≤ (trialN high mid low top next).1 ∧ (trialN high mid low top next).1 ≤ U / V + 1 := by
  have hV0 : 0 < V := by
    have : 1 * X ≤ (top * 18446744073709551616 + next) * X := Nat.mul_le_mul_right _ (by omega)
    omega
  obtain ⟨⟨t, c⟩, he⟩ : ∃ p, trialN high mid low top next = p := ⟨_, rfl⟩
  rw [he]
  unfold trialN at he
  have h0 : trial0 high mid top * top ≤ high * 18446744073709551616 + mid := by
    unfold trial0
    calc min ((high * 18446744073709551616 + mid) / top) 18446744073709551615 * top ≤ (high * 18446744073709551616 + mid) / top * top := Nat.mul_le_mul_right _ (Nat.min_le_left _ _)
      _ ≤ _ := Nat.div_mul_le_self _ _
  have h1 : trial0 high mid top ≤ 18446744073709551615 := Nat.min_le_right _ _
  obtain ⟨a1, a2, a3, a4⟩ := fixN_spec (two := high * 18446744073709551616 + mid) (low := low) hn ht 2 (trial0 high mid top) (high * 18446744073709551616 + mid - trial0 high mid top * top) 0 (Nat.le_refl _) (by omega) (by omega) (by omega) t c he
  have hq : U / V ≤ trial0 high mid top := by
    refine Nat.le_min.2 ⟨?_, ?_⟩
    · refine (Nat.le_div_iff_mul_le (by omega)).2 ?_
      have h2 : U / V * V ≤ U := Nat.div_mul_le_self _ _
      have h3 : U / V * (top * 18446744073709551616 * X) ≤ U := Nat.le_trans (Nat.mul_le_mul_left _ (Nat.le_trans (Nat.mul_le_mul_right _ (Nat.le_add_right _ _)) hV1)) h2
      have h4 : U / V * top * 18446744073709551616 * X < ((high * 18446744073709551616 + mid) * 18446744073709551616 + low + 1) * X := by
        refine Nat.lt_of_le_of_lt (Nat.le_of_eq ?_) (Nat.lt_of_le_of_lt h3 hU2)
        rw [Nat.mul_assoc, Nat.mul_assoc, Nat.mul_assoc]
      have h5 := Nat.lt_of_mul_lt_mul_right h4
      generalize U / V * top = p at *
      omega
    · exact Nat.le_of_lt_succ ((Nat.div_lt_iff_lt_mul hV0).2 (by rw [Nat.mul_comm]; exact hUV))
  refine ⟨by simpa using a2, by show t < _; omega, a4 V U X hV1 hU2 hq hV0, ?_⟩
  show t ≤ U / V + 1
  rcases Nat.eq_zero_or_pos t with h5 | h5
  · rw [h5]; exact Nat.zero_le _
  have h6 : t * V < U + V := by
    have e1 : t * V ≤ t * (top * 18446744073709551616 + next) * X + t * X := by
      have : t * V ≤ t * ((top * 18446744073709551616 + next + 1) * X) := Nat.mul_le_mul_left _ (Nat.le_of_lt hV2)
      refine Nat.le_trans this (Nat.le_of_eq ?_)
      rw [← Nat.mul_assoc, Nat.mul_add, Nat.mul_one, Nat.add_mul]
    have e2 : t * (top * 18446744073709551616 + next) * X ≤ U := Nat.le_trans (Nat.mul_le_mul_right _ a3) hU1
    have e3 : t * X < V := by
      refine Nat.lt_of_lt_of_le (Nat.mul_lt_mul_of_lt_of_le (show t < top * 18446744073709551616 + next by omega) (Nat.le_refl X) hX) hV1
    omega
  have h7 : (t - 1) * V ≤ U := by
    have : t * V = (t - 1) * V + V := by
      conv => lhs; rw [show t = (t - 1) + 1 by omega]
      rw [Nat.add_mul, Nat.one_mul]
    omega
  have h8 : t - 1 ≤ U / V := (Nat.le_div_iff_mul_le hV0).2 h7
  omega
end Go.Proofs.Ygcsam
