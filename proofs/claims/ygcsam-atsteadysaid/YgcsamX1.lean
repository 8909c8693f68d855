/-
  WEIGHING, PLAIN: what At answers, and that growth weighs nothing. Own work.
-/
import Derived.Test.YgcsamU9
namespace Go.Proofs.Ygcsam
set_option linter.unusedVariables false
set_option linter.unusedSimpArgs false
/-- The sum of the first n words, and whether it wrapped. -/
def sumW (f : Nat → Nat → Nat) : Nat → (Nat → Nat) × Bool
  | 0 => (fun _ => 0, false)
  | n + 1 => (smF (sumW f n).1 (f n), (sumW f n).2 || decide (cyF (sumW f n).1 (f n) 4 ≠ 0))
/-- How many of the first n slots have been cleared. -/
def cntC (v o : Nat → Nat → Nat) : Nat → Nat
  | 0 => 0
  | n + 1 => cntC v o n + if isZ (v n) = true ∧ isZ (o n) = false then 1 else 0
/-- The cells of a Totals. -/
def totC (s : Nat → Nat) (wr : Bool) (r c : Nat) : Array Value := #[.int .u64 (s 0 : Int), .int .u64 (s 1 : Int), .int .u64 (s 2 : Int), .int .u64 (s 3 : Int), .bool wr, .int .u64 (r : Int), .int .i32 (c : Int)]
def wgh (t : St) (o : Nat → Nat → Nat) : Array Value := totC (sumW t.1 2560).1 (sumW t.1 2560).2 t.2.2 (cntC t.2.1 o 2560)
theorem sumW_lt (f : Nat → Nat → Nat) : ∀ n i, (sumW f n).1 i < 18446744073709551616
  | 0, i => by simp [sumW]
  | n + 1, i => smF_lt _ _ i
theorem sumW_zero {f : Nat → Nat → Nat} {m : Nat} : ∀ d, (∀ i k, m ≤ i → f i k = 0) → sumW f (m + d) = sumW f m
  | 0, _ => rfl
  | d + 1, h => by
    have e : f (m + d) = fun _ => 0 := funext fun k => h (m + d) k (by omega)
    show (smF (sumW f (m + d)).1 (f (m + d)), (sumW f (m + d)).2 || decide (cyF (sumW f (m + d)).1 (f (m + d)) 4 ≠ 0)) = _
    rw [e, smF_zero (sumW_lt f _), cyF_zero (sumW_lt f _), sumW_zero d h]
    simp
theorem cntC_zero {v o : Nat → Nat → Nat} {m : Nat} : ∀ d, (∀ i k, m ≤ i → o i k = 0) → cntC v o (m + d) = cntC v o m
  | 0, _ => rfl
  | d + 1, h => by
    have e : isZ (o (m + d)) = true := by
      unfold isZ
      rw [h _ 0 (by omega), h _ 1 (by omega), h _ 2 (by omega), h _ 3 (by omega)]
      rfl
    show cntC v o (m + d) + (if isZ (v (m + d)) = true ∧ isZ (o (m + d)) = false then 1 else 0) = _
    rw [if_neg (by rw [e]; simp), cntC_zero d h]; rfl
theorem cntC_le (v o : Nat → Nat → Nat) : ∀ n, cntC v o n ≤ n
  | 0 => by simp [cntC]
  | n + 1 => by
    have := cntC_le v o n
    simp only [cntC]
    split <;> omega
theorem sumW_congr {f g : Nat → Nat → Nat} : ∀ n, (∀ i, i < n → ∀ k, k < 4 → f i k = g i k) → (∀ k, k < 4 → (sumW f n).1 k = (sumW g n).1 k) ∧ (sumW f n).2 = (sumW g n).2
  | 0, _ => ⟨fun _ _ => rfl, rfl⟩
  | n + 1, h => by
    obtain ⟨h1, h2⟩ := sumW_congr n fun i hi => h i (by omega)
    have hc : ∀ k, k ≤ 4 → cyF (sumW f n).1 (f n) k = cyF (sumW g n).1 (g n) k := by
      intro k
      induction k with
      | zero => intro _; rfl
      | succ k ih => intro hk; simp only [cyF]; rw [ih (by omega), h1 k (by omega), h n (by omega) k (by omega)]
    refine ⟨fun k hk => ?_, ?_⟩
    · show smF _ _ k = smF _ _ k
      unfold smF
      rw [hc k (by omega), h1 k hk, h n (by omega) k hk]
    · show ((sumW f n).2 || decide (cyF (sumW f n).1 (f n) 4 ≠ 0)) = ((sumW g n).2 || decide (cyF (sumW g n).1 (g n) 4 ≠ 0))
      rw [h2, hc 4 (by omega)]
end Go.Proofs.Ygcsam
