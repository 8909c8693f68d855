/-
  KECCAK ON WHOLE NUMBERS IS KECCAK BIT BY BIT. Plain: no Go is walked here. Own work.
-/
import Derived.Test.YgcsamP1
import Derived.Test.YgcsamK7
namespace Go.Proofs.Ygcsam
set_option linter.unusedVariables false
set_option linter.unusedSimpArgs false

theorem hor_bit : ∀ (l : List Nat), (∀ e ∈ l, e < 2 ^ 64) → ∀ p z, z < 64 → (hor l).testBit (64 * p + z) = (l.getD p 0).testBit z
  | [], _, p, z, _ => by simp [hor]
  | e :: t, h, 0, z, hz => by
    simp only [hor, Nat.testBit_or, Nat.testBit_shiftLeft]
    simp; omega
  | e :: t, h, p + 1, z, hz => by
    have ih := hor_bit t (fun x hx => h x (by simp [hx])) p z hz
    have he : e < 2 ^ (64 * (p + 1) + z) := Nat.lt_of_lt_of_le (h e (by simp)) (Nat.pow_le_pow_right (by omega) (by omega))
    simp only [hor, Nat.testBit_or, Nat.testBit_shiftLeft, Nat.testBit_lt_two_pow he, Bool.false_or]
    rw [show 64 * (p + 1) + z - 64 = 64 * p + z by omega, ih]
    simp; intro _; omega

theorem hor_lt : ∀ (l : List Nat), (∀ e ∈ l, e < 2 ^ 64) → hor l < 2 ^ (64 * l.length)
  | [], _ => by simp [hor]
  | e :: t, h => by
    have ih := hor_lt t (fun x hx => h x (by simp [hx]))
    have he := h e (by simp)
    simp only [hor, List.length_cons]
    refine Nat.or_lt_two_pow (Nat.lt_of_lt_of_le he (Nat.pow_le_pow_right (by omega) (by omega))) ?_
    rw [Nat.shiftLeft_eq, show 64 * (t.length + 1) = 64 * t.length + 64 by omega, Nat.pow_add]
    exact Nat.mul_lt_mul_of_pos_right ih (Nat.two_pow_pos 64)

theorem m64_eq : 18446744073709551616 = 2 ^ 64 := by decide

theorem lane_bit (S p z : Nat) : (laneN S p).testBit z = (decide (z < 64) && S.testBit (64 * p + z)) := by
  unfold laneN
  rw [m64_eq, Nat.testBit_mod_two_pow, Nat.testBit_shiftRight]
theorem lane_lt (S p : Nat) : laneN S p < 2 ^ 64 := by unfold laneN; rw [m64_eq]; exact Nat.mod_lt _ (Nat.two_pow_pos 64)

theorem rot_bit {l k z : Nat} (hl : l < 2 ^ 64) (hk : k < 64) (hz : z < 64) : (rotN l k).testBit z = l.testBit ((z + 64 - k) % 64) := by
  unfold rotN
  rw [m64_eq, Nat.testBit_or, Nat.testBit_mod_two_pow, Nat.testBit_shiftLeft, Nat.testBit_shiftRight]
  by_cases h : k ≤ z
  · have h1 : l.testBit (64 - k + z) = false := Nat.testBit_lt_two_pow (Nat.lt_of_lt_of_le hl (Nat.pow_le_pow_right (by omega) (by omega)))
    rw [h1, show (z + 64 - k) % 64 = z - k by omega]
    simp [hz, h]
  · rw [show (z + 64 - k) % 64 = 64 - k + z by omega]
    simp [h]
theorem rot_lt {l k : Nat} (hl : l < 2 ^ 64) : rotN l k < 2 ^ 64 := by
  unfold rotN
  rw [m64_eq]
  refine Nat.or_lt_two_pow (Nat.mod_lt _ (Nat.two_pow_pos 64)) ?_
  rw [Nat.shiftRight_eq_div_pow]
  exact Nat.lt_of_le_of_lt (Nat.div_le_self _ _) hl

def Rep (n S : Nat) (f : Nat → Bool) : Prop := ∀ i, i < n → f i = S.testBit i

/-! ### theta -/
def xr (a b : Bool) : Bool := a != b
theorem cK_bit (a : Nat → Bool) {x z : Nat} (hx : x < 5) (hz : z < 64) : ∀ k, k ≤ 1600 → cK a k (x * 64 + z) =
    (((((if x * 320 + z < k then a (x * 320 + z) else false) != (if x * 320 + 64 + z < k then a (x * 320 + 64 + z) else false)) != (if x * 320 + 128 + z < k then a (x * 320 + 128 + z) else false)) != (if x * 320 + 192 + z < k then a (x * 320 + 192 + z) else false)) != (if x * 320 + 256 + z < k then a (x * 320 + 256 + z) else false))
  | 0, _ => by simp [cK]
  | k + 1, hk => by
    have ih := cK_bit a hx hz k (by omega)
    unfold cK
    simp only [upb]
    by_cases h : x * 64 + z = k / 320 * 64 + k % 64
    · have hy : k = x * 320 + z ∨ k = x * 320 + 64 + z ∨ k = x * 320 + 128 + z ∨ k = x * 320 + 192 + z ∨ k = x * 320 + 256 + z := by omega
      rw [if_pos h, ← h, ih]
      rcases hy with rfl | rfl | rfl | rfl | rfl
      · rw [if_neg (by omega), if_neg (by omega), if_neg (by omega), if_neg (by omega), if_neg (by omega), if_pos (by omega), if_neg (by omega), if_neg (by omega), if_neg (by omega), if_neg (by omega)]
        simp
      · rw [if_pos (by omega), if_neg (by omega), if_neg (by omega), if_neg (by omega), if_neg (by omega), if_pos (by omega), if_pos (by omega), if_neg (by omega), if_neg (by omega), if_neg (by omega)]
        simp
      · rw [if_pos (by omega), if_pos (by omega), if_neg (by omega), if_neg (by omega), if_neg (by omega), if_pos (by omega), if_pos (by omega), if_pos (by omega), if_neg (by omega), if_neg (by omega)]
        simp
      · rw [if_pos (by omega), if_pos (by omega), if_pos (by omega), if_neg (by omega), if_neg (by omega), if_pos (by omega), if_pos (by omega), if_pos (by omega), if_pos (by omega), if_neg (by omega)]
        simp
      · rw [if_pos (by omega), if_pos (by omega), if_pos (by omega), if_pos (by omega), if_neg (by omega), if_pos (by omega), if_pos (by omega), if_pos (by omega), if_pos (by omega), if_pos (by omega)]
        simp
    · rw [if_neg h, ih]
      have e : ∀ m, m = x * 320 + z ∨ m = x * 320 + 64 + z ∨ m = x * 320 + 128 + z ∨ m = x * 320 + 192 + z ∨ m = x * 320 + 256 + z → ((if m < k then a m else false) = if m < k + 1 then a m else false) := by
        intro m hm
        have : m ≠ k := by omega
        by_cases h2 : m < k
        · rw [if_pos h2, if_pos (by omega)]
        · rw [if_neg h2, if_neg (by omega)]
      rw [e _ (.inl rfl), e _ (.inr (.inl rfl)), e _ (.inr (.inr (.inl rfl))), e _ (.inr (.inr (.inr (.inl rfl)))), e _ (.inr (.inr (.inr (.inr rfl))))]

theorem c_bit {S : Nat} {a : Nat → Bool} (h : Rep 1600 S a) {x z : Nat} (hx : x < 5) (hz : z < 64) : cK a 1600 (x * 64 + z) = (cN (colN S) x).testBit z := by
  rw [cK_bit a hx hz 1600 (by omega), if_pos (by omega), if_pos (by omega), if_pos (by omega), if_pos (by omega), if_pos (by omega)]
  rw [h _ (by omega), h _ (by omega), h _ (by omega), h _ (by omega), h _ (by omega)]
  unfold cN colN
  rw [m64_eq, Nat.testBit_mod_two_pow, Nat.testBit_shiftRight]
  simp only [Nat.testBit_xor, Nat.testBit_shiftRight, hz, decide_true, Bool.true_and]
  rw [show 320 * x + z = x * 320 + z by omega, show 64 + (x * 320 + z) = x * 320 + 64 + z by omega, show 128 + (x * 320 + z) = x * 320 + 128 + z by omega, show 192 + (x * 320 + z) = x * 320 + 192 + z by omega, show 256 + (x * 320 + z) = x * 320 + 256 + z by omega]
theorem cN_lt (T x : Nat) : cN T x < 2 ^ 64 := by unfold cN; rw [m64_eq]; exact Nat.mod_lt _ (Nat.two_pow_pos 64)
theorem d_bit {S : Nat} {a : Nat → Bool} (h : Rep 1600 S a) {x z : Nat} (hx : x < 5) (hz : z < 64) : dK a x z = (dN (colN S) x).testBit z := by
  unfold dK dN
  rw [Nat.testBit_xor, rot_bit (cN_lt _ _) (by omega) hz, c_bit h (Nat.mod_lt _ (by omega)) hz, c_bit h (Nat.mod_lt _ (by omega)) (Nat.mod_lt _ (by omega)), show z + 64 - 1 = z + 63 by omega]
theorem dN_lt (T x : Nat) : dN T x < 2 ^ 64 := Nat.xor_lt_two_pow (cN_lt _ _) (rot_lt (cN_lt _ _))

/-! ### theta, rho, pi -/
theorem tab_ok : ∀ p, p < 25 → (tabN.getD p (0, 0, 0)) = (5 * ((p / 5 + 3 * (p % 5)) % 5) + p / 5, (p / 5 + 3 * (p % 5)) % 5, ofs ((p / 5 + 3 * (p % 5)) % 5) (p / 5)) := by decide +kernel

theorem trp_bit {S : Nat} {a : Nat → Bool} (h : Rep 1600 S a) : Rep 1600 (trpN S) (piB (rhoB (thetaB a))) := by
  intro i hi
  obtain ⟨p, z, hp, hz, rfl⟩ : ∃ p z, p < 25 ∧ z < 64 ∧ i = 64 * p + z := ⟨i / 64, i % 64, by omega, by omega, by omega⟩
  have hall : ∀ e ∈ (tabN.map fun e => rotN (laneN S e.1 ^^^ dN (colN S) e.2.1) e.2.2), e < 2 ^ 64 := by
    intro e he
    simp only [List.mem_map] at he
    obtain ⟨t, _, rfl⟩ := he
    exact rot_lt (Nat.xor_lt_two_pow (lane_lt _ _) (dN_lt _ _))
  unfold trpN
  rw [hor_bit _ hall p z hz]
  have hlen : p < tabN.length := hp
  have hg : (tabN.map fun e => rotN (laneN S e.1 ^^^ dN (colN S) e.2.1) e.2.2).getD p 0 = (fun e : Nat × Nat × Nat => rotN (laneN S e.1 ^^^ dN (colN S) e.2.1) e.2.2) (tabN.getD p (0, 0, 0)) := by
    simp only [List.getD_eq_getElem?_getD, List.getElem?_map, List.getElem?_eq_getElem hlen, Option.map_some, Option.getD_some]
  rw [hg, tab_ok p hp]
  obtain ⟨x, y, hx, hy, rfl⟩ : ∃ x y, x < 5 ∧ y < 5 ∧ p = 5 * x + y := ⟨p / 5, p % 5, by omega, by omega, by omega⟩
  have e1 : (5 * x + y) / 5 = x := by omega
  have e2 : (5 * x + y) % 5 = y := by omega
  rw [e1, e2]
  have hx' : (x + 3 * y) % 5 < 5 := Nat.mod_lt _ (by omega)
  have b1 : (64 * (5 * x + y) + z) / 320 = x := by omega
  have b2 : (64 * (5 * x + y) + z) / 64 % 5 = y := by omega
  have b3 : (64 * (5 * x + y) + z) % 64 = z := by omega
  have hk := ofs_lt ((x + 3 * y) % 5) x
  simp only [piB, b1, b2, b3]
  generalize (x + 3 * y) % 5 = q at hx' hk ⊢
  have c1 : (q * 320 + x * 64 + z) / 320 = q := by omega
  have c2 : (q * 320 + x * 64 + z) / 64 % 5 = x := by omega
  have c3 : (q * 320 + x * 64 + z) % 64 = z := by omega
  simp only [rhoB, c1, c2, c3]
  generalize ofs q x = k at hk ⊢
  have hz' : (z + 64 - k) % 64 < 64 := Nat.mod_lt _ (by omega)
  rw [rot_bit (Nat.xor_lt_two_pow (lane_lt _ _) (dN_lt _ _)) hk hz, Nat.testBit_xor, lane_bit]
  generalize (z + 64 - k) % 64 = z' at hz' ⊢
  simp only [hz', decide_true, Bool.true_and]
  have d1 : (q * 320 + x * 64 + z') / 320 = q := by omega
  have d2 : (q * 320 + x * 64 + z') % 64 = z' := by omega
  simp only [thetaB, d1, d2]
  rw [h _ (by omega), d_bit h hx' hz', show 64 * (5 * q + x) + z' = q * 320 + x * 64 + z' by omega]
theorem trp_lt (S : Nat) : trpN S < 2 ^ 1600 := by
  have := hor_lt (tabN.map fun e => rotN (laneN S e.1 ^^^ dN (colN S) e.2.1) e.2.2) (by
    intro e he
    simp only [List.mem_map] at he
    obtain ⟨t, _, rfl⟩ := he
    exact rot_lt (Nat.xor_lt_two_pow (lane_lt _ _) (dN_lt _ _)))
  rw [List.length_map, show 64 * tabN.length = 1600 from rfl] at this
  exact this

/-! ### chi, iota -/
theorem far_bit {S n j : Nat} (hS : S < 2 ^ n) (hj : n ≤ j) : S.testBit j = false := Nat.testBit_lt_two_pow (Nat.lt_of_lt_of_le hS (Nat.pow_le_pow_right (by omega) hj))
theorem shl_lt {x a b : Nat} (h : x < 2 ^ a) : x <<< b < 2 ^ (a + b) := by
  rw [Nat.shiftLeft_eq, Nat.pow_add]
  exact Nat.mul_lt_mul_of_pos_right h (Nat.two_pow_pos b)
theorem shr_lt {x n b : Nat} (h : x < 2 ^ n) : x >>> b < 2 ^ n := by
  rw [Nat.shiftRight_eq_div_pow]; exact Nat.lt_of_le_of_lt (Nat.div_le_self _ _) h
theorem chiG_bit {n i : Nat} (S N1 N2 : Nat) (hi : i < n) : (chiG n S N1 N2).testBit i = (S.testBit i != (N2.testBit i && !N1.testBit i)) := by
  rw [chiG, Nat.testBit_xor, Nat.testBit_and, Nat.testBit_xor, Nat.testBit_two_pow_sub_one]
  simp [hi]
theorem rotG_bit {k m i n S : Nat} (hS : S < 2 ^ n) (hn : n ≤ k + m) (hi : i < k + m) : (rotG k m S).testBit i = if i < m then S.testBit (k + i) else S.testBit (i - m) := by
  rw [rotG, Nat.testBit_or, Nat.testBit_shiftRight, Nat.testBit_shiftLeft, Nat.testBit_mod_two_pow]
  by_cases h : i < m
  · rw [if_pos h, decide_eq_false (show ¬ i ≥ m by omega)]; simp
  · rw [if_neg h, far_bit hS (show n ≤ k + i by omega), decide_eq_true (show i ≥ m by omega), decide_eq_true (show i - m < k by omega)]; simp
theorem chi_fin (p q r : Bool) : (r != (q && !p)) = (r != decide ((if p = true then 1 else 0) < if q = true then 1 else 0)) := by revert p q r; decide
theorem chi_bit {S : Nat} {a : Nat → Bool} (h : Rep 1600 S a) (hS : S < 2 ^ 1600) : Rep 1600 (chiN S) (chiB a) := by
  intro i hi
  have n1 : (rotG 320 1280 S).testBit i = a ((i / 320 + 1) % 5 * 320 + i % 320) := by
    rw [rotG_bit hS (by omega) (by omega), h _ (by omega)]
    split <;> exact congrArg S.testBit (by omega)
  have n2 : (rotG 640 960 S).testBit i = a ((i / 320 + 2) % 5 * 320 + i % 320) := by
    rw [rotG_bit hS (by omega) (by omega), h _ (by omega)]
    split <;> exact congrArg S.testBit (by omega)
  rw [chiN, chiG_bit _ _ _ hi, n1, n2, ← h i hi]
  exact (chi_fin _ _ _).symm

theorem iota_bit {S c : Nat} {a : Nat → Bool} (h : Rep 1600 S a) (hc : c < 2 ^ 64) : Rep 1600 (S ^^^ c) (iotaB c a) := by
  intro i hi
  unfold iotaB
  rw [Nat.testBit_xor, h i hi]
  by_cases h64 : i < 64
  · rw [if_pos h64]
    have : decide (c >>> i &&& 1 = 1) = c.testBit i := by
      rw [Nat.and_one_is_mod, Nat.shiftRight_eq_div_pow, Nat.testBit_eq_decide_div_mod_eq]
    rw [this]
  · rw [if_neg h64, far_bit hc (by omega)]
    simp

theorem rcs_ok : ∀ i, i < 24 → rcs.getD i 0 = rcAt i 7 := by decide +kernel

theorem round_bit {S i : Nat} {a : Nat → Bool} (hi : i < 24) (h : Rep 1600 S a) : Rep 1600 (roundN (rcs.getD i 0) S) (oneRound i a) := by
  unfold roundN oneRound
  rw [rcs_ok i hi]
  exact iota_bit (chi_bit (trp_bit h) (trp_lt S)) (rcAt_lt i 7 (by omega))

theorem run_bit (a : Nat → Bool) : ∀ (l : List Nat) (i : Nat) (S : Nat), i + l.length = 24 → (∀ j, j < l.length → l.getD j 0 = rcs.getD (i + j) 0) → Rep 1600 S (rounds a i) → Rep 1600 (runN' S l) (rounds a 24)
  | [], i, S, hi, _, h => by simp at hi; subst hi; exact h
  | rc :: t, i, S, hi, hl, h => by
    simp only [List.length_cons] at hi hl
    have h0 := hl 0 (by omega)
    simp only [List.getD_cons_zero, Nat.add_zero] at h0
    refine run_bit a t (i + 1) (roundN rc S) (by omega) (fun j hj => ?_) ?_
    · have := hl (j + 1) (by omega)
      simp only [List.getD_cons_succ] at this
      rw [this]; congr 1; omega
    · rw [h0]; exact round_bit (by omega) h

theorem tauT_ok : ∀ p, p < 25 → tauT.getD p 0 = 5 * (p % 5) + p / 5 := by decide +kernel
theorem tau_bit {S : Nat} {f : Nat → Bool} (h : Rep 1600 S f) : Rep 1600 (tauN S) (fun i => f (tau i)) := by
  intro i hi
  obtain ⟨p, z, hp, hz, rfl⟩ : ∃ p z, p < 25 ∧ z < 64 ∧ i = 64 * p + z := ⟨i / 64, i % 64, by omega, by omega, by omega⟩
  unfold tauN
  rw [hor_bit _ (by intro e he; simp only [List.mem_map] at he; obtain ⟨t, _, rfl⟩ := he; exact lane_lt _ _) p z hz]
  have hlen : p < tauT.length := hp
  have hg : (tauT.map fun p => laneN S p).getD p 0 = laneN S (tauT.getD p 0) := by
    simp only [List.getD_eq_getElem?_getD, List.getElem?_map, List.getElem?_eq_getElem hlen, Option.map_some, Option.getD_some]
  rw [hg, tauT_ok p hp, lane_bit]
  have ht : tau (64 * p + z) = 64 * (5 * (p % 5) + p / 5) + z := by unfold tau; omega
  show f (tau (64 * p + z)) = _
  rw [ht, h _ (by omega)]
  simp [hz]

theorem perm_bit {S : Nat} {f : Nat → Bool} (h : Rep 1600 S f) : Rep 1600 (permN S) (permB f) := by
  unfold permN permB
  refine tau_bit ?_
  refine run_bit (gK f 1600) rcs 0 _ rfl (fun j hj => by simp) ?_
  intro i hi
  show gK f 1600 i = _
  rw [← tau_bit h i hi]
  simp only [gK]
  rw [if_pos (tau_lt hi)]

/-! ### a whole string -/
theorem absorb_part {B : Nat → Bool} {m : Nat} : ∀ i, i ≤ 1087 → ∀ j, sK B (1088 * m + i) j = if j < i then (sK B (1088 * m) j != B (1088 * m + j)) else sK B (1088 * m) j
  | 0, _, j => by simp
  | i + 1, hi, j => by
    have ih := absorb_part (B := B) (m := m) i (by omega)
    have hm : (1088 * m + i) % 1088 = i := by omega
    have hs : sK B (1088 * m + (i + 1)) = upb (sK B (1088 * m + i)) i (sK B (1088 * m + i) i != B (1088 * m + i)) := by
      show sK B ((1088 * m + i) + 1) = _
      rw [sK, hm, if_neg (by omega)]
    rw [hs]
    simp only [upb]
    by_cases h : j = i
    · subst h; rw [if_pos rfl, if_pos (by omega), ih j, if_neg (by omega)]
    · rw [if_neg h, ih j]
      by_cases h2 : j < i
      · rw [if_pos h2, if_pos (by omega)]
      · rw [if_neg h2, if_neg (by omega)]

theorem absorb {B : Nat → Bool} {m Z b nb : Nat} (hnb : nb ≤ 1088) (hZ : Rep 1600 Z (sK B (1088 * m))) (hb : ∀ j, j < 1088 → B (1088 * m + j) = b.testBit j) (hlt : b < 2 ^ nb) : Rep 1600 (permN (Z ^^^ b)) (sK B (1088 * (m + 1))) := by
  have hm : (1088 * m + 1087) % 1088 = 1087 := by omega
  have hs : sK B (1088 * (m + 1)) = permB (upb (sK B (1088 * m + 1087)) 1087 (sK B (1088 * m + 1087) 1087 != B (1088 * m + 1087))) := by
    rw [show 1088 * (m + 1) = (1088 * m + 1087) + 1 by omega, sK, hm, if_pos rfl]
  rw [hs]
  refine perm_bit fun j hj => ?_
  simp only [upb]
  rw [Nat.testBit_xor, ← hZ j hj]
  by_cases h : j = 1087
  · subst h
    rw [if_pos rfl, absorb_part 1087 (by omega), if_neg (by omega), hb 1087 (by omega)]
  · rw [if_neg h, absorb_part 1087 (by omega)]
    by_cases h2 : j < 1087
    · rw [if_pos h2, hb j (by omega)]
    · rw [if_neg h2, far_bit hlt (by omega)]
      simp

theorem out_bit (s : Nat → Bool) : ∀ i j b, b < 8 → (oK s i j).testBit b = (decide (8 * j + b < i) && s (8 * j + b))
  | 0, j, b, hb => by simp [oK]
  | i + 1, j, b, hb => by
    have ih := out_bit s i
    unfold oK
    by_cases hs : s i = true
    · rw [if_pos hs]
      simp only [upn]
      by_cases hj : j = i / 8
      · subst hj
        rw [if_pos rfl, Nat.testBit_or, ih _ b hb, Nat.testBit_two_pow]
        by_cases hbi : i % 8 = b
        · have : 8 * (i / 8) + b = i := by omega
          simp [this, hs, hbi]
        · have h1 : (8 * (i / 8) + b < i) ↔ (8 * (i / 8) + b < i + 1) := by omega
          simp [hbi, h1]
      · rw [if_neg hj, ih j b hb]
        have h1 : (8 * j + b < i) ↔ (8 * j + b < i + 1) := by omega
        simp [h1]
    · rw [if_neg hs, ih j b hb]
      by_cases h : 8 * j + b = i
      · rw [h]; simp at hs; simp [hs]
      · have h1 : (8 * j + b < i) ↔ (8 * j + b < i + 1) := by omega
        simp [h1]

theorem out_byte {s : Nat → Bool} {Z : Nat} (h : Rep 1600 Z s) {j : Nat} (hj : j < 32) : oK s 256 j = (Z >>> (8 * j)) % 256 := by
  apply Nat.eq_of_testBit_eq
  intro b
  by_cases hb : b < 8
  · rw [out_bit s 256 j b hb, show 256 = 2 ^ 8 from rfl, Nat.testBit_mod_two_pow, Nat.testBit_shiftRight, h _ (by omega)]
    have : 8 * j + b < 2 ^ 8 := by omega
    simp [this, hb]
  · have h1 : oK s 256 j < 2 ^ b := Nat.lt_of_lt_of_le (oK_lt s 256 j) (Nat.pow_le_pow_right (n := 2) (i := 8) (by omega) (by omega))
    have h2 : (Z >>> (8 * j)) % 256 < 2 ^ b := Nat.lt_of_lt_of_le (Nat.mod_lt _ (by omega)) (Nat.pow_le_pow_right (n := 2) (i := 8) (by omega) (by omega))
    rw [Nat.testBit_lt_two_pow h1, Nat.testBit_lt_two_pow h2]
end Go.Proofs.Ygcsam
