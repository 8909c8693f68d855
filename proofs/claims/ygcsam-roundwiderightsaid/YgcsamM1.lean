/-
  NUMBERS AS LISTS OF BYTES: what a slice of digits holds; trim, clip, Norm, Cmp. Own work.
-/
import Derived.Test.YgcsamRule5
import Derived.Test.YgcsamN2
import Derived.Test.YgcsamV3
namespace Go.Proofs.Ygcsam
set_option linter.unusedVariables false
set_option maxHeartbeats 1000000

/-- -1, 0 or 1. -/
def cmpZ (a b : Nat) : Int := if a < b then -1 else if b < a then 1 else 0
theorem cmpZ_lt {a b : Nat} (h : a < b) : cmpZ a b = -1 := if_pos h
theorem cmpZ_gt {a b : Nat} (h : b < a) : cmpZ a b = 1 := by unfold cmpZ; rw [if_neg (by omega), if_pos h]
theorem cmpZ_eq {a b : Nat} (h : a = b) : cmpZ a b = 0 := by unfold cmpZ; rw [if_neg (by omega), if_neg (by omega)]

section
variable {P : Program} {ops : Array Oper} {e : Bool} {K : Env → World → Prop} {Q : Exit → Env → World → Prop} {ρ : Env} {w : World} {d : Nat} {ty : TypeId} {pos : String} {af : Array Edge} {n : Nat} {t t' : TypeId} {x y : Operand} {a b : Nat}
theorem O_cmp_lss (hx : ev ρ x = .int .i8 (cmpZ a b)) (hy : ev ρ y = .int .i8 0) (k : K (put ρ d (.bool (decide (a < b)))) w) : WO P ops ⟨some d, .binOp .lss t x y t', ty, pos, af, none⟩ e K ρ w :=
  O_bin hx hy (by
    have : (decide (cmpZ a b < 0)) = decide (a < b) := by
      rw [decide_eq_decide]; unfold cmpZ; split <;> (try split) <;> omega
    simp only [binRes, this]) k
theorem O_cmp_geq (hx : ev ρ x = .int .i8 (cmpZ a b)) (hy : ev ρ y = .int .i8 0) (k : K (put ρ d (.bool (decide (b ≤ a)))) w) : WO P ops ⟨some d, .binOp .geq t x y t', ty, pos, af, none⟩ e K ρ w :=
  O_bin hx hy (by
    have : (decide (cmpZ a b ≥ 0)) = decide (b ≤ a) := by
      rw [decide_eq_decide]; unfold cmpZ; split <;> (try split) <;> omega
    simp only [binRes, this]) k
theorem O_cmp_gtr (hx : ev ρ x = .int .i8 (cmpZ a b)) (hy : ev ρ y = .int .i8 0) (k : K (put ρ d (.bool (decide (b < a)))) w) : WO P ops ⟨some d, .binOp .gtr t x y t', ty, pos, af, none⟩ e K ρ w :=
  O_bin hx hy (by
    have : (decide (cmpZ a b > 0)) = decide (b < a) := by
      rw [decide_eq_decide]; unfold cmpZ; split <;> (try split) <;> omega
    simp only [binRes, this]) k
theorem O_cmp_leq (hx : ev ρ x = .int .i8 (cmpZ a b)) (hy : ev ρ y = .int .i8 0) (k : K (put ρ d (.bool (decide (a ≤ b)))) w) : WO P ops ⟨some d, .binOp .leq t x y t', ty, pos, af, none⟩ e K ρ w :=
  O_bin hx hy (by
    have : (decide (cmpZ a b ≤ 0)) = decide (a ≤ b) := by
      rw [decide_eq_decide]; unfold cmpZ; split <;> (try split) <;> omega
    simp only [binRes, this]) k
theorem O_cmp_neq (hx : ev ρ x = .int .i8 (cmpZ a b)) (hy : ev ρ y = .int .i8 0) (k : K (put ρ d (.bool (decide (a ≠ b)))) w) : WO P ops ⟨some d, .binOp .neq t x y t', ty, pos, af, none⟩ e K ρ w :=
  O_bin hx hy (by
    have : (cmpZ a b != 0) = decide (a ≠ b) := by
      unfold cmpZ
      split
      · rw [decide_eq_true (by omega)]; rfl
      · split
        · rw [decide_eq_true (by omega)]; rfl
        · rw [decide_eq_false (by omega)]; rfl
    simp only [binRes, this]) k

/-- x[:k:k] -/
theorem O_slice_k {t el s k len cap : Nat} {kh km : IntKind} {a : Option Addr} {x y z : Operand} (ht : slcT P t el s) (hx : ev ρ x = .slice a len cap) (hy : ev ρ y = .int kh (k : Nat)) (hz : ev ρ z = .int km (k : Nat)) (hk : k ≤ cap) (hn : a = none → len = 0 ∧ cap = 0)
    (kk : K (put ρ d (.slice a k k)) w) : WO P ops ⟨some d, .slice t x none (some y) (some z), ty, pos, af, none⟩ e K ρ w := by
  cases a with
  | none =>
    obtain ⟨rfl, rfl⟩ := hn rfl
    have hk0 : k = 0 := by omega
    subst hk0
    exact O_slice_nil ht hx rfl ⟨_, hy⟩ ⟨_, hz⟩ (fun _ => rfl) kk
  | some a =>
    refine O_slice_s ht hx rfl ⟨_, hy⟩ ⟨_, hz⟩ (fun _ => rfl) (Nat.zero_le _) (Nat.le_refl _) hk ?_
    have e1 : (if k = 0 then a else a.add (0 * s)) = a := by
      split
      · rfl
      · rw [Nat.zero_mul]; unfold Addr.add; split <;> simp_all
    rw [e1, Nat.sub_zero]
    exact kk

/-- A new row of zero bytes. -/
theorem O_makeB {t l : Nat} {kl kc : IntKind} {x y : Operand} (ht : slcT P t 5 1) (hby : bytesT P 5 1) (hz : zeroT P 5 (.int .u8 0)) (hx : ev ρ x = .int kl (l : Nat)) (hy : ev ρ y = .int kc (l : Nat)) (hl : l ≤ 281474976710656)
    (k : ∀ w', Ext w w' → w'.heap.size = w.heap.size + 1 → Blk w' w.heap.size (ns .u8 l fun _ => 0) 5 → K (put ρ d (.slice (some ⟨w.heap.size, 0, none⟩) l l)) w') : WO P ops ⟨some d, .makeSlice t x y, ty, pos, af, none⟩ e K ρ w := by
  rcases Nat.eq_zero_or_pos l with h0 | h0
  · subst h0
    exact O_make0 ht hby hx hy k
  · refine O_make ht hby hz hx hy (Nat.le_refl _) (by omega) (by omega) (by omega) fun w' h1 h2 h3 => k w' h1 h2 ?_
    rw [Nat.mul_one] at h3
    rw [← zs_int]; exact h3
end

/-- The len digits behind a are g. -/
def Dig (w : World) (a : Option Addr) (len cap : Nat) (g : Nat → Nat) : Prop :=
  len ≤ cap ∧ (∀ i, i < len → g i < 256) ∧ ((a = none ∧ len = 0 ∧ cap = 0) ∨ ∃ b o c t, a = some ⟨b, o, none⟩ ∧ Blk w b c t ∧ o + len ≤ c.size ∧ ∀ i, i < len → c[o + i]? = some (.int .u8 (g i : Nat)))
theorem Dig.ext {w w' : World} {a : Option Addr} {len cap : Nat} {g : Nat → Nat} (h : Dig w a len cap g) (hE : Ext w w') : Dig w' a len cap g := by
  obtain ⟨h1, h2, h | ⟨b, o, c, t, h3, h4, h5, h6⟩⟩ := h
  · exact ⟨h1, h2, .inl h⟩
  · exact ⟨h1, h2, .inr ⟨b, o, c, t, h3, h4.ext hE, h5, h6⟩⟩
theorem Dig.nil0 {w : World} {a : Option Addr} {len cap : Nat} {g : Nat → Nat} (h : Dig w a len cap g) (ha : a = none) : len = 0 ∧ cap = 0 := by
  obtain ⟨h1, h2, h | ⟨b, o, c, t, h3, h4, h5, h6⟩⟩ := h
  · exact h.2
  · rw [ha] at h3; cases h3
theorem Dig.cut {w : World} {a : Option Addr} {len cap k : Nat} {g : Nat → Nat} (h : Dig w a len cap g) (hk : k ≤ len) : Dig w a k k g := by
  obtain ⟨h1, h2, ⟨h3, h4, h5⟩ | ⟨b, o, c, t, h3, h4, h5, h6⟩⟩ := h
  · exact ⟨Nat.le_refl _, fun i hi => h2 i (by omega), .inl ⟨h3, by omega, by omega⟩⟩
  · exact ⟨Nat.le_refl _, fun i hi => h2 i (by omega), .inr ⟨b, o, c, t, h3, h4, by omega, fun i hi => h6 i (by omega)⟩⟩
theorem Dig.at {w : World} {a : Option Addr} {len cap i : Nat} {g : Nat → Nat} (h : Dig w a len cap g) (hi : i < len) : ∃ b o c t, a = some ⟨b, o, none⟩ ∧ Blk w b c t ∧ o + len ≤ c.size ∧ ∀ i, i < len → c[o + i]? = some (.int .u8 (g i : Nat)) := by
  obtain ⟨h1, h2, ⟨h3, h4, h5⟩ | h⟩ := h
  · omega
  · exact h
theorem Dig.ofBlk {w : World} {b n len cap : Nat} {t : TypeId} {g : Nat → Nat} (h : Blk w b (ns .u8 n g) t) (hl : len ≤ n) (hc : len ≤ cap) (hg : ∀ i, i < len → g i < 256) : Dig w (some ⟨b, 0, none⟩) len cap g :=
  ⟨hc, hg, .inr ⟨b, 0, _, t, rfl, h, by rw [ns_size]; omega, fun i hi => by rw [Nat.zero_add]; exact ns_get (by omega)⟩⟩

/-- The value v is the number x, in at most L digits. -/
def NatV (w : World) (v : Value) (x L : Nat) : Prop := ∃ a len cap g, v = .slice a len cap ∧ Dig w a len cap g ∧ val 256 g len = x ∧ len ≤ L
theorem NatV.ext {w w' : World} {v : Value} {x L : Nat} (h : NatV w v x L) (hE : Ext w w') : NatV w' v x L := by
  obtain ⟨a, len, cap, g, h1, h2, h3, h4⟩ := h
  exact ⟨a, len, cap, g, h1, h2.ext hE, h3, h4⟩
theorem NatV.mono {w : World} {v : Value} {x L L' : Nat} (h : NatV w v x L) (hL : L ≤ L') : NatV w v x L' := by
  obtain ⟨a, len, cap, g, h1, h2, h3, h4⟩ := h
  exact ⟨a, len, cap, g, h1, h2, h3, by omega⟩
theorem NatV.nil (w : World) (L : Nat) : NatV w (.slice none 0 0) 0 L := ⟨none, 0, 0, fun _ => 0, rfl, ⟨Nat.le_refl _, fun i hi => by omega, .inl ⟨rfl, rfl, rfl⟩⟩, rfl, Nat.zero_le _⟩
theorem NatV.ofBlk {w : World} {b n x : Nat} {t : TypeId} {g : Nat → Nat} (h : Blk w b (ns .u8 n g) t) (hg : ∀ i, i < n → g i < 256) (hx : val 256 g n = x) : NatV w (.slice (some ⟨b, 0, none⟩) n n) x n :=
  ⟨_, n, n, g, rfl, Dig.ofBlk h (Nat.le_refl _) (Nat.le_refl _) hg, hx, Nat.le_refl _⟩

theorem trim_ok {w : World} {a : Option Addr} {len cap : Nat} {g : Nat → Nat} (h : Dig w a len cap g) (hl : len ≤ 281474976710656) :
    Ret Samg.prog 101 #[.slice a len cap] w fun v w' => w' = w ∧ ∃ k, v = .slice a k k ∧ k ≤ len ∧ Dig w a k k g ∧ val 256 g k = val 256 g len ∧ (k = 0 ∨ g (k - 1) ≠ 0) := by
  refine W_enter (l := [.slice a len cap]) Samg.func101 rfl Samg.ntmps101 rfl ?_
  repeat (first
    | (refine L_cons ?_)
    | (refine R_cons rfl ?_)
    | (refine W_seq ?_)
    | (refine W_region (by kernel_rfl) ?_)
    | (refine L_nil ?_)
    | (refine R_nil ?_)
    | (refine W_block ?_)
    | (refine W_skip ?_)
    | (refine W_exit ?_)
    | (refine W_ret ?_)
    | (guard_target =~ thenQ _ _ _ _ _; first | (refine T_next ?_) | (refine T_exit ?_) | (refine T_ret ?_))
    | (guard_target =~ blockQ _ _ _ _ _; first | (refine B_next ?_) | (refine B_same ?_) | (refine B_other (by kernel_rfl) ?_) | (refine B_ret ?_))
    | (refine W_true rfl rfl ?_)
    | (refine W_false rfl rfl ?_)
    | (guard_target =~ WO _ _ (Oper.mk _ (Op.assign _) _ _ _ none) _ _ _ _; first | (refine O_assign (v := .slice _ _ _) rfl ?_) | (refine O_assign (v := (.int _ (Nat.cast _))) rfl ?_) | (refine O_assign (v := (.bool _)) rfl ?_) | (refine O_assign (v := (.pointer _)) rfl ?_) | (refine O_assign (v := (.slice _ _ _)) rfl ?_) | (refine O_assign (v := (.agg _)) rfl ?_) | (refine O_assign (v := (.tuple _)) rfl ?_) | (refine O_assign (v := (.int _ _)) rfl ?_))
    | (guard_target =~ WO _ _ (Oper.mk _ _ _ _ _ (some _)) _ _ _ _; first | (refine G_yes rfl ?_) | (refine G_no rfl ?_))
    | (guard_target =~ WO _ _ (Oper.mk _ (Op.move _) _ _ _ none) _ _ _ _; first | (refine O_move (v := (.int _ (Nat.cast _))) rfl ?_) | (refine O_move (v := (.bool _)) rfl ?_) | (refine O_move (v := (.pointer _)) rfl ?_) | (refine O_move (v := (.slice _ _ _)) rfl ?_) | (refine O_move (v := (.agg _)) rfl ?_) | (refine O_move (v := (.tuple _)) rfl ?_) | (refine O_move (v := (.int _ _)) rfl ?_))
    | (guard_target =~ WO _ _ (Oper.mk _ (Op.call _) _ _ _ none) _ _ _ _; first | (refine O_len Samg.underlying134 rfl rfl ?_))
    | (guard_target =~ WO _ _ (Oper.mk _ (Op.binOp BinOp.gtr _ _ _ _) _ _ _ none) _ _ _ _; first | (refine O_gtr_t (b := 0) rfl rfl (by omega) ?_) | (refine O_gtr_f (b := 0) rfl rfl (by omega) ?_) | (refine O_gtr (b := 0) rfl rfl ?_))
    | (guard_target =~ WO _ _ (Oper.mk _ (Op.binOp BinOp.sub _ _ _ _) _ _ _ none) _ _ _ _; first | (refine O_sub (b := 1) rfl rfl (by first | exact fit_i64 (by omega) | exact fit_u64 (by omega) | exact fit_u8 (by omega) | exact fit_i32 (by omega) | exact fit_u16 (by omega)) (by omega) ?_))
    | (guard_target =~ WO _ _ (Oper.mk _ (Op.indexAddr 134 _ _) _ _ _ none) _ _ _ _; first | (refine O_index_s1 sl134 rfl rfl (by omega) ?_))
    | (guard_target =~ WO _ _ (Oper.mk _ (Op.binOp BinOp.eql _ _ _ _) _ _ _ none) _ _ _ _; first | (refine O_eql_t (b := 0) rfl rfl (by omega) ?_) | (refine O_eql_f (b := 0) rfl rfl (by omega) ?_) | (refine O_eql (b := 0) rfl rfl ?_))
    | (guard_target =~ WO _ _ (Oper.mk _ (Op.pick _ _ _) _ _ _ none) _ _ _ _; first | (refine O_pick_t (v := (.bool _)) rfl rfl ?_) | (refine O_pick_f (v := (.bool _)) rfl rfl ?_))
    | (guard_target =~ WO _ _ (Oper.mk _ (Op.slice 134 _ none (some _) (some _)) _ _ _ none) _ _ _ _; first | (refine O_slice_s sl134 rfl rfl ⟨_, rfl⟩ ⟨_, rfl⟩ (fun _ => rfl) (by omega) (by omega) (by omega) ?_)))
  refine W_loop (fun m ρ w' => w' = w ∧ ∃ k, m = k ∧ k ≤ len ∧ (∀ i, k ≤ i → i < len → g i = 0) ∧ Has ρ [(0, .slice a len cap), (3, .int .i64 (k : Nat))]) len ?_ ?_
  · exact ⟨rfl, len, rfl, Nat.le_refl _, fun i h1 h2 => by omega, Has.mk ⟨rfl, rfl, trivial⟩⟩
  rintro m ρ w1 ⟨rfl, k, rfl, hk, hz, σ, rfl⟩
  have hc : m ≤ cap := Nat.le_trans hk h.1
  have hv : val 256 g m = val 256 g len := (val_top hk hz).symm
  by_cases h0 : 0 < m
  · obtain ⟨b, o, c, t, rfl, hB, hs, hg⟩ := h.at (i := m - 1) (by omega)
    have hg1 := hg (m - 1) (by omega)
    by_cases h1 : g (m - 1) = 0
    · repeat (first
        | (refine L_cons ?_)
        | (refine R_cons rfl ?_)
        | (refine W_seq ?_)
        | (refine W_region (by kernel_rfl) ?_)
        | (refine L_nil ?_)
        | (refine R_nil ?_)
        | (refine W_block ?_)
        | (refine W_skip ?_)
        | (refine W_exit ?_)
        | (refine W_ret ?_)
        | (guard_target =~ thenQ _ _ _ _ _; first | (refine T_next ?_) | (refine T_exit ?_) | (refine T_ret ?_))
        | (guard_target =~ blockQ _ _ _ _ _; first | (refine B_next ?_) | (refine B_same ?_) | (refine B_other (by kernel_rfl) ?_) | (refine B_ret ?_))
        | (refine W_true rfl rfl ?_)
        | (refine W_false rfl rfl ?_)
        | (guard_target =~ WO _ _ (Oper.mk _ (Op.load 5 _) _ _ _ none) _ _ _ _; first | (refine O_load on5 rfl hB hg1 ?_))
        | (guard_target =~ WO _ _ (Oper.mk _ _ _ _ _ (some _)) _ _ _ _; first | (refine G_yes rfl ?_) | (refine G_no rfl ?_))
        | (guard_target =~ WO _ _ (Oper.mk _ (Op.assign _) _ _ _ none) _ _ _ _; first | (refine O_assign (v := (.int _ (Nat.cast _))) rfl ?_) | (refine O_assign (v := (.bool _)) rfl ?_) | (refine O_assign (v := (.pointer _)) rfl ?_) | (refine O_assign (v := (.slice _ _ _)) rfl ?_) | (refine O_assign (v := (.agg _)) rfl ?_) | (refine O_assign (v := (.tuple _)) rfl ?_) | (refine O_assign (v := (.int _ _)) rfl ?_))
        | (guard_target =~ WO _ _ (Oper.mk _ (Op.move _) _ _ _ none) _ _ _ _; first | (refine O_move (v := (.int _ (Nat.cast _))) rfl ?_) | (refine O_move (v := (.bool _)) rfl ?_) | (refine O_move (v := (.pointer _)) rfl ?_) | (refine O_move (v := (.slice _ _ _)) rfl ?_) | (refine O_move (v := (.agg _)) rfl ?_) | (refine O_move (v := (.tuple _)) rfl ?_) | (refine O_move (v := (.int _ _)) rfl ?_))
        | (guard_target =~ WO _ _ (Oper.mk _ (Op.call _) _ _ _ none) _ _ _ _; first | (refine O_len Samg.underlying134 rfl rfl ?_))
        | (guard_target =~ WO _ _ (Oper.mk _ (Op.binOp BinOp.gtr _ _ _ _) _ _ _ none) _ _ _ _; first | (refine O_gtr_t (b := 0) rfl rfl (by omega) ?_) | (refine O_gtr_f (b := 0) rfl rfl (by omega) ?_) | (refine O_gtr (b := 0) rfl rfl ?_))
        | (guard_target =~ WO _ _ (Oper.mk _ (Op.binOp BinOp.sub _ _ _ _) _ _ _ none) _ _ _ _; first | (refine O_sub (b := 1) rfl rfl (by first | exact fit_i64 (by omega) | exact fit_u64 (by omega) | exact fit_u8 (by omega) | exact fit_i32 (by omega) | exact fit_u16 (by omega)) (by omega) ?_))
        | (guard_target =~ WO _ _ (Oper.mk _ (Op.indexAddr 134 _ _) _ _ _ none) _ _ _ _; first | (refine O_index_s1 sl134 rfl rfl (by omega) ?_))
        | (guard_target =~ WO _ _ (Oper.mk _ (Op.binOp BinOp.eql _ _ _ _) _ _ _ none) _ _ _ _; first | (refine O_eql_t (b := 0) rfl rfl (by omega) ?_) | (refine O_eql_f (b := 0) rfl rfl (by omega) ?_) | (refine O_eql (b := 0) rfl rfl ?_))
        | (guard_target =~ WO _ _ (Oper.mk _ (Op.pick _ _ _) _ _ _ none) _ _ _ _; first | (refine O_pick_t (v := (.bool _)) rfl rfl ?_) | (refine O_pick_f (v := (.bool _)) rfl rfl ?_))
        | (guard_target =~ WO _ _ (Oper.mk _ (Op.slice 134 _ none (some _) (some _)) _ _ _ none) _ _ _ _; first | (refine O_slice_s sl134 rfl rfl ⟨_, rfl⟩ ⟨_, rfl⟩ (fun _ => rfl) (by omega) (by omega) (by omega) ?_)))
      refine ⟨m - 1, by omega, rfl, m - 1, rfl, by omega, fun i h2 h3 => ?_, Has.mk ⟨rfl, rfl, trivial⟩⟩
      by_cases h4 : i = m - 1
      · rw [h4]; exact h1
      · exact hz i (by omega) h3
    · repeat (first
        | (refine L_cons ?_)
        | (refine R_cons rfl ?_)
        | (refine W_seq ?_)
        | (refine W_region (by kernel_rfl) ?_)
        | (refine L_nil ?_)
        | (refine R_nil ?_)
        | (refine W_block ?_)
        | (refine W_skip ?_)
        | (refine W_exit ?_)
        | (refine W_ret ?_)
        | (guard_target =~ thenQ _ _ _ _ _; first | (refine T_next ?_) | (refine T_exit ?_) | (refine T_ret ?_))
        | (guard_target =~ blockQ _ _ _ _ _; first | (refine B_next ?_) | (refine B_same ?_) | (refine B_other (by kernel_rfl) ?_) | (refine B_ret ?_))
        | (refine W_true rfl rfl ?_)
        | (refine W_false rfl rfl ?_)
        | (guard_target =~ WO _ _ (Oper.mk _ (Op.load 5 _) _ _ _ none) _ _ _ _; first | (refine O_load on5 rfl hB hg1 ?_))
        | (guard_target =~ WO _ _ (Oper.mk _ (Op.slice _ _ _ _ _) _ _ _ none) _ _ _ _; first | (refine O_slice_k sl134 rfl rfl rfl (by omega) (fun h => by cases h) ?_))
        | (guard_target =~ WO _ _ (Oper.mk _ _ _ _ _ (some _)) _ _ _ _; first | (refine G_yes rfl ?_) | (refine G_no rfl ?_))
        | (guard_target =~ WO _ _ (Oper.mk _ (Op.assign _) _ _ _ none) _ _ _ _; first | (refine O_assign (v := (.int _ (Nat.cast _))) rfl ?_) | (refine O_assign (v := (.bool _)) rfl ?_) | (refine O_assign (v := (.pointer _)) rfl ?_) | (refine O_assign (v := (.slice _ _ _)) rfl ?_) | (refine O_assign (v := (.agg _)) rfl ?_) | (refine O_assign (v := (.tuple _)) rfl ?_) | (refine O_assign (v := (.int _ _)) rfl ?_))
        | (guard_target =~ WO _ _ (Oper.mk _ (Op.move _) _ _ _ none) _ _ _ _; first | (refine O_move (v := (.int _ (Nat.cast _))) rfl ?_) | (refine O_move (v := (.bool _)) rfl ?_) | (refine O_move (v := (.pointer _)) rfl ?_) | (refine O_move (v := (.slice _ _ _)) rfl ?_) | (refine O_move (v := (.agg _)) rfl ?_) | (refine O_move (v := (.tuple _)) rfl ?_) | (refine O_move (v := (.int _ _)) rfl ?_))
        | (guard_target =~ WO _ _ (Oper.mk _ (Op.call _) _ _ _ none) _ _ _ _; first | (refine O_len Samg.underlying134 rfl rfl ?_))
        | (guard_target =~ WO _ _ (Oper.mk _ (Op.binOp BinOp.gtr _ _ _ _) _ _ _ none) _ _ _ _; first | (refine O_gtr_t (b := 0) rfl rfl (by omega) ?_) | (refine O_gtr_f (b := 0) rfl rfl (by omega) ?_) | (refine O_gtr (b := 0) rfl rfl ?_))
        | (guard_target =~ WO _ _ (Oper.mk _ (Op.binOp BinOp.sub _ _ _ _) _ _ _ none) _ _ _ _; first | (refine O_sub (b := 1) rfl rfl (by first | exact fit_i64 (by omega) | exact fit_u64 (by omega) | exact fit_u8 (by omega) | exact fit_i32 (by omega) | exact fit_u16 (by omega)) (by omega) ?_))
        | (guard_target =~ WO _ _ (Oper.mk _ (Op.indexAddr 134 _ _) _ _ _ none) _ _ _ _; first | (refine O_index_s1 sl134 rfl rfl (by omega) ?_))
        | (guard_target =~ WO _ _ (Oper.mk _ (Op.binOp BinOp.eql _ _ _ _) _ _ _ none) _ _ _ _; first | (refine O_eql_t (b := 0) rfl rfl (by omega) ?_) | (refine O_eql_f (b := 0) rfl rfl (by omega) ?_) | (refine O_eql (b := 0) rfl rfl ?_))
        | (guard_target =~ WO _ _ (Oper.mk _ (Op.pick _ _ _) _ _ _ none) _ _ _ _; first | (refine O_pick_t (v := (.bool _)) rfl rfl ?_) | (refine O_pick_f (v := (.bool _)) rfl rfl ?_))
        | (guard_target =~ WO _ _ (Oper.mk _ (Op.slice 134 _ none (some _) (some _)) _ _ _ none) _ _ _ _; first | (refine O_slice_s sl134 rfl rfl ⟨_, rfl⟩ ⟨_, rfl⟩ (fun _ => rfl) (by omega) (by omega) (by omega) ?_)))
      exact E_ret rfl rfl rfl ⟨rfl, m, rfl, hk, h.cut hk, hv, .inr h1⟩
  · repeat (first
      | (refine L_cons ?_)
      | (refine R_cons rfl ?_)
      | (refine W_seq ?_)
      | (refine W_region (by kernel_rfl) ?_)
      | (refine L_nil ?_)
      | (refine R_nil ?_)
      | (refine W_block ?_)
      | (refine W_skip ?_)
      | (refine W_exit ?_)
      | (refine W_ret ?_)
      | (guard_target =~ thenQ _ _ _ _ _; first | (refine T_next ?_) | (refine T_exit ?_) | (refine T_ret ?_))
      | (guard_target =~ blockQ _ _ _ _ _; first | (refine B_next ?_) | (refine B_same ?_) | (refine B_other (by kernel_rfl) ?_) | (refine B_ret ?_))
      | (refine W_true rfl rfl ?_)
      | (refine W_false rfl rfl ?_)
      | (guard_target =~ WO _ _ (Oper.mk _ (Op.slice _ _ _ _ _) _ _ _ none) _ _ _ _; first | (refine O_slice_k sl134 rfl rfl rfl (by omega) h.nil0 ?_))
      | (guard_target =~ WO _ _ (Oper.mk _ _ _ _ _ (some _)) _ _ _ _; first | (refine G_yes rfl ?_) | (refine G_no rfl ?_))
      | (guard_target =~ WO _ _ (Oper.mk _ (Op.assign _) _ _ _ none) _ _ _ _; first | (refine O_assign (v := (.int _ (Nat.cast _))) rfl ?_) | (refine O_assign (v := (.bool _)) rfl ?_) | (refine O_assign (v := (.pointer _)) rfl ?_) | (refine O_assign (v := (.slice _ _ _)) rfl ?_) | (refine O_assign (v := (.agg _)) rfl ?_) | (refine O_assign (v := (.tuple _)) rfl ?_) | (refine O_assign (v := (.int _ _)) rfl ?_))
      | (guard_target =~ WO _ _ (Oper.mk _ (Op.move _) _ _ _ none) _ _ _ _; first | (refine O_move (v := (.int _ (Nat.cast _))) rfl ?_) | (refine O_move (v := (.bool _)) rfl ?_) | (refine O_move (v := (.pointer _)) rfl ?_) | (refine O_move (v := (.slice _ _ _)) rfl ?_) | (refine O_move (v := (.agg _)) rfl ?_) | (refine O_move (v := (.tuple _)) rfl ?_) | (refine O_move (v := (.int _ _)) rfl ?_))
      | (guard_target =~ WO _ _ (Oper.mk _ (Op.call _) _ _ _ none) _ _ _ _; first | (refine O_len Samg.underlying134 rfl rfl ?_))
      | (guard_target =~ WO _ _ (Oper.mk _ (Op.binOp BinOp.gtr _ _ _ _) _ _ _ none) _ _ _ _; first | (refine O_gtr_t (b := 0) rfl rfl (by omega) ?_) | (refine O_gtr_f (b := 0) rfl rfl (by omega) ?_) | (refine O_gtr (b := 0) rfl rfl ?_))
      | (guard_target =~ WO _ _ (Oper.mk _ (Op.binOp BinOp.sub _ _ _ _) _ _ _ none) _ _ _ _; first | (refine O_sub (b := 1) rfl rfl (by first | exact fit_i64 (by omega) | exact fit_u64 (by omega) | exact fit_u8 (by omega) | exact fit_i32 (by omega) | exact fit_u16 (by omega)) (by omega) ?_))
      | (guard_target =~ WO _ _ (Oper.mk _ (Op.indexAddr 134 _ _) _ _ _ none) _ _ _ _; first | (refine O_index_s1 sl134 rfl rfl (by omega) ?_))
      | (guard_target =~ WO _ _ (Oper.mk _ (Op.binOp BinOp.eql _ _ _ _) _ _ _ none) _ _ _ _; first | (refine O_eql_t (b := 0) rfl rfl (by omega) ?_) | (refine O_eql_f (b := 0) rfl rfl (by omega) ?_) | (refine O_eql (b := 0) rfl rfl ?_))
      | (guard_target =~ WO _ _ (Oper.mk _ (Op.pick _ _ _) _ _ _ none) _ _ _ _; first | (refine O_pick_t (v := (.bool _)) rfl rfl ?_) | (refine O_pick_f (v := (.bool _)) rfl rfl ?_))
      | (guard_target =~ WO _ _ (Oper.mk _ (Op.slice 134 _ none (some _) (some _)) _ _ _ none) _ _ _ _; first | (refine O_slice_s sl134 rfl rfl ⟨_, rfl⟩ ⟨_, rfl⟩ (fun _ => rfl) (by omega) (by omega) (by omega) ?_)))
    exact E_ret rfl rfl rfl ⟨rfl, m, rfl, hk, h.cut hk, hv, .inl (by omega)⟩
end Go.Proofs.Ygcsam
