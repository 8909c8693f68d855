/-
  SORTING THE KEYS: before, merge. Own work.
-/
import Derived.Test.YgcsamE2
namespace Go.Proofs.Ygcsam
set_option linter.unusedVariables false
set_option linter.unusedSimpArgs false
set_option maxRecDepth 4000
/-- The key at place i: its rank lies in [lo, R], its place below A. -/
def KP (w : World) (b i lo R A : Nat) : Prop := ∃ r a : Nat, w.cell? ⟨b, i * 6 + 0, none⟩ = some (.int .i32 (r : Int)) ∧ w.cell? ⟨b, i * 6 + 5, none⟩ = some (.int .i32 (a : Int)) ∧ lo ≤ r ∧ r ≤ R ∧ a < A
theorem KP.ext {w w' : World} {b i lo R A : Nat} (h : KP w b i lo R A) (e : Ext w w') : KP w' b i lo R A := by
  obtain ⟨r, a, h1, h2, h3⟩ := h
  exact ⟨r, a, cell_ext h1 e, cell_ext h2 e, h3⟩
theorem KP.heap {w w' : World} {b i lo R A : Nat} (h : KP w b i lo R A) (e : w'.heap = w.heap) : KP w' b i lo R A := by
  obtain ⟨r, a, h1, h2, h3⟩ := h
  exact ⟨r, a, cell_heap h1 e, cell_heap h2 e, h3⟩
theorem KP.keep {w w' : World} {b i lo R A b' y : Nat} {cs : Array Value} (h : KP w b i lo R A) (hW : Wr w w' b' (y * 6 + 0) cs) (hcs : cs.size = 6) (hne : b ≠ b' ∨ i ≠ y) : KP w' b i lo R A := by
  obtain ⟨r, a, h1, h2, h3⟩ := h
  refine ⟨r, a, ?_, ?_, h3⟩
  · rw [hW, if_neg (fun h => by have := h.2; rcases hne with h4 | h4; exact h4 h.1; omega)]; exact h1
  · rw [hW, if_neg (fun h => by have := h.2; rcases hne with h4 | h4; exact h4 h.1; omega)]; exact h2
theorem KP.put {w w' : World} {b x lo R A b' y : Nat} {cs : Array Value} (h : KP w b x lo R A) (ht : ∀ j v, j < 6 → w.cell? ⟨b, x * 6 + j, none⟩ = some v → cs[j]? = some v) (hcs : cs.size = 6) (hW : Wr w w' b' (y * 6 + 0) cs) : KP w' b' y lo R A := by
  obtain ⟨r, a, h1, h2, h3⟩ := h
  refine ⟨r, a, ?_, ?_, h3⟩
  · rw [hW, if_pos ⟨rfl, by omega, by omega⟩, show y * 6 + 0 - (y * 6 + 0) = 0 by omega]; exact ht 0 _ (by omega) h1
  · rw [hW, if_pos ⟨rfl, by omega, by omega⟩, show y * 6 + 5 - (y * 6 + 0) = 5 by omega]; exact ht 5 _ (by omega) h2
section
variable {P : Program} {ops : Array Oper} {e : Bool} {K : Env → World → Prop} {ρ : Env} {w w0 : World} {d : Nat} {ty : TypeId} {pos : String} {af : Array Edge} {B : Nat} {L : List Fact} {M : List (Nat × Array Value)}
theorem O_ldK {t b x n cap : Nat} {xo : Operand} (h : TS B w0 w L M) (hm : (t, some ⟨b, 0, none⟩, n, cap) ∈ L) (ht : aggT P t (csz t)) (h0 : 0 < csz t) (hx : ev ρ xo = .pointer (some ⟨b, x * csz t + 0, none⟩)) (ho : x < cap)
    (k : ∀ cs, cs.size = csz t → (∀ j v, j < csz t → w.cell? ⟨b, x * csz t + j, none⟩ = some v → cs[j]? = some v) → TS B w0 w L ((t, cs) :: M) → K (put ρ d (.agg cs)) w) : WO P ops ⟨some d, .load t xo, ty, pos, af, none⟩ e K ρ w := by
  obtain ⟨hB, c, hb, hs⟩ := h.row hm
  have hle : (x + 1) * csz t ≤ cap * csz t := Nat.mul_le_mul_right _ ho
  rw [Nat.add_mul, Nat.one_mul] at hle
  rw [Nat.add_zero] at hx
  have h1 : (c.extract (x * csz t) (x * csz t + csz t)).size = csz t := by simp; omega
  refine O_load_agg ht hx hb (by omega) (k _ h1 (fun j v hj hc => ?_) (h.addM ⟨h1, fun j v hj => ?_⟩))
  · rw [hb.cellq] at hc
    rw [Array.getElem?_extract, if_pos (by have := get_lt hc; omega)]; exact hc
  · rw [Array.getElem?_extract] at hj
    split at hj
    · have hj' : j < csz t := by omega
      have := h.t.ok b c t hB hb (x * csz t + j) v hj
      rw [Nat.mul_comm, Nat.mul_add_mod, Nat.mod_eq_of_lt hj'] at this; exact this
    · cases hj
theorem O_ixO {t el s b oo l cap m y : Nat} {k : IntKind} {x i : Operand} (ht : slcT P t el s) (hx : ev ρ x = .slice (some ⟨b, oo * s, none⟩) l cap) (hi : ev ρ i = .int k ((m : Nat) : Int)) (hlt : m < l) (hy : y = oo + m)
    (kk : K (put ρ d (.pointer (some ⟨b, y * s + 0, none⟩))) w) : WO P ops ⟨some d, .indexAddr t x i, ty, pos, af, none⟩ e K ρ w :=
  O_index_s ht hx hi hlt (by rw [← Nat.add_mul, ← hy]; exact kk)
end
theorem TS.dropM {B : Nat} {w0 w : World} {L : List Fact} {M : List (Nat × Array Value)} {x : Nat × Array Value} (h : TS B w0 w L (x :: M)) : TS B w0 w L M := ⟨h.t, h.e, h.l, fun y hy => h.m y (List.mem_cons_of_mem _ hy)⟩
theorem before_ok {B : Nat} {w : World} (hT : WT B w) {b b' n n' cap cap' x y : Nat} (hs : Sl B w 183 (some ⟨b, 0, none⟩) n cap) (hs' : Sl B w 183 (some ⟨b', 0, none⟩) n' cap') (hx : x < cap) (hy : y < cap') : Rd B Samg.prog 136 [.pointer (some ⟨b, x * 6 + 0, none⟩), .pointer (some ⟨b', y * 6 + 0, none⟩)] w fun v w' => ∃ p, v = .bool p := by
  refine W_enter (l := [_, _]) Samg.func136 rfl rfl rfl ?_
  have hS := ((TS.start hT).addL hs).addL hs'
  repeat' (first
    | (refine L_cons ?_)
    | (refine R_cons rfl ?_)
    | (refine W_seq ?_)
    | (refine W_region (by kernel_rfl) ?_)
    | (refine L_nil ?_)
    | (refine R_nil ?_)
    | (refine W_block ?_)
    | (refine W_skip ?_)
    | (refine W_exit ?_)
    | (refine W_ret ?_)
    | (guard_target =~ thenQ _ _ _ _ _; first | (refine T_next ?_) | (refine T_exit ?_) | (refine T_ret ?_))
    | (guard_target =~ blockQ _ _ _ _ _; first | (refine B_next ?_) | (refine B_same ?_) | (refine B_other (by kernel_rfl) ?_) | (refine B_ret ?_))
    | (refine W_true rfl rfl ?_)
    | (refine W_false rfl rfl ?_)
    | (guard_target =~ WO _ _ (Oper.mk _ (Op.call (Call.mk (Callee.value (Operand.func 144)) _ _)) _ _ _ none) _ _ _ _; first | (refine O_rd (l := [.agg (ns .u64 4 _), .agg (ns .u64 4 _)]) (by assumption) cl144 rfl (lt_ok (TS.t (by assumption)) (by assumption) (by assumption)) ?_; rintro _ _ ⟨p, rfl⟩ _ _; cases p))
    | (guard_target =~ WO _ _ (Oper.mk _ _ _ _ _ (some _)) _ _ _ _; first | (refine G_yes rfl ?_) | (refine G_no rfl ?_))
    | (guard_target =~ WC _ _ (Code.region 1 _ true) _ _ _; first | (refine W_drawnT (id := 1) [] [0, 1, 2, 3, 4, 5, 6, 7, 8, 9, 10, 11, 12, 13, 14, 15, 16, 17, 18, 19, 20, 21, 22, 23, 24, 25, 26, 27, 28, 29, 30, 31] mixed (by kernel_rfl) (by kernel_rfl) (by assumption) ?_; intro _ _ _))
    | (guard_target =~ WO _ _ (Oper.mk _ (Op.assign _) _ _ _ none) _ _ _ _; first | (refine O_assign (v := (.int _ _)) rfl ?_) | (refine O_assign (v := (.bool _)) rfl ?_) | (refine O_assign (v := (.pointer _)) rfl ?_) | (refine O_assign (v := (.slice _ _ _)) rfl ?_) | (refine O_assign (v := (.agg _)) rfl ?_) | (refine O_assign (v := (.tuple _)) rfl ?_))
    | (guard_target =~ WO _ _ (Oper.mk _ (Op.move _) _ _ _ none) _ _ _ _; first | (refine O_move (v := (.int _ _)) rfl ?_) | (refine O_move (v := (.bool _)) rfl ?_) | (refine O_move (v := (.pointer _)) rfl ?_) | (refine O_move (v := (.slice _ _ _)) rfl ?_) | (refine O_move (v := (.agg _)) rfl ?_) | (refine O_move (v := (.tuple _)) rfl ?_))
    | (guard_target =~ WO _ _ (Oper.mk _ (Op.nilCheck _) _ _ _ none) _ _ _ _; first | (refine O_nil rfl ?_))
    | (guard_target =~ WO _ _ (Oper.mk _ (Op.fieldAddr 183 _ 0) _ _ _ none) _ _ _ _; first | (refine O_fdT fd183_0 (by decide) rfl ?_) | (refine O_field fd183_0 (by decide) rfl ?_))
    | (guard_target =~ WO _ _ (Oper.mk _ (Op.load 21 _) _ _ _ none) _ _ _ _; first | (refine O_ld32 (by assumption) (by repeat (first | exact List.Mem.head _ | refine List.Mem.tail _ ?_)) on21 rfl (by first | omega | (simp only [csz]; omega)) (by first | rfl | exact layMod rfl rfl) ?_; intro _ _ _))
    | (guard_target =~ WO _ _ (Oper.mk _ (Op.binOp BinOp.lss 21 _ _ _) _ _ _ none) _ _ _ _; first | (first | (refine O_lssS rfl rfl (fun h => absurd h (by omega)) ?_; intro _) | (refine O_lssS rfl rfl ?_ (fun h => absurd h (by omega)); intro _) | (refine O_lssS rfl rfl ?_ ?_ <;> intro _)))
    | (guard_target =~ WO _ _ (Oper.mk _ (Op.binOp BinOp.eql 21 _ _ _) _ _ _ none) _ _ _ _; first | (first | (refine O_eqlS rfl rfl (fun h => absurd h (by omega)) ?_; intro _) | (refine O_eqlS rfl rfl ?_ (fun h => absurd h (by omega)); intro _) | (refine O_eqlS rfl rfl ?_ ?_ <;> intro _)))
    | (guard_target =~ WO _ _ (Oper.mk _ (Op.fieldAddr 183 _ 1) _ _ _ none) _ _ _ _; first | (refine O_fdT fd183_1 (by decide) rfl ?_) | (refine O_field fd183_1 (by decide) rfl ?_))
    | (guard_target =~ WO _ _ (Oper.mk _ (Op.load 45 _) _ _ _ none) _ _ _ _; first | (refine O_ldn64 (by assumption) (by repeat (first | exact List.Mem.head _ | refine List.Mem.tail _ ?_)) ag45 rfl (by first | omega | (simp only [csz]; omega)) (by first | exact layRun0 rfl rfl | exact layRun rfl rfl rfl) ?_; intro _ _))
    | (guard_target =~ WO _ _ (Oper.mk _ (Op.pick _ _ _) _ _ _ none) _ _ _ _; first | (refine O_pick_t (v := (.bool _)) rfl rfl ?_) | (refine O_pick_f (v := (.bool _)) rfl rfl ?_)))
  all_goals exact E_ret1T (by assumption) rfl rfl rfl ⟨_, rfl⟩
theorem merge_ok {B lo R A bT bF nT cT nF cF oT oA oB m la lb cm ca cb : Nat} {w0 w : World} {L : List Fact} {M : List (Nat × Array Value)} (hS : TS B w0 w L M) (hmT : (183, some ⟨bT, 0, none⟩, nT, cT) ∈ L) (hmF : (183, some ⟨bF, 0, none⟩, nF, cF) ∈ L) (hcT : nT ≤ cT) (hcF : nF ≤ cF) (hnT : w0.heap.size ≤ bT) (hne : bF ≠ bT) (hm : m = la + lb) (hmb : m < 1000000) (h1 : oT + m ≤ nT) (h2 : oA + la ≤ nF) (h3 : oB + lb ≤ nF)
    (hF : ∀ x, x < nF → KP w bF x lo R A) (hD : ∀ x, x < oT → KP w bT x lo R A) : Ret Samg.prog 119 #[.slice (some ⟨bT, oT * 6, none⟩) m cm, .slice (some ⟨bF, oA * 6, none⟩) la ca, .slice (some ⟨bF, oB * 6, none⟩) lb cb] w fun v w' => TS B w0 w' L M ∧ (∀ x, x < nF → KP w' bF x lo R A) ∧ ∀ x, x < oT + m → KP w' bT x lo R A := by
  refine W_enter (l := [_, _, _]) Samg.func119 rfl rfl rfl ?_
  repeat' (first
    | (refine L_cons ?_)
    | (refine R_cons rfl ?_)
    | (refine W_seq ?_)
    | (refine W_region (by kernel_rfl) ?_)
    | (refine L_nil ?_)
    | (refine R_nil ?_)
    | (refine W_block ?_)
    | (refine W_skip ?_)
    | (refine W_exit ?_)
    | (refine W_ret ?_)
    | (guard_target =~ thenQ _ _ _ _ _; first | (refine T_next ?_) | (refine T_exit ?_) | (refine T_ret ?_))
    | (guard_target =~ blockQ _ _ _ _ _; first | (refine B_next ?_) | (refine B_same ?_) | (refine B_other (by kernel_rfl) ?_) | (refine B_ret ?_))
    | (refine W_true rfl rfl ?_)
    | (refine W_false rfl rfl ?_)
    | (guard_target =~ WO _ _ (Oper.mk _ _ _ _ _ (some _)) _ _ _ _; first | (refine G_yes rfl ?_) | (refine G_no rfl ?_))
    | (guard_target =~ WC _ _ (Code.region 5 _ true) _ _ _; first | (refine W_drawnT (id := 5) [] [0, 1, 2, 3, 4, 5, 6, 7, 8, 9, 10, 11, 12, 13, 14, 15, 16, 17, 18, 19] mixed (by kernel_rfl) (by kernel_rfl) (by assumption) ?_; intro _ _ _))
    | (guard_target =~ WO _ _ (Oper.mk _ (Op.assign _) _ _ _ none) _ _ _ _; first | (refine O_assign (v := (.int _ _)) rfl ?_) | (refine O_assign (v := (.bool _)) rfl ?_) | (refine O_assign (v := (.pointer _)) rfl ?_) | (refine O_assign (v := (.slice _ _ _)) rfl ?_) | (refine O_assign (v := (.agg _)) rfl ?_) | (refine O_assign (v := (.tuple _)) rfl ?_))
    | (guard_target =~ WO _ _ (Oper.mk _ (Op.move _) _ _ _ none) _ _ _ _; first | (refine O_move (v := (.int _ _)) rfl ?_) | (refine O_move (v := (.bool _)) rfl ?_) | (refine O_move (v := (.pointer _)) rfl ?_) | (refine O_move (v := (.slice _ _ _)) rfl ?_) | (refine O_move (v := (.agg _)) rfl ?_) | (refine O_move (v := (.tuple _)) rfl ?_))
    | (guard_target =~ WO _ _ (Oper.mk _ (Op.call _) _ _ _ none) _ _ _ _; first | (refine O_len Samg.underlying181 rfl rfl ?_))
    | (guard_target =~ WO _ _ (Oper.mk _ (Op.binOp BinOp.lss 3 _ _ _) _ _ _ none) _ _ _ _; first | (first | (refine O_lssS rfl rfl (fun h => absurd h (by omega)) ?_; intro _) | (refine O_lssS rfl rfl ?_ (fun h => absurd h (by omega)); intro _) | (refine O_lssS rfl rfl ?_ ?_ <;> intro _)))
    | (guard_target =~ WO _ _ (Oper.mk _ (Op.binOp BinOp.geq 3 _ _ _) _ _ _ none) _ _ _ _; first | (first | (refine O_geqS rfl rfl (fun h => absurd h (by omega)) ?_; intro _) | (refine O_geqS rfl rfl ?_ (fun h => absurd h (by omega)); intro _) | (refine O_geqS rfl rfl ?_ ?_ <;> intro _)))
    | (guard_target =~ WO _ _ (Oper.mk _ (Op.indexAddr 181 _ _) _ _ _ none) _ _ _ _; first | (refine O_ixK (by assumption) (by repeat (first | exact List.Mem.head _ | refine List.Mem.tail _ ?_)) sl181 rfl rfl (by omega) (by omega) ?_; rintro _ _ _) | (refine O_ixN (by assumption) (by repeat (first | exact List.Mem.head _ | refine List.Mem.tail _ ?_)) sl181 rfl rfl (by omega) (by omega) ?_; rintro _ _ _ _ _ _))
    | (guard_target =~ WO _ _ (Oper.mk _ (Op.unOp _ _ _) _ _ _ none) _ _ _ _; first | (refine O_not rfl ?_))
    | (guard_target =~ WO _ _ (Oper.mk _ (Op.pick _ _ _) _ _ _ none) _ _ _ _; first | (refine O_pick_t (v := (.bool _)) rfl rfl ?_) | (refine O_pick_f (v := (.bool _)) rfl rfl ?_))
    | (guard_target =~ WO _ _ (Oper.mk _ (Op.load 183 _) _ _ _ none) _ _ _ _; first | (refine O_lda (by assumption) (by repeat (first | exact List.Mem.head _ | refine List.Mem.tail _ ?_)) ag183 rfl (by first | omega | (simp only [csz]; omega)) (by first | exact laySub0 rfl rfl | exact laySub rfl rfl rfl | exact laySame (by decide)) ?_; intro _ _ _))
    | (guard_target =~ WO _ _ (Oper.mk _ (Op.store 183 _ _) _ _ _ none) _ _ _ _; first | (refine O_sts (by assumption) (by repeat (first | exact List.Mem.head _ | refine List.Mem.tail _ ?_)) (by omega) (by repeat (first | exact List.Mem.head _ | refine List.Mem.tail _ ?_)) ag183 rfl rfl (by first | omega | (simp only [csz]; omega)) (by first | exact laySub0 rfl rfl | exact laySub rfl rfl rfl | exact laySame (by decide)) rfl ?_; intro _ _))
    | (guard_target =~ WO _ _ (Oper.mk _ (Op.binOp BinOp.add 3 _ _ _) _ _ _ none) _ _ _ _; first | (refine O_addZ rfl rfl (by simp only [rngZ]; omega) ?_)))
  refine W_loop (fun q ρ w' => ∃ i j k : Nat, q = m - k ∧ k = i + j ∧ i ≤ la ∧ j ≤ lb ∧ TS B w0 w' L M ∧ (∀ x, x < nF → KP w' bF x lo R A) ∧ (∀ x, x < oT + k → KP w' bT x lo R A) ∧ Has ρ [(0, .slice (some ⟨bT, oT * 6, none⟩) m cm), (1, .slice (some ⟨bF, oA * 6, none⟩) la ca), (2, .slice (some ⟨bF, oB * 6, none⟩) lb cb), (6, .int .i64 ((i : Nat) : Int)), (7, .int .i64 ((j : Nat) : Int)), (10, .int .i64 ((m : Nat) : Int)), (11, .int .i64 ((k : Nat) : Int))]) m ⟨0, 0, 0, by omega, by omega, by omega, by omega, hS, hF, hD, Has.mk ⟨rfl, rfl, rfl, rfl, rfl, rfl, rfl, trivial⟩⟩ ?_
  clear hF hD hS
  rintro q ρ w3 ⟨i, j, k, rfl, hk, hi, hj, hS, hF, hD, σ', rfl⟩
  repeat' (first
    | (refine L_cons ?_)
    | (refine R_cons rfl ?_)
    | (refine W_seq ?_)
    | (refine W_region (by kernel_rfl) ?_)
    | (refine L_nil ?_)
    | (refine R_nil ?_)
    | (refine W_block ?_)
    | (refine W_skip ?_)
    | (refine W_exit ?_)
    | (refine W_ret ?_)
    | (guard_target =~ thenQ _ _ _ _ _; first | (refine T_next ?_) | (refine T_exit ?_) | (refine T_ret ?_))
    | (guard_target =~ blockQ _ _ _ _ _; first | (refine B_next ?_) | (refine B_same ?_) | (refine B_other (by kernel_rfl) ?_) | (refine B_ret ?_))
    | (refine W_true rfl rfl ?_)
    | (refine W_false rfl rfl ?_)
    | (guard_target =~ WC _ _ (Code.region 5 _ true) _ _ _; first | (refine W_drawnT (id := 5) [] [0, 1, 2, 3, 4, 5, 6, 7, 8, 9, 10, 11, 12, 13, 14, 15, 16, 17, 18, 19] mixed (by kernel_rfl) (by kernel_rfl) (by assumption) ?_; intro w4 hS4 hh4; have hF : ∀ x, x < nF → KP w4 bF x lo R A := (fun x hx => (hF x hx).heap hh4); have hD : ∀ x, x < oT + k → KP w4 bT x lo R A := (fun x hx => (hD x hx).heap hh4)) | (refine W_drawnT (id := 5) [] [0, 1, 2, 3, 4, 5, 6, 7, 8, 9, 10, 11, 12, 13, 14, 15, 16, 17, 18, 19] mixed (by kernel_rfl) (by kernel_rfl) (by assumption) ?_; intro _ _ _))
    | (guard_target =~ WO _ _ (Oper.mk _ (Op.indexAddr 181 _ _) _ _ _ none) _ _ _ _; first | (first | (refine O_ixO (b := bT) (y := oT + k) sl181 rfl rfl (by omega) rfl ?_) | (refine O_ixO (b := bF) (oo := oA) (m := i) (y := oA + i) sl181 rfl rfl (by omega) rfl ?_) | (refine O_ixO (b := bF) (oo := oB) (m := j) (y := oB + j) sl181 rfl rfl (by omega) rfl ?_)))
    | (guard_target =~ WO _ _ (Oper.mk _ (Op.call (Call.mk (Callee.value (Operand.func 136)) _ _)) _ _ _ none) _ _ _ _; first | (refine O_rd (l := [.pointer (some ⟨bF, _ * 6 + 0, none⟩), .pointer (some ⟨bF, _ * 6 + 0, none⟩)]) (by assumption) cl136 rfl (before_ok (TS.t (by assumption)) (TS.slN (by assumption) hmF) (TS.slN (by assumption) hmF) (by omega) (by omega)) ?_; rintro _ w6 ⟨p, rfl⟩ hS6 hE6; have hF : ∀ x, x < nF → KP w6 bF x lo R A := (fun x hx => (hF x hx).ext hE6); have hD : ∀ x, x < oT + k → KP w6 bT x lo R A := (fun x hx => (hD x hx).ext hE6); cases p))
    | (guard_target =~ WO _ _ (Oper.mk _ (Op.load 183 _) _ _ _ none) _ _ _ _; first | (first | (refine O_ldK (x := oA + i) (by assumption) hmF ag183 (by decide) rfl (by omega) ?_; intro cs hcs htl hSc; have hKx := hF (oA + i) (by omega)) | (refine O_ldK (x := oB + j) (by assumption) hmF ag183 (by decide) rfl (by omega) ?_; intro cs hcs htl hSc; have hKx := hF (oB + j) (by omega))) | (refine O_lda (by assumption) (by repeat (first | exact List.Mem.head _ | refine List.Mem.tail _ ?_)) ag183 rfl (by first | omega | (simp only [csz]; omega)) (by first | exact laySub0 rfl rfl | exact laySub rfl rfl rfl | exact laySame (by decide)) ?_; intro _ _ _))
    | (guard_target =~ WO _ _ (Oper.mk _ (Op.store 183 _ _) _ _ _ none) _ _ _ _; first | (refine O_stsW (T := 183) (by assumption) hmT hnT (by repeat (first | exact List.Mem.head _ | refine List.Mem.tail _ ?_)) ag183 rfl rfl (by simp only [csz]; omega) (laySub rfl rfl rfl) rfl ?_; intro w7 hS7 hW7) | (refine O_sts (by assumption) (by repeat (first | exact List.Mem.head _ | refine List.Mem.tail _ ?_)) (by omega) (by repeat (first | exact List.Mem.head _ | refine List.Mem.tail _ ?_)) ag183 rfl rfl (by first | omega | (simp only [csz]; omega)) (by first | exact laySub0 rfl rfl | exact laySub rfl rfl rfl | exact laySame (by decide)) rfl ?_; intro _ _))
    | (guard_target =~ WO _ _ (Oper.mk _ _ _ _ _ (some _)) _ _ _ _; first | (refine G_yes rfl ?_) | (refine G_no rfl ?_))
    | (guard_target =~ WO _ _ (Oper.mk _ (Op.assign _) _ _ _ none) _ _ _ _; first | (refine O_assign (v := (.int _ _)) rfl ?_) | (refine O_assign (v := (.bool _)) rfl ?_) | (refine O_assign (v := (.pointer _)) rfl ?_) | (refine O_assign (v := (.slice _ _ _)) rfl ?_) | (refine O_assign (v := (.agg _)) rfl ?_) | (refine O_assign (v := (.tuple _)) rfl ?_))
    | (guard_target =~ WO _ _ (Oper.mk _ (Op.move _) _ _ _ none) _ _ _ _; first | (refine O_move (v := (.int _ _)) rfl ?_) | (refine O_move (v := (.bool _)) rfl ?_) | (refine O_move (v := (.pointer _)) rfl ?_) | (refine O_move (v := (.slice _ _ _)) rfl ?_) | (refine O_move (v := (.agg _)) rfl ?_) | (refine O_move (v := (.tuple _)) rfl ?_))
    | (guard_target =~ WO _ _ (Oper.mk _ (Op.call _) _ _ _ none) _ _ _ _; first | (refine O_len Samg.underlying181 rfl rfl ?_))
    | (guard_target =~ WO _ _ (Oper.mk _ (Op.binOp BinOp.lss 3 _ _ _) _ _ _ none) _ _ _ _; first | (first | (refine O_lssS rfl rfl (fun h => absurd h (by omega)) ?_; intro _) | (refine O_lssS rfl rfl ?_ (fun h => absurd h (by omega)); intro _) | (refine O_lssS rfl rfl ?_ ?_ <;> intro _)))
    | (guard_target =~ WO _ _ (Oper.mk _ (Op.binOp BinOp.geq 3 _ _ _) _ _ _ none) _ _ _ _; first | (first | (refine O_geqS rfl rfl (fun h => absurd h (by omega)) ?_; intro _) | (refine O_geqS rfl rfl ?_ (fun h => absurd h (by omega)); intro _) | (refine O_geqS rfl rfl ?_ ?_ <;> intro _)))
    | (guard_target =~ WO _ _ (Oper.mk _ (Op.unOp _ _ _) _ _ _ none) _ _ _ _; first | (refine O_not rfl ?_))
    | (guard_target =~ WO _ _ (Oper.mk _ (Op.pick _ _ _) _ _ _ none) _ _ _ _; first | (refine O_pick_t (v := (.bool _)) rfl rfl ?_) | (refine O_pick_f (v := (.bool _)) rfl rfl ?_))
    | (guard_target =~ WO _ _ (Oper.mk _ (Op.binOp BinOp.add 3 _ _ _) _ _ _ none) _ _ _ _; first | (refine O_addZ rfl rfl (by simp only [rngZ]; omega) ?_)))
  all_goals first
    | exact ⟨m - (k + 1), by omega, i + 1, j, k + 1, rfl, by omega, by omega, by omega, hS7.dropM, fun x hx => (hF x hx).keep hW7 hcs (.inl hne), fun x hx => (by by_cases hxk : x < oT + k; exact (hD x hxk).keep hW7 hcs (.inr (by omega)); rw [show x = oT + k by omega]; exact hKx.put htl hcs hW7), Has.mk ⟨rfl, rfl, rfl, rfl, rfl, rfl, rfl, trivial⟩⟩
    | exact ⟨m - (k + 1), by omega, i, j + 1, k + 1, rfl, by omega, by omega, by omega, hS7.dropM, fun x hx => (hF x hx).keep hW7 hcs (.inl hne), fun x hx => (by by_cases hxk : x < oT + k; exact (hD x hxk).keep hW7 hcs (.inr (by omega)); rw [show x = oT + k by omega]; exact hKx.put htl hcs hW7), Has.mk ⟨rfl, rfl, rfl, rfl, rfl, rfl, rfl, trivial⟩⟩
    | exact E_end0 rfl ⟨hS, hF, fun x hx => hD x (by omega)⟩
end Go.Proofs.Ygcsam
