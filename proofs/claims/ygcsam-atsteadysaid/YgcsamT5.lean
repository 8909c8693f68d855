/-
  TYPED RULES, MORE. Own work.
-/
import Derived.Test.YgcsamT4
namespace Go.Proofs.Ygcsam
set_option linter.unusedVariables false
set_option linter.unusedSimpArgs false
theorem TS.start {B : Nat} {w : World} (h : WT B w) : TS B w w [] [] := ⟨h, Ext.refl w, fun x hx => by simp at hx, fun x hx => by simp at hx⟩
theorem TS.clear {B : Nat} {w0 w : World} {L : List Fact} {M : List (Nat × Array Value)} (h : TS B w0 w L M) : TS B w0 w [] [] := ⟨h.t, h.e, fun x hx => by simp at hx, fun x hx => by simp at hx⟩
theorem TS.pick {B : Nat} {w0 w : World} {L L' : List Fact} {M M' : List (Nat × Array Value)} (h : TS B w0 w L M) {t n cap : Nat} {a : Option Addr} (hm : (t, a, n, cap) ∈ L) (h2 : TS B w0 w L' M') : TS B w0 w ((t, a, n, cap) :: L') M' := h2.addL (h.slN hm)
theorem TS.pickM {B : Nat} {w0 w : World} {L L' : List Fact} {M M' : List (Nat × Array Value)} (h : TS B w0 w L M) {t : Nat} {cs : Array Value} (hm : (t, cs) ∈ M) (h2 : TS B w0 w L' M') : TS B w0 w L' ((t, cs) :: M') := h2.addM (h.m _ hm)
theorem TS.okA {B : Nat} {w0 w : World} {L : List Fact} {M : List (Nat × Array Value)} (h : TS B w0 w L M) {t : Nat} {cs : Array Value} (hm : (t, cs) ∈ M) : okA B w t cs := h.m _ hm
section
variable {P : Program} {ops : Array Oper} {e : Bool} {K : Env → World → Prop} {Q : Exit → Env → World → Prop} {ρ : Env} {w w0 : World} {d : Nat} {ty : TypeId} {pos : String} {af : Array Edge} {n B : Nat} {L : List Fact} {M : List (Nat × Array Value)}
theorem O_sla {t nn el s b : Nat} {x : Operand} (ht : arrT P t nn el s) (hx : ev ρ x = .pointer (some ⟨b, 0, none⟩)) (h0 : nn ≠ 0) (k : K (put ρ d (.slice (some ⟨b, 0, none⟩) nn nn)) w) : WO P ops ⟨some d, .slice t x none none none, ty, pos, af, none⟩ e K ρ w :=
  O_slice_a (l := 0) (h := nn) (m := nn) ht hx rfl rfl rfl (fun h => by cases h) (Nat.zero_le _) (Nat.le_refl _) (Nat.le_refl _) (by
    rw [if_neg h0, Nat.zero_mul, Nat.add_zero, Nat.sub_zero]; exact k)
theorem O_slm {t el s b o len cap lo hi : Nat} {k1 k2 : IntKind} {x x1 x2 : Operand} (ht : slcT P t el s) (hx : ev ρ x = .slice (some ⟨b, o, none⟩) len cap) (hlo : ev ρ x1 = .int k1 (lo : Nat)) (hhi : ev ρ x2 = .int k2 (hi : Nat)) (h1 : lo ≤ hi) (h2 : hi ≤ cap) (h3 : lo < cap)
    (k : K (put ρ d (.slice (some ⟨b, o + lo * s, none⟩) (hi - lo) (cap - lo))) w) : WO P ops ⟨some d, .slice t x (some x1) (some x2) none, ty, pos, af, none⟩ e K ρ w :=
  O_slice_s (l := lo) (h := hi) (m := cap) ht hx ⟨_, hlo⟩ ⟨_, hhi⟩ rfl (fun h => by cases h) h1 h2 (Nat.le_refl _) (by rw [if_neg (by omega), addr_add]; exact k)
theorem O_ldR8 {t m b o T N : Nat} {x : Operand} (hT : WT B w) (hr : Row B w b T N) (hl : ∀ j, lay T j = 1) (ht : aggT P t m) (hx : ev ρ x = .pointer (some ⟨b, o, none⟩)) (ho : o + m ≤ N)
    (k : ∀ f : Nat → Nat, (∀ i, f i < 256) → K (put ρ d (.agg (ns .u8 m f))) w) : WO P ops ⟨some d, .load t x, ty, pos, af, none⟩ e K ρ w := by
  obtain ⟨hB, c, hb, hs⟩ := hr
  refine O_load_agg ht hx hb (by omega) ?_
  obtain ⟨f, e1, e2⟩ := row8 (B := B) (w := w) (m := m) (c := c.extract o (o + m)) (by simp; omega) (fun j v hj => by
    rw [Array.getElem?_extract] at hj
    split at hj
    · have := hT.ok b c T hB hb (o + j) v hj
      rw [hl] at this; exact this
    · cases hj)
  rw [e1]; exact k f e2
theorem E_ret1T {fn : Func} {R : Value → World → Prop} {t : Nat} {v : Value} (h : TS B w0 w L M) (hr : fn.results = #[.tmp t]) (ht : Nat.blt t n = true) (hv : ρ t = v) (k : R v w) : bodyQ P n fn (fun v w' => Ext w0 w' ∧ WT B w' ∧ R v w') .ret ρ w := E_ret hr ht hv ⟨h.e, h.t, k⟩
theorem E_ret2T {fn : Func} {R : Value → World → Prop} {t t' : Nat} {v v' : Value} (h : TS B w0 w L M) (hr : fn.results = #[.tmp t, .tmp t']) (ht : Nat.blt t n = true) (ht' : Nat.blt t' n = true) (hv : ρ t = v) (hv' : ρ t' = v') (k : R (.tuple #[v, v']) w) : bodyQ P n fn (fun v w' => Ext w0 w' ∧ WT B w' ∧ R v w') .ret ρ w := E_ret2 hr ht ht' hv hv' ⟨h.e, h.t, k⟩
theorem E_cell1T {fn : Func} {R : Value → World → Prop} {t T b : Nat} (h : TS B w0 w L M) (hr : fn.results = #[.cell t T]) (ht : Nat.blt t n = true) (hT : aggT P T (csz T)) (hv : ρ t = .pointer (some ⟨b, 0, none⟩)) (hm : (T, some ⟨b, 0, none⟩, 1, 1) ∈ L) (k : ∀ cs, okA B w T cs → R (.agg cs) w) : bodyQ P n fn (fun v w' => Ext w0 w' ∧ WT B w' ∧ R v w') .ret ρ w :=
  E_cellT h hr ht hT hv hm fun cs _ hc => ⟨h.e, h.t, k cs hc⟩
end
end Go.Proofs.Ygcsam
