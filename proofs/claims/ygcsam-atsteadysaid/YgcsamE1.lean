/-
  RULES FOR Clone AND Export: stores into new blocks that tell what they did. Own work.
-/
import Derived.Test.YgcsamC2
import Derived.Test.YgcsamU4
import Derived.Test.YgcsamU6
namespace Go.Proofs.Ygcsam
set_option linter.unusedVariables false
set_option linter.unusedSimpArgs false
theorem cell_heap {w w' : World} {b o : Nat} {v : Value} (h : w.cell? ⟨b, o, none⟩ = some v) (e : w'.heap = w.heap) : w'.cell? ⟨b, o, none⟩ = some v := by
  rw [← h]; unfold World.cell?; rw [e]
theorem Wr.keep {w w' : World} {b o : Nat} {cs : Array Value} (h : Wr w w' b o cs) {b' o' : Nat} {v : Value} (hne : b' ≠ b) (hc : w.cell? ⟨b', o', none⟩ = some v) : w'.cell? ⟨b', o', none⟩ = some v := by
  rw [h b' o', if_neg (fun h2 => hne h2.1)]; exact hc
theorem Wr.at1 {w w' : World} {b o : Nat} {v : Value} (h : Wr w w' b o #[v]) : w'.cell? ⟨b, o, none⟩ = some v := by
  rw [h b o, if_pos ⟨rfl, Nat.le_refl _, by simp⟩, Nat.sub_self]; rfl
theorem TS.ne {B : Nat} {w0 w : World} {L : List Fact} {M : List (Nat × Array Value)} (h : TS B w0 w L M) {t t' b b' n n' c c' : Nat} (h1 : (t, some ⟨b, 0, none⟩, n, c) ∈ L) (h2 : (t', some ⟨b', 0, none⟩, n', c') ∈ L) (ht : t ≠ t') : b ≠ b' := Sl.ne (h.slN h1) (h.slN h2) ht
section
variable {P : Program} {ops : Array Oper} {e : Bool} {K : Env → World → Prop} {ρ : Env} {w w0 : World} {d : Nat} {ty : TypeId} {pos : String} {af : Array Edge} {B : Nat} {L : List Fact} {M : List (Nat × Array Value)}
theorem O_ldC {t b o : Nat} {v : Value} {x : Operand} (ht : oneT P t) (hx : ev ρ x = .pointer (some ⟨b, o, none⟩)) (hc : w.cell? ⟨b, o, none⟩ = some v) (k : K (put ρ d v) w) : WO P ops ⟨some d, .load t x, ty, pos, af, none⟩ e K ρ w :=
  O_read rfl (fun w' hw => by simp [execOp, hx, run_load_one (P := P) ht (cell_ext hc hw)]) k
theorem O_stW {t b o T n cap : Nat} {v : Value} {x y : Operand} (h : TS B w0 w L M) (hm : (T, some ⟨b, 0, none⟩, n, cap) ∈ L) (hn : w0.heap.size ≤ b) (ht : oneT P t) (hx : ev ρ x = .pointer (some ⟨b, o, none⟩)) (hy : ev ρ y = v) (ho : o < cap * csz T) (hv : okV B w (lay T (o % csz T)) v) (he : e = false)
    (k : ∀ w', TS B w0 w' L M → Wr w w' b o #[v] → K ρ w') : WO P ops ⟨none, .store t x y, ty, pos, af, none⟩ e K ρ w := by
  obtain ⟨hB, c, hb, hs⟩ := h.row hm
  refine O_store ht hx hy hv.one hb (by omega) he fun w' hu => k w' (h.upd hn hb hu (by simp) fun j u hj => ?_) (hu.wr1 hb (by omega))
  by_cases e1 : j = o
  · subst e1
    rw [Array.getElem?_setIfInBounds] at hj
    split at hj
    · split at hj
      · cases hj; exact hv
      · cases hj
    · exact h.t.ok b c T hB hb _ u hj
  · rw [Array.getElem?_setIfInBounds_ne (Ne.symm e1)] at hj
    exact h.t.ok b c T hB hb _ u hj
theorem O_staW {t m b o T n cap : Nat} {cs : Array Value} {x y : Operand} (h : TS B w0 w L M) (hm : (T, some ⟨b, 0, none⟩, n, cap) ∈ L) (hn : w0.heap.size ≤ b) (ht : aggT P t m) (hx : ev ρ x = .pointer (some ⟨b, o, none⟩)) (hy : ev ρ y = .agg cs) (hcs : cs.size = m) (ho : o + m ≤ cap * csz T)
    (hv : ∀ j v, cs[j]? = some v → okV B w (lay T ((o + j) % csz T)) v) (he : e = false)
    (k : ∀ w', TS B w0 w' L M → Wr w w' b o cs → K ρ w') : WO P ops ⟨none, .store t x y, ty, pos, af, none⟩ e K ρ w := by
  obtain ⟨hB, c, hb, hs⟩ := h.row hm
  refine O_store_agg ht hx hy hcs (fun v hv' => ?_) hb (by omega) he fun w' hu => k w' (h.upd hn hb hu (by rw [spl_size]) fun j u hj => ?_) (hu.wr hb (by omega))
  · obtain ⟨j, hj⟩ := List.getElem?_of_mem hv'
    exact (hv j v (by simpa using hj)).one
  · rw [spl_get _ _ _ _ (by simp; omega)] at hj
    split at hj
    · have := hv (j - o) u (by simpa using hj)
      rw [show o + (j - o) = j by omega] at this; exact this
    · exact h.t.ok b c T hB hb _ u hj
theorem O_stsW {t b o T n cap : Nat} {cs : Array Value} {x y : Operand} (h : TS B w0 w L M) (hm : (T, some ⟨b, 0, none⟩, n, cap) ∈ L) (hn : w0.heap.size ≤ b) (hM : (t, cs) ∈ M) (ht : aggT P t (csz t)) (hx : ev ρ x = .pointer (some ⟨b, o, none⟩)) (hy : ev ρ y = .agg cs) (ho : o + csz t ≤ cap * csz T)
    (hc : ∀ j, j < csz t → lay T ((o + j) % csz T) = lay t j) (he : e = false) (k : ∀ w', TS B w0 w' L M → Wr w w' b o cs → K ρ w') : WO P ops ⟨none, .store t x y, ty, pos, af, none⟩ e K ρ w :=
  have hA := h.m _ hM
  O_staW h hm hn ht hx hy hA.1 ho (fun j v hj => by rw [hc j (by have := get_lt hj; rw [hA.1] at this; exact this)]; exact hA.2 j v hj) he k
theorem O_stn8W {t m b o T n cap : Nat} {f : Nat → Nat} {x y : Operand} (h : TS B w0 w L M) (hm : (T, some ⟨b, 0, none⟩, n, cap) ∈ L) (hn : w0.heap.size ≤ b) (ht : aggT P t m) (hx : ev ρ x = .pointer (some ⟨b, o, none⟩)) (hy : ev ρ y = .agg (ns .u8 m f)) (hf : ∀ i, f i < 256) (ho : o + m ≤ cap * csz T)
    (hc : ∀ j, j < m → lay T ((o + j) % csz T) = 1) (he : e = false) (k : ∀ w', TS B w0 w' L M → Wr w w' b o (ns .u8 m f) → K ρ w') : WO P ops ⟨none, .store t x y, ty, pos, af, none⟩ e K ρ w :=
  O_staW h hm hn ht hx hy (ns_size _ _ _) ho (fun j v hj => by rw [hc j (by have := get_lt hj; rw [ns_size] at this; exact this)]; exact ns_ok8 hf j v hj) he k
theorem O_mkE {t el by_ l : Nat} {kl kc : IntKind} {x y : Operand} (h : TS B w0 w L M) (ht : slcT P t el (csz el)) (hby : bytesT P el by_) (hz : zchk P el = true) (h0 : csz el ≠ 0) (hx : ev ρ x = .int kl (l : Nat)) (hy : ev ρ y = .int kc (l : Nat)) (hl : l < 1099511627776) (hb : by_ * l ≤ 281474976710656)
    (k : ∀ w' b, Ext w w' → w.heap.size ≤ b → w0.heap.size ≤ b → TS B w0 w' ((el, some ⟨b, 0, none⟩, l, l) :: L) M → K (put ρ d (.slice (some ⟨b, 0, none⟩) l l)) w') : WO P ops ⟨some d, .makeSlice t x y, ty, pos, af, none⟩ e K ρ w := by
  obtain ⟨v, h1, h2, h3⟩ := zchk.ok hz
  by_cases hl0 : l = 0
  · subst hl0
    exact O_make0 ht hby hx hy fun w' hE hs hb => k w' _ hE (Nat.le_refl _) h.e.size ((h.next hE (h.t.grow hE hs hb fun j u hj => by simp at hj)).addL (Sl.new h.t.sz hb (by simp) (Nat.le_refl _) (by omega)))
  · refine O_make ht hby h1 hx hy (Nat.le_refl _) (by omega) hb (by intro h; rcases Nat.mul_eq_zero.1 h with h | h <;> omega) fun w' hE hs hb => k w' _ hE (Nat.le_refl _) h.e.size ((h.next hE (h.t.grow hE hs hb fun j u hj => ?_)).addL (Sl.new h.t.sz hb (by simp [zs]) (Nat.le_refl _) hl))
    have := zs_get (by omega) hj
    rw [h2] at this
    obtain ⟨u', e1, e2⟩ := h3 (j % csz el) (Nat.mod_lt _ (by omega))
    rw [e1] at this; cases this
    exact okZ.ok e2
theorem O_alE {t : Nat} (h : TS B w0 w L M) (hz : zchk P t = true) (h0 : csz t ≠ 0) (k : ∀ w' b, Ext w w' → w.heap.size ≤ b → w0.heap.size ≤ b → TS B w0 w' ((t, some ⟨b, 0, none⟩, 1, 1) :: L) M → K (put ρ d (.pointer (some ⟨b, 0, none⟩))) w') : WO P ops ⟨some d, .alloc t, ty, pos, af, none⟩ e K ρ w := by
  obtain ⟨v, h1, h2, h3⟩ := zchk.ok hz
  refine O_alloc h1 fun w' hE hs hb => k w' _ hE (Nat.le_refl _) h.e.size ((h.next hE (h.t.grow hE hs hb fun j u hj => ?_)).addL (Sl.new h.t.sz hb (by rw [h2, Nat.one_mul]) (Nat.le_refl _) (by omega)))
  have hj' : j < csz t := by have := get_lt hj; omega
  obtain ⟨u', e1, e2⟩ := h3 j hj'
  rw [e1] at hj; cases hj
  rw [Nat.mod_eq_of_lt hj']; exact okZ.ok e2
end
end Go.Proofs.Ygcsam
