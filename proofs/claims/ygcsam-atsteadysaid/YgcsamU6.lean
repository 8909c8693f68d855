/-
  WRITING TO THE VAULT: what a store does to what is told of it. Own work (the lemmas on the vault's own block are laid by a small program).
-/
import Derived.Test.YgcsamU3
namespace Go.Proofs.Ygcsam
set_option linter.unusedVariables false
set_option linter.unusedSimpArgs false
def mutT (t : Nat) : Bool := t == 86 || t == 148 || t == 153 || t == 178 || t == 126 || t == 172 || t == 21
/-- Cells of one block have been written. -/
def Wr (w w' : World) (b o : Nat) (cs : Array Value) : Prop := ∀ b' o', w'.cell? ⟨b', o', none⟩ = if b' = b ∧ o ≤ o' ∧ o' < o + cs.size then cs[o' - o]? else w.cell? ⟨b', o', none⟩
/-- What a method of the vault may do to the world. -/
structure Mu (B : Nat) (w w' : World) : Prop where
  os : w'.os = w.os
  tape : w'.tape = w.tape
  output : w'.output = w.output
  size : w.heap.size ≤ w'.heap.size
  low : ∀ k, k < B → w'.heap[k]? = w.heap[k]?
  keep : ∀ k c t, Blk w k c t → mutT t = false → Blk w' k c t
  shp : Shp w w'
theorem Mu.refl (B : Nat) (w : World) : Mu B w w := ⟨rfl, rfl, rfl, Nat.le_refl _, fun _ _ => rfl, fun _ _ _ h _ => h, Shp.refl w⟩
theorem Mu.trans {B : Nat} {a b c : World} (h : Mu B a b) (k : Mu B b c) : Mu B a c :=
  ⟨k.os.trans h.os, k.tape.trans h.tape, k.output.trans h.output, Nat.le_trans h.size k.size, fun i hi => (k.low i hi).trans (h.low i hi), fun i ci t hb ht => k.keep i ci t (h.keep i ci t hb ht) ht, h.shp.trans k.shp⟩
theorem Ext.mu {B : Nat} {w w' : World} (h : Ext w w') (hB : B ≤ w.heap.size) : Mu B w w' := ⟨h.os, h.tape, h.output, h.size, fun k hk => h.block k (by omega), fun k c t hb _ => hb.ext h, h.shp⟩
theorem Upd.mu {B : Nat} {w w' : World} {b : Nat} {c c' : Array Value} {t : TypeId} (h : Upd w w' b c' t) (hb : Blk w b c t) (hs : c'.size = c.size) (hB : B ≤ b) (ht : mutT t = true) : Mu B w w' :=
  ⟨h.os, h.tape, h.output, by rw [h.size]; exact Nat.le_refl _, fun k hk => h.block k (by omega), fun k ck tk hbk htk => hbk.upd h (fun e => by
    subst e
    obtain ⟨_, e2⟩ := hbk.uniq hb
    subst e2; rw [ht] at htk; cases htk), h.shp hb hs⟩
theorem App.mu {B : Nat} {w w' : World} {t : Nat} {a : Option Addr} {n b' cap' : Nat} {cs : Array Value} (h : App B w w' t a n b' cap' cs) (hB : B ≤ w.heap.size) (hS : ∀ b, a = some ⟨b, 0, none⟩ → Row B w b t (Nat.succ 0) ∨ B ≤ b) (hT : ∀ b c tb, a = some ⟨b, 0, none⟩ → Blk w b c tb → tb = t) (ht : mutT t = true) : Mu B w w' :=
  ⟨h.os, h.tape, h.output, h.size, fun k hk => h.keep k (by omega) (fun e => by
    rcases h.isold with h1 | h1
    · omega
    · rcases hS b' h1 with h2 | h2
      · have := h2.1; omega
      · omega), fun k ck tk hbk htk => (h.keep k hbk.lt (fun e => by
    subst e
    rcases h.isold with h1 | h1
    · have := hbk.lt; omega
    · have := hT k ck tk h1 hbk
      subst this; rw [ht] at htk; cases htk)).trans hbk, h.shp⟩
theorem Upd.wr1 {w w' : World} {b o : Nat} {c : Array Value} {t : TypeId} {v : Value} (h : Upd w w' b (c.setIfInBounds o v) t) (hb : Blk w b c t) (ho : o < c.size) : Wr w w' b o #[v] := by
  intro b' o'
  by_cases hbb : b' = b
  · subst hbb
    rw [h.here.cellq, hb.cellq]
    by_cases hoo : o' = o
    · subst hoo
      rw [if_pos (by simp)]
      simp [ho]
    · rw [if_neg (by simp; omega), Array.getElem?_setIfInBounds_ne (Ne.symm hoo)]
  · rw [if_neg (fun h2 => hbb h2.1)]
    unfold World.cell?
    simp only [h.block b' hbb]
theorem Upd.wr {w w' : World} {b o : Nat} {c cs : Array Value} {t : TypeId} (h : Upd w w' b (spl c o cs.toList) t) (hb : Blk w b c t) (ho : o + cs.size ≤ c.size) : Wr w w' b o cs := by
  intro b' o'
  by_cases hbb : b' = b
  · subst hbb
    rw [h.here.cellq, hb.cellq, spl_get _ _ _ _ (by simpa using ho)]
    by_cases hoo : o ≤ o' ∧ o' < o + cs.size
    · rw [if_pos (by simpa using hoo), if_pos ⟨rfl, hoo⟩]; simp
    · rw [if_neg (by simpa using hoo), if_neg (fun h2 => hoo h2.2)]
  · rw [if_neg (fun h2 => hbb h2.1)]
    unfold World.cell?
    simp only [h.block b' hbb]
theorem Sl.ne {B : Nat} {w : World} {t t' b b' n n' c c' : Nat} (h : Sl B w t (some ⟨b, 0, none⟩) n c) (h' : Sl B w t' (some ⟨b', 0, none⟩) n' c') (ht : t ≠ t') : b ≠ b' := by
  intro e
  subst e
  rcases h.2.2 with ⟨h1, _⟩ | ⟨b1, h1, _, c1, h2, _⟩
  · cases h1
  rcases h'.2.2 with ⟨h3, _⟩ | ⟨b2, h3, _, c2, h4, _⟩
  · cases h3
  simp only [Option.some.injEq, Addr.mk.injEq, and_true] at h1 h3
  subst h1; subst h3
  exact ht (h2.uniq h4).2
theorem Sl.ne2 {B : Nat} {w : World} {t t' b b' n n' c c' : Nat} {a : Option Addr} (h : Sl B w t a n c) (e : a = some ⟨b, 0, none⟩) (h' : Sl B w t' (some ⟨b', 0, none⟩) n' c') (ht : t ≠ t') : b ≠ b' := by
  subst e; exact Sl.ne h h' ht
section
variable {B s : Nat} {σ : VS} {w : World}
theorem V.B0 (hV : V B w s σ) : B ≤ w.heap.size := by
  rcases hV.sV.2.2 with ⟨h, _⟩ | ⟨b, h, h1, _⟩
  · cases h
  · simp only [Option.some.injEq, Addr.mk.injEq, and_true] at h
    subst h
    have := hV.lt
    omega
theorem V.neA (hV : V B w s σ) {b : Nat} (hb : σ.aA = some ⟨b, 0, none⟩) : b ≠ s := Sl.ne (hb ▸ hV.sA) hV.sV (by decide)
theorem V.neS (hV : V B w s σ) {b : Nat} (hb : σ.aS = some ⟨b, 0, none⟩) : b ≠ s := Sl.ne (hb ▸ hV.sS) hV.sV (by decide)
theorem V.neJ (hV : V B w s σ) {b : Nat} (hb : σ.aJ = some ⟨b, 0, none⟩) : b ≠ s := Sl.ne (hb ▸ hV.sJ) hV.sV (by decide)
end
theorem V.setAcc {B s : Nat} {σ : VS} {w w' : World} (hV : V B w s σ) (hnm : σ.nm ≤ 16384) {a : Option Addr} {n c : Nat} {bal : Nat → Nat → Nat} (hs : Sl B w 148 a n c) (hb : ∀ b, a = some ⟨b, 0, none⟩ → ∀ i k, i < n → k < 4 → w.cell? ⟨b, i * 29 + (21 + k), none⟩ = some (.int .u64 (bal i k : Int))) (he : Shp w w') (hW : Wr w w' s (0) #[.slice a n c]) : V B w' s { σ with aA := a, na := n, cA := c, bal := bal } := by
  have hk : ∀ o', o' ≠ 0 → w'.cell? ⟨s, o', none⟩ = w.cell? ⟨s, o', none⟩ := fun o' h => by rw [hW s o', if_neg (by simp; omega)]
  have ho : ∀ b' o', b' ≠ s → w'.cell? ⟨b', o', none⟩ = w.cell? ⟨b', o', none⟩ := fun b' o' h => by rw [hW b' o', if_neg (fun h2 => h h2.1)]
  have hh : w'.cell? ⟨s, 0, none⟩ = some (.slice a n c) := by rw [hW s (0), if_pos (by simp)]; simp
  exact {
    sV := hV.sV.shp he
    acc := hh
    sA := hs.shp he
    slo := (by rw [hk _ (by omega)]; exact hV.slo)
    sS := hV.sS.shp he
    jou := (by rw [hk _ (by omega)]; exact hV.jou)
    sJ := hV.sJ.shp he
    nmk := (by rw [hk _ (by omega)]; exact hV.nmk)
    rf := (by rw [hk _ (by omega)]; exact hV.rf)
    log := (by rw [hk _ (by omega)]; exact hV.log)
    sL := hV.sL.shp he
    tem := (by rw [hk _ (by omega)]; exact hV.tem)
    sT := hV.sT.shp he
    tta := (by rw [hk _ (by omega)]; exact hV.tta)
    sH := hV.sH.shp he
    ata := fun p hp => (by rw [hk _ (by omega)]; exact hV.ata p hp)
    sta := fun p hp => (by rw [hk _ (by omega)]; exact hV.sta p hp)
    mrk := fun p hp => (by have hp : p < σ.nm := hp; rw [hk _ (by omega)]; exact hV.mrk p hp)
    ba := fun b hb2 i k hi hk2 => (by rw [ho b _ (Sl.ne2 hs hb2 hV.sV (by decide))]; exact hb b hb2 i k hi hk2)
    va := fun b hb i k hi hk2 => (by rw [ho b _ (V.neS hV hb)]; exact hV.va b hb i k hi hk2)
    og := fun b hb i k hi hk2 => (by rw [ho b _ (V.neS hV hb)]; exact hV.og b hb i k hi hk2)
    jk := fun b hb i hi => (by rw [ho b _ (V.neJ hV hb)]; exact hV.jk b hb i hi)
    jat := fun b hb i hi => (by rw [ho b _ (V.neJ hV hb)]; exact hV.jat b hb i hi)
    jnn := fun b hb i hi => (by rw [ho b _ (V.neJ hV hb)]; exact hV.jnn b hb i hi)
    jww := fun b hb i k hi hk2 => (by rw [ho b _ (V.neJ hV hb)]; exact hV.jww b hb i k hi hk2)
  }
theorem V.setSlo {B s : Nat} {σ : VS} {w w' : World} (hV : V B w s σ) (hnm : σ.nm ≤ 16384) {a : Option Addr} {n c : Nat} {val orig : Nat → Nat → Nat} (hs : Sl B w 153 a n c) (h1 : ∀ b, a = some ⟨b, 0, none⟩ → ∀ i k, i < n → k < 4 → w.cell? ⟨b, i * 14 + (5 + k), none⟩ = some (.int .u64 (val i k : Int))) (h2 : ∀ b, a = some ⟨b, 0, none⟩ → ∀ i k, i < n → k < 4 → w.cell? ⟨b, i * 14 + (9 + k), none⟩ = some (.int .u64 (orig i k : Int))) (he : Shp w w') (hW : Wr w w' s (1) #[.slice a n c]) : V B w' s { σ with aS := a, ns := n, cS := c, val := val, orig := orig } := by
  have hk : ∀ o', o' ≠ 1 → w'.cell? ⟨s, o', none⟩ = w.cell? ⟨s, o', none⟩ := fun o' h => by rw [hW s o', if_neg (by simp; omega)]
  have ho : ∀ b' o', b' ≠ s → w'.cell? ⟨b', o', none⟩ = w.cell? ⟨b', o', none⟩ := fun b' o' h => by rw [hW b' o', if_neg (fun h2 => h h2.1)]
  have hh : w'.cell? ⟨s, 1, none⟩ = some (.slice a n c) := by rw [hW s (1), if_pos (by simp)]; simp
  exact {
    sV := hV.sV.shp he
    acc := (by rw [hk _ (by omega)]; exact hV.acc)
    sA := hV.sA.shp he
    slo := hh
    sS := hs.shp he
    jou := (by rw [hk _ (by omega)]; exact hV.jou)
    sJ := hV.sJ.shp he
    nmk := (by rw [hk _ (by omega)]; exact hV.nmk)
    rf := (by rw [hk _ (by omega)]; exact hV.rf)
    log := (by rw [hk _ (by omega)]; exact hV.log)
    sL := hV.sL.shp he
    tem := (by rw [hk _ (by omega)]; exact hV.tem)
    sT := hV.sT.shp he
    tta := (by rw [hk _ (by omega)]; exact hV.tta)
    sH := hV.sH.shp he
    ata := fun p hp => (by rw [hk _ (by omega)]; exact hV.ata p hp)
    sta := fun p hp => (by rw [hk _ (by omega)]; exact hV.sta p hp)
    mrk := fun p hp => (by have hp : p < σ.nm := hp; rw [hk _ (by omega)]; exact hV.mrk p hp)
    ba := fun b hb i k hi hk2 => (by rw [ho b _ (V.neA hV hb)]; exact hV.ba b hb i k hi hk2)
    va := fun b hb2 i k hi hk2 => (by rw [ho b _ (Sl.ne2 hs hb2 hV.sV (by decide))]; exact h1 b hb2 i k hi hk2)
    og := fun b hb2 i k hi hk2 => (by rw [ho b _ (Sl.ne2 hs hb2 hV.sV (by decide))]; exact h2 b hb2 i k hi hk2)
    jk := fun b hb i hi => (by rw [ho b _ (V.neJ hV hb)]; exact hV.jk b hb i hi)
    jat := fun b hb i hi => (by rw [ho b _ (V.neJ hV hb)]; exact hV.jat b hb i hi)
    jnn := fun b hb i hi => (by rw [ho b _ (V.neJ hV hb)]; exact hV.jnn b hb i hi)
    jww := fun b hb i k hi hk2 => (by rw [ho b _ (V.neJ hV hb)]; exact hV.jww b hb i k hi hk2)
  }
theorem V.setJou {B s : Nat} {σ : VS} {w w' : World} (hV : V B w s σ) (hnm : σ.nm ≤ 16384) {a : Option Addr} {n c : Nat} {kd ja jn : Nat → Nat} {jw : Nat → Nat → Nat} (hs : Sl B w 178 a n c) (h1 : ∀ b, a = some ⟨b, 0, none⟩ → ∀ i, i < n → w.cell? ⟨b, i * 9 + 0, none⟩ = some (.int .u8 (kd i : Int))) (h2 : ∀ b, a = some ⟨b, 0, none⟩ → ∀ i, i < n → w.cell? ⟨b, i * 9 + 1, none⟩ = some (.int .i32 (ja i : Int))) (h3 : ∀ b, a = some ⟨b, 0, none⟩ → ∀ i, i < n → w.cell? ⟨b, i * 9 + 2, none⟩ = some (.int .u64 (jn i : Int))) (h4 : ∀ b, a = some ⟨b, 0, none⟩ → ∀ i k, i < n → k < 4 → w.cell? ⟨b, i * 9 + (3 + k), none⟩ = some (.int .u64 (jw i k : Int))) (he : Shp w w') (hW : Wr w w' s (8194) #[.slice a n c]) : V B w' s { σ with aJ := a, nj := n, cJ := c, kd := kd, ja := ja, jn := jn, jw := jw } := by
  have hk : ∀ o', o' ≠ 8194 → w'.cell? ⟨s, o', none⟩ = w.cell? ⟨s, o', none⟩ := fun o' h => by rw [hW s o', if_neg (by simp; omega)]
  have ho : ∀ b' o', b' ≠ s → w'.cell? ⟨b', o', none⟩ = w.cell? ⟨b', o', none⟩ := fun b' o' h => by rw [hW b' o', if_neg (fun h2 => h h2.1)]
  have hh : w'.cell? ⟨s, 8194, none⟩ = some (.slice a n c) := by rw [hW s (8194), if_pos (by simp)]; simp
  exact {
    sV := hV.sV.shp he
    acc := (by rw [hk _ (by omega)]; exact hV.acc)
    sA := hV.sA.shp he
    slo := (by rw [hk _ (by omega)]; exact hV.slo)
    sS := hV.sS.shp he
    jou := hh
    sJ := hs.shp he
    nmk := (by rw [hk _ (by omega)]; exact hV.nmk)
    rf := (by rw [hk _ (by omega)]; exact hV.rf)
    log := (by rw [hk _ (by omega)]; exact hV.log)
    sL := hV.sL.shp he
    tem := (by rw [hk _ (by omega)]; exact hV.tem)
    sT := hV.sT.shp he
    tta := (by rw [hk _ (by omega)]; exact hV.tta)
    sH := hV.sH.shp he
    ata := fun p hp => (by rw [hk _ (by omega)]; exact hV.ata p hp)
    sta := fun p hp => (by rw [hk _ (by omega)]; exact hV.sta p hp)
    mrk := fun p hp => (by have hp : p < σ.nm := hp; rw [hk _ (by omega)]; exact hV.mrk p hp)
    ba := fun b hb i k hi hk2 => (by rw [ho b _ (V.neA hV hb)]; exact hV.ba b hb i k hi hk2)
    va := fun b hb i k hi hk2 => (by rw [ho b _ (V.neS hV hb)]; exact hV.va b hb i k hi hk2)
    og := fun b hb i k hi hk2 => (by rw [ho b _ (V.neS hV hb)]; exact hV.og b hb i k hi hk2)
    jk := fun b hb2 i hi => (by rw [ho b _ (Sl.ne2 hs hb2 hV.sV (by decide))]; exact h1 b hb2 i hi)
    jat := fun b hb2 i hi => (by rw [ho b _ (Sl.ne2 hs hb2 hV.sV (by decide))]; exact h2 b hb2 i hi)
    jnn := fun b hb2 i hi => (by rw [ho b _ (Sl.ne2 hs hb2 hV.sV (by decide))]; exact h3 b hb2 i hi)
    jww := fun b hb2 i k hi hk2 => (by rw [ho b _ (Sl.ne2 hs hb2 hV.sV (by decide))]; exact h4 b hb2 i k hi hk2)
  }
theorem V.setLog {B s : Nat} {σ : VS} {w w' : World} (hV : V B w s σ) (hnm : σ.nm ≤ 16384) {a : Option Addr} {n c : Nat} (hs : Sl B w 126 a n c) (he : Shp w w') (hW : Wr w w' s (24581) #[.slice a n c]) : V B w' s { σ with aL := a, nl := n, cL := c } := by
  have hk : ∀ o', o' ≠ 24581 → w'.cell? ⟨s, o', none⟩ = w.cell? ⟨s, o', none⟩ := fun o' h => by rw [hW s o', if_neg (by simp; omega)]
  have ho : ∀ b' o', b' ≠ s → w'.cell? ⟨b', o', none⟩ = w.cell? ⟨b', o', none⟩ := fun b' o' h => by rw [hW b' o', if_neg (fun h2 => h h2.1)]
  have hh : w'.cell? ⟨s, 24581, none⟩ = some (.slice a n c) := by rw [hW s (24581), if_pos (by simp)]; simp
  exact {
    sV := hV.sV.shp he
    acc := (by rw [hk _ (by omega)]; exact hV.acc)
    sA := hV.sA.shp he
    slo := (by rw [hk _ (by omega)]; exact hV.slo)
    sS := hV.sS.shp he
    jou := (by rw [hk _ (by omega)]; exact hV.jou)
    sJ := hV.sJ.shp he
    nmk := (by rw [hk _ (by omega)]; exact hV.nmk)
    rf := (by rw [hk _ (by omega)]; exact hV.rf)
    log := hh
    sL := hs.shp he
    tem := (by rw [hk _ (by omega)]; exact hV.tem)
    sT := hV.sT.shp he
    tta := (by rw [hk _ (by omega)]; exact hV.tta)
    sH := hV.sH.shp he
    ata := fun p hp => (by rw [hk _ (by omega)]; exact hV.ata p hp)
    sta := fun p hp => (by rw [hk _ (by omega)]; exact hV.sta p hp)
    mrk := fun p hp => (by have hp : p < σ.nm := hp; rw [hk _ (by omega)]; exact hV.mrk p hp)
    ba := fun b hb i k hi hk2 => (by rw [ho b _ (V.neA hV hb)]; exact hV.ba b hb i k hi hk2)
    va := fun b hb i k hi hk2 => (by rw [ho b _ (V.neS hV hb)]; exact hV.va b hb i k hi hk2)
    og := fun b hb i k hi hk2 => (by rw [ho b _ (V.neS hV hb)]; exact hV.og b hb i k hi hk2)
    jk := fun b hb i hi => (by rw [ho b _ (V.neJ hV hb)]; exact hV.jk b hb i hi)
    jat := fun b hb i hi => (by rw [ho b _ (V.neJ hV hb)]; exact hV.jat b hb i hi)
    jnn := fun b hb i hi => (by rw [ho b _ (V.neJ hV hb)]; exact hV.jnn b hb i hi)
    jww := fun b hb i k hi hk2 => (by rw [ho b _ (V.neJ hV hb)]; exact hV.jww b hb i k hi hk2)
  }
theorem V.setTem {B s : Nat} {σ : VS} {w w' : World} (hV : V B w s σ) (hnm : σ.nm ≤ 16384) {a : Option Addr} {n c : Nat} (hs : Sl B w 172 a n c) (he : Shp w w') (hW : Wr w w' s (24582) #[.slice a n c]) : V B w' s { σ with aT := a, nt := n, cT := c } := by
  have hk : ∀ o', o' ≠ 24582 → w'.cell? ⟨s, o', none⟩ = w.cell? ⟨s, o', none⟩ := fun o' h => by rw [hW s o', if_neg (by simp; omega)]
  have ho : ∀ b' o', b' ≠ s → w'.cell? ⟨b', o', none⟩ = w.cell? ⟨b', o', none⟩ := fun b' o' h => by rw [hW b' o', if_neg (fun h2 => h h2.1)]
  have hh : w'.cell? ⟨s, 24582, none⟩ = some (.slice a n c) := by rw [hW s (24582), if_pos (by simp)]; simp
  exact {
    sV := hV.sV.shp he
    acc := (by rw [hk _ (by omega)]; exact hV.acc)
    sA := hV.sA.shp he
    slo := (by rw [hk _ (by omega)]; exact hV.slo)
    sS := hV.sS.shp he
    jou := (by rw [hk _ (by omega)]; exact hV.jou)
    sJ := hV.sJ.shp he
    nmk := (by rw [hk _ (by omega)]; exact hV.nmk)
    rf := (by rw [hk _ (by omega)]; exact hV.rf)
    log := (by rw [hk _ (by omega)]; exact hV.log)
    sL := hV.sL.shp he
    tem := hh
    sT := hs.shp he
    tta := (by rw [hk _ (by omega)]; exact hV.tta)
    sH := hV.sH.shp he
    ata := fun p hp => (by rw [hk _ (by omega)]; exact hV.ata p hp)
    sta := fun p hp => (by rw [hk _ (by omega)]; exact hV.sta p hp)
    mrk := fun p hp => (by have hp : p < σ.nm := hp; rw [hk _ (by omega)]; exact hV.mrk p hp)
    ba := fun b hb i k hi hk2 => (by rw [ho b _ (V.neA hV hb)]; exact hV.ba b hb i k hi hk2)
    va := fun b hb i k hi hk2 => (by rw [ho b _ (V.neS hV hb)]; exact hV.va b hb i k hi hk2)
    og := fun b hb i k hi hk2 => (by rw [ho b _ (V.neS hV hb)]; exact hV.og b hb i k hi hk2)
    jk := fun b hb i hi => (by rw [ho b _ (V.neJ hV hb)]; exact hV.jk b hb i hi)
    jat := fun b hb i hi => (by rw [ho b _ (V.neJ hV hb)]; exact hV.jat b hb i hi)
    jnn := fun b hb i hi => (by rw [ho b _ (V.neJ hV hb)]; exact hV.jnn b hb i hi)
    jww := fun b hb i k hi hk2 => (by rw [ho b _ (V.neJ hV hb)]; exact hV.jww b hb i k hi hk2)
  }
theorem V.setTta {B s : Nat} {σ : VS} {w w' : World} (hV : V B w s σ) (hnm : σ.nm ≤ 16384) {a : Option Addr} {n c : Nat} (hs : Sl B w 21 a n c) (he : Shp w w') (hW : Wr w w' s (24583) #[.slice a n c]) : V B w' s { σ with aH := a, nh := n, cH := c } := by
  have hk : ∀ o', o' ≠ 24583 → w'.cell? ⟨s, o', none⟩ = w.cell? ⟨s, o', none⟩ := fun o' h => by rw [hW s o', if_neg (by simp; omega)]
  have ho : ∀ b' o', b' ≠ s → w'.cell? ⟨b', o', none⟩ = w.cell? ⟨b', o', none⟩ := fun b' o' h => by rw [hW b' o', if_neg (fun h2 => h h2.1)]
  have hh : w'.cell? ⟨s, 24583, none⟩ = some (.slice a n c) := by rw [hW s (24583), if_pos (by simp)]; simp
  exact {
    sV := hV.sV.shp he
    acc := (by rw [hk _ (by omega)]; exact hV.acc)
    sA := hV.sA.shp he
    slo := (by rw [hk _ (by omega)]; exact hV.slo)
    sS := hV.sS.shp he
    jou := (by rw [hk _ (by omega)]; exact hV.jou)
    sJ := hV.sJ.shp he
    nmk := (by rw [hk _ (by omega)]; exact hV.nmk)
    rf := (by rw [hk _ (by omega)]; exact hV.rf)
    log := (by rw [hk _ (by omega)]; exact hV.log)
    sL := hV.sL.shp he
    tem := (by rw [hk _ (by omega)]; exact hV.tem)
    sT := hV.sT.shp he
    tta := hh
    sH := hs.shp he
    ata := fun p hp => (by rw [hk _ (by omega)]; exact hV.ata p hp)
    sta := fun p hp => (by rw [hk _ (by omega)]; exact hV.sta p hp)
    mrk := fun p hp => (by have hp : p < σ.nm := hp; rw [hk _ (by omega)]; exact hV.mrk p hp)
    ba := fun b hb i k hi hk2 => (by rw [ho b _ (V.neA hV hb)]; exact hV.ba b hb i k hi hk2)
    va := fun b hb i k hi hk2 => (by rw [ho b _ (V.neS hV hb)]; exact hV.va b hb i k hi hk2)
    og := fun b hb i k hi hk2 => (by rw [ho b _ (V.neS hV hb)]; exact hV.og b hb i k hi hk2)
    jk := fun b hb i hi => (by rw [ho b _ (V.neJ hV hb)]; exact hV.jk b hb i hi)
    jat := fun b hb i hi => (by rw [ho b _ (V.neJ hV hb)]; exact hV.jat b hb i hi)
    jnn := fun b hb i hi => (by rw [ho b _ (V.neJ hV hb)]; exact hV.jnn b hb i hi)
    jww := fun b hb i k hi hk2 => (by rw [ho b _ (V.neJ hV hb)]; exact hV.jww b hb i k hi hk2)
  }
theorem V.setRef {B s : Nat} {σ : VS} {w w' : World} (hV : V B w s σ) (hnm : σ.nm ≤ 16384) {r : Nat} (he : Shp w w') (hW : Wr w w' s (24580) #[.int .u64 (r : Int)]) : V B w' s { σ with ref := r } := by
  have hk : ∀ o', o' ≠ 24580 → w'.cell? ⟨s, o', none⟩ = w.cell? ⟨s, o', none⟩ := fun o' h => by rw [hW s o', if_neg (by simp; omega)]
  have ho : ∀ b' o', b' ≠ s → w'.cell? ⟨b', o', none⟩ = w.cell? ⟨b', o', none⟩ := fun b' o' h => by rw [hW b' o', if_neg (fun h2 => h h2.1)]
  have hh : w'.cell? ⟨s, 24580, none⟩ = some (.int .u64 (r : Int)) := by rw [hW s (24580), if_pos (by simp)]; simp
  exact {
    sV := hV.sV.shp he
    acc := (by rw [hk _ (by omega)]; exact hV.acc)
    sA := hV.sA.shp he
    slo := (by rw [hk _ (by omega)]; exact hV.slo)
    sS := hV.sS.shp he
    jou := (by rw [hk _ (by omega)]; exact hV.jou)
    sJ := hV.sJ.shp he
    nmk := (by rw [hk _ (by omega)]; exact hV.nmk)
    rf := hh
    log := (by rw [hk _ (by omega)]; exact hV.log)
    sL := hV.sL.shp he
    tem := (by rw [hk _ (by omega)]; exact hV.tem)
    sT := hV.sT.shp he
    tta := (by rw [hk _ (by omega)]; exact hV.tta)
    sH := hV.sH.shp he
    ata := fun p hp => (by rw [hk _ (by omega)]; exact hV.ata p hp)
    sta := fun p hp => (by rw [hk _ (by omega)]; exact hV.sta p hp)
    mrk := fun p hp => (by have hp : p < σ.nm := hp; rw [hk _ (by omega)]; exact hV.mrk p hp)
    ba := fun b hb i k hi hk2 => (by rw [ho b _ (V.neA hV hb)]; exact hV.ba b hb i k hi hk2)
    va := fun b hb i k hi hk2 => (by rw [ho b _ (V.neS hV hb)]; exact hV.va b hb i k hi hk2)
    og := fun b hb i k hi hk2 => (by rw [ho b _ (V.neS hV hb)]; exact hV.og b hb i k hi hk2)
    jk := fun b hb i hi => (by rw [ho b _ (V.neJ hV hb)]; exact hV.jk b hb i hi)
    jat := fun b hb i hi => (by rw [ho b _ (V.neJ hV hb)]; exact hV.jat b hb i hi)
    jnn := fun b hb i hi => (by rw [ho b _ (V.neJ hV hb)]; exact hV.jnn b hb i hi)
    jww := fun b hb i k hi hk2 => (by rw [ho b _ (V.neJ hV hb)]; exact hV.jww b hb i k hi hk2)
  }
theorem V.setNm {B s : Nat} {σ : VS} {w w' : World} (hV : V B w s σ) (hnm : σ.nm ≤ 16384) {m : Nat} (hm : m ≤ σ.nm) (he : Shp w w') (hW : Wr w w' s (24579) #[.int .i32 (m : Int)]) : V B w' s { σ with nm := m } := by
  have hk : ∀ o', o' ≠ 24579 → w'.cell? ⟨s, o', none⟩ = w.cell? ⟨s, o', none⟩ := fun o' h => by rw [hW s o', if_neg (by simp; omega)]
  have ho : ∀ b' o', b' ≠ s → w'.cell? ⟨b', o', none⟩ = w.cell? ⟨b', o', none⟩ := fun b' o' h => by rw [hW b' o', if_neg (fun h2 => h h2.1)]
  have hh : w'.cell? ⟨s, 24579, none⟩ = some (.int .i32 (m : Int)) := by rw [hW s (24579), if_pos (by simp)]; simp
  exact {
    sV := hV.sV.shp he
    acc := (by rw [hk _ (by omega)]; exact hV.acc)
    sA := hV.sA.shp he
    slo := (by rw [hk _ (by omega)]; exact hV.slo)
    sS := hV.sS.shp he
    jou := (by rw [hk _ (by omega)]; exact hV.jou)
    sJ := hV.sJ.shp he
    nmk := hh
    rf := (by rw [hk _ (by omega)]; exact hV.rf)
    log := (by rw [hk _ (by omega)]; exact hV.log)
    sL := hV.sL.shp he
    tem := (by rw [hk _ (by omega)]; exact hV.tem)
    sT := hV.sT.shp he
    tta := (by rw [hk _ (by omega)]; exact hV.tta)
    sH := hV.sH.shp he
    ata := fun p hp => (by rw [hk _ (by omega)]; exact hV.ata p hp)
    sta := fun p hp => (by rw [hk _ (by omega)]; exact hV.sta p hp)
    mrk := fun p hp => (by rw [hk _ (by have : p < m := hp; omega)]; exact hV.mrk p (Nat.lt_of_lt_of_le hp hm))
    ba := fun b hb i k hi hk2 => (by rw [ho b _ (V.neA hV hb)]; exact hV.ba b hb i k hi hk2)
    va := fun b hb i k hi hk2 => (by rw [ho b _ (V.neS hV hb)]; exact hV.va b hb i k hi hk2)
    og := fun b hb i k hi hk2 => (by rw [ho b _ (V.neS hV hb)]; exact hV.og b hb i k hi hk2)
    jk := fun b hb i hi => (by rw [ho b _ (V.neJ hV hb)]; exact hV.jk b hb i hi)
    jat := fun b hb i hi => (by rw [ho b _ (V.neJ hV hb)]; exact hV.jat b hb i hi)
    jnn := fun b hb i hi => (by rw [ho b _ (V.neJ hV hb)]; exact hV.jnn b hb i hi)
    jww := fun b hb i k hi hk2 => (by rw [ho b _ (V.neJ hV hb)]; exact hV.jww b hb i k hi hk2)
  }
theorem V.setNm1 {B s : Nat} {σ : VS} {w w' : World} (hV : V B w s σ) (hnm : σ.nm ≤ 16384) (hm : σ.nm ≤ 16383) {q : Nat} (hq : w.cell? ⟨s, 8195 + σ.nm, none⟩ = some (.int .i32 (q : Int))) (he : Shp w w') (hW : Wr w w' s (24579) #[.int .i32 ((σ.nm + 1 : Nat) : Int)]) : V B w' s { σ with nm := σ.nm + 1, mks := fun i => if i = σ.nm then q else σ.mks i } := by
  have hk : ∀ o', o' ≠ 24579 → w'.cell? ⟨s, o', none⟩ = w.cell? ⟨s, o', none⟩ := fun o' h => by rw [hW s o', if_neg (by simp; omega)]
  have ho : ∀ b' o', b' ≠ s → w'.cell? ⟨b', o', none⟩ = w.cell? ⟨b', o', none⟩ := fun b' o' h => by rw [hW b' o', if_neg (fun h2 => h h2.1)]
  have hh : w'.cell? ⟨s, 24579, none⟩ = some (.int .i32 ((σ.nm + 1 : Nat) : Int)) := by rw [hW s (24579), if_pos (by simp)]; simp
  exact {
    sV := hV.sV.shp he
    acc := (by rw [hk _ (by omega)]; exact hV.acc)
    sA := hV.sA.shp he
    slo := (by rw [hk _ (by omega)]; exact hV.slo)
    sS := hV.sS.shp he
    jou := (by rw [hk _ (by omega)]; exact hV.jou)
    sJ := hV.sJ.shp he
    nmk := hh
    rf := (by rw [hk _ (by omega)]; exact hV.rf)
    log := (by rw [hk _ (by omega)]; exact hV.log)
    sL := hV.sL.shp he
    tem := (by rw [hk _ (by omega)]; exact hV.tem)
    sT := hV.sT.shp he
    tta := (by rw [hk _ (by omega)]; exact hV.tta)
    sH := hV.sH.shp he
    ata := fun p hp => (by rw [hk _ (by omega)]; exact hV.ata p hp)
    sta := fun p hp => (by rw [hk _ (by omega)]; exact hV.sta p hp)
    mrk := fun p hp => (by have hp : p < σ.nm + 1 := hp; rw [hk _ (by omega)]; by_cases e : p = σ.nm; (subst e; simp only [if_true]; exact hq); simp only [e, if_false]; exact hV.mrk p (by omega))
    ba := fun b hb i k hi hk2 => (by rw [ho b _ (V.neA hV hb)]; exact hV.ba b hb i k hi hk2)
    va := fun b hb i k hi hk2 => (by rw [ho b _ (V.neS hV hb)]; exact hV.va b hb i k hi hk2)
    og := fun b hb i k hi hk2 => (by rw [ho b _ (V.neS hV hb)]; exact hV.og b hb i k hi hk2)
    jk := fun b hb i hi => (by rw [ho b _ (V.neJ hV hb)]; exact hV.jk b hb i hi)
    jat := fun b hb i hi => (by rw [ho b _ (V.neJ hV hb)]; exact hV.jat b hb i hi)
    jnn := fun b hb i hi => (by rw [ho b _ (V.neJ hV hb)]; exact hV.jnn b hb i hi)
    jww := fun b hb i k hi hk2 => (by rw [ho b _ (V.neJ hV hb)]; exact hV.jww b hb i k hi hk2)
  }
theorem V.setMark {B s : Nat} {σ : VS} {w w' : World} (hV : V B w s σ) (hnm : σ.nm ≤ 16384) {q : Nat} (hm : σ.nm ≤ 16383) (he : Shp w w') (hW : Wr w w' s (8195 + σ.nm) #[.int .i32 (q : Int)]) : V B w' s σ := by
  have hk : ∀ o', o' ≠ 8195 + σ.nm → w'.cell? ⟨s, o', none⟩ = w.cell? ⟨s, o', none⟩ := fun o' h => by rw [hW s o', if_neg (by simp; omega)]
  have ho : ∀ b' o', b' ≠ s → w'.cell? ⟨b', o', none⟩ = w.cell? ⟨b', o', none⟩ := fun b' o' h => by rw [hW b' o', if_neg (fun h2 => h h2.1)]
  have hh : w'.cell? ⟨s, 8195 + σ.nm, none⟩ = some (.int .i32 (q : Int)) := by rw [hW s (8195 + σ.nm), if_pos (by simp)]; simp
  exact {
    sV := hV.sV.shp he
    acc := (by rw [hk _ (by omega)]; exact hV.acc)
    sA := hV.sA.shp he
    slo := (by rw [hk _ (by omega)]; exact hV.slo)
    sS := hV.sS.shp he
    jou := (by rw [hk _ (by omega)]; exact hV.jou)
    sJ := hV.sJ.shp he
    nmk := (by rw [hk _ (by omega)]; exact hV.nmk)
    rf := (by rw [hk _ (by omega)]; exact hV.rf)
    log := (by rw [hk _ (by omega)]; exact hV.log)
    sL := hV.sL.shp he
    tem := (by rw [hk _ (by omega)]; exact hV.tem)
    sT := hV.sT.shp he
    tta := (by rw [hk _ (by omega)]; exact hV.tta)
    sH := hV.sH.shp he
    ata := fun p hp => (by rw [hk _ (by omega)]; exact hV.ata p hp)
    sta := fun p hp => (by rw [hk _ (by omega)]; exact hV.sta p hp)
    mrk := fun p hp => (by rw [hk _ (by omega)]; exact hV.mrk p hp)
    ba := fun b hb i k hi hk2 => (by rw [ho b _ (V.neA hV hb)]; exact hV.ba b hb i k hi hk2)
    va := fun b hb i k hi hk2 => (by rw [ho b _ (V.neS hV hb)]; exact hV.va b hb i k hi hk2)
    og := fun b hb i k hi hk2 => (by rw [ho b _ (V.neS hV hb)]; exact hV.og b hb i k hi hk2)
    jk := fun b hb i hi => (by rw [ho b _ (V.neJ hV hb)]; exact hV.jk b hb i hi)
    jat := fun b hb i hi => (by rw [ho b _ (V.neJ hV hb)]; exact hV.jat b hb i hi)
    jnn := fun b hb i hi => (by rw [ho b _ (V.neJ hV hb)]; exact hV.jnn b hb i hi)
    jww := fun b hb i k hi hk2 => (by rw [ho b _ (V.neJ hV hb)]; exact hV.jww b hb i k hi hk2)
  }
theorem V.setAta {B s : Nat} {σ : VS} {w w' : World} (hV : V B w s σ) (hnm : σ.nm ≤ 16384) {q : Nat} {z : Int} (hq : q < 4096) (he : Shp w w') (hW : Wr w w' s (2 + q) #[.int .i32 z]) : V B w' s { σ with atab := upI σ.atab q z } := by
  have hk : ∀ o', o' ≠ 2 + q → w'.cell? ⟨s, o', none⟩ = w.cell? ⟨s, o', none⟩ := fun o' h => by rw [hW s o', if_neg (by simp; omega)]
  have ho : ∀ b' o', b' ≠ s → w'.cell? ⟨b', o', none⟩ = w.cell? ⟨b', o', none⟩ := fun b' o' h => by rw [hW b' o', if_neg (fun h2 => h h2.1)]
  have hh : w'.cell? ⟨s, 2 + q, none⟩ = some (.int .i32 z) := by rw [hW s (2 + q), if_pos (by simp)]; simp
  exact {
    sV := hV.sV.shp he
    acc := (by rw [hk _ (by omega)]; exact hV.acc)
    sA := hV.sA.shp he
    slo := (by rw [hk _ (by omega)]; exact hV.slo)
    sS := hV.sS.shp he
    jou := (by rw [hk _ (by omega)]; exact hV.jou)
    sJ := hV.sJ.shp he
    nmk := (by rw [hk _ (by omega)]; exact hV.nmk)
    rf := (by rw [hk _ (by omega)]; exact hV.rf)
    log := (by rw [hk _ (by omega)]; exact hV.log)
    sL := hV.sL.shp he
    tem := (by rw [hk _ (by omega)]; exact hV.tem)
    sT := hV.sT.shp he
    tta := (by rw [hk _ (by omega)]; exact hV.tta)
    sH := hV.sH.shp he
    ata := fun p hp => (by by_cases e : p = q; (subst e; rw [hh]; simp [upI]); rw [hk _ (by omega), hV.ata p hp]; simp [upI, e])
    sta := fun p hp => (by rw [hk _ (by omega)]; exact hV.sta p hp)
    mrk := fun p hp => (by have hp : p < σ.nm := hp; rw [hk _ (by omega)]; exact hV.mrk p hp)
    ba := fun b hb i k hi hk2 => (by rw [ho b _ (V.neA hV hb)]; exact hV.ba b hb i k hi hk2)
    va := fun b hb i k hi hk2 => (by rw [ho b _ (V.neS hV hb)]; exact hV.va b hb i k hi hk2)
    og := fun b hb i k hi hk2 => (by rw [ho b _ (V.neS hV hb)]; exact hV.og b hb i k hi hk2)
    jk := fun b hb i hi => (by rw [ho b _ (V.neJ hV hb)]; exact hV.jk b hb i hi)
    jat := fun b hb i hi => (by rw [ho b _ (V.neJ hV hb)]; exact hV.jat b hb i hi)
    jnn := fun b hb i hi => (by rw [ho b _ (V.neJ hV hb)]; exact hV.jnn b hb i hi)
    jww := fun b hb i k hi hk2 => (by rw [ho b _ (V.neJ hV hb)]; exact hV.jww b hb i k hi hk2)
  }
theorem V.setSta {B s : Nat} {σ : VS} {w w' : World} (hV : V B w s σ) (hnm : σ.nm ≤ 16384) {q : Nat} {z : Int} (hq : q < 4096) (he : Shp w w') (hW : Wr w w' s (4098 + q) #[.int .i32 z]) : V B w' s { σ with stab := upI σ.stab q z } := by
  have hk : ∀ o', o' ≠ 4098 + q → w'.cell? ⟨s, o', none⟩ = w.cell? ⟨s, o', none⟩ := fun o' h => by rw [hW s o', if_neg (by simp; omega)]
  have ho : ∀ b' o', b' ≠ s → w'.cell? ⟨b', o', none⟩ = w.cell? ⟨b', o', none⟩ := fun b' o' h => by rw [hW b' o', if_neg (fun h2 => h h2.1)]
  have hh : w'.cell? ⟨s, 4098 + q, none⟩ = some (.int .i32 z) := by rw [hW s (4098 + q), if_pos (by simp)]; simp
  exact {
    sV := hV.sV.shp he
    acc := (by rw [hk _ (by omega)]; exact hV.acc)
    sA := hV.sA.shp he
    slo := (by rw [hk _ (by omega)]; exact hV.slo)
    sS := hV.sS.shp he
    jou := (by rw [hk _ (by omega)]; exact hV.jou)
    sJ := hV.sJ.shp he
    nmk := (by rw [hk _ (by omega)]; exact hV.nmk)
    rf := (by rw [hk _ (by omega)]; exact hV.rf)
    log := (by rw [hk _ (by omega)]; exact hV.log)
    sL := hV.sL.shp he
    tem := (by rw [hk _ (by omega)]; exact hV.tem)
    sT := hV.sT.shp he
    tta := (by rw [hk _ (by omega)]; exact hV.tta)
    sH := hV.sH.shp he
    ata := fun p hp => (by rw [hk _ (by omega)]; exact hV.ata p hp)
    sta := fun p hp => (by by_cases e : p = q; (subst e; rw [hh]; simp [upI]); rw [hk _ (by omega), hV.sta p hp]; simp [upI, e])
    mrk := fun p hp => (by have hp : p < σ.nm := hp; rw [hk _ (by omega)]; exact hV.mrk p hp)
    ba := fun b hb i k hi hk2 => (by rw [ho b _ (V.neA hV hb)]; exact hV.ba b hb i k hi hk2)
    va := fun b hb i k hi hk2 => (by rw [ho b _ (V.neS hV hb)]; exact hV.va b hb i k hi hk2)
    og := fun b hb i k hi hk2 => (by rw [ho b _ (V.neS hV hb)]; exact hV.og b hb i k hi hk2)
    jk := fun b hb i hi => (by rw [ho b _ (V.neJ hV hb)]; exact hV.jk b hb i hi)
    jat := fun b hb i hi => (by rw [ho b _ (V.neJ hV hb)]; exact hV.jat b hb i hi)
    jnn := fun b hb i hi => (by rw [ho b _ (V.neJ hV hb)]; exact hV.jnn b hb i hi)
    jww := fun b hb i k hi hk2 => (by rw [ho b _ (V.neJ hV hb)]; exact hV.jww b hb i k hi hk2)
  }

/-- A block other than the vault's own has been written. -/
theorem V.arena {B s : Nat} {σ : VS} {w w' : World} {b T n c : Nat} (hV : V B w s σ) (he : Shp w w') (ho : ∀ b' o', b' ≠ b → w'.cell? ⟨b', o', none⟩ = w.cell? ⟨b', o', none⟩) (hT : Sl B w T (some ⟨b, 0, none⟩) n c) (h86 : T ≠ 86) {bal val orig jw : Nat → Nat → Nat} {kd ja jn : Nat → Nat}
    (h1 : ∀ b, σ.aA = some ⟨b, 0, none⟩ → ∀ i k, i < σ.na → k < 4 → w'.cell? ⟨b, i * 29 + (21 + k), none⟩ = some (.int .u64 (bal i k : Int)))
    (h2 : ∀ b, σ.aS = some ⟨b, 0, none⟩ → ∀ i k, i < σ.ns → k < 4 → w'.cell? ⟨b, i * 14 + (5 + k), none⟩ = some (.int .u64 (val i k : Int)))
    (h3 : ∀ b, σ.aS = some ⟨b, 0, none⟩ → ∀ i k, i < σ.ns → k < 4 → w'.cell? ⟨b, i * 14 + (9 + k), none⟩ = some (.int .u64 (orig i k : Int)))
    (h4 : ∀ b, σ.aJ = some ⟨b, 0, none⟩ → ∀ i, i < σ.nj → w'.cell? ⟨b, i * 9 + 0, none⟩ = some (.int .u8 (kd i : Int)))
    (h5 : ∀ b, σ.aJ = some ⟨b, 0, none⟩ → ∀ i, i < σ.nj → w'.cell? ⟨b, i * 9 + 1, none⟩ = some (.int .i32 (ja i : Int)))
    (h6 : ∀ b, σ.aJ = some ⟨b, 0, none⟩ → ∀ i, i < σ.nj → w'.cell? ⟨b, i * 9 + 2, none⟩ = some (.int .u64 (jn i : Int)))
    (h7 : ∀ b, σ.aJ = some ⟨b, 0, none⟩ → ∀ i k, i < σ.nj → k < 4 → w'.cell? ⟨b, i * 9 + (3 + k), none⟩ = some (.int .u64 (jw i k : Int))) :
    V B w' s { σ with bal := bal, val := val, orig := orig, kd := kd, ja := ja, jn := jn, jw := jw } := by
  have hs : s ≠ b := (Sl.ne hT hV.sV h86).symm
  exact {
    sV := hV.sV.shp he
    acc := (by rw [ho _ _ hs]; exact hV.acc)
    sA := hV.sA.shp he
    slo := (by rw [ho _ _ hs]; exact hV.slo)
    sS := hV.sS.shp he
    jou := (by rw [ho _ _ hs]; exact hV.jou)
    sJ := hV.sJ.shp he
    nmk := (by rw [ho _ _ hs]; exact hV.nmk)
    rf := (by rw [ho _ _ hs]; exact hV.rf)
    log := (by rw [ho _ _ hs]; exact hV.log)
    sL := hV.sL.shp he
    tem := (by rw [ho _ _ hs]; exact hV.tem)
    sT := hV.sT.shp he
    tta := (by rw [ho _ _ hs]; exact hV.tta)
    sH := hV.sH.shp he
    ata := fun p hp => (by rw [ho _ _ hs]; exact hV.ata p hp)
    sta := fun p hp => (by rw [ho _ _ hs]; exact hV.sta p hp)
    mrk := fun p hp => (by rw [ho _ _ hs]; exact hV.mrk p hp)
    ba := h1
    va := h2
    og := h3
    jk := h4
    jat := h5
    jnn := h6
    jww := h7
  }
section
variable {B s : Nat} {σ : VS} {w w' : World} {b T n c : Nat}
theorem V.ba_keep (hV : V B w s σ) (ho : ∀ b' o', b' ≠ b → w'.cell? ⟨b', o', none⟩ = w.cell? ⟨b', o', none⟩) (hT : Sl B w T (some ⟨b, 0, none⟩) n c) (hne : T ≠ 148) : ∀ b, σ.aA = some ⟨b, 0, none⟩ → ∀ i k, i < σ.na → k < 4 → w'.cell? ⟨b, i * 29 + (21 + k), none⟩ = some (.int .u64 (σ.bal i k : Int)) :=
  fun b' hb i k hi hk => by rw [ho _ _ (Sl.ne (hb ▸ hV.sA) hT hne.symm)]; exact hV.ba b' hb i k hi hk
theorem V.va_keep (hV : V B w s σ) (ho : ∀ b' o', b' ≠ b → w'.cell? ⟨b', o', none⟩ = w.cell? ⟨b', o', none⟩) (hT : Sl B w T (some ⟨b, 0, none⟩) n c) (hne : T ≠ 153) : ∀ b, σ.aS = some ⟨b, 0, none⟩ → ∀ i k, i < σ.ns → k < 4 → w'.cell? ⟨b, i * 14 + (5 + k), none⟩ = some (.int .u64 (σ.val i k : Int)) :=
  fun b' hb i k hi hk => by rw [ho _ _ (Sl.ne (hb ▸ hV.sS) hT hne.symm)]; exact hV.va b' hb i k hi hk
theorem V.og_keep (hV : V B w s σ) (ho : ∀ b' o', b' ≠ b → w'.cell? ⟨b', o', none⟩ = w.cell? ⟨b', o', none⟩) (hT : Sl B w T (some ⟨b, 0, none⟩) n c) (hne : T ≠ 153) : ∀ b, σ.aS = some ⟨b, 0, none⟩ → ∀ i k, i < σ.ns → k < 4 → w'.cell? ⟨b, i * 14 + (9 + k), none⟩ = some (.int .u64 (σ.orig i k : Int)) :=
  fun b' hb i k hi hk => by rw [ho _ _ (Sl.ne (hb ▸ hV.sS) hT hne.symm)]; exact hV.og b' hb i k hi hk
theorem V.jk_keep (hV : V B w s σ) (ho : ∀ b' o', b' ≠ b → w'.cell? ⟨b', o', none⟩ = w.cell? ⟨b', o', none⟩) (hT : Sl B w T (some ⟨b, 0, none⟩) n c) (hne : T ≠ 178) : ∀ b, σ.aJ = some ⟨b, 0, none⟩ → ∀ i, i < σ.nj → w'.cell? ⟨b, i * 9 + 0, none⟩ = some (.int .u8 (σ.kd i : Int)) :=
  fun b' hb i hi => by rw [ho _ _ (Sl.ne (hb ▸ hV.sJ) hT hne.symm)]; exact hV.jk b' hb i hi
theorem V.jat_keep (hV : V B w s σ) (ho : ∀ b' o', b' ≠ b → w'.cell? ⟨b', o', none⟩ = w.cell? ⟨b', o', none⟩) (hT : Sl B w T (some ⟨b, 0, none⟩) n c) (hne : T ≠ 178) : ∀ b, σ.aJ = some ⟨b, 0, none⟩ → ∀ i, i < σ.nj → w'.cell? ⟨b, i * 9 + 1, none⟩ = some (.int .i32 (σ.ja i : Int)) :=
  fun b' hb i hi => by rw [ho _ _ (Sl.ne (hb ▸ hV.sJ) hT hne.symm)]; exact hV.jat b' hb i hi
theorem V.jnn_keep (hV : V B w s σ) (ho : ∀ b' o', b' ≠ b → w'.cell? ⟨b', o', none⟩ = w.cell? ⟨b', o', none⟩) (hT : Sl B w T (some ⟨b, 0, none⟩) n c) (hne : T ≠ 178) : ∀ b, σ.aJ = some ⟨b, 0, none⟩ → ∀ i, i < σ.nj → w'.cell? ⟨b, i * 9 + 2, none⟩ = some (.int .u64 (σ.jn i : Int)) :=
  fun b' hb i hi => by rw [ho _ _ (Sl.ne (hb ▸ hV.sJ) hT hne.symm)]; exact hV.jnn b' hb i hi
theorem V.jww_keep (hV : V B w s σ) (ho : ∀ b' o', b' ≠ b → w'.cell? ⟨b', o', none⟩ = w.cell? ⟨b', o', none⟩) (hT : Sl B w T (some ⟨b, 0, none⟩) n c) (hne : T ≠ 178) : ∀ b, σ.aJ = some ⟨b, 0, none⟩ → ∀ i k, i < σ.nj → k < 4 → w'.cell? ⟨b, i * 9 + (3 + k), none⟩ = some (.int .u64 (σ.jw i k : Int)) :=
  fun b' hb i k hi hk => by rw [ho _ _ (Sl.ne (hb ▸ hV.sJ) hT hne.symm)]; exact hV.jww b' hb i k hi hk
theorem Wr.ne {o : Nat} {cs : Array Value} (h : Wr w w' b o cs) : ∀ b' o', b' ≠ b → w'.cell? ⟨b', o', none⟩ = w.cell? ⟨b', o', none⟩ := fun b' o' hb => by rw [h b' o', if_neg (fun h2 => hb h2.1)]
/-- A store into the accounts' arena that leaves the balances. -/
theorem V.acctSet {o : Nat} {cs : Array Value} (hV : V B w s σ) (he : Shp w w') (hb : σ.aA = some ⟨b, 0, none⟩) (hW : Wr w w' b o cs) (hout : ∀ i k, k < 4 → ¬ (o ≤ i * 29 + (21 + k) ∧ i * 29 + (21 + k) < o + cs.size)) : V B w' s σ :=
  have hT : Sl B w 148 (some ⟨b, 0, none⟩) σ.na σ.cA := hb ▸ hV.sA
  V.arena hV he hW.ne hT (by decide) (fun b' hb' i k hi hk => by rw [hb] at hb'; cases hb'; rw [hW, if_neg (fun h => hout i k hk h.2)]; exact hV.ba b hb i k hi hk) (hV.va_keep hW.ne hT (by decide)) (hV.og_keep hW.ne hT (by decide)) (hV.jk_keep hW.ne hT (by decide)) (hV.jat_keep hW.ne hT (by decide)) (hV.jnn_keep hW.ne hT (by decide)) (hV.jww_keep hW.ne hT (by decide))
theorem V.balSet {i0 : Nat} {g : Nat → Nat} (hV : V B w s σ) (he : Shp w w') (hb : σ.aA = some ⟨b, 0, none⟩) (hW : Wr w w' b (i0 * 29 + 21) (ns .u64 4 g)) : V B w' s { σ with bal := fun i k => if i = i0 then g k else σ.bal i k } :=
  have hT : Sl B w 148 (some ⟨b, 0, none⟩) σ.na σ.cA := hb ▸ hV.sA
  V.arena hV he hW.ne hT (by decide) (fun b' hb' i k hi hk => by
    rw [hb] at hb'; cases hb'
    rw [hW]
    by_cases e : i = i0
    · subst e
      rw [if_pos ⟨rfl, by omega, by rw [ns_size]; omega⟩, show i * 29 + (21 + k) - (i * 29 + 21) = k by omega, ns_get hk]
      simp
    · rw [if_neg (fun h => by have := h.2; rw [ns_size] at this; omega), hV.ba b hb i k hi hk]
      simp [e]) (hV.va_keep hW.ne hT (by decide)) (hV.og_keep hW.ne hT (by decide)) (hV.jk_keep hW.ne hT (by decide)) (hV.jat_keep hW.ne hT (by decide)) (hV.jnn_keep hW.ne hT (by decide)) (hV.jww_keep hW.ne hT (by decide))
theorem V.slotSet {o : Nat} {cs : Array Value} (hV : V B w s σ) (he : Shp w w') (hb : σ.aS = some ⟨b, 0, none⟩) (hW : Wr w w' b o cs) (hout : ∀ i k, k < 8 → ¬ (o ≤ i * 14 + (5 + k) ∧ i * 14 + (5 + k) < o + cs.size)) : V B w' s σ :=
  have hT : Sl B w 153 (some ⟨b, 0, none⟩) σ.ns σ.cS := hb ▸ hV.sS
  V.arena hV he hW.ne hT (by decide) (hV.ba_keep hW.ne hT (by decide)) (fun b' hb' i k hi hk => by rw [hb] at hb'; cases hb'; rw [hW, if_neg (fun h => hout i k (by omega) h.2)]; exact hV.va b hb i k hi hk) (fun b' hb' i k hi hk => by rw [hb] at hb'; cases hb'; rw [hW, if_neg (fun h => hout i (4 + k) (by omega) (by have := h.2; omega))]; exact hV.og b hb i k hi hk) (hV.jk_keep hW.ne hT (by decide)) (hV.jat_keep hW.ne hT (by decide)) (hV.jnn_keep hW.ne hT (by decide)) (hV.jww_keep hW.ne hT (by decide))
theorem V.valSet {i0 : Nat} {g : Nat → Nat} (hV : V B w s σ) (he : Shp w w') (hb : σ.aS = some ⟨b, 0, none⟩) (hW : Wr w w' b (i0 * 14 + 5) (ns .u64 4 g)) : V B w' s { σ with val := fun i k => if i = i0 then g k else σ.val i k } :=
  have hT : Sl B w 153 (some ⟨b, 0, none⟩) σ.ns σ.cS := hb ▸ hV.sS
  V.arena hV he hW.ne hT (by decide) (hV.ba_keep hW.ne hT (by decide)) (fun b' hb' i k hi hk => by
    rw [hb] at hb'; cases hb'
    rw [hW]
    by_cases e : i = i0
    · subst e
      rw [if_pos ⟨rfl, by omega, by rw [ns_size]; omega⟩, show i * 14 + (5 + k) - (i * 14 + 5) = k by omega, ns_get hk]
      simp
    · rw [if_neg (fun h => by have := h.2; rw [ns_size] at this; omega), hV.va b hb i k hi hk]
      simp [e]) (fun b' hb' i k hi hk => by rw [hb] at hb'; cases hb'; rw [hW, if_neg (fun h => by have := h.2; rw [ns_size] at this; omega)]; exact hV.og b hb i k hi hk) (hV.jk_keep hW.ne hT (by decide)) (hV.jat_keep hW.ne hT (by decide)) (hV.jnn_keep hW.ne hT (by decide)) (hV.jww_keep hW.ne hT (by decide))
theorem V.origSet {i0 : Nat} {g : Nat → Nat} (hV : V B w s σ) (he : Shp w w') (hb : σ.aS = some ⟨b, 0, none⟩) (hW : Wr w w' b (i0 * 14 + 9) (ns .u64 4 g)) : V B w' s { σ with orig := fun i k => if i = i0 then g k else σ.orig i k } :=
  have hT : Sl B w 153 (some ⟨b, 0, none⟩) σ.ns σ.cS := hb ▸ hV.sS
  V.arena hV he hW.ne hT (by decide) (hV.ba_keep hW.ne hT (by decide)) (fun b' hb' i k hi hk => by rw [hb] at hb'; cases hb'; rw [hW, if_neg (fun h => by have := h.2; rw [ns_size] at this; omega)]; exact hV.va b hb i k hi hk) (fun b' hb' i k hi hk => by
    rw [hb] at hb'; cases hb'
    rw [hW]
    by_cases e : i = i0
    · subst e
      rw [if_pos ⟨rfl, by omega, by rw [ns_size]; omega⟩, show i * 14 + (9 + k) - (i * 14 + 9) = k by omega, ns_get hk]
      simp
    · rw [if_neg (fun h => by have := h.2; rw [ns_size] at this; omega), hV.og b hb i k hi hk]
      simp [e]) (hV.jk_keep hW.ne hT (by decide)) (hV.jat_keep hW.ne hT (by decide)) (hV.jnn_keep hW.ne hT (by decide)) (hV.jww_keep hW.ne hT (by decide))
/-- A store into an arena of which nothing is told. -/
theorem V.freeSet {o : Nat} {cs : Array Value} (hV : V B w s σ) (he : Shp w w') (hT : Sl B w T (some ⟨b, 0, none⟩) n c) (hW : Wr w w' b o cs) (h1 : T ≠ 86) (h2 : T ≠ 148) (h3 : T ≠ 153) (h4 : T ≠ 178) : V B w' s σ :=
  V.arena hV he hW.ne hT h1 (hV.ba_keep hW.ne hT h2) (hV.va_keep hW.ne hT h3) (hV.og_keep hW.ne hT h3) (hV.jk_keep hW.ne hT h4) (hV.jat_keep hW.ne hT h4) (hV.jnn_keep hW.ne hT h4) (hV.jww_keep hW.ne hT h4)
end
section
variable {P : Program} {ops : Array Oper} {e : Bool} {K : Env → World → Prop} {Q : Exit → Env → World → Prop} {ρ : Env} {w w0 wS : World} {d : Nat} {ty : TypeId} {pos : String} {af : Array Edge} {n B : Nat} {L : List Fact} {M : List (Nat × Array Value)}
theorem TS.renew {w' : World} (h : TS B w0 w L M) (ht : WT B w') (he : Shp w w') : TS B w' w' L M := ⟨ht, Ext.refl w', fun x hx => (h.l x hx).shp he, fun x hx => (h.m x hx).shp he⟩
theorem O_stM {s : Nat} {σ : VS} {t b o T n cap : Nat} {v : Value} {x y : Operand} (h : TS B w0 w L M) (hV : V B w0 s σ) (hM : Mu B wS w0) (hm : (T, some ⟨b, 0, none⟩, n, cap) ∈ L) (hmt : mutT T = true) (ht : oneT P t) (hx : ev ρ x = .pointer (some ⟨b, o, none⟩)) (hy : ev ρ y = v) (ho : o < cap * csz T) (hv : okV B w (lay T (o % csz T)) v) (he : e = false)
    (k : ∀ w', TS B w' w' L M → Mu B wS w' → Shp w w' → V B w s σ → Wr w w' b o #[v] → K ρ w') : WO P ops ⟨none, .store t x y, ty, pos, af, none⟩ e K ρ w := by
  obtain ⟨hB, c, hb, hs⟩ := h.row hm
  refine O_store ht hx hy hv.one hb (by omega) he fun w' hu => ?_
  have hw : WT B w' := h.t.upd hb hu (by simp) fun j u hj => by
    by_cases e1 : j = o
    · subst e1
      rw [Array.getElem?_setIfInBounds] at hj
      split at hj
      · split at hj
        · cases hj; exact hv
        · cases hj
      · exact h.t.ok b c T hB hb _ u hj
    · rw [Array.getElem?_setIfInBounds_ne (Ne.symm e1)] at hj
      exact h.t.ok b c T hB hb _ u hj
  have hp := hu.shp hb (by simp)
  exact k w' (h.renew hw hp) ((hM.trans (h.e.mu hV.B0)).trans (hu.mu hb (by simp) hB hmt)) hp (hV.ext h.e) (hu.wr1 hb (by omega))
theorem O_stMa {s : Nat} {σ : VS} {t m b o T n cap : Nat} {cs : Array Value} {x y : Operand} (h : TS B w0 w L M) (hV : V B w0 s σ) (hM : Mu B wS w0) (hm : (T, some ⟨b, 0, none⟩, n, cap) ∈ L) (hmt : mutT T = true) (ht : aggT P t m) (hx : ev ρ x = .pointer (some ⟨b, o, none⟩)) (hy : ev ρ y = .agg cs) (hcs : cs.size = m) (ho : o + m ≤ cap * csz T)
    (hv : ∀ j v, cs[j]? = some v → okV B w (lay T ((o + j) % csz T)) v) (he : e = false)
    (k : ∀ w', TS B w' w' L M → Mu B wS w' → Shp w w' → V B w s σ → Wr w w' b o cs → K ρ w') : WO P ops ⟨none, .store t x y, ty, pos, af, none⟩ e K ρ w := by
  obtain ⟨hB, c, hb, hs⟩ := h.row hm
  refine O_store_agg ht hx hy hcs (fun v hv' => ?_) hb (by omega) he fun w' hu => ?_
  · obtain ⟨j, hj⟩ := List.getElem?_of_mem hv'
    exact (hv j v (by simpa using hj)).one
  have hsz : (spl c o cs.toList).size = c.size := spl_size _ _ _
  have hw : WT B w' := h.t.upd hb hu hsz fun j u hj => by
    rw [spl_get _ _ _ _ (by simp; omega)] at hj
    split at hj
    · have := hv (j - o) u (by simpa using hj)
      rw [show o + (j - o) = j by omega] at this; exact this
    · exact h.t.ok b c T hB hb _ u hj
  have hp := hu.shp hb hsz
  exact k w' (h.renew hw hp) ((hM.trans (h.e.mu hV.B0)).trans (hu.mu hb hsz hB hmt)) hp (hV.ext h.e) (hu.wr hb (by omega))
theorem O_stM64 {s : Nat} {σ : VS} {t b o T n cap : Nat} {g : Nat → Nat} {x y : Operand} (h : TS B w0 w L M) (hV : V B w0 s σ) (hM : Mu B wS w0) (hm : (T, some ⟨b, 0, none⟩, n, cap) ∈ L) (hmt : mutT T = true) (ht : aggT P t 4) (hx : ev ρ x = .pointer (some ⟨b, o, none⟩)) (hy : ev ρ y = .agg (ns .u64 4 g)) (hg : ∀ i, g i < 18446744073709551616) (ho : o + 4 ≤ cap * csz T)
    (hc : ∀ j, j < 4 → lay T ((o + j) % csz T) = 2) (he : e = false)
    (k : ∀ w', TS B w' w' L M → Mu B wS w' → Shp w w' → V B w s σ → Wr w w' b o (ns .u64 4 g) → K ρ w') : WO P ops ⟨none, .store t x y, ty, pos, af, none⟩ e K ρ w :=
  O_stMa h hV hM hm hmt ht hx hy (ns_size _ _ _) ho (fun j v hj => by rw [hc j (by have := get_lt hj; rw [ns_size] at this; exact this)]; exact ns_ok64 hg j v hj) he k
end
end Go.Proofs.Ygcsam
