/-
  THE OPERATIONS, ONE RULE EACH, over YgcsamVc's frames. Own work.
-/
import Derived.Test.YgcsamVc
import Derived.Laws.Cells
namespace Go.Proofs.Ygcsam
set_option linter.unusedVariables false
set_option linter.unusedSimpArgs false

/-! ### memory -/
/-- Block b is a row of cells c, none of them frozen. -/
def Blk (w : World) (b : Nat) (c : Array Value) (t : TypeId) : Prop := w.heap[b]? = some (.cells c t (0, 0))

theorem Blk.lt {w : World} {b : Nat} {c : Array Value} {t : TypeId} (h : Blk w b c t) : b < w.heap.size := by
  rcases Nat.lt_or_ge b w.heap.size with h' | h'
  · exact h'
  · unfold Blk at h; rw [Array.getElem?_eq_none h'] at h; cases h

theorem Blk.ext {w w' : World} {b : Nat} {c : Array Value} {t : TypeId} (h : Blk w b c t) (e : Ext w w') : Blk w' b c t := (e.block b h.lt).trans h

theorem Blk.uniq {w : World} {b : Nat} {c c' : Array Value} {t t' : TypeId} (h : Blk w b c t) (h' : Blk w b c' t') : c = c' ∧ t = t' := by
  unfold Blk at *; rw [h] at h'; simpa using h'

theorem Blk.cell {w : World} {b o : Nat} {c : Array Value} {t : TypeId} {v : Value} (h : Blk w b c t) (hv : c[o]? = some v) : w.cell? ⟨b, o, none⟩ = some v := by
  unfold Blk at h; simp [World.cell?, h, hv]

theorem Blk.frozen {w : World} {b o : Nat} {c : Array Value} {t : TypeId} (h : Blk w b c t) : w.frozen? ⟨b, o, none⟩ = false := by
  unfold Blk at h; simp [World.frozen?, h]

/-- The world has new blocks, draws, and writes to the blocks of S alone. -/
structure Mod (S : List Nat) (w w' : World) : Prop where
  os : w'.os = w.os
  tape : w'.tape = w.tape
  output : w'.output = w.output
  size : w.heap.size ≤ w'.heap.size
  block : ∀ k, k < w.heap.size → k ∉ S → w'.heap[k]? = w.heap[k]?

theorem Mod.refl (S : List Nat) (w : World) : Mod S w w := ⟨rfl, rfl, rfl, Nat.le_refl _, fun _ _ _ => rfl⟩
theorem Mod.trans {S : List Nat} {a b c : World} (h : Mod S a b) (k : Mod S b c) : Mod S a c :=
  ⟨k.os.trans h.os, k.tape.trans h.tape, k.output.trans h.output, Nat.le_trans h.size k.size,
    fun i hi hs => (k.block i (Nat.lt_of_lt_of_le hi h.size) hs).trans (h.block i hi hs)⟩
/-- What was written above the old blocks does not count. -/
theorem Mod.trans' {S S' : List Nat} {a b c : World} (h : Mod S a b) (k : Mod S' b c) (hs : ∀ x ∈ S', x ∈ S ∨ a.heap.size ≤ x) : Mod S a c :=
  ⟨k.os.trans h.os, k.tape.trans h.tape, k.output.trans h.output, Nat.le_trans h.size k.size,
    fun i hi hn => (k.block i (Nat.lt_of_lt_of_le hi h.size) (fun hx => by rcases hs i hx with h1 | h1 <;> first | exact hn h1 | omega)).trans (h.block i hi hn)⟩
theorem Ext.mod {w w' : World} (h : Ext w w') (S : List Nat) : Mod S w w' := ⟨h.os, h.tape, h.output, h.size, fun k hk _ => h.block k hk⟩
theorem Mod.ext {w w' : World} (h : Mod [] w w') : Ext w w' := ⟨h.os, h.tape, h.output, h.size, fun k hk => h.block k hk (by simp)⟩
theorem Blk.mod {S : List Nat} {w w' : World} {b : Nat} {c : Array Value} {t : TypeId} (h : Blk w b c t) (e : Mod S w w') (hb : b ∉ S) : Blk w' b c t := (e.block b h.lt hb).trans h
theorem Ext.drew (w : World) : Ext w { w with drawn := w.drawn + 1 } := ⟨rfl, rfl, rfl, Nat.le_refl _, fun _ _ => rfl⟩
theorem Blk.drew {w : World} {b : Nat} {c : Array Value} {t : TypeId} (h : Blk w b c t) : Blk { w with drawn := w.drawn + 1 } b c t := h

/-- One block has been written. -/
structure Upd (w w' : World) (b : Nat) (c : Array Value) (t : TypeId) : Prop where
  os : w'.os = w.os
  tape : w'.tape = w.tape
  output : w'.output = w.output
  size : w'.heap.size = w.heap.size
  block : ∀ k, k ≠ b → w'.heap[k]? = w.heap[k]?
  here : Blk w' b c t

theorem Upd.mod {w w' : World} {b : Nat} {c : Array Value} {t : TypeId} (h : Upd w w' b c t) : Mod [b] w w' :=
  ⟨h.os, h.tape, h.output, by rw [h.size]; exact Nat.le_refl _, fun k _ hk => h.block k (by simpa using hk)⟩
theorem Blk.upd {w w' : World} {b b' : Nat} {c c' : Array Value} {t t' : TypeId} (h : Blk w b c t) (e : Upd w w' b' c' t') (hb : b ≠ b') : Blk w' b c t := (e.block b hb).trans h

theorem upd_setCell {w : World} {b o : Nat} {c : Array Value} {t : TypeId} (h : Blk w b c t) (v : Value) : Upd w (w.setCell ⟨b, o, none⟩ v) b (c.setIfInBounds o v) t := by
  refine ⟨rfl, rfl, rfl, by simp [World.setCell], fun k hk => ?_, ?_⟩
  · simp only [World.setCell, Array.getElem?_modify]; rw [if_neg (Ne.symm hk)]
  · unfold Blk at *
    simp [World.setCell, Array.getElem?_modify, h]

theorem Upd.trans {w w' w'' : World} {b : Nat} {c c' : Array Value} {t t' : TypeId} (h : Upd w w' b c t) (k : Upd w' w'' b c' t') : Upd w w'' b c' t' :=
  ⟨k.os.trans h.os, k.tape.trans h.tape, k.output.trans h.output, k.size.trans h.size, fun i hi => (k.block i hi).trans (h.block i hi), k.here⟩

theorem addr_add (b o n : Nat) : (⟨b, o, none⟩ : Addr).add n = ⟨b, o + n, none⟩ := by
  unfold Addr.add; split
  · subst_vars; rfl
  · rfl

/-- c with vs laid from o on. -/
def spl (c : Array Value) (o : Nat) : List Value → Array Value
  | [] => c
  | v :: vs => spl (c.setIfInBounds o v) (o + 1) vs

theorem spl_size (vs : List Value) : ∀ (c : Array Value) (o : Nat), (spl c o vs).size = c.size := by
  induction vs with
  | nil => intro c o; rfl
  | cons v vs ih => intro c o; simp [spl, ih]

theorem spl_get (vs : List Value) : ∀ (c : Array Value) (o j : Nat), o + vs.length ≤ c.size → (spl c o vs)[j]? = if o ≤ j ∧ j < o + vs.length then vs[j - o]? else c[j]? := by
  induction vs with
  | nil => intro c o j _; simp only [spl, List.length_nil]; rw [if_neg (by omega)]
  | cons v vs ih =>
    intro c o j h
    simp only [List.length_cons] at h ⊢
    simp only [spl]
    rw [ih _ _ _ (by simp; omega)]
    by_cases h1 : o + 1 ≤ j ∧ j < o + 1 + vs.length
    · rw [if_pos h1, if_pos (by omega), show j - o = (j - (o + 1)) + 1 by omega]; rfl
    · rw [if_neg h1]
      by_cases h2 : j = o
      · subst h2
        rw [if_pos (by omega)]
        simp [show j < c.size by omega]
      · rw [if_neg (by omega), Array.getElem?_setIfInBounds_ne (by omega)]

/-! ### runs -/
section
variable {P : Program} {w : World}

def arrT (P : Program) (t n e s : Nat) : Prop := P.underlying t = some (.array n e) ∧ (P.info? e).map (·.size) = some s
def slcT (P : Program) (t e s : Nat) : Prop := P.underlying t = some (.slice e) ∧ (P.info? e).map (·.size) = some s
def fldT (P : Program) (t i off s : Nat) : Prop := match P.underlying t with
  | some (.struct fs) => match fs[i]? with
    | some f => f.offset = off ∧ (P.info? f.type).map (·.size) = some s
    | none => False
  | _ => False
def oneT (P : Program) (t : Nat) : Prop := (match P.underlying t with | some (.struct _) | some (.array _ _) | none => false | _ => true) = true ∧ (P.info? t).map (·.size) = some 1
def aggT (P : Program) (t s : Nat) : Prop := (match P.underlying t with | some (.struct _) | some (.array _ _) => true | _ => false) = true ∧ (P.info? t).map (·.size) = some s
def intT (P : Program) (t : Nat) (k : IntKind) : Prop := P.underlying t = some (.int k)
def zeroT (P : Program) (t : Nat) (v : Value) : Prop := (P.info? t).bind (·.zero) = some v

theorem run_sizeOf {e s : Nat} (h : (P.info? e).map (·.size) = some s) : (sizeOf e).run P w = .ok s w := by
  cases hi : P.info? e with
  | none => rw [hi] at h; cases h
  | some i => rw [hi] at h; simp at h; simp [sizeOf, typeInfo, hi, h]

theorem run_underlying' {t : Nat} {d : TypeDesc} (h : P.underlying t = some d) : (underlying t).run P w = .ok d w := by
  simp [underlying, h]

theorem run_zeroValue {t : Nat} {v : Value} (h : zeroT P t v) : (zeroValue t).run P w = .ok v w := by
  unfold zeroT at h
  cases hi : P.info? t with
  | none => rw [hi] at h; cases h
  | some i => rw [hi] at h; simp at h; simp [zeroValue, typeInfo, hi, h]

theorem run_isAgg_one {t : Nat} (h : oneT P t) : (isAgg t).run P w = .ok false w := by
  have h1 := h.1
  cases hu : P.underlying t with
  | none => rw [hu] at h1; cases h1
  | some d => rw [hu] at h1; cases d <;> first | (cases h1; done) | (simp [isAgg, run_underlying' hu])

theorem run_isAgg_agg {t s : Nat} (h : aggT P t s) : (isAgg t).run P w = .ok true w := by
  have h1 := h.1
  cases hu : P.underlying t with
  | none => rw [hu] at h1; cases h1
  | some d => rw [hu] at h1; cases d <;> first | (cases h1; done) | (simp [isAgg, run_underlying' hu])

theorem run_indexAt_arr {t n e s : Nat} {b o : Nat} {k : IntKind} {z : Int} (h : arrT P t n e s) (h0 : 0 ≤ z) (h1 : z < n) :
    (Instr.indexAt t (.pointer (some ⟨b, o, none⟩)) (.int k z)).run P w = .ok (.pointer (some ⟨b, o + z.toNat * s, none⟩)) w := by
  simp [Instr.indexAt, asIntOf, run_underlying' h.1, Instr.sureAddr, run_sizeOf h.2, h0, h1, addr_add]

theorem run_indexAt_slc {t e s : Nat} {b o l cap : Nat} {k : IntKind} {z : Int} (h : slcT P t e s) (h0 : 0 ≤ z) (h1 : z < l) :
    (Instr.indexAt t (.slice (some ⟨b, o, none⟩) l cap) (.int k z)).run P w = .ok (.pointer (some ⟨b, o + z.toNat * s, none⟩)) w := by
  simp [Instr.indexAt, asIntOf, run_underlying' h.1, run_sizeOf h.2, h0, h1, addr_add]

theorem run_fieldAt {t i off s b o : Nat} (h : fldT P t i off s) (hs : s ≠ 0) : (Instr.fieldAt t (.pointer (some ⟨b, o, none⟩)) i).run P w = .ok (.pointer (some ⟨b, o + off, none⟩)) w := by
  unfold fldT at h
  cases hu : P.underlying t with
  | none => rw [hu] at h; exact h.elim
  | some d =>
    rw [hu] at h
    cases d <;> first | (exact h.elim) | skip
    rename_i fs
    simp only at h
    cases hf : fs[i]? with
    | none => rw [hf] at h; exact h.elim
    | some f =>
      rw [hf] at h
      simp [Instr.fieldAt, run_underlying' hu, hf, Instr.sureAddr, fieldPlace, run_sizeOf h.2, hs, addr_add, h.1]

theorem run_load_one {t : Nat} {a : Addr} {v : Value} (h : oneT P t) (hv : w.cell? a = some v) : (Instr.loadAt t (.pointer (some a))).run P w = .ok v w := by
  simp [Instr.loadAt, Instr.sureAddr, loadVar, run_isAgg_one h, hv]

theorem run_load_agg {t s b o : Nat} {c : Array Value} {t' : TypeId} (h : aggT P t s) (hb : Blk w b c t') (hs : o + s ≤ c.size) :
    (Instr.loadAt t (.pointer (some ⟨b, o, none⟩))).run P w = .ok (.agg (c.extract o (o + s))) w := by
  have hl : (c.extract o (o + s)).toList.length = s := by simp; omega
  have := run_loadCells_list (P := P) w ⟨b, o, none⟩ (c.extract o (o + s)).toList (fun j v hj => by
    rw [addr_add]
    refine hb.cell ?_
    simp only [Array.getElem?_toList, Array.getElem?_extract] at hj
    split at hj
    · exact hj
    · cases hj)
  rw [hl, Array.toArray_toList] at this
  simp only [Instr.loadAt, Instr.sureAddr, loadVar]
  simp [run_isAgg_agg h, run_sizeOf h.2, this]

theorem run_store_cell {b o : Nat} {c : Array Value} {t : TypeId} {v : Value} (hb : Blk w b c t) (ho : o < c.size) (hv : v.oneCell' = true) :
    (store ⟨b, o, none⟩ v).run P w = .ok () (w.setCell ⟨b, o, none⟩ v) := by
  rw [run_store P w _ v _ hv, hb.cell (v := c[o]) (by simp [ho]), hb.frozen]
  rfl

theorem run_storeCells {b : Nat} {t : TypeId} (vs : List Value) : ∀ (w : World) (c : Array Value) (o i : Nat), Blk w b c t → o + i + vs.length ≤ c.size → (∀ v ∈ vs, v.oneCell' = true) →
    ∃ w', (storeCells ⟨b, o, none⟩ vs i).run P w = .ok () w' ∧ Upd w w' b (spl c (o + i) vs) t := by
  induction vs with
  | nil => intro w c o i hb _ _; exact ⟨w, by simp [storeCells], rfl, rfl, rfl, rfl, fun _ _ => rfl, hb⟩
  | cons v vs ih =>
    intro w c o i hb hl hv
    simp only [List.length_cons] at hl
    have h1 := run_store_cell (P := P) (o := o + i) hb (by omega) (hv v (by simp))
    have hu := upd_setCell (o := o + i) hb v
    obtain ⟨w', hr, hU⟩ := ih (w.setCell ⟨b, o + i, none⟩ v) (c.setIfInBounds (o + i) v) o (i + 1) hu.here (by simp; omega) (fun x hx => hv x (by simp [hx]))
    refine ⟨w', ?_, hu.trans hU⟩
    simp only [storeCells, addr_add]
    simp [h1, hr]

theorem run_store_var {t s b o : Nat} {c : Array Value} {t' : TypeId} {v : Value} (ht : (P.info? t).map (·.size) = some s) (hb : Blk w b c t') (hs : v.cells.size = s) (ho : o + s ≤ c.size) (hv : ∀ x ∈ v.cells.toList, x.oneCell' = true) :
    ∃ w', (Instr.storeAt t (.pointer (some ⟨b, o, none⟩)) v).run P w = .ok () w' ∧ Upd w w' b (spl c o v.cells.toList) t' := by
  obtain ⟨w', hr, hu⟩ := run_storeCells (P := P) v.cells.toList w c o 0 hb (by simp; omega) hv
  refine ⟨w', ?_, hu⟩
  simp only [Instr.storeAt, Instr.sureAddr, storeVar]
  simp [run_sizeOf ht, hs, hr]
end
end Go.Proofs.Ygcsam
namespace Go.Proofs.Ygcsam
theorem Upd.refl {w : World} {b : Nat} {c : Array Value} {t : TypeId} (h : Blk w b c t) : Upd w w b c t := ⟨rfl, rfl, rfl, rfl, fun _ _ => rfl, h⟩
theorem Upd.undrew {w w' : World} {k b : Nat} {c : Array Value} {t : TypeId} (h : Upd { w with drawn := k } w' b c t) : Upd w w' b c t := ⟨h.os, h.tape, h.output, h.size, h.block, h.here⟩
theorem Upd.eq {w w' : World} {b : Nat} {c c' : Array Value} {t : TypeId} (h : Upd w w' b c t) (e : c = c') : Upd w w' b c' t := e ▸ h
end Go.Proofs.Ygcsam
namespace Go.Proofs.Ygcsam
theorem nof {p : Prop} : false = true → p := fun h => by cases h
theorem Mod.toExt {S : List Nat} {w w' : World} (h : Mod S w w') (hs : ∀ x ∈ S, w.heap.size ≤ x) : Ext w w' :=
  ⟨h.os, h.tape, h.output, h.size, fun k hk => h.block k hk (fun hx => by have := hs k hx; omega)⟩
end Go.Proofs.Ygcsam
