/-
  MORE RULES: slices, copy, append, make. Own work.
-/
import Derived.Test.YgcsamBs
namespace Go.Proofs.Ygcsam
set_option linter.unusedVariables false
set_option linter.unusedSimpArgs false
section
variable {P : Program} {ops : Array Oper} {e : Bool} {K : Env → World → Prop} {Q : Exit → Env → World → Prop} {ρ : Env} {w : World} {d : Nat} {ty : TypeId} {pos : String} {af : Array Edge} {n : Nat}

/-- A bound of a slice expression: what is there, or what stands in its place. -/
def optN (ρ : Env) (dflt : Nat) : Option Operand → Nat → Prop
  | none, l => l = dflt
  | some x, l => ∃ k, ev ρ x = .int k (l : Nat)

theorem run_sliceBound {k : IntKind} {l y : Nat} {c : BoundsCode} (h : l ≤ y) : (Instr.sliceBound (.int k (l : Nat)) y c).run P w = .ok l w := by
  simp [Instr.sliceBound, asIntOf, h]

theorem run_sliceBounds {is : Bool} {len cap l h m : Nat} {lo hi mx : Option Operand} (hl : optN ρ 0 lo l) (hh : optN ρ len hi h) (hm : optN ρ cap mx m) (hmx : mx.isSome = true → hi.isSome = true)
    (h1 : l ≤ h) (h2 : h ≤ m) (h3 : m ≤ cap) : (Instr.sliceBounds is len cap (lo.map (ev ρ)) (hi.map (ev ρ)) (mx.map (ev ρ))).run P w = .ok (l, h, m) w := by
  cases mx with
  | none =>
    simp only [optN] at hm; subst hm
    cases hi with
    | none =>
      simp only [optN] at hh; subst hh
      cases lo with
      | none => simp only [optN] at hl; subst hl; simp [Instr.sliceBounds]
      | some x => obtain ⟨k, hk⟩ := hl; simp [Instr.sliceBounds, hk, run_sliceBound h1]
    | some y =>
      obtain ⟨ky, hy⟩ := hh
      cases lo with
      | none => simp only [optN] at hl; subst hl; simp [Instr.sliceBounds, hy, run_sliceBound h2]
      | some x => obtain ⟨k, hk⟩ := hl; simp [Instr.sliceBounds, hk, hy, run_sliceBound h2, run_sliceBound h1]
  | some z =>
    obtain ⟨kz, hz⟩ := hm
    cases hi with
    | none => simp at hmx
    | some y =>
      obtain ⟨ky, hy⟩ := hh
      cases lo with
      | none => simp only [optN] at hl; subst hl; simp [Instr.sliceBounds, hz, hy, run_sliceBound h2, run_sliceBound h3]
      | some x => obtain ⟨k, hk⟩ := hl; simp [Instr.sliceBounds, hz, hk, hy, run_sliceBound h2, run_sliceBound h1, run_sliceBound h3]

/-- A slice of an array behind a pointer. -/
theorem O_slice_a {t nn el s b o l h m : Nat} {x : Operand} {lo hi mx : Option Operand} (ht : arrT P t nn el s) (hx : ev ρ x = .pointer (some ⟨b, o, none⟩)) (hl : optN ρ 0 lo l) (hh : optN ρ nn hi h) (hm : optN ρ nn mx m) (hmx : mx.isSome = true → hi.isSome = true)
    (h1 : l ≤ h) (h2 : h ≤ m) (h3 : m ≤ nn) (k : K (put ρ d (.slice (some ⟨b, o + (if m = l then 0 else l * s), none⟩) (h - l) (m - l))) w) : WO P ops ⟨some d, .slice t x lo hi mx, ty, pos, af, none⟩ e K ρ w :=
  O_pure rfl (fun w' => by
    have hb := run_sliceBounds (P := P) (w := w') (is := false) (ρ := ρ) hl hh hm hmx h1 h2 h3
    simp only [execOp, hx, Instr.sliceAt, Sem.run_bind, run_underlying' ht.1, Result.andThen_ok, Instr.sureAddr, Sem.run_pure, hb, run_sizeOf ht.2, addr_add]
    split <;> simp_all) k
/-- A slice of a slice. -/
theorem O_slice_s {t el s l h m len cap : Nat} {a : Addr} {x : Operand} {lo hi mx : Option Operand} (ht : slcT P t el s) (hx : ev ρ x = .slice (some a) len cap) (hl : optN ρ 0 lo l) (hh : optN ρ len hi h) (hm : optN ρ cap mx m) (hmx : mx.isSome = true → hi.isSome = true)
    (h1 : l ≤ h) (h2 : h ≤ m) (h3 : m ≤ cap) (k : K (put ρ d (.slice (some (if m = l then a else a.add (l * s))) (h - l) (m - l))) w) : WO P ops ⟨some d, .slice t x lo hi mx, ty, pos, af, none⟩ e K ρ w :=
  O_pure rfl (fun w' => by
    have hb := run_sliceBounds (P := P) (w := w') (is := true) (ρ := ρ) hl hh hm hmx h1 h2 h3
    simp only [execOp, hx, Instr.sliceAt, Instr.slice, Sem.run_bind, run_underlying' ht.1, Result.andThen_ok, Sem.run_pure, hb, run_sizeOf ht.2]
    split <;> simp_all) k

theorem run_firstCells {b o l cap s m : Nat} {c : Array Value} {t : TypeId} (hb : Blk w b c t) (hs : o + m * s ≤ c.size) : (Builtin.firstCells s m (.slice (some ⟨b, o, none⟩) l cap)).run P w = .ok (c.extract o (o + m * s)) w := by
  have hl : (c.extract o (o + m * s)).toList.length = m * s := by simp; omega
  have := run_loadCells_list (P := P) w ⟨b, o, none⟩ (c.extract o (o + m * s)).toList (fun j v hj => by
    rw [addr_add]
    refine hb.cell ?_
    simp only [Array.getElem?_toList, Array.getElem?_extract] at hj
    split at hj
    · exact hj
    · cases hj)
  rw [hl, Array.toArray_toList] at this
  simpa [Builtin.firstCells] using this

theorem O_copy {t el s bd od ld cd b2 o2 l2 c2 m : Nat} {cd' cs' : Array Value} {td tsr : TypeId} {x y : Operand} {ats : Array TypeId} (hat : ats[0]? = some t) (ht : slcT P t el s) (hx : ev ρ x = .slice (some ⟨bd, od, none⟩) ld cd) (hy : ev ρ y = .slice (some ⟨b2, o2, none⟩) l2 c2)
    (hm : m = Nat.min l2 ld) (hS : Blk w b2 cs' tsr) (hs : o2 + m * s ≤ cs'.size) (hD : Blk w bd cd' td) (hd : od + m * s ≤ cd'.size) (hone : ∀ v ∈ (cs'.extract o2 (o2 + m * s)).toList, v.oneCell' = true) (he : e = false)
    (k : ∀ w', Upd w w' bd (spl cd' od (cs'.extract o2 (o2 + m * s)).toList) td → K (put ρ d (.int .i64 (m : Nat))) w') : WO P ops ⟨some d, .call ⟨.builtin .copy, #[x, y], ats⟩, ty, pos, af, none⟩ e K ρ w := by
  have h1 := run_firstCells (P := P) (l := l2) (cap := c2) (m := m) hS hs
  obtain ⟨w', h2, hU⟩ := run_storeCells (P := P) (cs'.extract o2 (o2 + m * s)).toList w cd' od 0 hD (by simp; omega) hone
  refine O_do (v := .int .i64 (m : Nat)) (w' := w') rfl ?_ (fun h => by rw [he] at h; cases h) (k w' hU)
  subst hm
  simp only [execOp, resolve, List.map_toArray, List.map_cons, List.map_nil, invoke, builtin, Builtin.copy_, Sem.run_bind, Sem.run_pure, Result.andThen_ok, hat, hx, hy, List.getElem?_toArray, List.getElem?_cons_zero, List.getElem?_cons_succ, run_underlying' ht.1, Builtin.lenOf, run_sizeOf ht.2, h1, h2, goInt]
theorem O_copy_bs {t el bd od ld cd b2 o2 l2 c2 m n1 n2 : Nat} {f g : Nat → Bool} {td tsr : TypeId} {x y : Operand} {ats : Array TypeId} (hat : ats[0]? = some t) (ht : slcT P t el 1) (hx : ev ρ x = .slice (some ⟨bd, od, none⟩) ld cd) (hy : ev ρ y = .slice (some ⟨b2, o2, none⟩) l2 c2)
    (hm : m = Nat.min l2 ld) (hS : Blk w b2 (bs n1 f) tsr) (hs : o2 + m ≤ n1) (hD : Blk w bd (bs n2 g) td) (hd : od + m ≤ n2) (he : e = false)
    (k : ∀ w', Upd w w' bd (bs n2 (fun j => if od ≤ j ∧ j < od + m then f (o2 + (j - od)) else g j)) td → K (put ρ d (.int .i64 (m : Nat))) w') : WO P ops ⟨some d, .call ⟨.builtin .copy, #[x, y], ats⟩, ty, pos, af, none⟩ e K ρ w := by
  refine O_copy hat ht hx hy hm hS (by rw [bs_size]; omega) hD (by rw [bs_size]; omega) ?_ he fun w' hU => ?_
  · rw [Nat.mul_one, bs_extract hs]; exact bs_one
  · rw [Nat.mul_one, bs_extract hs, bs_spl hd] at hU; exact k w' hU
end
end Go.Proofs.Ygcsam
