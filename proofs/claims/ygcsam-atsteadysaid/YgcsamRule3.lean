/-
  MORE RULES: make, slice literals, append where there is room, nil tests. Own work.
-/
import Derived.Test.YgcsamNs
namespace Go.Proofs.Ygcsam
set_option linter.unusedVariables false
set_option linter.unusedSimpArgs false
section
variable {P : Program} {ops : Array Oper} {e : Bool} {K : Env → World → Prop} {Q : Exit → Env → World → Prop} {ρ : Env} {w : World} {d : Nat} {ty : TypeId} {pos : String} {af : Array Edge} {n : Nat}

theorem run_equal_ptr_nil {t el : Nat} {a : Addr} (ht : P.underlying t = some (.pointer el)) : (Op.equal t (.pointer (some a)) (.pointer none)).run P w = .ok false w := by
  show (Op.equalIn (9999 + 1) t _ _).run P w = _
  rw [Op.equalIn]
  simp [run_underlying' ht]
theorem run_equal_nil_nil {t el : Nat} (ht : P.underlying t = some (.pointer el)) : (Op.equal t (.pointer none) (.pointer none)).run P w = .ok true w := by
  show (Op.equalIn (9999 + 1) t _ _).run P w = _
  rw [Op.equalIn]
  simp [run_underlying' ht]
theorem O_eqnil {t t' el : Nat} {x y : Operand} {a : Addr} (ht : P.underlying t = some (.pointer el)) (hx : ev ρ x = .pointer (some a)) (hy : ev ρ y = .pointer none) (kk : K (put ρ d (.bool false)) w) : WO P ops ⟨some d, .binOp .eql t x y t', ty, pos, af, none⟩ e K ρ w :=
  O_pure rfl (fun w' => by
    have h1 : binOp .eql t (.pointer (some a)) (.pointer none) = (do pure (.bool (← Op.equal t (.pointer (some a)) (.pointer none)))) := rfl
    have h2 : (eqGuard .eql t x y (.pointer (some a)) (.pointer none)).run P w' = .ok () w' := by simp [eqGuard]
    simp only [execOp, hx, hy, Sem.run_bind, h2, Result.andThen_ok, h1, run_equal_ptr_nil ht, Sem.run_pure]) kk

/-- n times the cells of a zero value. -/
def zs (n : Nat) (z : Array Value) : Array Value := (Array.range n).map (z[· % z.size]!)

theorem zs_bool (n : Nat) : zs n #[.bool false] = bs n (fun _ => false) := by
  refine bs_ext (by simp [zs]) fun i hi => ?_
  simp only [zs, Array.getElem?_map, Array.getElem?_range, hi, if_true, Option.map_some]
  have : i % (#[Value.bool false] : Array Value).size = 0 := Nat.mod_one i
  rw [this]; rfl
theorem zs_int (k : IntKind) (n : Nat) : zs n #[.int k 0] = ns k n (fun _ => 0) := by
  refine ns_ext (by simp [zs]) fun i hi => ?_
  simp only [zs, Array.getElem?_map, Array.getElem?_range, hi, if_true, Option.map_some]
  have : i % (#[Value.int k 0] : Array Value).size = 0 := Nat.mod_one i
  rw [this]; rfl

def bytesT (P : Program) (t b : Nat) : Prop := (P.info? t).map (·.bytes) = some b

theorem O_make {t el s by_ l c : Nat} {z : Value} {kl kc : IntKind} {x y : Operand} (ht : slcT P t el s) (hby : bytesT P el by_) (hz : zeroT P el z) (hx : ev ρ x = .int kl (l : Nat)) (hy : ev ρ y = .int kc (c : Nat)) (hl : l ≤ c) (hc : c < 9223372036854775808) (hb : by_ * c ≤ 281474976710656) (hn : c * s ≠ 0)
    (k : ∀ w', Ext w w' → w'.heap.size = w.heap.size + 1 → Blk w' w.heap.size (zs (c * s) z.cells) el → K (put ρ d (.slice (some ⟨w.heap.size, 0, none⟩) l c)) w') : WO P ops ⟨some d, .makeSlice t x y, ty, pos, af, none⟩ e K ρ w := by
  refine O_do (v := .slice (some ⟨w.heap.size, 0, none⟩) l c) (w' := { w with heap := w.heap.push (.cells (zs (c * s) z.cells) el) }) rfl ?_ (fun _ => ext_push w _) (k _ (ext_push w _) (by simp) (blk_push w _ _))
  have e1 : IntKind.i64.wrap (l : Int) = l := wrapN (fit_i64 (by omega))
  have e2 : IntKind.i64.wrap (c : Int) = c := wrapN (fit_i64 hc)
  cases hi : P.info? el with
  | none => unfold bytesT at hby; rw [hi] at hby; cases hby
  | some i =>
    have hbi : i.bytes = by_ := by unfold bytesT at hby; rw [hi] at hby; simpa using hby
    have t1 : ¬ ((c : Int) < 0) := by omega
    have t2 : ¬ (281474976710656 < (by_ : Int) * (c : Int)) := by
      obtain ⟨q, hq⟩ : ∃ q, by_ * c = q := ⟨_, rfl⟩
      have h : (by_ : Int) * c = (q : Int) := by rw [← hq, Int.natCast_mul]
      rw [hq] at hb
      rw [h]; omega
    have t3 : ¬ ((l : Int) < 0) := by omega
    have t4 : ¬ ((l : Int) > (c : Int)) := by omega
    simp only [execOp, hx, hy, Instr.makeSlice, Sem.run_bind, run_underlying' ht.1, Result.andThen_ok, asInt, asIntOf, Sem.run_pure, typeInfo, run_program, hi, e1, e2, hbi]
    simp [t1, t2, t3, t4, run_sizeOf ht.2, hn, run_zeroValue hz, newRow, zs]

theorem O_lit {t el s len : Nat} {z : Value} {c : Array Value} {parts : Array (Nat × Operand)} {l : List (Nat × Value)} (ht : slcT P t el s) (hz : zeroT P el z) (hp : parts.toList.map (fun p => (p.1, ev ρ p.2)) = l)
    (hn : Nat.ble (len * s) 16777216 = true) (hn0 : Nat.beq (len * s) 0 = false) (hf : Instr.fill (fun i => some (i * s, s)) (zs (len * s) z.cells) l = some c)
    (k : ∀ w', Ext w w' → w'.heap.size = w.heap.size + 1 → Blk w' w.heap.size c el → K (put ρ d (.slice (some ⟨w.heap.size, 0, none⟩) len len)) w') : WO P ops ⟨some d, .buildSlice t len parts, ty, pos, af, none⟩ e K ρ w := by
  refine O_do (v := .slice (some ⟨w.heap.size, 0, none⟩) len len) (w' := { w with heap := w.heap.push (.cells c el) }) rfl ?_ (fun _ => ext_push w _) (k _ (ext_push w _) (by simp) (blk_push w _ _))
  have h1 : (parts.map fun (i, x) => (i, ev ρ x)).toList = l := by rw [← hp, Array.toList_map]
  have n1 : ¬ (len * s > 2 ^ 24) := by have := Nat.le_of_ble_eq_true hn; omega
  have n2 : ¬ (len * s = 0) := fun h => by rw [h] at hn0; cases hn0
  have hf' : Instr.fill (fun i => some (i * s, s)) ((Array.range (len * s)).map (z.cells[· % z.cells.size]!)) l = some c := hf
  simp only [execOp, Instr.buildSlice, Sem.run_bind, run_underlying' ht.1, Result.andThen_ok, run_sizeOf ht.2, if_neg n1, if_neg n2, run_zeroValue hz, Sem.run_pure, h1, hf', newRow, run_newObj]

theorem lenOf_s {a : Option Addr} {l c : Nat} : (Builtin.lenOf (.slice a l c)).run P w = .ok l w := by simp [Builtin.lenOf]

/-- append where there is room. -/
theorem O_append_fit {t t2 el s b o l cap b2 o2 m c2 : Nat} {el2 : Nat} {cd cs : Array Value} {td tsr : TypeId} {x y : Operand} {ats : Array TypeId} (hat : ats[0]? = some t) (hat2 : ats[1]? = some t2) (ht : slcT P t el s) (ht2 : P.underlying t2 = some (.slice el2)) (hx : ev ρ x = .slice (some ⟨b, o, none⟩) l cap) (hy : ev ρ y = .slice (some ⟨b2, o2, none⟩) m c2)
    (hfit : l + m ≤ cap) (hS : Blk w b2 cs tsr) (hs : o2 + m * s ≤ cs.size) (hD : Blk w b cd td) (hd : o + l * s + m * s ≤ cd.size) (hone : ∀ v ∈ (cs.extract o2 (o2 + m * s)).toList, v.oneCell' = true) (he : e = false)
    (k : ∀ w', Upd w w' b (spl cd (o + l * s) (cs.extract o2 (o2 + m * s)).toList) td → K (put ρ d (.slice (some ⟨b, o, none⟩) (l + m) cap)) w') : WO P ops ⟨some d, .call ⟨.builtin .append, #[x, y], ats⟩, ty, pos, af, none⟩ e K ρ w := by
  have h1 := run_firstCells (P := P) (l := m) (cap := c2) (m := m) hS hs
  obtain ⟨w', h2, hU⟩ := run_storeCells (P := P) (cs.extract o2 (o2 + m * s)).toList w cd (o + l * s) 0 hD (by simp; omega) hone
  refine O_do (v := .slice (some ⟨b, o, none⟩) (l + m) cap) (w' := w') rfl ?_ (fun h => by rw [he] at h; cases h) (k w' hU)
  simp only [execOp, resolve, List.map_toArray, List.map_cons, List.map_nil, invoke, builtin, Builtin.append_, Sem.run_bind, Sem.run_pure, Result.andThen_ok, hat, hat2, hx, hy, List.getElem?_toArray, List.getElem?_cons_zero, List.getElem?_cons_succ, run_underlying' ht.1, run_underlying' ht2, lenOf_s, run_sizeOf ht.2, Bool.false_eq_true, if_false, hfit, if_true, Bool.not_false, h1, addr_add, h2]

theorem O_append_none {t t2 el s l cap : Nat} {a : Option Addr} {el2 : Nat} {x y : Operand} {ats : Array TypeId} (hat : ats[0]? = some t) (hat2 : ats[1]? = some t2) (ht : slcT P t el s) (ht2 : P.underlying t2 = some (.slice el2)) (hx : ev ρ x = .slice a l cap) (hy : ev ρ y = .slice none 0 0) (hfit : l ≤ cap)
    (k : K (put ρ d (.slice a l cap)) w) : WO P ops ⟨some d, .call ⟨.builtin .append, #[x, y], ats⟩, ty, pos, af, none⟩ e K ρ w := by
  refine O_do (v := .slice a l cap) (w' := w) rfl ?_ (fun h => Ext.refl w) k
  have hfit' : l + 0 ≤ cap := by omega
  simp only [execOp, resolve, List.map_toArray, List.map_cons, List.map_nil, invoke, builtin, Builtin.append_, Sem.run_bind, Sem.run_pure, Result.andThen_ok, hat, hat2, hx, hy, List.getElem?_toArray, List.getElem?_cons_zero, List.getElem?_cons_succ, run_underlying' ht.1, run_underlying' ht2, lenOf_s, run_sizeOf ht.2, Bool.false_eq_true, if_false, hfit', if_true, Bool.not_false, Builtin.firstCells]
  cases a <;> simp [storeCells]

theorem O_arrp {t nn el s l cap : Nat} {a : Addr} {x : Operand} (ht : arrT P t nn el s) (hx : ev ρ x = .slice (some a) l cap) (hl : nn ≤ l) (k : K (put ρ d (.pointer (some a))) w) : WO P ops ⟨some d, .sliceToArrayPointer t x, ty, pos, af, none⟩ e K ρ w :=
  O_pure rfl (fun w' => by
    have : ¬ l < nn := by omega
    simp [execOp, Instr.arrayAt, run_underlying' ht.1, hx, this]) k
end
theorem by4 : bytesT Samg.prog 4 1 := by unfold bytesT; kernel_rfl
theorem by5 : bytesT Samg.prog 5 1 := by unfold bytesT; kernel_rfl
theorem z4 : zeroT Samg.prog 4 (.bool false) := by unfold zeroT; kernel_rfl
theorem z5 : zeroT Samg.prog 5 (.int .u8 0) := by unfold zeroT; kernel_rfl
end Go.Proofs.Ygcsam
