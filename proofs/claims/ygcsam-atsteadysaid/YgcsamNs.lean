/-
  ROWS OF NUMBERS, told by a function. Own work (the twin of YgcsamBs).
-/
import Derived.Test.YgcsamRule2
namespace Go.Proofs.Ygcsam
set_option linter.unusedVariables false
set_option linter.unusedSimpArgs false

def ns (kd : IntKind) (n : Nat) (f : Nat → Nat) : Array Value := ((List.range n).map fun i => Value.int kd (f i : Nat)).toArray

theorem ns_size (kd : IntKind) (n : Nat) (f : Nat → Nat) : (ns kd n f).size = n := by simp [ns]
theorem ns_get {kd : IntKind} {n : Nat} {f : Nat → Nat} {i : Nat} (h : i < n) : (ns kd n f)[i]? = some (.int kd (f i : Nat)) := by simp [ns, h]
theorem ns_ext {kd : IntKind} {n : Nat} {c : Array Value} {f : Nat → Nat} (hs : c.size = n) (h : ∀ i, i < n → c[i]? = some (.int kd (f i : Nat))) : c = ns kd n f := by
  apply Array.ext
  · rw [hs, ns_size]
  · intro i h1 h2
    have h3 : i < n := by rwa [hs] at h1
    have e1 := h i h3
    have e2 := ns_get (kd := kd) (f := f) h3
    rw [Array.getElem?_eq_getElem h1] at e1
    rw [Array.getElem?_eq_getElem h2] at e2
    exact (Option.some.inj e1).trans (Option.some.inj e2).symm
theorem ns_congr {kd : IntKind} {n : Nat} {f g : Nat → Nat} (h : ∀ i, i < n → f i = g i) : ns kd n f = ns kd n g :=
  ns_ext (ns_size kd n f) fun i hi => by rw [ns_get hi, h i hi]

def upn (f : Nat → Nat) (i : Nat) (v : Nat) : Nat → Nat := fun j => if j = i then v else f j
theorem ns_set {kd : IntKind} {n : Nat} {f : Nat → Nat} {i : Nat} {v : Nat} : (ns kd n f).setIfInBounds i (.int kd (v : Nat)) = ns kd n (upn f i v) := by
  refine ns_ext (by simp [ns_size]) fun j hj => ?_
  by_cases h : j = i
  · subst h; simp [ns_size, hj, upn]
  · rw [Array.getElem?_setIfInBounds_ne (Ne.symm h), ns_get hj]; simp [upn, h]
theorem ns_extract {kd : IntKind} {n : Nat} {f : Nat → Nat} {o m : Nat} (h : o + m ≤ n) : (ns kd n f).extract o (o + m) = ns kd m (fun i => f (o + i)) := by
  refine ns_ext (by simp [ns_size]; omega) fun j hj => ?_
  rw [Array.getElem?_extract, ns_size, if_pos (by omega), ns_get (by omega)]
theorem ns_one {kd : IntKind} {m : Nat} {g : Nat → Nat} : ∀ v ∈ (ns kd m g).toList, v.oneCell' = true := by
  intro v hv
  simp only [ns, List.mem_map] at hv
  obtain ⟨i, _, rfl⟩ := hv
  rfl
theorem ns_spl {kd : IntKind} {n m o : Nat} {f g : Nat → Nat} (h : o + m ≤ n) : spl (ns kd n f) o (ns kd m g).toList = ns kd n (fun j => if o ≤ j ∧ j < o + m then g (j - o) else f j) := by
  have hl : (ns kd m g).toList.length = m := by simp [ns]
  refine ns_ext (by rw [spl_size, ns_size]) fun j hj => ?_
  rw [spl_get _ _ _ _ (by rw [hl, ns_size]; exact h), hl]
  split
  · rename_i h1
    rw [Array.getElem?_toList, ns_get (by omega)]
  · rw [ns_get hj]

section
variable {P : Program} {ops : Array Oper} {e : Bool} {K : Env → World → Prop} {Q : Exit → Env → World → Prop} {ρ : Env} {w : World} {d : Nat} {ty : TypeId} {pos : String} {af : Array Edge} {n : Nat}
theorem O_load_ns {kd : IntKind} {t b o : Nat} {f : Nat → Nat} {tb : TypeId} {x : Operand} (ht : oneT P t) (hx : ev ρ x = .pointer (some ⟨b, o, none⟩)) (hb : Blk w b (ns kd n f) tb) (ho : o < n) (k : K (put ρ d (.int kd (f o : Nat))) w) : WO P ops ⟨some d, .load t x, ty, pos, af, none⟩ e K ρ w :=
  O_load ht hx hb (ns_get ho) k
theorem O_store_ns {kd : IntKind} {t b o : Nat} {f : Nat → Nat} {tb : TypeId} {x y : Operand} {v : Nat} (ht : oneT P t) (hx : ev ρ x = .pointer (some ⟨b, o, none⟩)) (hy : ev ρ y = .int kd (v : Nat)) (hb : Blk w b (ns kd n f) tb) (ho : o < n) (he : e = false)
    (k : ∀ w', Upd w w' b (ns kd n (upn f o v)) tb → K ρ w') : WO P ops ⟨none, .store t x y, ty, pos, af, none⟩ e K ρ w :=
  O_store ht hx hy rfl hb (by rw [ns_size]; exact ho) he fun w' hu => k w' (by rw [ns_set] at hu; exact hu)
end
section
variable {P : Program} {ops : Array Oper} {e : Bool} {K : Env → World → Prop} {Q : Exit → Env → World → Prop} {ρ : Env} {w : World} {d : Nat} {ty : TypeId} {pos : String} {af : Array Edge} {n : Nat}
theorem O_store_nss {kd : IntKind} {t b o m : Nat} {f g : Nat → Nat} {tb : TypeId} {x y : Operand} (ht : aggT P t m) (hx : ev ρ x = .pointer (some ⟨b, o, none⟩)) (hy : ev ρ y = .agg (ns kd m g)) (hb : Blk w b (ns kd n f) tb) (ho : o + m ≤ n) (he : e = false)
    (k : ∀ w', Upd w w' b (ns kd n (fun j => if o ≤ j ∧ j < o + m then g (j - o) else f j)) tb → K ρ w') : WO P ops ⟨none, .store t x y, ty, pos, af, none⟩ e K ρ w :=
  O_store_agg ht hx hy (ns_size kd m g) ns_one hb (by rw [ns_size]; exact ho) he fun w' hu => k w' (by rw [ns_spl ho] at hu; exact hu)
theorem O_load_nss {kd : IntKind} {t b o m : Nat} {f : Nat → Nat} {tb : TypeId} {x : Operand} (ht : aggT P t m) (hx : ev ρ x = .pointer (some ⟨b, o, none⟩)) (hb : Blk w b (ns kd n f) tb) (ho : o + m ≤ n) (k : K (put ρ d (.agg (ns kd m fun i => f (o + i)))) w) : WO P ops ⟨some d, .load t x, ty, pos, af, none⟩ e K ρ w :=
  O_load_agg ht hx hb (by rw [ns_size]; exact ho) (by rw [ns_extract ho]; exact k)
theorem E_ns {kd : IntKind} {fn : Func} {R : Value → World → Prop} {t T b m : Nat} {f : Nat → Nat} {tb : TypeId} (hr : fn.results = #[.cell t T]) (ht : Nat.blt t n = true) (hT : aggT P T m) (hv : ρ t = .pointer (some ⟨b, 0, none⟩)) (hb : Blk w b (ns kd m f) tb) (h : R (.agg (ns kd m f)) w) : bodyQ P n fn R .ret ρ w :=
  E_cell hr ht hT hv hb (by rw [ns_size]; omega) (by
    rw [ns_extract (by omega)]
    have : (ns kd m fun i => f (0 + i)) = ns kd m f := ns_congr fun i _ => by rw [Nat.zero_add]
    rw [this]; exact h)
end

theorem z30 : zeroT Samg.prog 30 (.agg (ns .u8 32 fun _ => 0)) := by unfold zeroT; kernel_rfl
theorem z24 : zeroT Samg.prog 24 (.agg (ns .u8 20 fun _ => 0)) := by unfold zeroT; kernel_rfl
end Go.Proofs.Ygcsam
