/-
  ROWS OF BOOLS, told by a function. Own work.
-/
import Derived.Test.YgcsamTy
namespace Go.Proofs.Ygcsam
set_option linter.unusedVariables false
set_option linter.unusedSimpArgs false

def bs (n : Nat) (f : Nat → Bool) : Array Value := ((List.range n).map fun i => Value.bool (f i)).toArray

theorem bs_size (n : Nat) (f : Nat → Bool) : (bs n f).size = n := by simp [bs]
theorem bs_get {n : Nat} {f : Nat → Bool} {i : Nat} (h : i < n) : (bs n f)[i]? = some (.bool (f i)) := by simp [bs, h]
theorem bs_ext {n : Nat} {c : Array Value} {f : Nat → Bool} (hs : c.size = n) (h : ∀ i, i < n → c[i]? = some (.bool (f i))) : c = bs n f := by
  apply Array.ext
  · rw [hs, bs_size]
  · intro i h1 h2
    have h3 : i < n := by rwa [hs] at h1
    have e1 := h i h3
    have e2 := bs_get (f := f) h3
    rw [Array.getElem?_eq_getElem h1] at e1
    rw [Array.getElem?_eq_getElem h2] at e2
    exact (Option.some.inj e1).trans (Option.some.inj e2).symm
theorem bs_congr {n : Nat} {f g : Nat → Bool} (h : ∀ i, i < n → f i = g i) : bs n f = bs n g :=
  bs_ext (bs_size n f) fun i hi => by rw [bs_get hi, h i hi]

def upb (f : Nat → Bool) (i : Nat) (v : Bool) : Nat → Bool := fun j => if j = i then v else f j
theorem bs_set {n : Nat} {f : Nat → Bool} {i : Nat} {v : Bool} : (bs n f).setIfInBounds i (.bool v) = bs n (upb f i v) := by
  refine bs_ext (by simp [bs_size]) fun j hj => ?_
  by_cases h : j = i
  · subst h; simp [bs_size, hj, upb]
  · rw [Array.getElem?_setIfInBounds_ne (Ne.symm h), bs_get hj]; simp [upb, h]
theorem bs_extract {n : Nat} {f : Nat → Bool} {o m : Nat} (h : o + m ≤ n) : (bs n f).extract o (o + m) = bs m (fun i => f (o + i)) := by
  refine bs_ext (by simp [bs_size]; omega) fun j hj => ?_
  rw [Array.getElem?_extract, bs_size, if_pos (by omega), bs_get (by omega)]
theorem bs_one {m : Nat} {g : Nat → Bool} : ∀ v ∈ (bs m g).toList, v.oneCell' = true := by
  intro v hv
  simp only [bs, List.mem_map] at hv
  obtain ⟨i, _, rfl⟩ := hv
  rfl
theorem bs_spl {n m o : Nat} {f g : Nat → Bool} (h : o + m ≤ n) : spl (bs n f) o (bs m g).toList = bs n (fun j => if o ≤ j ∧ j < o + m then g (j - o) else f j) := by
  have hl : (bs m g).toList.length = m := by simp [bs]
  refine bs_ext (by rw [spl_size, bs_size]) fun j hj => ?_
  rw [spl_get _ _ _ _ (by rw [hl, bs_size]; exact h), hl]
  split
  · rename_i h1
    rw [Array.getElem?_toList, bs_get (by omega)]
  · rw [bs_get hj]

section
variable {P : Program} {ops : Array Oper} {e : Bool} {K : Env → World → Prop} {Q : Exit → Env → World → Prop} {ρ : Env} {w : World} {d : Nat} {ty : TypeId} {pos : String} {af : Array Edge} {n : Nat}
theorem O_load_bs {t b o : Nat} {f : Nat → Bool} {tb : TypeId} {x : Operand} (ht : oneT P t) (hx : ev ρ x = .pointer (some ⟨b, o, none⟩)) (hb : Blk w b (bs n f) tb) (ho : o < n) (k : K (put ρ d (.bool (f o))) w) : WO P ops ⟨some d, .load t x, ty, pos, af, none⟩ e K ρ w :=
  O_load ht hx hb (bs_get ho) k
theorem O_store_bs {t b o : Nat} {f : Nat → Bool} {tb : TypeId} {x y : Operand} {v : Bool} (ht : oneT P t) (hx : ev ρ x = .pointer (some ⟨b, o, none⟩)) (hy : ev ρ y = .bool v) (hb : Blk w b (bs n f) tb) (ho : o < n) (he : e = false)
    (k : ∀ w', Upd w w' b (bs n (upb f o v)) tb → K ρ w') : WO P ops ⟨none, .store t x y, ty, pos, af, none⟩ e K ρ w :=
  O_store ht hx hy rfl hb (by rw [bs_size]; exact ho) he fun w' hu => k w' (by rw [bs_set] at hu; exact hu)
end
theorem z198 : zeroT Samg.prog 198 (.agg (bs 320 fun _ => false)) := by unfold zeroT; kernel_rfl
theorem z197 : zeroT Samg.prog 197 (.agg (bs 64 fun _ => false)) := by unfold zeroT; kernel_rfl
theorem z200 : zeroT Samg.prog 200 (.agg (bs 1600 fun _ => false)) := by unfold zeroT; kernel_rfl
theorem z234 : zeroT Samg.prog 234 (.agg (bs 8 fun _ => false)) := by unfold zeroT; kernel_rfl
theorem z142 : zeroT Samg.prog 142 (.agg (bs 1600 fun _ => false)) := by unfold zeroT; kernel_rfl
end Go.Proofs.Ygcsam
namespace Go.Proofs.Ygcsam
section
variable {P : Program} {ops : Array Oper} {e : Bool} {K : Env → World → Prop} {Q : Exit → Env → World → Prop} {ρ : Env} {w : World} {d : Nat} {ty : TypeId} {pos : String} {af : Array Edge} {n : Nat}
theorem O_store_bss {t b o m : Nat} {f g : Nat → Bool} {tb : TypeId} {x y : Operand} (ht : aggT P t m) (hx : ev ρ x = .pointer (some ⟨b, o, none⟩)) (hy : ev ρ y = .agg (bs m g)) (hb : Blk w b (bs n f) tb) (ho : o + m ≤ n) (he : e = false)
    (k : ∀ w', Upd w w' b (bs n (fun j => if o ≤ j ∧ j < o + m then g (j - o) else f j)) tb → K ρ w') : WO P ops ⟨none, .store t x y, ty, pos, af, none⟩ e K ρ w :=
  O_store_agg ht hx hy (bs_size m g) bs_one hb (by rw [bs_size]; exact ho) he fun w' hu => k w' (by rw [bs_spl ho] at hu; exact hu)
theorem O_load_bss {t b o m : Nat} {f : Nat → Bool} {tb : TypeId} {x : Operand} (ht : aggT P t m) (hx : ev ρ x = .pointer (some ⟨b, o, none⟩)) (hb : Blk w b (bs n f) tb) (ho : o + m ≤ n) (k : K (put ρ d (.agg (bs m fun i => f (o + i)))) w) : WO P ops ⟨some d, .load t x, ty, pos, af, none⟩ e K ρ w :=
  O_load_agg ht hx hb (by rw [bs_size]; exact ho) (by rw [bs_extract ho]; exact k)
theorem E_bs {fn : Func} {R : Value → World → Prop} {t T b m : Nat} {f : Nat → Bool} {tb : TypeId} (hr : fn.results = #[.cell t T]) (ht : Nat.blt t n = true) (hT : aggT P T m) (hv : ρ t = .pointer (some ⟨b, 0, none⟩)) (hb : Blk w b (bs m f) tb) (h : R (.agg (bs m f)) w) : bodyQ P n fn R .ret ρ w :=
  E_cell hr ht hT hv hb (by rw [bs_size]; omega) (by
    rw [bs_extract (by omega)]
    have : (bs m fun i => f (0 + i)) = bs m f := bs_congr fun i _ => by rw [Nat.zero_add]
    rw [this]; exact h)
end
end Go.Proofs.Ygcsam
