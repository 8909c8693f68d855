/-
  MORE RULES: arrays of numbers as values: equality, indexing. Own work.
-/
import Derived.Test.YgcsamRule5
import Derived.Laws.StructEq
namespace Go.Proofs.Ygcsam
set_option linter.unusedVariables false
set_option linter.unusedSimpArgs false
/-- An array of numbers of the kind kd. -/
def numT (P : Program) (t n el : Nat) (kd : IntKind) : Prop := arrT P t n el 1 ∧ P.underlying el = some (.int kd) ∧ P.eqGuardType P.depth t = false
section
variable {P : Program} {ops : Array Oper} {e : Bool} {K : Env → World → Prop} {Q : Exit → Env → World → Prop} {ρ : Env} {w : World} {d : Nat} {ty : TypeId} {pos : String} {af : Array Edge} {n : Nat}

theorem run_part_ns {el i : Nat} {kd : IntKind} {f : Nat → Nat} (he : P.underlying el = some (.int kd)) (hi : i < n) : (part el (ns kd n f) i).run P w = .ok (.int kd (f i : Nat)) w := by
  simp [part, isAgg, run_underlying' he, ns_get hi]
theorem run_equalIn_ns {t el : Nat} {kd : IntKind} {f g : Nat → Nat} (dd : Nat) (ht : numT P t n el kd) : (Op.equalIn (dd + 2) t (.agg (ns kd n f)) (.agg (ns kd n g))).run P w = .ok ((List.range n).all fun i => f i == g i) w := by
  obtain ⟨⟨h1, h2⟩, h3, _⟩ := ht
  rw [List.range_eq_range', Op.equalIn]
  simp only [Sem.run_bind, run_underlying' h1, Result.andThen_ok, run_sizeOf h2, Std.Legacy.Range.forIn_eq_forIn_range', Std.Legacy.Range.size, Nat.sub_zero, Nat.add_sub_cancel, Nat.div_one]
  have hl : ∀ i ∈ List.range' 0 n 1, i < n := fun i hi => by simpa using (List.mem_range'_1.1 hi).2
  generalize List.range' 0 n 1 = l at hl ⊢
  induction l with
  | nil => simp
  | cons i l ih =>
    have hi : i < n := hl i (by simp)
    have px : (part el (ns kd n f) (i * 1)).run P w = .ok (.int kd (f i : Nat)) w := by rw [Nat.mul_one]; exact run_part_ns h3 hi
    have py : (part el (ns kd n g) (i * 1)).run P w = .ok (.int kd (g i : Nat)) w := by rw [Nat.mul_one]; exact run_part_ns h3 hi
    have pe : (Op.equalIn (dd + 1) el (.int kd (f i : Nat)) (.int kd (g i : Nat))).run P w = .ok (f i == g i) w := by
      rw [Op.equalIn]
      simp only [Sem.run_bind, run_underlying' h3, Result.andThen_ok, if_true, Sem.run_pure]
      congr 1
      rw [Bool.eq_iff_iff]
      simp
      omega
    simp only [List.forIn_cons, Sem.run_bind, px, py, pe, Result.andThen_ok, List.all_cons]
    cases hb : (f i == g i)
    · simp
    · simp only [Bool.not_true, Bool.false_eq_true, if_false, Sem.run_pure, Result.andThen_ok, Bool.true_and]
      exact ih fun j hj => hl j (by simp [hj])
theorem all_range {f g : Nat → Nat} : ((List.range n).all fun i => f i == g i) = decide (∀ i, i < n → f i = g i) := by
  rw [Bool.eq_iff_iff]
  simp
theorem run_guard_agg {op : BinOp} {t : Nat} {x y : Operand} {a b : Array Value} (h : P.eqGuardType P.depth t = false) : (eqGuard op t x y (.agg a) (.agg b)).run P w = .ok () w := by
  cases op <;> simp [eqGuard, h]
theorem O_eql_ns {t t' el : Nat} {kd : IntKind} {f g : Nat → Nat} {x y : Operand} (ht : numT P t n el kd) (hx : ev ρ x = .agg (ns kd n f)) (hy : ev ρ y = .agg (ns kd n g)) (kk : K (put ρ d (.bool (decide (∀ i, i < n → f i = g i)))) w) : WO P ops ⟨some d, .binOp .eql t x y t', ty, pos, af, none⟩ e K ρ w :=
  O_pure rfl (fun w' => by
    have h1 : binOp .eql t (.agg (ns kd n f)) (.agg (ns kd n g)) = (do pure (.bool (← Op.equal t (.agg (ns kd n f)) (.agg (ns kd n g))))) := rfl
    have h3 : (Op.equal t (.agg (ns kd n f)) (.agg (ns kd n g))).run P w' = .ok (decide (∀ i, i < n → f i = g i)) w' := by
      show (Op.equalIn (9998 + 2) t _ _).run P w' = _
      rw [run_equalIn_ns 9998 ht, all_range]
    simp only [execOp, hx, hy, Sem.run_bind, run_guard_agg ht.2.2, Result.andThen_ok, h1, h3, Sem.run_pure]) kk
theorem O_neq_ns {t t' el : Nat} {kd : IntKind} {f g : Nat → Nat} {x y : Operand} (ht : numT P t n el kd) (hx : ev ρ x = .agg (ns kd n f)) (hy : ev ρ y = .agg (ns kd n g)) (kk : K (put ρ d (.bool (!decide (∀ i, i < n → f i = g i)))) w) : WO P ops ⟨some d, .binOp .neq t x y t', ty, pos, af, none⟩ e K ρ w :=
  O_pure rfl (fun w' => by
    have h1 : binOp .neq t (.agg (ns kd n f)) (.agg (ns kd n g)) = (do pure (.bool (!(← Op.equal t (.agg (ns kd n f)) (.agg (ns kd n g)))))) := rfl
    have h3 : (Op.equal t (.agg (ns kd n f)) (.agg (ns kd n g))).run P w' = .ok (decide (∀ i, i < n → f i = g i)) w' := by
      show (Op.equalIn (9998 + 2) t _ _).run P w' = _
      rw [run_equalIn_ns 9998 ht, all_range]
    simp only [execOp, hx, hy, Sem.run_bind, run_guard_agg ht.2.2, Result.andThen_ok, h1, h3, Sem.run_pure]) kk
theorem O_eql_same {t t' el : Nat} {kd : IntKind} {f : Nat → Nat} {x y : Operand} (ht : numT P t n el kd) (hx : ev ρ x = .agg (ns kd n f)) (hy : ev ρ y = .agg (ns kd n f)) (kk : K (put ρ d (.bool true)) w) : WO P ops ⟨some d, .binOp .eql t x y t', ty, pos, af, none⟩ e K ρ w :=
  O_eql_ns ht hx hy (by rw [decide_eq_true fun _ _ => rfl]; exact kk)
theorem O_neq_same {t t' el : Nat} {kd : IntKind} {f : Nat → Nat} {x y : Operand} (ht : numT P t n el kd) (hx : ev ρ x = .agg (ns kd n f)) (hy : ev ρ y = .agg (ns kd n f)) (kk : K (put ρ d (.bool false)) w) : WO P ops ⟨some d, .binOp .neq t x y t', ty, pos, af, none⟩ e K ρ w :=
  O_neq_ns ht hx hy (by rw [decide_eq_true fun _ _ => rfl]; exact kk)
theorem O_index_ns {t el m : Nat} {kd k : IntKind} {f : Nat → Nat} {x i : Operand} (ht : arrT P t n el 1) (he : P.underlying el = some (.int kd)) (hx : ev ρ x = .agg (ns kd n f)) (hi : ev ρ i = .int k (m : Nat)) (hm : m < n) (kk : K (put ρ d (.int kd (f m : Nat))) w) : WO P ops ⟨some d, .index t x i, ty, pos, af, none⟩ e K ρ w :=
  O_pure rfl (fun w' => by
    have h0 : (0 : Int) ≤ (m : Int) ∧ (m : Int) < (n : Int) := by omega
    simp [execOp, Instr.index, hx, hi, asIntOf, run_underlying' ht.1, h0, run_sizeOf ht.2, run_part_ns he hm, Nat.mul_one]
    omega) kk
end
theorem num63 : numT Samg.prog 63 17 27 .u64 := ⟨ar63, Samg.underlying27, by kernel_rfl⟩
theorem num66 : numT Samg.prog 66 8 27 .u64 := ⟨ar66, Samg.underlying27, by kernel_rfl⟩
end Go.Proofs.Ygcsam
