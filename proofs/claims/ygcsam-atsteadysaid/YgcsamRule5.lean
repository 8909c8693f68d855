/-
  MORE RULES: rows whose elements take one cell. Own work.
-/
import Derived.Test.YgcsamRule4
namespace Go.Proofs.Ygcsam
set_option linter.unusedVariables false
section
variable {P : Program} {ops : Array Oper} {e : Bool} {K : Env → World → Prop} {Q : Exit → Env → World → Prop} {ρ : Env} {w : World} {d : Nat} {ty : TypeId} {pos : String} {af : Array Edge} {n : Nat}
theorem O_index1 {t n el b o m : Nat} {k : IntKind} {x i : Operand} (ht : arrT P t n el 1) (hx : ev ρ x = .pointer (some ⟨b, o, none⟩)) (hi : ev ρ i = .int k (m : Nat)) (hm : m < n)
    (kk : K (put ρ d (.pointer (some ⟨b, o + m, none⟩))) w) : WO P ops ⟨some d, .indexAddr t x i, ty, pos, af, none⟩ e K ρ w :=
  O_index ht hx hi hm (by rw [Nat.mul_one]; exact kk)
theorem O_index_s1 {t el b o l cap m : Nat} {k : IntKind} {x i : Operand} (ht : slcT P t el 1) (hx : ev ρ x = .slice (some ⟨b, o, none⟩) l cap) (hi : ev ρ i = .int k (m : Nat)) (hm : m < l)
    (kk : K (put ρ d (.pointer (some ⟨b, o + m, none⟩))) w) : WO P ops ⟨some d, .indexAddr t x i, ty, pos, af, none⟩ e K ρ w :=
  O_index_s ht hx hi hm (by rw [Nat.mul_one]; exact kk)
end
end Go.Proofs.Ygcsam
