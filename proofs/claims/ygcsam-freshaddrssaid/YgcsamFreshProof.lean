/-
  'Rows.FreshAddrsSaid', PROVED: the walk (YgcsamF4) laid into the row. After the guide's shell.
-/
import Derived.Test.YgcsamRows
import Derived.Test.YgcsamF4
import Derived.ProofKit
import Derived.OpenShut
import Derived.Below
namespace Go.Proofs.Ygcsam
open Go.ChangeShapes Go.WideShapes Go.ChangeAt Go.RowKit
set_option linter.unusedVariables false

theorem Ext.below {w w' : World} (h : Ext w w') : Below w.heap.size w w' := ⟨h.os, h.tape, h.output, h.size, h.block⟩

theorem fresh_own : ownKnob Samg.prog.godebug = none := by kernel_rfl

theorem fresh_walk (a0 : Int) (w0 : (Lit.int .u16 a0).wf = true) (w : World) :
    Calls Samg.prog 3 #[.int .u16 a0] w fun e w' => e = .returned (.bool true) ∧ Below w.heap.size w w' := by
  have hb := bounds_u16 w0
  obtain ⟨n, rfl⟩ := Int.eq_ofNat_of_zero_le hb.1
  refine Calls.mono (freshAddrs_ok n (by omega) w) ?_
  rintro e w' ⟨v, rfl, rfl, hE⟩
  exact ⟨rfl, hE.below⟩

set_option maxRecDepth 100000 in
theorem fresh_lifted (os : Os) (started : os.Started) (H : Type) (enc : TypeId × Value → H) :
    ReturnsInHanded {} Samg.checked os 3 .any (Rows.freshAddrsSpec.pre6 enc Samg.prog Samg.f3 Rows.freshAddrsRow.domain false) (Rows.freshAddrsSpec.post enc Samg.prog Samg.f3 false true false false) := by
  refine returnsInHanded_of_change (C := Samg.checked) fresh_own started (by kernel_rfl) Samg.func3
    (ChangeSpec.witness6 (enc := enc) (C := Samg.checked) false ⟨#[], #[.int .u16 0], []⟩ 8 (by kernel_rfl) (by kernel_rfl) (by kernel_rfl) (by kernel_rfl)) ?_
  intro W base args ds gs before hval0 hW hcnd _
  have hval : ∀ (j : Nat) t v, Samg.f3.params[j]? = some t → args[j]? = some v → Value.okWide Samg.prog W .any base t v := hval0
  have hW' := hW
  obtain ⟨p, q, hA0, hV, rfl, hfz, hnd⟩ := hW
  have hA : DataW.TrodAll enc Samg.prog W 0 (fun _ => true) true Samg.f3.params.toList args.toList ds p := hA0
  rw [Samg.params3] at hA hval
  obtain ⟨v0, vs0, d0, ds0, p0, q0, hargs, rfl, rfl, h0, r0⟩ := trodAll_cons hA
  obtain ⟨rfl, rfl, rfl⟩ := trodAll_nil r0
  obtain rfl : args = #[v0] := by cases args; simp_all
  obtain ⟨rfl, rfl⟩ := trodVars_none hV
  obtain ⟨a0, rfl, rfl, rfl, w0⟩ := open_int Samg.underlying22 (hval 0 22 v0 rfl rfl) h0
  clear hA0 hval0
  simp only [List.append_nil] at hW'
  refine (fresh_walk a0 w0 W).mono fun e W' ⟨he, bel⟩ => ?_
  subst he
  exact ⟨_, rfl, _, _, _, [], [], [], hW', trodAll_mk1 (shut_bool Samg.underlying4 _), trodAll_cons_mk (shut_int Samg.underlying22 w0) trodAll_mk0, rfl, bel.frame _, fun h => by cases h⟩

theorem freshAddrs_proved : Rows.FreshAddrsSaid :=
  OpenClaim.holds_of_wide 3 Samg.f3 rfl rfl rfl rfl rfl rfl rfl ⟨rfl, rfl, rfl, rfl, rfl⟩ rfl rfl rfl rfl rfl (by kernel_rfl) Samg.func3 (by kernel_rfl)
    (of_decide_eq_true (by kernel_rfl)) (by unfold Func.isWrapper; first | (rw [if_pos (by decide +kernel)]; kernel_rfl) | (rw [if_neg (by decide +kernel)]; exact ⟨rfl, rfl⟩))
    (fun os started H enc _ => fresh_lifted os started H enc)
#print axioms freshAddrs_proved
end Go.Proofs.Ygcsam
