/-
  'Rows.AtSteadySaid', PROVED: the walk (YgcsamG9) laid into the row. After the guide's shell.
-/
import Derived.Test.YgcsamRows
import Derived.Test.YgcsamG9
import Derived.Test.YgcsamAo
import Derived.ProofKit
import Derived.OpenShut
import Derived.Below
namespace Go.Proofs.Ygcsam
open Go.ChangeShapes Go.WideShapes Go.ChangeAt Go.RowKit
set_option linter.unusedVariables false

theorem Mu.below {w w' : World} (h : Mu w.heap.size w w') : Below w.heap.size w w' := ⟨h.os, h.tape, h.output, h.size, h.low⟩
theorem at_own : ownKnob Samg.prog.godebug = none := by kernel_rfl
theorem at_laidOut : laidOutB Samg.prog = true := by kernel_rfl

theorem at_walk {a a2 : Option Addr} {cap n2 cap2 : Nat} {ω : WA} {W : World} (hA : AW W a cap ω) (hS2 : SW W a2 n2 cap2) {cso : Array Value} (hO : ∀ B w, okA B w 38 cso) :
    Calls Samg.prog 4 #[.slice a ω.n cap, .slice a2 n2 cap2, .agg cso] W fun e w' => e = .returned (.bool true) ∧ Below W.heap.size W w' := by
  refine Calls.mono (atSteady_ok hA hS2 hO) ?_
  rintro e w' ⟨v, rfl, hM, rfl⟩
  exact ⟨rfl, hM.below⟩

set_option maxRecDepth 100000 in
theorem at_lifted (os : Os) (started : os.Started) (H : Type) (enc : TypeId × Value → H) :
    ReturnsInHanded {} Samg.checked os 4 .any (Rows.atSteadySpec.pre6 enc Samg.prog Samg.f4 Rows.atSteadyRow.domain false) (Rows.atSteadySpec.post enc Samg.prog Samg.f4 false true false false) := by
  refine returnsInHanded_of_change (C := Samg.checked) at_own started (by kernel_rfl) Samg.func4
    (ChangeSpec.witness6 (enc := enc) (C := Samg.checked) false ⟨#[], #[.slice none 0 0, .slice none 0 0, .agg ((ns .u8 35 fun _ => 0) ++ #[.int .u64 0])], []⟩ 8 (by kernel_rfl) (by kernel_rfl) (by kernel_rfl) (by kernel_rfl)) ?_
  intro W base args ds gs before hval0 hW hcnd _
  have hval : ∀ (j : Nat) t v, Samg.f4.params[j]? = some t → args[j]? = some v → Value.okWide Samg.prog W .any base t v := hval0
  have hW' := hW
  obtain ⟨p, q, hA0, hV, rfl, hfz, hnd⟩ := hW
  have hA : DataW.TrodAll enc Samg.prog W 0 (fun _ => true) true Samg.f4.params.toList args.toList ds p := hA0
  rw [Samg.params4] at hA hval
  obtain ⟨v0, vs0, d0, ds0, p0, q0, hargs, rfl, rfl, h0, r0⟩ := trodAll_cons hA
  obtain ⟨v1, vs1, d1, ds1, p1, q1, rfl, rfl, rfl, h1, r1⟩ := trodAll_cons r0
  obtain ⟨v2, vs2, d2, ds2, p2, q2, rfl, rfl, rfl, h2, r2⟩ := trodAll_cons r1
  obtain ⟨rfl, rfl, rfl⟩ := trodAll_nil r2
  obtain rfl : args = #[v0, v1, v2] := by cases args; simp_all
  obtain ⟨rfl, rfl⟩ := trodVars_none hV
  have k0 := h0
  have k1 := h1
  have k2 := h2
  have lt0 : ∀ x ∈ p0, x.block < W.heap.size := by obtain ⟨m, hm⟩ := k0; exact DataW.trod_lt m _ _ _ hm
  have lt1 : ∀ x ∈ p1, x.block < W.heap.size := by obtain ⟨m, hm⟩ := k1; exact DataW.trod_lt m _ _ _ hm
  have lt2 : ∀ x ∈ p2, x.block < W.heap.size := by obtain ⟨m, hm⟩ := k2; exact DataW.trod_lt m _ _ _ hm
  obtain ⟨a0, l0, c0, rfl⟩ := okWide_slice Samg.underlying35 (hval 0 35 v0 rfl rfl)
  obtain ⟨a1, l1, c1, rfl⟩ := okWide_slice Samg.underlying36 (hval 1 36 v1 rfl rfl)
  have hv2 := hval 2 38 v2 rfl rfl
  simp only [Value.okWide, Samg.underlying38] at hv2
  obtain ⟨cso, rfl, hsz, _⟩ := hv2
  obtain ⟨f0, hf0⟩ := h0
  obtain ⟨f1, hf1⟩ := h1
  obtain ⟨f2, hf2⟩ := h2
  obtain ⟨a, cap, ω, e0, hAW⟩ := open_world hf0
  obtain ⟨b, n2, cap2, e1, hS1, hS2, hS3⟩ := open_script hf1
  have hO : ∀ B w, okA B w 38 cso := by
    have := open_sop hf2
    exact this
  have e0 : [Value.slice a0 l0 c0] = [.slice a ω.n cap] := e0
  have e1 : [Value.slice a1 l1 c1] = [.slice b n2 cap2] := e1
  simp only [List.cons.injEq, Value.slice.injEq, and_true] at e0 e1
  obtain ⟨rfl, rfl, rfl⟩ := e0
  obtain ⟨rfl, rfl, rfl⟩ := e1
  clear hA0 hval0
  refine (at_walk hAW ⟨hS1, hS2, hS3⟩ hO).mono fun e W' ⟨he, bel⟩ => ?_
  subst he
  exact ⟨_, rfl, _, _, _, [], _, [], hW', trodAll_mk1 (shut_bool Samg.underlying4 _),
    (trodAll_cons_mk (Below.trod at_laidOut (by kernel_rfl) (of_decide_eq_true (by kernel_rfl)) k0 bel lt0) (trodAll_cons_mk (Below.trod at_laidOut (by kernel_rfl) (of_decide_eq_true (by kernel_rfl)) k1 bel lt1) (trodAll_cons_mk (Below.trod at_laidOut (by kernel_rfl) (of_decide_eq_true (by kernel_rfl)) k2 bel lt2) trodAll_mk0))),
    rfl, bel.frame _, fun h => by cases h⟩

theorem atSteady_proved : Rows.AtSteadySaid :=
  OpenClaim.holds_of_wide 4 Samg.f4 rfl rfl rfl rfl rfl rfl rfl ⟨rfl, rfl, rfl, rfl, rfl⟩ rfl rfl rfl rfl rfl (by kernel_rfl) Samg.func4 (by kernel_rfl)
    (of_decide_eq_true (by kernel_rfl)) (by unfold Func.isWrapper; first | (rw [if_pos (by decide +kernel)]; kernel_rfl) | (rw [if_neg (by decide +kernel)]; exact ⟨rfl, rfl⟩))
    (fun os started H enc _ => at_lifted os started H enc)
#print axioms atSteady_proved
end Go.Proofs.Ygcsam
