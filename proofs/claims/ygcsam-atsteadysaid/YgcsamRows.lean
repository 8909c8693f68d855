/-
  No cell of these rows narrows 'for every input' (looked for: loops, veiled, ifaces, maps, wideKeys, modest, calm, conditions, laid).
  DERIVED. THE GIVEN ROWS OF THIS SEAT. 3 by the template 'for every input the law returns true; each argument reads behind the call as it read before'; 0 by the template 'total and deterministic' (their statements: YgcsamTotals.lean).
  GIVEN WITH THE SEED: the statements are not yours to turn. If you find one false, say at which input.
  Laid BY PROGRAM, IN A SANDBOX (cutbox-rows.mjs): the forced cells as the released guide's own fill.sh prints them over the translation 10a6e81d9738cbf5… (all of the seat's roots in one cut). By AI agents, Wed Nov 11 2026. No macro, syntax, notation, axiom, sorry.
-/
import Derived.Test.YgcsamChecked
import GoSem.Claim
import GoSem.ClaimJoined
import GoSem.ClaimMapViews
import Derived.JoinedTies
import Derived.KernelRfl
namespace Go.Proofs.Ygcsam
/- THE CELL 'sum', in the pinned program and in every row, IS THE sha256 OF THE DUMP (.gsa) THAT YgcsamProg.lean LOADS. Nothing in Lean hashes anything: it is a label: what it is worth is what the hold of that sum in a sandbox is worth. -/
noncomputable def Samg.pinned : Pinned := { name := "ygcsam", sum := "10a6e81d9738cbf50a254b3b56927b17126291baf6d3f5506adb1ccd48bee6f4", checked := Samg.checked }
namespace Rows
def none {H : Type} : Left H := { results := [], args := [] }

/-- 'law.FreshAddrs': WHATEVER THE INPUT: true; the input reads as it did. -/
def freshAddrsSpec : ChangeSpec := { name := "freshAddrs", fn := fun _ => fun
  | [d] => { results := [.lit (.bool true)], args := [d] }
  | _ => none }
def freshAddrsRow : OpenClaim := { program := "ygcsam", sum := "10a6e81d9738cbf50a254b3b56927b17126291baf6d3f5506adb1ccd48bee6f4", func := "yellow/law.FreshAddrs", spec := "freshAddrs", apart := false }
def FreshAddrsSaid : Prop := freshAddrsRow.holds Samg.pinned (OpenSpec.ofChange freshAddrsSpec)

/-- ITS FALSE NEIGHBOUR: 'it returns false'. Refute it at one input. -/
def freshAddrsWrong : ChangeSpec := { name := "freshAddrs", fn := fun _ => fun
  | [d] => { results := [.lit (.bool false)], args := [d] }
  | _ => none }
def FreshAddrsWrongFalsely : Prop := freshAddrsRow.holds Samg.pinned (OpenSpec.ofChange freshAddrsWrong)

/-- 'law.AtSteady': WHATEVER THE INPUT: true; the input reads as it did. -/
def atSteadySpec : ChangeSpec := { name := "atSteady", fn := fun _ => fun
  | [d1, d2, d3] => { results := [.lit (.bool true)], args := [d1, d2, d3] }
  | _ => none }
def atSteadyRow : OpenClaim := { program := "ygcsam", sum := "10a6e81d9738cbf50a254b3b56927b17126291baf6d3f5506adb1ccd48bee6f4", func := "yellow/law.AtSteady", spec := "atSteady", inPlace := ["math/bits.Add64", "math/bits.Sub64"], apart := false }
def AtSteadySaid : Prop := atSteadyRow.holds Samg.pinned (OpenSpec.ofChange atSteadySpec)

/-- ITS FALSE NEIGHBOUR: 'it returns false'. Refute it at one input. -/
def atSteadyWrong : ChangeSpec := { name := "atSteady", fn := fun _ => fun
  | [d1, d2, d3] => { results := [.lit (.bool false)], args := [d1, d2, d3] }
  | _ => none }
def AtSteadyWrongFalsely : Prop := atSteadyRow.holds Samg.pinned (OpenSpec.ofChange atSteadyWrong)

/-- 'law.RoundWideRight': WHATEVER THE INPUT: true; the input reads as it did. -/
def roundWideRightSpec : ChangeSpec := { name := "roundWideRight", fn := fun _ => fun
  | [d1, d2, d3, d4] => { results := [.lit (.bool true)], args := [d1, d2, d3, d4] }
  | _ => none }
def roundWideRightRow : OpenClaim := { program := "ygcsam", sum := "10a6e81d9738cbf50a254b3b56927b17126291baf6d3f5506adb1ccd48bee6f4", func := "yellow/law.RoundWideRight", spec := "roundWideRight", inPlace := ["math/bits.Add64", "math/bits.Sub64"], named := ["math/bits.divideError", "math/bits.overflowError"], apart := false }
def RoundWideRightSaid : Prop := roundWideRightRow.holds Samg.pinned (OpenSpec.ofChange roundWideRightSpec)

/-- ITS FALSE NEIGHBOUR: 'it returns false'. Refute it at one input. -/
def roundWideRightWrong : ChangeSpec := { name := "roundWideRight", fn := fun _ => fun
  | [d1, d2, d3, d4] => { results := [.lit (.bool false)], args := [d1, d2, d3, d4] }
  | _ => none }
def RoundWideRightWrongFalsely : Prop := roundWideRightRow.holds Samg.pinned (OpenSpec.ofChange roundWideRightWrong)

end Rows
end Go.Proofs.Ygcsam
