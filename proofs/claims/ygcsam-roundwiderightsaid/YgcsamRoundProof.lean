/-
  'Rows.RoundWideRightSaid', PROVED: the walk (YgcsamL4) laid into the row. After the guide's shell.
-/
import Derived.Test.YgcsamRows
import Derived.Test.YgcsamL4
import Derived.ProofKit
import Derived.OpenShut
import Derived.Below
namespace Go.Proofs.Ygcsam
open Go.ChangeShapes Go.WideShapes Go.ChangeAt Go.RowKit
set_option linter.unusedVariables false

theorem Ext.low {w w' : World} (h : Ext w w') : Below w.heap.size w w' := ⟨h.os, h.tape, h.output, h.size, h.block⟩
theorem round_own : ownKnob Samg.prog.godebug = none := by kernel_rfl
theorem round_laidOut : laidOutB Samg.prog = true := by kernel_rfl

/-- An array of bytes that came in. -/
theorem open_bytes {H : Type} {enc : TypeId × Value → H} {P : Program} {W : World} {base b0 : Nat} {spare : Nat → Bool} {held : Bool} {r : Reach} {t n : Nat} {v : Value} {d : DataW H} {ps : List MemPlace}
    (ht : P.underlying t = some (.array n 5)) (h5 : P.underlying 5 = some (.int .u8)) (hc : P.cellsOf 5 = 1) (hn : P.cellsOf t = n) (hval : Value.okWide P W r b0 t v) (hd : DataW.Trod enc P W base spare held t v d ps) :
    ∃ a : Nat → Nat, v = .agg (ns .u8 n a) ∧ ∀ i, i < n → a i < 256 := by
  simp only [Value.okWide, ht] at hval
  obtain ⟨cs, rfl, hsz, _⟩ := hval
  rw [hn] at hsz
  obtain ⟨fuel, hf⟩ := hd
  obtain ⟨xs, m, _, _, _, hxl, hx⟩ := DataW.trod_array ht hf
  have hall : ∀ i, i < n → ∃ z : Nat, cs[i]? = some (.int .u8 (z : Nat)) ∧ z < 256 := by
    intro i hi
    have h1 := hx i hi
    rw [List.getElem?_eq_getElem (by omega)] at h1
    obtain ⟨z, e1, _, wf⟩ := DataW.trod_int h5 h1
    have hb := bounds_u8 wf
    rw [hc, Nat.mul_one] at e1
    have e2 : cs[i]? = some (.int .u8 z) := by
      have h3 : (cs.toList.drop i)[0]? = some (.int .u8 z) := by
        have h4 : ((cs.toList.drop i).take 1)[0]? = some (.int .u8 z) := by
          show (((Value.agg cs).cells.toList.drop i).take 1)[0]? = _
          rw [e1]; rfl
        rw [List.getElem?_take] at h4
        simpa using h4
      simpa using h3
    exact ⟨z.toNat, by rw [e2, Int.toNat_of_nonneg hb.1], by omega⟩
  refine ⟨fun i => match cs[i]? with | some (.int _ z) => z.toNat | _ => 0, ?_, ?_⟩
  · congr 1
    refine ns_ext hsz fun i hi => ?_
    obtain ⟨z, e, _⟩ := hall i hi
    simp only [e]
    rw [Int.toNat_natCast]
  · intro i hi
    obtain ⟨z, e, hz⟩ := hall i hi
    simp only [e]
    rw [Int.toNat_natCast]
    exact hz

theorem round_walk (a b : Nat → Nat) (ha : ∀ i, i < 136 → a i < 256) (hb : ∀ i, i < 64 → b i < 256) (a2 a3 : Int) (w2 : (Lit.int .u8 a2).wf = true) (w3 : (Lit.int .u8 a3).wf = true) (w : World) :
    Calls Samg.prog 5 #[.agg (ns .u8 136 a), .agg (ns .u8 64 b), .int .u8 a2, .int .u8 a3] w fun e w' => e = .returned (.bool true) ∧ Below w.heap.size w w' := by
  have h2 := bounds_u8 w2
  have h3 := bounds_u8 w3
  obtain ⟨n, rfl⟩ := Int.eq_ofNat_of_zero_le h2.1
  obtain ⟨j, rfl⟩ := Int.eq_ofNat_of_zero_le h3.1
  refine Calls.mono (roundWideRight_ok ha hb (n := n) (j := j) (by omega) (by omega) w) ?_
  rintro e w' ⟨v, rfl, rfl, hE⟩
  exact ⟨rfl, hE.low⟩

set_option maxRecDepth 100000 in
theorem round_lifted (os : Os) (started : os.Started) (H : Type) (enc : TypeId × Value → H) :
    ReturnsInHanded {} Samg.checked os 5 .any (Rows.roundWideRightSpec.pre6 enc Samg.prog Samg.f5 Rows.roundWideRightRow.domain false) (Rows.roundWideRightSpec.post enc Samg.prog Samg.f5 false true false false) := by
  refine returnsInHanded_of_change (C := Samg.checked) round_own started (by kernel_rfl) Samg.func5
    (ChangeSpec.witness6 (enc := enc) (C := Samg.checked) false ⟨#[], #[.agg (ns .u8 136 fun _ => 0), .agg (ns .u8 64 fun _ => 0), .int .u8 0, .int .u8 0], []⟩ 8 (by kernel_rfl) (by kernel_rfl) (by kernel_rfl) (by kernel_rfl)) ?_
  intro W base args ds gs before hval0 hW hcnd _
  have hval : ∀ (j : Nat) t v, Samg.f5.params[j]? = some t → args[j]? = some v → Value.okWide Samg.prog W .any base t v := hval0
  have hW' := hW
  obtain ⟨p, q, hA0, hV, rfl, hfz, hnd⟩ := hW
  have hA : DataW.TrodAll enc Samg.prog W 0 (fun _ => true) true Samg.f5.params.toList args.toList ds p := hA0
  rw [Samg.params5] at hA hval
  obtain ⟨v0, vs0, d0, ds0, p0, q0, hargs, rfl, rfl, h0, r0⟩ := trodAll_cons hA
  obtain ⟨v1, vs1, d1, ds1, p1, q1, rfl, rfl, rfl, h1, r1⟩ := trodAll_cons r0
  obtain ⟨v2, vs2, d2, ds2, p2, q2, rfl, rfl, rfl, h2, r2⟩ := trodAll_cons r1
  obtain ⟨v3, vs3, d3, ds3, p3, q3, rfl, rfl, rfl, h3, r3⟩ := trodAll_cons r2
  obtain ⟨rfl, rfl, rfl⟩ := trodAll_nil r3
  obtain rfl : args = #[v0, v1, v2, v3] := by cases args; simp_all
  obtain ⟨rfl, rfl⟩ := trodVars_none hV
  have k0 := h0
  have k1 := h1
  have lt0 : ∀ x ∈ p0, x.block < W.heap.size := by obtain ⟨m, hm⟩ := k0; exact DataW.trod_lt m _ _ _ hm
  have lt1 : ∀ x ∈ p1, x.block < W.heap.size := by obtain ⟨m, hm⟩ := k1; exact DataW.trod_lt m _ _ _ hm
  obtain ⟨a, rfl, ha⟩ := open_bytes Samg.underlying61 Samg.underlying5 (by kernel_rfl) (by kernel_rfl) (hval 0 61 v0 rfl rfl) h0
  obtain ⟨b, rfl, hb⟩ := open_bytes Samg.underlying62 Samg.underlying5 (by kernel_rfl) (by kernel_rfl) (hval 1 62 v1 rfl rfl) h1
  obtain ⟨a2, rfl, rfl, rfl, w2⟩ := open_int Samg.underlying5 (hval 2 5 v2 rfl rfl) h2
  obtain ⟨a3, rfl, rfl, rfl, w3⟩ := open_int Samg.underlying5 (hval 3 5 v3 rfl rfl) h3
  clear hA0 hval0
  refine (round_walk a b ha hb a2 a3 w2 w3 W).mono fun e W' ⟨he, bel⟩ => ?_
  subst he
  exact ⟨_, rfl, _, _, _, [], _, [], hW', trodAll_mk1 (shut_bool Samg.underlying4 _),
    (trodAll_cons_mk (Below.trod round_laidOut (by kernel_rfl) (of_decide_eq_true (by kernel_rfl)) k0 bel lt0) (trodAll_cons_mk (Below.trod round_laidOut (by kernel_rfl) (of_decide_eq_true (by kernel_rfl)) k1 bel lt1) (trodAll_cons_mk (shut_int Samg.underlying5 w2) (trodAll_cons_mk (shut_int Samg.underlying5 w3) trodAll_mk0)))),
    rfl, bel.frame _, fun h => by cases h⟩

theorem roundWideRight_proved : Rows.RoundWideRightSaid :=
  OpenClaim.holds_of_wide 5 Samg.f5 rfl rfl rfl rfl rfl rfl rfl ⟨rfl, rfl, rfl, rfl, rfl⟩ rfl rfl rfl rfl rfl (by kernel_rfl) Samg.func5 (by kernel_rfl)
    (of_decide_eq_true (by kernel_rfl)) (by unfold Func.isWrapper; first | (rw [if_pos (by decide +kernel)]; kernel_rfl) | (rw [if_neg (by decide +kernel)]; exact ⟨rfl, rfl⟩))
    (fun os started H enc _ => round_lifted os started H enc)
#print axioms roundWideRight_proved
end Go.Proofs.Ygcsam
