/-
  THE ARGUMENTS OPENED: a world of accounts, a script, a step, out of the row's readings. Own work.
-/
import Derived.Test.YgcsamF6
import Derived.ProofKit
import Derived.OpenShut
namespace Go.Proofs.Ygcsam
open Go.ChangeShapes Go.WideShapes Go.ChangeAt Go.RowKit
set_option linter.unusedVariables false
set_option linter.unusedSimpArgs false
theorem pickF {α : Type} (d : α) {n : Nat} {p : Nat → α → Prop} (h : ∀ i, i < n → ∃ z, p i z) : ∃ f : Nat → α, (∀ i, i < n → p i (f i)) ∧ ∀ i, n ≤ i → f i = d := by
  refine ⟨fun i => if h' : i < n then Classical.choose (h i h') else d, fun i hi => ?_, fun i hi => ?_⟩
  · show p i (if h' : i < n then Classical.choose (h i h') else d)
    rw [dif_pos hi]; exact Classical.choose_spec (h i hi)
  · show (if h' : i < n then Classical.choose (h i h') else d) = d
    rw [dif_neg (by omega)]
section
variable {H : Type} {enc : TypeId × Value → H} {P : Program} {W : World} {base : Nat} {sp : Nat → Bool} {held : Bool}
theorem one_of {cs : List Value} {i : Nat} {v : Value} (h : (cs.drop i).take 1 = [v]) : cs[i]? = some v := by
  have h4 : ((cs.drop i).take 1)[0]? = some v := by rw [h]; rfl
  rw [List.getElem?_take] at h4
  simpa using h4
theorem sub_of {cs : List Value} {i n j : Nat} (h : j < n) : ((cs.drop i).take n)[j]? = cs[i + j]? := by
  rw [List.getElem?_take, if_pos h, List.getElem?_drop]
theorem open_arr8 {t n fuel : Nat} {cs : List Value} {x : DataW H × List MemPlace} (ht : P.underlying t = some (.array n 5)) (h5 : P.underlying 5 = some (.int .u8)) (hc : P.cellsOf 5 = 1) (h : DataW.trod enc P W base sp held fuel t cs = some x) :
    ∃ f : Nat → Nat, (∀ j, f j < 256) ∧ ∀ j, j < n → cs[j]? = some (.int .u8 ((f j : Nat) : Int)) := by
  obtain ⟨xs, m, _, _, _, hxl, hx⟩ := DataW.trod_array ht h
  obtain ⟨f, f1, f2⟩ := pickF (n := n) (p := fun j z => cs[j]? = some (.int .u8 ((z : Nat) : Int)) ∧ z < 256) 0 (fun i hi => by
    have h1 := hx i hi
    rw [List.getElem?_eq_getElem (by omega)] at h1
    obtain ⟨z, e1, _, wf⟩ := DataW.trod_int h5 h1
    have hb := bounds_u8 wf
    rw [hc, Nat.mul_one] at e1
    exact ⟨z.toNat, by rw [one_of e1, Int.toNat_of_nonneg hb.1], by omega⟩)
  refine ⟨f, fun j => ?_, fun j hj => (f1 j hj).1⟩
  rcases Nat.lt_or_ge j n with hj | hj
  · exact (f1 j hj).2
  · rw [f2 j hj]; omega
theorem open_slc {t e s fuel : Nat} {cs : List Value} {x : DataW H × List MemPlace} (ht : P.underlying t = some (.slice e)) (hs : P.cellsOf e = s) (h0 : 0 < s) (h : DataW.trod enc P W base sp held fuel t cs = some x) :
    ∃ (a : Option Addr) (len cap : Nat), cs = [.slice a len cap] ∧ len ≤ cap ∧ cap < 9223372036854775808 ∧ (len = 0 ∨ ∃ b o, a = some ⟨b, o, none⟩ ∧ ∀ i, i < len → ∃ (cells : List Value) (y : DataW H × List MemPlace) (m : Nat), cells.length = s ∧ (∀ j, j < s → W.cell? ⟨b, o + i * s + j, none⟩ = cells[j]?) ∧ DataW.trod enc P W base sp held m e cells = some y) := by
  rcases DataW.trod_slice ht h with ⟨rfl, _⟩ | ⟨a, len, cap, elems, rest, n, _, rfl, _, _, hl, hm, he, hall, _⟩
  · exact ⟨none, 0, 0, rfl, Nat.le_refl _, by omega, .inl rfl⟩
  · refine ⟨some a, len, cap, rfl, hl, by unfold maxLen at hm; omega, ?_⟩
    rcases Nat.eq_zero_or_pos len with h00 | hpos
    · exact .inl h00
    · right
      have hrow : ∀ i, i < len → ∃ (cells : List Value) (y : DataW H × List MemPlace), W.cells? base (a.add (i * s)) s = some cells ∧ DataW.trod enc P W base sp held n e cells = some y := by
        intro i hi
        have h1 := hall i hi
        rw [List.getElem?_eq_getElem (by omega), hs] at h1
        obtain ⟨cells, c1, c2⟩ := Option.bind_eq_some_iff.1 h1
        exact ⟨cells, _, c1, c2⟩
      obtain ⟨b, o, spot⟩ := a
      have hspot : spot = none := by
        obtain ⟨cells, y, c1, _⟩ := hrow 0 hpos
        obtain ⟨_, hlen, hcell⟩ := World.cells?_some c1
        have g0 := hcell 0 h0
        rw [List.getElem?_eq_getElem (by omega)] at g0
        have := World.cell?_spot g0
        simpa [Addr.add] using this
      subst hspot
      refine ⟨b, o, rfl, fun i hi => ?_⟩
      obtain ⟨cells, y, c1, c2⟩ := hrow i hi
      obtain ⟨_, hlen, hcell⟩ := World.cells?_some c1
      refine ⟨cells, y, n, hlen, fun j hj => ?_, c2⟩
      have := hcell j hj
      rwa [addr_add, addr_add] at this
end
section
variable {H : Type} {enc : TypeId × Value → H} {W : World} {base : Nat} {sp : Nat → Bool} {held : Bool}
theorem open_sop {fuel : Nat} {cs : List Value} {x : DataW H × List MemPlace} (h : DataW.trod enc Samg.prog W base sp held fuel 38 cs = some x) : ∀ B w, okA B w 38 cs.toArray := by
  obtain ⟨xs, n, _, _, hl, hxl, hf⟩ := DataW.trod_struct Samg.underlying38 h
  have c38 : Samg.prog.cellsOf 38 = 36 := by kernel_rfl
  have c5 : Samg.prog.cellsOf 5 = 1 := by kernel_rfl
  have c27 : Samg.prog.cellsOf 27 = 1 := by kernel_rfl
  have c30 : Samg.prog.cellsOf 30 = 32 := by kernel_rfl
  rw [c38] at hl
  have hxl : xs.length = 5 := hxl
  have k0 : DataW.trod enc Samg.prog W base sp held n 5 ((cs.drop 0).take (Samg.prog.cellsOf 5)) = xs[0]? := hf 0 _ rfl
  have k1 : DataW.trod enc Samg.prog W base sp held n 5 ((cs.drop 1).take (Samg.prog.cellsOf 5)) = xs[1]? := hf 1 _ rfl
  have k2 : DataW.trod enc Samg.prog W base sp held n 5 ((cs.drop 2).take (Samg.prog.cellsOf 5)) = xs[2]? := hf 2 _ rfl
  have k3 : DataW.trod enc Samg.prog W base sp held n 30 ((cs.drop 3).take (Samg.prog.cellsOf 30)) = xs[3]? := hf 3 _ rfl
  have k4 : DataW.trod enc Samg.prog W base sp held n 27 ((cs.drop 35).take (Samg.prog.cellsOf 27)) = xs[4]? := hf 4 _ rfl
  rw [List.getElem?_eq_getElem (by omega)] at k0 k1 k2 k3 k4
  obtain ⟨z0, e0, _, w0⟩ := DataW.trod_int Samg.underlying5 k0
  obtain ⟨z1, e1, _, w1⟩ := DataW.trod_int Samg.underlying5 k1
  obtain ⟨z2, e2, _, w2⟩ := DataW.trod_int Samg.underlying5 k2
  obtain ⟨f, f1, f2⟩ := open_arr8 Samg.underlying30 Samg.underlying5 c5 k3
  obtain ⟨z4, e4, _, w4⟩ := DataW.trod_int Samg.underlying27 k4
  have b0 := bounds_u8 w0
  have b1 := bounds_u8 w1
  have b2 := bounds_u8 w2
  have b4 := bounds_u64 w4
  rw [c5] at e0 e1 e2
  rw [c27] at e4
  have g0 : cs[0]? = some (.int .u8 z0) := one_of e0
  have g1 : cs[1]? = some (.int .u8 z1) := one_of e1
  have g2 : cs[2]? = some (.int .u8 z2) := one_of e2
  have g4 : cs[35]? = some (.int .u64 z4) := one_of e4
  have g3 : ∀ j, j < 32 → cs[3 + j]? = some (.int .u8 ((f j : Nat) : Int)) := fun j hj => by
    rw [← f2 j hj]
    exact (sub_of (by rw [c30]; exact hj)).symm
  intro B w
  refine ⟨by rw [List.size_toArray]; exact hl, fun o v hv => ?_⟩
  rw [List.getElem?_toArray] at hv
  have ho : o < 36 := by have := (List.getElem?_eq_some_iff.1 hv).1; omega
  have hlay : ∀ z : Int, 0 ≤ z → z ≤ 255 → o < 35 → v = .int .u8 z → okV B w (lay 38 o) v := fun z h1 h2 h3 h4 => by
    obtain ⟨m, rfl⟩ := Int.eq_ofNat_of_zero_le h1
    rw [show lay 38 o = 1 by simp only [lay]; rw [if_pos h3], h4]
    exact ok8 (by omega)
  rcases Nat.lt_or_ge o 35 with h35 | h35
  · rcases Nat.lt_or_ge o 3 with h3 | h3
    · have hor : o = 0 ∨ o = 1 ∨ o = 2 := by omega
      rcases hor with rfl | rfl | rfl
      · rw [g0] at hv; exact hlay z0 b0.1 b0.2 h35 (Option.some.inj hv).symm
      · rw [g1] at hv; exact hlay z1 b1.1 b1.2 h35 (Option.some.inj hv).symm
      · rw [g2] at hv; exact hlay z2 b2.1 b2.2 h35 (Option.some.inj hv).symm
    · obtain ⟨j, rfl⟩ := Nat.exists_eq_add_of_le h3
      rw [g3 j (by omega)] at hv
      exact hlay (f j) (by omega) (by have := f1 j; omega) h35 (Option.some.inj hv).symm
  · obtain rfl : o = 35 := by omega
    rw [g4] at hv
    cases hv
    obtain ⟨m, rfl⟩ := Int.eq_ofNat_of_zero_le b4.1
    exact ok64 (by omega)
/-- An account, told. -/
structure AR where
  ad : Nat → Nat
  no : Nat
  bl : Nat → Nat
  ca : Option Addr
  cn : Nat
  cc : Nat
  cb : Nat → Nat
  sa : Option Addr
  sn : Nat
  sc : Nat
  ky : Nat → Nat → Nat
  vl : Nat → Nat → Nat
structure ARok (r : AR) : Prop where
  rad : ∀ j, r.ad j < 256
  rno : r.no < 18446744073709551616
  rbl : ∀ j, r.bl j < 256
  rcb : ∀ j, r.cb j < 256
  rky : ∀ k j, r.ky k j < 256
  rvl : ∀ k j, r.vl k j < 256
  rcn : r.cn < 9223372036854775808
  rsn : r.sn < 9223372036854775808
structure ARat (W : World) (b o : Nat) (r : AR) : Prop where
  ad : By W b (o + 0) 20 r.ad
  no : W.cell? ⟨b, o + 20, none⟩ = some (.int .u64 ((r.no : Nat) : Int))
  bl : By W b (o + 21) 32 r.bl
  co : W.cell? ⟨b, o + 53, none⟩ = some (.slice r.ca r.cn r.cc)
  sl : W.cell? ⟨b, o + 54, none⟩ = some (.slice r.sa r.sn r.sc)
  code : r.cn = 0 ∨ ∃ b o, r.ca = some ⟨b, o, none⟩ ∧ By W b o r.cn r.cb
  slots : r.sn = 0 ∨ ∃ b o, r.sa = some ⟨b, o, none⟩ ∧ ∀ k, k < r.sn → By W b (o + k * 64 + 0) 32 (r.ky k) ∧ By W b (o + k * 64 + 32) 32 (r.vl k)
theorem open_code {fuel : Nat} {cs : List Value} {x : DataW H × List MemPlace} (h : DataW.trod enc Samg.prog W base sp held fuel 31 cs = some x) :
    ∃ (a : Option Addr) (n c : Nat) (f : Nat → Nat), cs = [.slice a n c] ∧ n < 9223372036854775808 ∧ (∀ j, f j < 256) ∧ (n = 0 ∨ ∃ b o, a = some ⟨b, o, none⟩ ∧ By W b o n f) := by
  obtain ⟨a, n, c, rfl, h1, h2, h3⟩ := open_slc (e := 5) (s := 1) Samg.underlying31 (by kernel_rfl) (by omega) h
  rcases h3 with h3 | ⟨b, o, rfl, h3⟩
  · exact ⟨a, n, c, fun _ => 0, rfl, by omega, fun _ => (show (0 : Nat) < 256 by omega), .inl h3⟩
  · obtain ⟨f, f1, f2⟩ := pickF (n := n) (p := fun j z => W.cell? ⟨b, o + j, none⟩ = some (.int .u8 ((z : Nat) : Int)) ∧ z < 256) 0 (fun i hi => by
      obtain ⟨cells, y, m, e1, e2, e3⟩ := h3 i hi
      obtain ⟨z, rfl, _, wf⟩ := DataW.trod_int Samg.underlying5 e3
      have hb := bounds_u8 wf
      have := e2 0 (by omega)
      rw [Nat.mul_one, Nat.add_zero] at this
      exact ⟨z.toNat, by rw [this, Int.toNat_of_nonneg hb.1]; rfl, by omega⟩)
    refine ⟨some ⟨b, o, none⟩, n, c, f, rfl, by omega, fun j => ?_, .inr ⟨b, o, rfl, fun j hj => (f1 j hj).1⟩⟩
    rcases Nat.lt_or_ge j n with hj | hj
    · exact (f1 j hj).2
    · rw [f2 j hj]; omega
theorem open_slots {fuel : Nat} {cs : List Value} {x : DataW H × List MemPlace} (h : DataW.trod enc Samg.prog W base sp held fuel 88 cs = some x) :
    ∃ (a : Option Addr) (n c : Nat) (ky vl : Nat → Nat → Nat), cs = [.slice a n c] ∧ n < 9223372036854775808 ∧ (∀ k j, ky k j < 256) ∧ (∀ k j, vl k j < 256) ∧ (n = 0 ∨ ∃ b o, a = some ⟨b, o, none⟩ ∧ ∀ k, k < n → By W b (o + k * 64 + 0) 32 (ky k) ∧ By W b (o + k * 64 + 32) 32 (vl k)) := by
  obtain ⟨a, n, c, rfl, h1, h2, h3⟩ := open_slc (e := 150) (s := 64) Samg.underlying88 (by kernel_rfl) (by omega) h
  have c87 : Samg.prog.cellsOf 87 = 32 := by kernel_rfl
  have c5 : Samg.prog.cellsOf 5 = 1 := by kernel_rfl
  rcases h3 with h3 | ⟨b, o, rfl, h3⟩
  · exact ⟨a, n, c, fun _ _ => 0, fun _ _ => 0, rfl, by omega, fun _ _ => (show (0 : Nat) < 256 by omega), fun _ _ => (show (0 : Nat) < 256 by omega), .inl h3⟩
  · obtain ⟨f, f1, f2⟩ := pickF (α := (Nat → Nat) × (Nat → Nat)) (n := n) (p := fun k z => (∀ j, z.1 j < 256) ∧ (∀ j, z.2 j < 256) ∧ By W b (o + k * 64 + 0) 32 z.1 ∧ By W b (o + k * 64 + 32) 32 z.2) (fun _ => 0, fun _ => 0) (fun i hi => by
      obtain ⟨cells, y, m, e1, e2, e3⟩ := h3 i hi
      obtain ⟨xs, m', _, _, hl, hxl, hf⟩ := DataW.trod_struct Samg.underlying150 e3
      have hxl : xs.length = 2 := hxl
      have k0 : DataW.trod enc Samg.prog W base sp held m' 87 ((cells.drop 0).take (Samg.prog.cellsOf 87)) = xs[0]? := hf 0 _ rfl
      have k1 : DataW.trod enc Samg.prog W base sp held m' 87 ((cells.drop 32).take (Samg.prog.cellsOf 87)) = xs[1]? := hf 1 _ rfl
      rw [List.getElem?_eq_getElem (by omega)] at k0 k1
      obtain ⟨f, f1, f2⟩ := open_arr8 Samg.underlying87 Samg.underlying5 c5 k0
      obtain ⟨g, g1, g2⟩ := open_arr8 Samg.underlying87 Samg.underlying5 c5 k1
      refine ⟨(f, g), f1, g1, fun j hj => ?_, fun j hj => ?_⟩
      · rw [show o + i * 64 + 0 + j = o + i * 64 + (0 + j) by omega, e2 (0 + j) (by omega), ← f2 j hj]
        exact (sub_of (by rw [c87]; exact hj)).symm
      · rw [show o + i * 64 + 32 + j = o + i * 64 + (32 + j) by omega, e2 (32 + j) (by omega), ← g2 j hj]
        exact (sub_of (by rw [c87]; exact hj)).symm)
    refine ⟨some ⟨b, o, none⟩, n, c, fun k => (f k).1, fun k => (f k).2, rfl, by omega, fun k j => ?_, fun k j => ?_, .inr ⟨b, o, rfl, fun k hk => ⟨(f1 k hk).2.2.1, (f1 k hk).2.2.2⟩⟩⟩
    · rcases Nat.lt_or_ge k n with hk | hk
      · exact (f1 k hk).1 j
      · show (f k).1 j < 256
        rw [f2 k hk]; exact (show (0 : Nat) < 256 by omega)
    · rcases Nat.lt_or_ge k n with hk | hk
      · exact (f1 k hk).2.1 j
      · show (f k).2 j < 256
        rw [f2 k hk]; exact (show (0 : Nat) < 256 by omega)
theorem open_acc {b o fuel : Nat} {cs : List Value} {x : DataW H × List MemPlace} (h : DataW.trod enc Samg.prog W base sp held fuel 90 cs = some x) (hcell : ∀ j, j < 55 → W.cell? ⟨b, o + j, none⟩ = cs[j]?) : ∃ r : AR, ARok r ∧ ARat W b o r := by
  obtain ⟨xs, n, _, _, hl, hxl, hf⟩ := DataW.trod_struct Samg.underlying90 h
  have c5 : Samg.prog.cellsOf 5 = 1 := by kernel_rfl
  have c24 : Samg.prog.cellsOf 24 = 20 := by kernel_rfl
  have c27 : Samg.prog.cellsOf 27 = 1 := by kernel_rfl
  have c31 : Samg.prog.cellsOf 31 = 1 := by kernel_rfl
  have c87 : Samg.prog.cellsOf 87 = 32 := by kernel_rfl
  have c88 : Samg.prog.cellsOf 88 = 1 := by kernel_rfl
  have hxl : xs.length = 5 := hxl
  have k0 : DataW.trod enc Samg.prog W base sp held n 24 ((cs.drop 0).take (Samg.prog.cellsOf 24)) = xs[0]? := hf 0 _ rfl
  have k1 : DataW.trod enc Samg.prog W base sp held n 27 ((cs.drop 20).take (Samg.prog.cellsOf 27)) = xs[1]? := hf 1 _ rfl
  have k2 : DataW.trod enc Samg.prog W base sp held n 87 ((cs.drop 21).take (Samg.prog.cellsOf 87)) = xs[2]? := hf 2 _ rfl
  have k3 : DataW.trod enc Samg.prog W base sp held n 31 ((cs.drop 53).take (Samg.prog.cellsOf 31)) = xs[3]? := hf 3 _ rfl
  have k4 : DataW.trod enc Samg.prog W base sp held n 88 ((cs.drop 54).take (Samg.prog.cellsOf 88)) = xs[4]? := hf 4 _ rfl
  rw [List.getElem?_eq_getElem (by omega)] at k0 k1 k2 k3 k4
  obtain ⟨ad, ad1, ad2⟩ := open_arr8 Samg.underlying24 Samg.underlying5 c5 k0
  obtain ⟨no, e1, _, w1⟩ := DataW.trod_int Samg.underlying27 k1
  obtain ⟨bl, bl1, bl2⟩ := open_arr8 Samg.underlying87 Samg.underlying5 c5 k2
  obtain ⟨ca, cn, cc, cb, ec, hcn, hcb, hco⟩ := open_code k3
  obtain ⟨sa, sn, sc, ky, vl, es, hsn, hky, hvl, hsl⟩ := open_slots k4
  have b1 := bounds_u64 w1
  rw [c27] at e1
  rw [c31] at ec
  rw [c88] at es
  obtain ⟨m, rfl⟩ := Int.eq_ofNat_of_zero_le b1.1
  refine ⟨⟨ad, m, bl, ca, cn, cc, cb, sa, sn, sc, ky, vl⟩, ⟨ad1, by show m < _; omega, bl1, hcb, hky, hvl, hcn, hsn⟩, ?_⟩
  exact {
    ad := fun j hj => by
      show W.cell? _ = some (.int .u8 ((ad j : Nat) : Int))
      rw [show o + 0 + j = o + (0 + j) by omega, hcell (0 + j) (by omega), ← ad2 j hj]
      exact (sub_of (by rw [c24]; exact hj)).symm
    no := (hcell 20 (by omega)).trans (one_of e1)
    bl := fun j hj => by
      show W.cell? _ = some (.int .u8 ((bl j : Nat) : Int))
      rw [show o + 21 + j = o + (21 + j) by omega, hcell (21 + j) (by omega), ← bl2 j hj]
      exact (sub_of (by rw [c87]; exact hj)).symm
    co := (hcell 53 (by omega)).trans (one_of ec)
    sl := (hcell 54 (by omega)).trans (one_of es)
    code := hco
    slots := hsl }
/-- The world of accounts that came in. -/
theorem open_world {fuel : Nat} {cs : List Value} {x : DataW H × List MemPlace} (h : DataW.trod enc Samg.prog W base sp held fuel 35 cs = some x) : ∃ (a : Option Addr) (cap : Nat) (ω : WA), cs = [.slice a ω.n cap] ∧ AW W a cap ω := by
  obtain ⟨a, n, c, rfl, h1, h2, h3⟩ := open_slc (e := 90) (s := 55) Samg.underlying35 (by kernel_rfl) (by omega) h
  obtain ⟨R, R1, R2⟩ : ∃ R : Nat → AR, (∀ i, ARok (R i)) ∧ (n = 0 ∨ ∃ b o, a = some ⟨b, o, none⟩ ∧ ∀ i, i < n → ARat W b (o + i * 55) (R i)) := by
    have hd : ARok ⟨fun _ => 0, 0, fun _ => 0, none, 0, 0, fun _ => 0, none, 0, 0, fun _ _ => 0, fun _ _ => 0⟩ := ⟨fun _ => by show 0 < 256; omega, by show 0 < _; omega, fun _ => by show 0 < 256; omega, fun _ => by show 0 < 256; omega, fun _ _ => by show 0 < 256; omega, fun _ _ => by show 0 < 256; omega, by show 0 < _; omega, by show 0 < _; omega⟩
    rcases h3 with h3 | ⟨b, o, rfl, h3⟩
    · exact ⟨fun _ => _, fun _ => hd, .inl h3⟩
    · obtain ⟨f, f1, f2⟩ := pickF (α := AR) (n := n) (p := fun i r => ARok r ∧ ARat W b (o + i * 55) r) ⟨fun _ => 0, 0, fun _ => 0, none, 0, 0, fun _ => 0, none, 0, 0, fun _ _ => 0, fun _ _ => 0⟩ (fun i hi => by
        obtain ⟨cells, y, m, e1, e2, e3⟩ := h3 i hi
        exact open_acc e3 e2)
      refine ⟨f, fun i => ?_, .inr ⟨b, o, rfl, fun i hi => (f1 i hi).2⟩⟩
      rcases Nat.lt_or_ge i n with hi | hi
      · exact (f1 i hi).1
      · rw [f2 i hi]; exact hd
  refine ⟨a, c, ⟨n, fun i => (R i).ad, fun i => (R i).no, fun i => (R i).bl, fun i => (R i).ca, fun i => (R i).cn, fun i => (R i).cc, fun i => (R i).cb, fun i => (R i).sa, fun i => (R i).sn, fun i => (R i).sc, fun i => (R i).ky, fun i => (R i).vl⟩, rfl, ?_⟩
  exact {
    le := h1
    cap := h2
    rad := fun i => (R1 i).rad
    rno := fun i => (R1 i).rno
    rbl := fun i => (R1 i).rbl
    rcb := fun i => (R1 i).rcb
    rky := fun i => (R1 i).rky
    rvl := fun i => (R1 i).rvl
    rcn := fun i => (R1 i).rcn
    rsn := fun i => (R1 i).rsn
    rows := by
      rcases R2 with h | ⟨b, o, e, h⟩
      · exact .inl h
      · exact .inr ⟨b, o, e, fun i hi => ⟨(h i hi).ad, (h i hi).no, (h i hi).bl, (h i hi).co, (h i hi).sl⟩⟩
    code := fun i hi => by
      rcases R2 with h | ⟨b, o, e, h⟩
      · have hi : i < n := hi
        omega
      · exact (h i hi).code
    slots := fun i hi => by
      rcases R2 with h | ⟨b, o, e, h⟩
      · have hi : i < n := hi
        omega
      · exact (h i hi).slots }
/-- The script that came in. -/
theorem open_script {fuel : Nat} {cs : List Value} {x : DataW H × List MemPlace} (h : DataW.trod enc Samg.prog W base sp held fuel 36 cs = some x) : ∃ (a : Option Addr) (n cap : Nat), cs = [.slice a n cap] ∧ n ≤ cap ∧ cap < 9223372036854775808 ∧ (n = 0 ∨ ∃ b o, a = some ⟨b, o, none⟩ ∧ ∀ i, i < n → ∃ cs : Array Value, (∀ B w, okA B w 38 cs) ∧ ∀ j, j < 36 → W.cell? ⟨b, o + i * 36 + j, none⟩ = cs[j]?) := by
  obtain ⟨a, n, c, rfl, h1, h2, h3⟩ := open_slc (e := 38) (s := 36) Samg.underlying36 (by kernel_rfl) (by omega) h
  refine ⟨a, n, c, rfl, h1, h2, ?_⟩
  rcases h3 with h3 | ⟨b, o, rfl, h3⟩
  · exact .inl h3
  · refine .inr ⟨b, o, rfl, fun i hi => ?_⟩
    obtain ⟨cells, y, m, e1, e2, e3⟩ := h3 i hi
    exact ⟨cells.toArray, open_sop e3, fun j hj => by rw [e2 j hj]; simp⟩
end
end Go.Proofs.Ygcsam
