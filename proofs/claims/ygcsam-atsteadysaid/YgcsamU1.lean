/-
  THE VAULT, TOLD: its own block, its balances, values, original values, its journal and its marks. Own work.
-/
import Derived.Test.YgcsamS3
namespace Go.Proofs.Ygcsam
set_option linter.unusedVariables false
set_option linter.unusedSimpArgs false

structure VS where
  aA : Option Addr
  na : Nat
  cA : Nat
  aS : Option Addr
  ns : Nat
  cS : Nat
  aJ : Option Addr
  nj : Nat
  cJ : Nat
  aL : Option Addr
  nl : Nat
  cL : Nat
  aT : Option Addr
  nt : Nat
  cT : Nat
  aH : Option Addr
  nh : Nat
  cH : Nat
  atab : Nat → Int
  stab : Nat → Int
  nm : Nat
  mks : Nat → Nat
  ref : Nat
  bal : Nat → Nat → Nat
  val : Nat → Nat → Nat
  orig : Nat → Nat → Nat
  kd : Nat → Nat
  ja : Nat → Nat
  jn : Nat → Nat
  jw : Nat → Nat → Nat

def cntT (tab : Nat → Int) : Nat → Nat
  | 0 => 0
  | n + 1 => cntT tab n + if 0 ≤ tab n then 1 else 0
def cntL (kd : Nat → Nat) : Nat → Nat
  | 0 => 0
  | n + 1 => cntL kd n + if kd n = 7 then 1 else 0
def acctK (k : Nat) : Prop := k = 0 ∨ k = 1 ∨ k = 2 ∨ k = 4 ∨ k = 9 ∨ k = 10
def slotK (k : Nat) : Prop := k = 3 ∨ k = 5

/-- What holds of the plain state. -/
structure VI (σ : VS) : Prop where
  na : σ.na ≤ 2560
  ns : σ.ns ≤ 2560
  nj : σ.nj ≤ 65536
  nm : σ.nm ≤ 16384
  nl : σ.nl ≤ 2800
  nt : σ.nt ≤ 12288
  mle : ∀ i, i < σ.nm → σ.mks i ≤ σ.nj
  mono : ∀ i j, i ≤ j → j < σ.nm → σ.mks i ≤ σ.mks j
  bal : ∀ i k, σ.bal i k < 18446744073709551616
  val : ∀ i k, σ.val i k < 18446744073709551616
  orig : ∀ i k, σ.orig i k < 18446744073709551616
  jw : ∀ i k, σ.jw i k < 18446744073709551616
  jn : ∀ i, σ.jn i < 18446744073709551616
  ref : σ.ref < 18446744073709551616
  kd : ∀ i, i < σ.nj → σ.kd i ≤ 10
  zb : ∀ i k, σ.na ≤ i → σ.bal i k = 0
  zv : ∀ i k, σ.ns ≤ i → σ.val i k = 0
  zo : ∀ i k, σ.ns ≤ i → σ.orig i k = 0
  pa : ∀ i, i < σ.nj → acctK (σ.kd i) → σ.ja i < σ.na
  ps : ∀ i, i < σ.nj → slotK (σ.kd i) → σ.ja i < σ.ns
  pt : ∀ i, i < σ.nj → σ.kd i = 8 → σ.ja i < σ.nt
  jr : ∀ i, i < σ.nj → σ.ja i < 2147483648
  logs : σ.nl = cntL σ.kd σ.nj
  ca : cntT σ.atab 4096 ≤ σ.na
  cs : cntT σ.stab 4096 ≤ σ.ns
  ra : ∀ p, -2147483648 ≤ σ.atab p ∧ σ.atab p < 2147483648
  rs : ∀ p, -2147483648 ≤ σ.stab p ∧ σ.stab p < 2147483648

structure V (B : Nat) (w : World) (s : Nat) (σ : VS) : Prop where
  sV : Sl B w 86 (some ⟨s, 0, none⟩) 1 1
  acc : w.cell? ⟨s, 0, none⟩ = some (.slice σ.aA σ.na σ.cA)
  sA : Sl B w 148 σ.aA σ.na σ.cA
  slo : w.cell? ⟨s, 1, none⟩ = some (.slice σ.aS σ.ns σ.cS)
  sS : Sl B w 153 σ.aS σ.ns σ.cS
  jou : w.cell? ⟨s, 8194, none⟩ = some (.slice σ.aJ σ.nj σ.cJ)
  sJ : Sl B w 178 σ.aJ σ.nj σ.cJ
  nmk : w.cell? ⟨s, 24579, none⟩ = some (.int .i32 (σ.nm : Int))
  rf : w.cell? ⟨s, 24580, none⟩ = some (.int .u64 (σ.ref : Int))
  log : w.cell? ⟨s, 24581, none⟩ = some (.slice σ.aL σ.nl σ.cL)
  sL : Sl B w 126 σ.aL σ.nl σ.cL
  tem : w.cell? ⟨s, 24582, none⟩ = some (.slice σ.aT σ.nt σ.cT)
  sT : Sl B w 172 σ.aT σ.nt σ.cT
  tta : w.cell? ⟨s, 24583, none⟩ = some (.slice σ.aH σ.nh σ.cH)
  sH : Sl B w 21 σ.aH σ.nh σ.cH
  ata : ∀ p, p < 4096 → w.cell? ⟨s, 2 + p, none⟩ = some (.int .i32 (σ.atab p))
  sta : ∀ p, p < 4096 → w.cell? ⟨s, 4098 + p, none⟩ = some (.int .i32 (σ.stab p))
  mrk : ∀ i, i < σ.nm → w.cell? ⟨s, 8195 + i, none⟩ = some (.int .i32 (σ.mks i : Int))
  ba : ∀ b, σ.aA = some ⟨b, 0, none⟩ → ∀ i k, i < σ.na → k < 4 → w.cell? ⟨b, i * 29 + (21 + k), none⟩ = some (.int .u64 (σ.bal i k : Int))
  va : ∀ b, σ.aS = some ⟨b, 0, none⟩ → ∀ i k, i < σ.ns → k < 4 → w.cell? ⟨b, i * 14 + (5 + k), none⟩ = some (.int .u64 (σ.val i k : Int))
  og : ∀ b, σ.aS = some ⟨b, 0, none⟩ → ∀ i k, i < σ.ns → k < 4 → w.cell? ⟨b, i * 14 + (9 + k), none⟩ = some (.int .u64 (σ.orig i k : Int))
  jk : ∀ b, σ.aJ = some ⟨b, 0, none⟩ → ∀ i, i < σ.nj → w.cell? ⟨b, i * 9 + 0, none⟩ = some (.int .u8 (σ.kd i : Int))
  jat : ∀ b, σ.aJ = some ⟨b, 0, none⟩ → ∀ i, i < σ.nj → w.cell? ⟨b, i * 9 + 1, none⟩ = some (.int .i32 (σ.ja i : Int))
  jnn : ∀ b, σ.aJ = some ⟨b, 0, none⟩ → ∀ i, i < σ.nj → w.cell? ⟨b, i * 9 + 2, none⟩ = some (.int .u64 (σ.jn i : Int))
  jww : ∀ b, σ.aJ = some ⟨b, 0, none⟩ → ∀ i k, i < σ.nj → k < 4 → w.cell? ⟨b, i * 9 + (3 + k), none⟩ = some (.int .u64 (σ.jw i k : Int))

theorem cell_lt {w : World} {b o : Nat} {v : Value} (h : w.cell? ⟨b, o, none⟩ = some v) : b < w.heap.size := by
  rcases Nat.lt_or_ge b w.heap.size with h' | h'
  · exact h'
  · unfold World.cell? at h; simp only [Array.getElem?_eq_none h'] at h; cases h
theorem cell_ext {w w' : World} {b o : Nat} {v : Value} (h : w.cell? ⟨b, o, none⟩ = some v) (e : Ext w w') : w'.cell? ⟨b, o, none⟩ = some v := by
  rw [← h]; unfold World.cell?; simp only [e.block b (cell_lt h)]
theorem V.lt {B : Nat} {w : World} {s : Nat} {σ : VS} (h : V B w s σ) : s < w.heap.size := cell_lt h.acc
theorem V.ext {B : Nat} {w w' : World} {s : Nat} {σ : VS} (h : V B w s σ) (e : Ext w w') : V B w' s σ where
  sV := h.sV.shp e.shp
  acc := cell_ext h.acc e
  sA := h.sA.shp e.shp
  slo := cell_ext h.slo e
  sS := h.sS.shp e.shp
  jou := cell_ext h.jou e
  sJ := h.sJ.shp e.shp
  nmk := cell_ext h.nmk e
  rf := cell_ext h.rf e
  log := cell_ext h.log e
  sL := h.sL.shp e.shp
  tem := cell_ext h.tem e
  sT := h.sT.shp e.shp
  tta := cell_ext h.tta e
  sH := h.sH.shp e.shp
  ata := fun p hp => cell_ext (h.ata p hp) e
  sta := fun p hp => cell_ext (h.sta p hp) e
  mrk := fun p hp => cell_ext (h.mrk p hp) e
  ba := fun b hb i k hi hk => cell_ext (h.ba b hb i k hi hk) e
  va := fun b hb i k hi hk => cell_ext (h.va b hb i k hi hk) e
  og := fun b hb i k hi hk => cell_ext (h.og b hb i k hi hk) e
  jk := fun b hb i hi => cell_ext (h.jk b hb i hi) e
  jat := fun b hb i hi => cell_ext (h.jat b hb i hi) e
  jnn := fun b hb i hi => cell_ext (h.jnn b hb i hi) e
  jww := fun b hb i k hi hk => cell_ext (h.jww b hb i k hi hk) e

def VL (s : Nat) (σ : VS) : List Fact := [(86, some ⟨s, 0, none⟩, 1, 1), (148, σ.aA, σ.na, σ.cA), (153, σ.aS, σ.ns, σ.cS), (178, σ.aJ, σ.nj, σ.cJ), (126, σ.aL, σ.nl, σ.cL), (172, σ.aT, σ.nt, σ.cT), (21, σ.aH, σ.nh, σ.cH)]
theorem V.start {B : Nat} {w : World} {s : Nat} {σ : VS} (h : V B w s σ) (hT : WT B w) : TS B w w [(86, some ⟨s, 0, none⟩, 1, 1), (148, σ.aA, σ.na, σ.cA), (153, σ.aS, σ.ns, σ.cS), (178, σ.aJ, σ.nj, σ.cJ), (126, σ.aL, σ.nl, σ.cL), (172, σ.aT, σ.nt, σ.cT), (21, σ.aH, σ.nh, σ.cH)] [] :=
  ((((((((TS.start hT).addL h.sH).addL h.sT).addL h.sL).addL h.sJ).addL h.sS).addL h.sA).addL h.sV)

theorem cntT_full {tab : Nat → Int} : ∀ n, (∀ p, p < n → 0 ≤ tab p) → cntT tab n = n
  | 0, _ => rfl
  | n + 1, h => by
    simp only [cntT, cntT_full n (fun p hp => h p (by omega))]
    rw [if_pos (h n (by omega))]
def upI (f : Nat → Int) (i : Nat) (v : Int) : Nat → Int := fun j => if j = i then v else f j
theorem cntT_out {tab : Nat → Int} {p : Nat} {v : Int} : ∀ n, n ≤ p → cntT (upI tab p v) n = cntT tab n
  | 0, _ => rfl
  | n + 1, h => by
    simp only [cntT, cntT_out (tab := tab) (p := p) (v := v) n (by omega)]
    have : upI tab p v n = tab n := by simp [upI]; omega
    rw [this]
theorem cntT_up {tab : Nat → Int} {p : Nat} {v : Int} (hp : tab p < 0) : ∀ n, cntT (upI tab p v) n ≤ cntT tab n + 1
  | 0 => by simp [cntT]
  | n + 1 => by
    simp only [cntT]
    by_cases h : n = p
    · subst h
      rw [cntT_out (tab := tab) (p := n) (v := v) n (Nat.le_refl _)]
      split <;> split <;> omega
    · have : upI tab p v n = tab n := by simp [upI, h]
      have := cntT_up hp (v := v) n
      rw [‹upI tab p v n = tab n›]; omega

section
variable {P : Program} {ops : Array Oper} {e : Bool} {K : Env → World → Prop} {Q : Exit → Env → World → Prop} {ρ : Env} {w w0 : World} {d : Nat} {ty : TypeId} {pos : String} {af : Array Edge} {n B : Nat} {L : List Fact} {M : List (Nat × Array Value)}
theorem O_ixN {t el s l cap : Nat} {k : IntKind} {x i : Operand} {z : Int} {a : Option Addr} (h : TS B w0 w L M) (hm : (el, a, l, cap) ∈ L) (ht : slcT P t el s) (hx : ev ρ x = .slice a l cap) (hi : ev ρ i = .int k z) (h0 : 0 ≤ z) (hlt : z < l)
    (kk : ∀ b m : Nat, z = m → l ≤ cap → a = some ⟨b, 0, none⟩ → TS B w0 w ((el, some ⟨b, 0, none⟩, l, cap) :: L) M → K (put ρ d (.pointer (some ⟨b, m * s + 0, none⟩))) w) : WO P ops ⟨some d, .indexAddr t x i, ty, pos, af, none⟩ e K ρ w :=
  O_ixZ (m := 0) h hm ht hx hi h0 hlt fun b m e1 e2 => kk b m e1 (h.slN hm).1 e2 (h.addL (by have := h.slN hm; rw [e2] at this; exact this))
theorem O_eqA {t t' el m : Nat} {kd : IntKind} {f g : Nat → Nat} {x y : Operand} (ht : numT P t m el kd) (hx : ev ρ x = .agg (ns kd m f)) (hy : ev ρ y = .agg (ns kd m g)) (kt : K (put ρ d (.bool true)) w) (kf : K (put ρ d (.bool false)) w) : WO P ops ⟨some d, .binOp .eql t x y t', ty, pos, af, none⟩ e K ρ w := by
  refine O_eql_ns ht hx hy ?_
  generalize decide (∀ i, i < m → f i = g i) = p
  cases p <;> assumption
end
end Go.Proofs.Ygcsam
