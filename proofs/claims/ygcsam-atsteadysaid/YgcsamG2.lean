/-
  RULES THAT TELL CELLS: boxes, loads, stores behind a mutator, returned cells; pointer and Totals comparisons; Wide told. Own work.
-/
import Derived.Test.YgcsamG1
import Derived.Test.YgcsamE6
import Derived.Test.YgcsamF7
import Derived.Test.YgcsamC3
import Derived.Test.YgcsamX3
import Derived.Laws.StructEq
namespace Go.Proofs.Ygcsam
set_option linter.unusedVariables false
set_option linter.unusedSimpArgs false
set_option maxRecDepth 4000
section
variable {P : Program} {ops : Array Oper} {e : Bool} {K : Env → World → Prop} {Q : Exit → Env → World → Prop} {ρ : Env} {w w0 wS : World} {d : Nat} {ty : TypeId} {pos : String} {af : Array Edge} {n B : Nat} {L : List Fact} {M : List (Nat × Array Value)}
theorem O_bxsE {t : Nat} {cs : Array Value} {x : Operand} (h : TS B w0 w L M) (hM : (t, cs) ∈ M) (hx : ev ρ x = .agg cs) (k : ∀ w' b, Ext w w' → w.heap.size ≤ b → w0.heap.size ≤ b → (∀ j, w'.cell? ⟨b, j, none⟩ = cs[j]?) → TS B w0 w' ((t, some ⟨b, 0, none⟩, 1, 1) :: L) M → K (put ρ d (.pointer (some ⟨b, 0, none⟩))) w') : WO P ops ⟨some d, .box t x, ty, pos, af, none⟩ e K ρ w := by
  have hA := h.m _ hM
  have hs : (Value.agg cs).cells.size = csz t := hA.1
  refine O_box hx fun w' hE hs' hb => k w' _ hE (Nat.le_refl _) h.e.size (fun j => hb.cellq j) ((h.next hE (h.t.grow hE hs' hb fun j u hj => ?_)).addL (Sl.new h.t.sz hb (by rw [hs, Nat.one_mul]) (Nat.le_refl _) (by omega)))
  have hj' : j < csz t := by have := get_lt hj; omega
  rw [Nat.mod_eq_of_lt hj']; exact hA.2 j u hj
theorem O_ldaC {t b o T n cap : Nat} {x : Operand} (h : TS B w0 w L M) (hm : (T, some ⟨b, 0, none⟩, n, cap) ∈ L) (ht : aggT P t (csz t)) (hx : ev ρ x = .pointer (some ⟨b, o, none⟩)) (ho : o + csz t ≤ cap * csz T) (hc : ∀ j, j < csz t → lay T ((o + j) % csz T) = lay t j)
    (k : ∀ cs, (∀ j, j < csz t → cs[j]? = w.cell? ⟨b, o + j, none⟩) → TS B w0 w L ((t, cs) :: M) → K (put ρ d (.agg cs)) w) : WO P ops ⟨some d, .load t x, ty, pos, af, none⟩ e K ρ w := by
  obtain ⟨hB, c, hb, hs⟩ := h.row hm
  have h1 : (c.extract o (o + csz t)).size = csz t := by simp; omega
  refine O_load_agg ht hx hb (by omega) (k _ (fun j hj => ?_) (h.addM ⟨h1, fun j v hj => ?_⟩))
  · rw [hb.cellq, Array.getElem?_extract, if_pos (by omega)]
  · rw [Array.getElem?_extract] at hj
    split at hj
    · have hj' : j < csz t := by omega
      have := h.t.ok b c T hB hb (o + j) v hj
      rw [hc j hj'] at this; exact this
    · cases hj
theorem E_cellC {fn : Func} {R : Value → World → Prop} {t T b : Nat} (h : TS B w0 w L M) (hr : fn.results = #[.cell t T]) (ht : Nat.blt t n = true) (hT : aggT P T (csz T)) (hv : ρ t = .pointer (some ⟨b, 0, none⟩)) (hm : (T, some ⟨b, 0, none⟩, 1, 1) ∈ L) (k : ∀ cs, okA B w T cs → (∀ j, j < csz T → cs[j]? = w.cell? ⟨b, j, none⟩) → R (.agg cs) w) : bodyQ P n fn R .ret ρ w := by
  obtain ⟨hB, c, hb, hs⟩ := h.row hm
  rw [Nat.one_mul] at hs
  have h1 : (c.extract 0 (0 + csz T)).size = csz T := by simp; omega
  refine E_cell hr ht hT hv hb (by omega) (k _ ⟨h1, fun o v hv => ?_⟩ fun j hj => ?_)
  · rw [Array.getElem?_extract] at hv
    split at hv
    · rw [Nat.zero_add] at hv
      have := h.t.ok b c T hB hb o v hv
      rw [Nat.mod_eq_of_lt (by omega)] at this; exact this
    · cases hv
  · rw [hb.cellq, Array.getElem?_extract, if_pos (by omega), Nat.zero_add]
theorem Upd.muF {w' : World} {b : Nat} {c c' : Array Value} {t : TypeId} (h : Upd w w' b c' t) (hM : Mu B wS w) (hb : Blk w b c t) (hs : c'.size = c.size) (hB : B ≤ b) (hn : wS.heap.size ≤ b) : Mu B wS w' :=
  ⟨h.os.trans hM.os, h.tape.trans hM.tape, h.output.trans hM.output, by rw [h.size]; exact hM.size, fun k hk => (h.block k (by omega)).trans (hM.low k hk), fun k ck tk hbk htk => (hM.keep k ck tk hbk htk).upd h (by have := hbk.lt; omega), hM.shp.trans (h.shp hb hs)⟩
theorem mutN {T : Nat} (h : mutT T = false) : T ≠ 86 ∧ T ≠ 148 ∧ T ≠ 153 ∧ T ≠ 178 :=
  ⟨fun e => (by subst e; cases h), fun e => (by subst e; cases h), fun e => (by subst e; cases h), fun e => (by subst e; cases h)⟩
/-- A store into a new block, behind methods that changed the vault. -/
theorem O_stFa {s : Nat} {σ : VS} {t m b o T n cap : Nat} {cs : Array Value} {x y : Operand} (h : TS B w0 w L M) (hV : V B w0 s σ) (hM : Mu B wS w0) (hm : (T, some ⟨b, 0, none⟩, n, cap) ∈ L) (hmt : mutT T = false) (hn : wS.heap.size ≤ b) (ht : aggT P t m) (hx : ev ρ x = .pointer (some ⟨b, o, none⟩)) (hy : ev ρ y = .agg cs) (hcs : cs.size = m) (ho : o + m ≤ cap * csz T)
    (hv : ∀ j v, cs[j]? = some v → okV B w (lay T ((o + j) % csz T)) v) (he : e = false)
    (k : ∀ w', TS B w' w' L M → Mu B wS w' → V B w' s σ → Wr w w' b o cs → K ρ w') : WO P ops ⟨none, .store t x y, ty, pos, af, none⟩ e K ρ w := by
  have hsl := h.slN hm
  obtain ⟨hB, c, hb, hs⟩ := h.row hm
  obtain ⟨m1, m2, m3, m4⟩ := mutN hmt
  refine O_store_agg ht hx hy hcs (fun v hv' => ?_) hb (by omega) he fun w' hu => ?_
  · obtain ⟨j, hj⟩ := List.getElem?_of_mem hv'
    exact (hv j v (by simpa using hj)).one
  have hsz : (spl c o cs.toList).size = c.size := spl_size _ _ _
  have hw : WT B w' := h.t.upd hb hu hsz fun j u hj => by
    rw [spl_get _ _ _ _ (by simp; omega)] at hj
    split at hj
    · have := hv (j - o) u (by simpa using hj)
      rw [show o + (j - o) = j by omega] at this; exact this
    · exact h.t.ok b c T hB hb _ u hj
  have hp := hu.shp hb hsz
  have hW : Wr w w' b o cs := hu.wr hb (by omega)
  exact k w' (h.renew hw hp) (hu.muF (hM.trans (h.e.mu hV.B0)) hb hsz hB hn) ((hV.ext h.e).freeSet hp hsl hW m1 m2 m3 m4) hW
theorem O_stF {s : Nat} {σ : VS} {t b o T n cap : Nat} {v : Value} {x y : Operand} (h : TS B w0 w L M) (hV : V B w0 s σ) (hM : Mu B wS w0) (hm : (T, some ⟨b, 0, none⟩, n, cap) ∈ L) (hmt : mutT T = false) (hn : wS.heap.size ≤ b) (ht : oneT P t) (hx : ev ρ x = .pointer (some ⟨b, o, none⟩)) (hy : ev ρ y = v) (ho : o < cap * csz T)
    (hv : okV B w (lay T (o % csz T)) v) (he : e = false)
    (k : ∀ w', TS B w' w' L M → Mu B wS w' → V B w' s σ → Wr w w' b o #[v] → K ρ w') : WO P ops ⟨none, .store t x y, ty, pos, af, none⟩ e K ρ w := by
  have hsl := h.slN hm
  obtain ⟨hB, c, hb, hs⟩ := h.row hm
  obtain ⟨m1, m2, m3, m4⟩ := mutN hmt
  refine O_store ht hx hy hv.one hb (by omega) he fun w' hu => ?_
  have hw : WT B w' := h.t.upd hb hu (by simp) fun j u hj => by
    by_cases e1 : j = o
    · subst e1
      rw [Array.getElem?_setIfInBounds] at hj
      split at hj
      · split at hj
        · cases hj; exact hv
        · cases hj
      · exact h.t.ok b c T hB hb _ u hj
    · rw [Array.getElem?_setIfInBounds_ne (Ne.symm e1)] at hj
      exact h.t.ok b c T hB hb _ u hj
  have hp := hu.shp hb (by simp)
  have hW := hu.wr1 hb (by omega)
  exact k w' (h.renew hw hp) (hu.muF (hM.trans (h.e.mu hV.B0)) hb (by simp) hB hn) ((hV.ext h.e).freeSet hp hsl hW m1 m2 m3 m4) hW
theorem O_stF64 {s : Nat} {σ : VS} {t m b o T n cap : Nat} {f : Nat → Nat} {x y : Operand} (h : TS B w0 w L M) (hV : V B w0 s σ) (hM : Mu B wS w0) (hm : (T, some ⟨b, 0, none⟩, n, cap) ∈ L) (hmt : mutT T = false) (hn : wS.heap.size ≤ b) (ht : aggT P t m) (hx : ev ρ x = .pointer (some ⟨b, o, none⟩)) (hy : ev ρ y = .agg (ns .u64 m f)) (hf : ∀ i, f i < 18446744073709551616) (ho : o + m ≤ cap * csz T)
    (hc : ∀ j, j < m → lay T ((o + j) % csz T) = 2) (he : e = false)
    (k : ∀ w', TS B w' w' L M → Mu B wS w' → V B w' s σ → Wr w w' b o (ns .u64 m f) → K ρ w') : WO P ops ⟨none, .store t x y, ty, pos, af, none⟩ e K ρ w :=
  O_stFa h hV hM hm hmt hn ht hx hy (ns_size _ _ _) ho (fun j v hj => by rw [hc j (by have := get_lt hj; rw [ns_size] at this; exact this)]; exact ns_ok64 hf j v hj) he k
theorem O_stFs {s : Nat} {σ : VS} {t b o T n cap : Nat} {cs : Array Value} {x y : Operand} (h : TS B w0 w L M) (hV : V B w0 s σ) (hM : Mu B wS w0) (hm : (T, some ⟨b, 0, none⟩, n, cap) ∈ L) (hmt : mutT T = false) (hn : wS.heap.size ≤ b) (hA : (t, cs) ∈ M) (ht : aggT P t (csz t)) (hx : ev ρ x = .pointer (some ⟨b, o, none⟩)) (hy : ev ρ y = .agg cs) (ho : o + csz t ≤ cap * csz T)
    (hc : ∀ j, j < csz t → lay T ((o + j) % csz T) = lay t j) (he : e = false)
    (k : ∀ w', TS B w' w' L M → Mu B wS w' → V B w' s σ → Wr w w' b o cs → K ρ w') : WO P ops ⟨none, .store t x y, ty, pos, af, none⟩ e K ρ w :=
  have hA := h.m _ hA
  O_stFa h hV hM hm hmt hn ht hx hy hA.1 ho (fun j v hj => by rw [hc j (by have := get_lt hj; rw [hA.1] at this; exact this)]; exact hA.2 j v hj) he k
theorem O_eqK {t t' : Nat} {k : IntKind} {a : Nat} {b : Int} {x y : Operand} (hx : ev ρ x = .int k (a : Int)) (hy : ev ρ y = .int k b) (kt : (a : Int) = b → K (put ρ d (.bool true)) w) (kf : K (put ρ d (.bool false)) w) : WO P ops ⟨some d, .binOp .eql t x y t', ty, pos, af, none⟩ e K ρ w :=
  O_eqlS hx hy kt fun _ => kf
theorem run_equal_ptr_none {t el : Nat} {a : Option Addr} (ht : P.underlying t = some (.pointer el)) : (Op.equal t (.pointer a) (.pointer none)).run P w = .ok a.isNone w := by
  show (Op.equalIn (9999 + 1) t _ _).run P w = _
  rw [Op.equalIn]
  cases a <;> simp [run_underlying' ht]
theorem O_pneq {t t' el : Nat} {x y : Operand} {a : Option Addr} (ht : P.underlying t = some (.pointer el)) (hx : ev ρ x = .pointer a) (hy : ev ρ y = .pointer none) (kk : K (put ρ d (.bool (!a.isNone))) w) : WO P ops ⟨some d, .binOp .neq t x y t', ty, pos, af, none⟩ e K ρ w := by
  refine O_pure rfl (fun w' => ?_) kk
  have h1 : binOp .neq t (.pointer a) (.pointer none) = (do pure (.bool (!(← Op.equal t (.pointer a) (.pointer none))))) := rfl
  have h2 : (eqGuard .neq t x y (.pointer a) (.pointer none)).run P w' = .ok () w' := by simp [eqGuard]
  simp only [execOp, hx, hy, Sem.run_bind, h2, Result.andThen_ok, h1, run_equal_ptr_none ht, Sem.run_pure]
theorem O_peql {t t' el : Nat} {x y : Operand} {a : Option Addr} (ht : P.underlying t = some (.pointer el)) (hx : ev ρ x = .pointer a) (hy : ev ρ y = .pointer none) (kk : K (put ρ d (.bool a.isNone)) w) : WO P ops ⟨some d, .binOp .eql t x y t', ty, pos, af, none⟩ e K ρ w := by
  refine O_pure rfl (fun w' => ?_) kk
  have h1 : binOp .eql t (.pointer a) (.pointer none) = (do pure (.bool (← Op.equal t (.pointer a) (.pointer none)))) := rfl
  have h2 : (eqGuard .eql t x y (.pointer a) (.pointer none)).run P w' = .ok () w' := by simp [eqGuard]
  simp only [execOp, hx, hy, Sem.run_bind, h2, Result.andThen_ok, h1, run_equal_ptr_none ht, Sem.run_pure]
end
/-- The kind and the number of a wide step. -/
def WideOf (cs cs' : Array Value) : Prop := ∃ k z : Nat, cs[0]? = some (.int .u8 (k : Int)) ∧ cs[2]? = some (.int .u8 (z : Int)) ∧ k < 256 ∧ z < 256 ∧ cs'[0]? = some (.int .u8 (k : Int)) ∧ cs'[86]? = some (.int .i32 (z : Int))
theorem wide_get {z : Array Value} {f g h : Nat → Nat} {k n i v : Value} (hz : z.size = csz 55) : (fl z [(0, #[k]), (1, ns .u8 20 f), (21, ns .u8 32 g), (53, ns .u8 32 h), (85, #[n]), (86, #[i]), (87, #[v])])[0]? = some k ∧ (fl z [(0, #[k]), (1, ns .u8 20 f), (21, ns .u8 32 g), (53, ns .u8 32 h), (85, #[n]), (86, #[i]), (87, #[v])])[86]? = some i := by
  have hz89 : z.size = 89 := hz
  have l1 : (ns .u8 20 f).toList.length = 20 := by rw [Array.length_toList, ns_size]
  have l2 : (ns .u8 32 g).toList.length = 32 := by rw [Array.length_toList, ns_size]
  have l3 : (ns .u8 32 h).toList.length = 32 := by rw [Array.length_toList, ns_size]
  have l4 : ∀ x : Value, (#[x] : Array Value).toList.length = 1 := fun x => rfl
  simp only [fl]
  constructor
  · rw [spl_get _ _ _ _ (by simp only [spl_size, l4, hz89]; omega), if_neg (by rw [l4]; omega)]
    rw [spl_get _ _ _ _ (by simp only [spl_size, l4, hz89]; omega), if_neg (by rw [l4]; omega)]
    rw [spl_get _ _ _ _ (by simp only [spl_size, l4, hz89]; omega), if_neg (by rw [l4]; omega)]
    rw [spl_get _ _ _ _ (by simp only [spl_size, l3, hz89]; omega), if_neg (by rw [l3]; omega)]
    rw [spl_get _ _ _ _ (by simp only [spl_size, l2, hz89]; omega), if_neg (by rw [l2]; omega)]
    rw [spl_get _ _ _ _ (by simp only [spl_size, l1, hz89]; omega), if_neg (by rw [l1]; omega)]
    rw [spl_get _ _ _ _ (by simp only [spl_size, l4, hz89]; omega), if_pos (by rw [l4]; omega)]
    rfl
  · rw [spl_get _ _ _ _ (by simp only [spl_size, l4, hz89]; omega), if_neg (by rw [l4]; omega)]
    rw [spl_get _ _ _ _ (by simp only [spl_size, l4, hz89]; omega), if_pos (by rw [l4]; omega)]
    rfl
theorem okA.u8 {B : Nat} {w : World} {t o : Nat} {cs : Array Value} (h : okA B w t cs) (ho : o < csz t) (hl : lay t o = 1) : ∃ z : Nat, cs[o]? = some (.int .u8 (z : Int)) ∧ z < 256 := by
  have h1 : o < cs.size := by rw [h.1]; exact ho
  have h2 := h.2 o cs[o] (by simp [h1])
  rw [hl] at h2
  obtain ⟨z, e1, e2⟩ := h2.u8
  exact ⟨z, by rw [← e1]; simp [h1], e2⟩
theorem okA.i32 {B : Nat} {w : World} {t o : Nat} {cs : Array Value} (h : okA B w t cs) (ho : o < csz t) (hl : lay t o = 3) : ∃ z : Int, cs[o]? = some (.int .i32 z) ∧ -2147483648 ≤ z ∧ z < 2147483648 := by
  have h1 : o < cs.size := by rw [h.1]; exact ho
  have h2 := h.2 o cs[o] (by simp [h1])
  rw [hl] at h2
  obtain ⟨z, e1, e2, e3⟩ := h2.i32
  exact ⟨z, by rw [← e1]; simp [h1], e2, e3⟩
theorem wideT_ok {B : Nat} {w : World} (hT : WT B w) {cs : Array Value} (hA : okA B w 38 cs) : Rd B Samg.prog 16 [.agg cs] w fun v w' => ∃ cs', v = .agg cs' ∧ okA B w' 55 cs' ∧ WideOf cs cs' := by
  refine W_enter (l := [_]) Samg.func16 rfl rfl rfl ?_
  have hS := (TS.start hT).addM hA
  obtain ⟨kk, hk0, hk1⟩ := hA.u8 (o := 0) (by decide) rfl
  obtain ⟨zz, hz0, hz1⟩ := hA.u8 (o := 2) (by decide) rfl
  repeat' (first
    | (refine L_cons ?_)
    | (refine R_cons rfl ?_)
    | (refine W_seq ?_)
    | (refine W_region (by kernel_rfl) ?_)
    | (refine L_nil ?_)
    | (refine R_nil ?_)
    | (refine W_block ?_)
    | (refine W_skip ?_)
    | (refine W_exit ?_)
    | (refine W_ret ?_)
    | (guard_target =~ thenQ _ _ _ _ _; first | (refine T_next ?_) | (refine T_exit ?_) | (refine T_ret ?_))
    | (guard_target =~ blockQ _ _ _ _ _; first | (refine B_next ?_) | (refine B_same ?_) | (refine B_other (by kernel_rfl) ?_) | (refine B_ret ?_))
    | (refine W_true rfl rfl ?_)
    | (refine W_false rfl rfl ?_)
    | (guard_target =~ WO _ _ (Oper.mk _ (Op.box 38 _) _ _ _ none) _ _ _ _; first | (refine O_bxsE (by assumption) (by repeat (first | exact List.Mem.head _ | refine List.Mem.tail _ ?_)) rfl ?_; intro wB bB hxB _ hnB hcB hSB) | (refine O_bxs (by assumption) (by repeat (first | exact List.Mem.head _ | refine List.Mem.tail _ ?_)) rfl ?_; intro _ _ _ _))
    | (guard_target =~ WC _ _ (Code.region 1 _ true) _ _ _; first | (refine W_drawnT (id := 1) [20] [0, 1, 2, 3, 4, 5, 6, 7, 8, 9, 10, 11, 12, 13, 14, 15, 16, 17, 18, 19, 20, 21, 22] mixed (by kernel_rfl) (by kernel_rfl) (by assumption) ?_; intro _ _ _))
    | (guard_target =~ WO _ _ (Oper.mk _ (Op.fieldAddr 38 _ 0) _ _ _ none) _ _ _ _; first | (refine O_fdT fd38_0 (by decide) rfl ?_) | (refine O_field fd38_0 (by decide) rfl ?_))
    | (guard_target =~ WO _ _ (Oper.mk _ (Op.load 5 _) _ _ _ none) _ _ _ _; first | (refine O_ld8 (by assumption) (by repeat (first | exact List.Mem.head _ | refine List.Mem.tail _ ?_)) on5 rfl (by first | omega | (simp only [csz]; omega)) (by first | rfl | exact layMod rfl rfl) ?_; intro _ _))
    | (guard_target =~ WO _ _ (Oper.mk _ (Op.fieldAddr 38 _ 1) _ _ _ none) _ _ _ _; first | (refine O_fdT fd38_1 (by decide) rfl ?_) | (refine O_field fd38_1 (by decide) rfl ?_))
    | (guard_target =~ WO _ _ (Oper.mk _ (Op.fieldAddr 38 _ 2) _ _ _ none) _ _ _ _; first | (refine O_fdT fd38_2 (by decide) rfl ?_) | (refine O_field fd38_2 (by decide) rfl ?_))
    | (guard_target =~ WO _ _ (Oper.mk _ (Op.fieldAddr 38 _ 3) _ _ _ none) _ _ _ _; first | (refine O_fdT fd38_3 (by decide) rfl ?_) | (refine O_field fd38_3 (by decide) rfl ?_))
    | (guard_target =~ WO _ _ (Oper.mk _ (Op.load 30 _) _ _ _ none) _ _ _ _; first | (refine O_ldn8 (by assumption) (by repeat (first | exact List.Mem.head _ | refine List.Mem.tail _ ?_)) ag30 rfl (by first | omega | (simp only [csz]; omega)) (by first | exact layRun0 rfl rfl | exact layRun rfl rfl rfl) ?_; intro _ _))
    | (guard_target =~ WO _ _ (Oper.mk _ (Op.fieldAddr 38 _ 4) _ _ _ none) _ _ _ _; first | (refine O_fdT fd38_4 (by decide) rfl ?_) | (refine O_field fd38_4 (by decide) rfl ?_))
    | (guard_target =~ WO _ _ (Oper.mk _ (Op.load 27 _) _ _ _ none) _ _ _ _; first | (refine O_ld64 (by assumption) (by repeat (first | exact List.Mem.head _ | refine List.Mem.tail _ ?_)) on27 rfl (by first | omega | (simp only [csz]; omega)) (by first | rfl | exact layMod rfl rfl) ?_; intro _ _))
    | (guard_target =~ WO _ _ (Oper.mk _ (Op.convert 5 21 _) _ _ _ none) _ _ _ _; first | (refine O_convZ Samg.underlying5 Samg.underlying21 rfl (by simp only [rngZ]; omega) ?_) | (refine O_convA Samg.underlying5 Samg.underlying21 rfl rfl ?_; intro _ hr; simp only [rngZ] at hr))
    | (guard_target =~ WO _ _ (Oper.mk _ (Op.binOp BinOp.rem 5 _ _ _) _ _ _ none) _ _ _ _; first | (refine O_remZ rfl rfl (by omega) (by omega) ?_))
    | (guard_target =~ WO _ _ (Oper.mk _ (Op.build 55 #[(0, _), (1, _), (2, _), (3, _), (4, _), (5, _), (6, _)]) _ _ _ none) _ _ _ _; first | (refine O_bd (l := [(0, .int .u8 (Nat.cast _)), (1, .agg (ns .u8 20 _)), (2, .agg (ns .u8 32 _)), (3, .agg (ns .u8 32 _)), (4, .int .u64 (Nat.cast _)), (5, .int .i32 _), (6, .slice _ _ _)]) (by assumption) st55 zc55 rfl ⟨_, _, rfl, rfl, rfl, ⟨_, _, rfl, rfl, rfl, ⟨_, _, rfl, rfl, rfl, ⟨_, _, rfl, rfl, rfl, ⟨_, _, rfl, rfl, rfl, ⟨_, _, rfl, rfl, rfl, ⟨_, _, rfl, rfl, rfl, rfl⟩⟩⟩⟩⟩⟩⟩ ⟨one_ok (c' := 1) rfl (ok8 (by omega)), ⟨run8_ok (by assumption) rfl, ⟨run8_ok (by assumption) rfl, ⟨run8_ok (by assumption) rfl, ⟨one_ok (c' := 2) rfl (ok64 (by omega)), ⟨one_ok (c' := 3) rfl (ok32 (by omega) (by omega)), ⟨one_ok (c' := 100 + 5) rfl (okS (by first | exact Sl.nil _ | exact TS.slN (by assumption) (by repeat (first | exact List.Mem.head _ | refine List.Mem.tail _ ?_)))), trivial⟩⟩⟩⟩⟩⟩⟩ ?_; intro _ _ _))
    | (guard_target =~ WO _ _ (Oper.mk _ (Op.store 55 _ _) _ _ _ none) _ _ _ _; first | (refine O_sts (by assumption) (by repeat (first | exact List.Mem.head _ | refine List.Mem.tail _ ?_)) (by omega) (by repeat (first | exact List.Mem.head _ | refine List.Mem.tail _ ?_)) ag55 rfl rfl (by first | omega | (simp only [csz]; omega)) (by first | exact laySub0 rfl rfl | exact laySub rfl rfl rfl | exact laySame (by decide)) rfl ?_; intro _ _)))
  have hcK : wB.cell? ⟨bB, 0, none⟩ = some (.int .u8 (kk : Int)) := (hcB 0).trans hk0
  have hcZ : wB.cell? ⟨bB, 2, none⟩ = some (.int .u8 (zz : Int)) := (hcB 2).trans hz0
  have hlB := hSB.ltC (List.mem_cons_self ..)
  have hSR := hSB.restart
  have hxW : Ext w wB := hSB.e
  clear hSB hS hcB
  repeat' (first
    | (refine L_cons ?_)
    | (refine R_cons rfl ?_)
    | (refine W_seq ?_)
    | (refine W_region (by kernel_rfl) ?_)
    | (refine L_nil ?_)
    | (refine R_nil ?_)
    | (refine W_block ?_)
    | (refine W_skip ?_)
    | (refine W_exit ?_)
    | (refine W_ret ?_)
    | (guard_target =~ thenQ _ _ _ _ _; first | (refine T_next ?_) | (refine T_exit ?_) | (refine T_ret ?_))
    | (guard_target =~ blockQ _ _ _ _ _; first | (refine B_next ?_) | (refine B_same ?_) | (refine B_other (by kernel_rfl) ?_) | (refine B_ret ?_))
    | (refine W_true rfl rfl ?_)
    | (refine W_false rfl rfl ?_)
    | (guard_target =~ WO _ _ (Oper.mk _ (Op.alloc 55) _ _ _ none) _ _ _ _; first | (refine O_alE (by assumption) zc55 (by decide) ?_; intro wC bC hxC _ hnC hSC; clear hSR) | (refine O_al (by assumption) zc55 (by decide) ?_; intro _ _ _ _))
    | (guard_target =~ WO _ _ (Oper.mk _ (Op.load 5 (Operand.tmp 3)) _ _ _ none) _ _ _ _; first | (refine O_ldV (v := .int .u8 ((kk : Nat) : Int)) (by assumption) on5 rfl hcK hlB ?_))
    | (guard_target =~ WO _ _ (Oper.mk _ (Op.load 5 (Operand.tmp 15)) _ _ _ none) _ _ _ _; first | (refine O_ldV (v := .int .u8 ((zz : Nat) : Int)) (by assumption) on5 rfl hcZ hlB ?_))
    | (guard_target =~ WO _ _ (Oper.mk _ (Op.build 24 #[(19, _)]) _ _ _ none) _ _ _ _; first | (refine O_bdn8 (l := [(19, .int .u8 (Nat.cast _))]) (by assumption) ar24 zc24 rfl rfl rfl ⟨_, _, rfl, rfl, rfl, rfl⟩ ⟨one_ok (c' := 1) rfl (ok8 (by omega)), trivial⟩ ?_; intro _ _))
    | (guard_target =~ WO _ _ (Oper.mk _ (Op.build 30 #[(31, _)]) _ _ _ none) _ _ _ _; first | (refine O_bdn8 (l := [(31, .int .u8 (Nat.cast _))]) (by assumption) ar30 zc30 rfl rfl rfl ⟨_, _, rfl, rfl, rfl, rfl⟩ ⟨one_ok (c' := 1) rfl (ok8 (by omega)), trivial⟩ ?_; intro _ _))
    | (guard_target =~ WO _ _ (Oper.mk _ (Op.slice 30 _ none (some _) none) _ _ _ none) _ _ _ _; first | (refine O_slp ar30 rfl rfl (by omega) (by omega) (by decide) ?_; intro m hm))
    | (guard_target =~ WO _ _ (Oper.mk _ (Op.call (Call.mk (Callee.value (Operand.func 55)) _ _)) _ _ _ none) _ _ _ _; first | (obtain ⟨f, hf, hby⟩ := TS.byF (T := 38) (o := 0 + 3) (m := m) (by assumption) (by repeat (first | exact List.Mem.head _ | refine List.Mem.tail _ ?_)) (by simp only [csz]; omega) (fun j hj => (by have : 0 + 3 + j < 36 := (by omega); rw [show (0 + 3 + j) % csz 38 = 0 + 3 + j from Nat.mod_eq_of_lt this]; simp only [lay]; rw [if_pos (by omega)])); refine O_rd (l := [.slice _ _ _]) (by assumption) cl55 rfl (copyBytes_arg (TS.t (by assumption)) (by omega) hf hby) ?_; rintro _ _ ⟨_, _, _, rfl, hs1⟩ hS1 _; replace hS1 := hS1.addL hs1))
    | (guard_target =~ WC _ _ (Code.region 1 _ true) _ _ _; first | (refine W_drawnT (id := 1) [20] [0, 1, 2, 3, 4, 5, 6, 7, 8, 9, 10, 11, 12, 13, 14, 15, 16, 17, 18, 19, 20, 21, 22] mixed (by kernel_rfl) (by kernel_rfl) (by assumption) ?_; intro _ _ _))
    | (guard_target =~ WO _ _ (Oper.mk _ (Op.box 38 _) _ _ _ none) _ _ _ _; first | (refine O_bxs (by assumption) (by repeat (first | exact List.Mem.head _ | refine List.Mem.tail _ ?_)) rfl ?_; intro _ _ _ _))
    | (guard_target =~ WO _ _ (Oper.mk _ (Op.fieldAddr 38 _ 0) _ _ _ none) _ _ _ _; first | (refine O_fdT fd38_0 (by decide) rfl ?_) | (refine O_field fd38_0 (by decide) rfl ?_))
    | (guard_target =~ WO _ _ (Oper.mk _ (Op.load 5 _) _ _ _ none) _ _ _ _; first | (refine O_ld8 (by assumption) (by repeat (first | exact List.Mem.head _ | refine List.Mem.tail _ ?_)) on5 rfl (by first | omega | (simp only [csz]; omega)) (by first | rfl | exact layMod rfl rfl) ?_; intro _ _))
    | (guard_target =~ WO _ _ (Oper.mk _ (Op.fieldAddr 38 _ 1) _ _ _ none) _ _ _ _; first | (refine O_fdT fd38_1 (by decide) rfl ?_) | (refine O_field fd38_1 (by decide) rfl ?_))
    | (guard_target =~ WO _ _ (Oper.mk _ (Op.fieldAddr 38 _ 2) _ _ _ none) _ _ _ _; first | (refine O_fdT fd38_2 (by decide) rfl ?_) | (refine O_field fd38_2 (by decide) rfl ?_))
    | (guard_target =~ WO _ _ (Oper.mk _ (Op.fieldAddr 38 _ 3) _ _ _ none) _ _ _ _; first | (refine O_fdT fd38_3 (by decide) rfl ?_) | (refine O_field fd38_3 (by decide) rfl ?_))
    | (guard_target =~ WO _ _ (Oper.mk _ (Op.load 30 _) _ _ _ none) _ _ _ _; first | (refine O_ldn8 (by assumption) (by repeat (first | exact List.Mem.head _ | refine List.Mem.tail _ ?_)) ag30 rfl (by first | omega | (simp only [csz]; omega)) (by first | exact layRun0 rfl rfl | exact layRun rfl rfl rfl) ?_; intro _ _))
    | (guard_target =~ WO _ _ (Oper.mk _ (Op.fieldAddr 38 _ 4) _ _ _ none) _ _ _ _; first | (refine O_fdT fd38_4 (by decide) rfl ?_) | (refine O_field fd38_4 (by decide) rfl ?_))
    | (guard_target =~ WO _ _ (Oper.mk _ (Op.load 27 _) _ _ _ none) _ _ _ _; first | (refine O_ld64 (by assumption) (by repeat (first | exact List.Mem.head _ | refine List.Mem.tail _ ?_)) on27 rfl (by first | omega | (simp only [csz]; omega)) (by first | rfl | exact layMod rfl rfl) ?_; intro _ _))
    | (guard_target =~ WO _ _ (Oper.mk _ (Op.convert 5 21 _) _ _ _ none) _ _ _ _; first | (refine O_convZ Samg.underlying5 Samg.underlying21 rfl (by simp only [rngZ]; omega) ?_) | (refine O_convA Samg.underlying5 Samg.underlying21 rfl rfl ?_; intro _ hr; simp only [rngZ] at hr))
    | (guard_target =~ WO _ _ (Oper.mk _ (Op.binOp BinOp.rem 5 _ _ _) _ _ _ none) _ _ _ _; first | (refine O_remZ rfl rfl (by omega) (by omega) ?_))
    | (guard_target =~ WO _ _ (Oper.mk _ (Op.store 55 _ _) _ _ _ none) _ _ _ _; first | (refine O_sts (by assumption) (by repeat (first | exact List.Mem.head _ | refine List.Mem.tail _ ?_)) (by omega) (by repeat (first | exact List.Mem.head _ | refine List.Mem.tail _ ?_)) ag55 rfl rfl (by first | omega | (simp only [csz]; omega)) (by first | exact laySub0 rfl rfl | exact laySub rfl rfl rfl | exact laySame (by decide)) rfl ?_; intro _ _)))
  refine O_bdE (l := [(0, .int .u8 (kk : Int)), (1, .agg (ns .u8 20 _)), (2, .agg (ns .u8 32 _)), (3, .agg (ns .u8 32 _)), (4, .int .u64 (Nat.cast _)), (5, .int .i32 (zz : Int)), (6, .slice _ _ _)]) (by assumption) st55 zc55 rfl ⟨_, _, rfl, rfl, rfl, ⟨_, _, rfl, rfl, rfl, ⟨_, _, rfl, rfl, rfl, ⟨_, _, rfl, rfl, rfl, ⟨_, _, rfl, rfl, rfl, ⟨_, _, rfl, rfl, rfl, ⟨_, _, rfl, rfl, rfl, rfl⟩⟩⟩⟩⟩⟩⟩ ⟨one_ok (c' := 1) rfl (ok8 (by omega)), ⟨run8_ok (by assumption) rfl, ⟨run8_ok (by assumption) rfl, ⟨run8_ok (by assumption) rfl, ⟨one_ok (c' := 2) rfl (ok64 (by omega)), ⟨one_ok (c' := 3) rfl (ok32 (by omega) (by omega)), ⟨one_ok (c' := 100 + 5) rfl (okS (TS.slN (by assumption) (by repeat (first | exact List.Mem.head _ | refine List.Mem.tail _ ?_)))), trivial⟩⟩⟩⟩⟩⟩⟩ ?_
  intro cs4 z4 hcs4 hz4 _ hfl4 hS4
  repeat' (first
    | (refine L_cons ?_)
    | (refine R_cons rfl ?_)
    | (refine W_seq ?_)
    | (refine W_region (by kernel_rfl) ?_)
    | (refine L_nil ?_)
    | (refine R_nil ?_)
    | (refine W_block ?_)
    | (refine W_skip ?_)
    | (refine W_exit ?_)
    | (refine W_ret ?_)
    | (guard_target =~ thenQ _ _ _ _ _; first | (refine T_next ?_) | (refine T_exit ?_) | (refine T_ret ?_))
    | (guard_target =~ blockQ _ _ _ _ _; first | (refine B_next ?_) | (refine B_same ?_) | (refine B_other (by kernel_rfl) ?_) | (refine B_ret ?_))
    | (refine W_true rfl rfl ?_)
    | (refine W_false rfl rfl ?_)
    | (guard_target =~ WO _ _ (Oper.mk _ (Op.store 55 _ _) _ _ _ none) _ _ _ _; first | (refine O_stsW (by assumption) (by repeat (first | exact List.Mem.head _ | refine List.Mem.tail _ ?_)) (by omega) (by repeat (first | exact List.Mem.head _ | refine List.Mem.tail _ ?_)) ag55 rfl rfl (by simp only [csz]; omega) laySame0 rfl ?_; intro w5 hS5 hW5) | (refine O_sts (by assumption) (by repeat (first | exact List.Mem.head _ | refine List.Mem.tail _ ?_)) (by omega) (by repeat (first | exact List.Mem.head _ | refine List.Mem.tail _ ?_)) ag55 rfl rfl (by first | omega | (simp only [csz]; omega)) (by first | exact laySub0 rfl rfl | exact laySub rfl rfl rfl | exact laySame (by decide)) rfl ?_; intro _ _))
    | (guard_target =~ WC _ _ (Code.region 1 _ true) _ _ _; first | (refine W_drawnT (id := 1) [20] [0, 1, 2, 3, 4, 5, 6, 7, 8, 9, 10, 11, 12, 13, 14, 15, 16, 17, 18, 19, 20, 21, 22] mixed (by kernel_rfl) (by kernel_rfl) (by assumption) ?_; intro _ _ _))
    | (guard_target =~ WO _ _ (Oper.mk _ (Op.box 38 _) _ _ _ none) _ _ _ _; first | (refine O_bxs (by assumption) (by repeat (first | exact List.Mem.head _ | refine List.Mem.tail _ ?_)) rfl ?_; intro _ _ _ _))
    | (guard_target =~ WO _ _ (Oper.mk _ (Op.alloc 55) _ _ _ none) _ _ _ _; first | (refine O_al (by assumption) zc55 (by decide) ?_; intro _ _ _ _))
    | (guard_target =~ WO _ _ (Oper.mk _ (Op.fieldAddr 38 _ 0) _ _ _ none) _ _ _ _; first | (refine O_fdT fd38_0 (by decide) rfl ?_) | (refine O_field fd38_0 (by decide) rfl ?_))
    | (guard_target =~ WO _ _ (Oper.mk _ (Op.load 5 _) _ _ _ none) _ _ _ _; first | (refine O_ld8 (by assumption) (by repeat (first | exact List.Mem.head _ | refine List.Mem.tail _ ?_)) on5 rfl (by first | omega | (simp only [csz]; omega)) (by first | rfl | exact layMod rfl rfl) ?_; intro _ _))
    | (guard_target =~ WO _ _ (Oper.mk _ (Op.fieldAddr 38 _ 1) _ _ _ none) _ _ _ _; first | (refine O_fdT fd38_1 (by decide) rfl ?_) | (refine O_field fd38_1 (by decide) rfl ?_))
    | (guard_target =~ WO _ _ (Oper.mk _ (Op.fieldAddr 38 _ 2) _ _ _ none) _ _ _ _; first | (refine O_fdT fd38_2 (by decide) rfl ?_) | (refine O_field fd38_2 (by decide) rfl ?_))
    | (guard_target =~ WO _ _ (Oper.mk _ (Op.fieldAddr 38 _ 3) _ _ _ none) _ _ _ _; first | (refine O_fdT fd38_3 (by decide) rfl ?_) | (refine O_field fd38_3 (by decide) rfl ?_))
    | (guard_target =~ WO _ _ (Oper.mk _ (Op.load 30 _) _ _ _ none) _ _ _ _; first | (refine O_ldn8 (by assumption) (by repeat (first | exact List.Mem.head _ | refine List.Mem.tail _ ?_)) ag30 rfl (by first | omega | (simp only [csz]; omega)) (by first | exact layRun0 rfl rfl | exact layRun rfl rfl rfl) ?_; intro _ _))
    | (guard_target =~ WO _ _ (Oper.mk _ (Op.fieldAddr 38 _ 4) _ _ _ none) _ _ _ _; first | (refine O_fdT fd38_4 (by decide) rfl ?_) | (refine O_field fd38_4 (by decide) rfl ?_))
    | (guard_target =~ WO _ _ (Oper.mk _ (Op.load 27 _) _ _ _ none) _ _ _ _; first | (refine O_ld64 (by assumption) (by repeat (first | exact List.Mem.head _ | refine List.Mem.tail _ ?_)) on27 rfl (by first | omega | (simp only [csz]; omega)) (by first | rfl | exact layMod rfl rfl) ?_; intro _ _))
    | (guard_target =~ WO _ _ (Oper.mk _ (Op.convert 5 21 _) _ _ _ none) _ _ _ _; first | (refine O_convZ Samg.underlying5 Samg.underlying21 rfl (by simp only [rngZ]; omega) ?_) | (refine O_convA Samg.underlying5 Samg.underlying21 rfl rfl ?_; intro _ hr; simp only [rngZ] at hr))
    | (guard_target =~ WO _ _ (Oper.mk _ (Op.binOp BinOp.rem 5 _ _ _) _ _ _ none) _ _ _ _; first | (refine O_remZ rfl rfl (by omega) (by omega) ?_))
    | (guard_target =~ WO _ _ (Oper.mk _ (Op.build 55 #[(0, _), (1, _), (2, _), (3, _), (4, _), (5, _), (6, _)]) _ _ _ none) _ _ _ _; first | (refine O_bd (l := [(0, .int .u8 (Nat.cast _)), (1, .agg (ns .u8 20 _)), (2, .agg (ns .u8 32 _)), (3, .agg (ns .u8 32 _)), (4, .int .u64 (Nat.cast _)), (5, .int .i32 _), (6, .slice _ _ _)]) (by assumption) st55 zc55 rfl ⟨_, _, rfl, rfl, rfl, ⟨_, _, rfl, rfl, rfl, ⟨_, _, rfl, rfl, rfl, ⟨_, _, rfl, rfl, rfl, ⟨_, _, rfl, rfl, rfl, ⟨_, _, rfl, rfl, rfl, ⟨_, _, rfl, rfl, rfl, rfl⟩⟩⟩⟩⟩⟩⟩ ⟨one_ok (c' := 1) rfl (ok8 (by omega)), ⟨run8_ok (by assumption) rfl, ⟨run8_ok (by assumption) rfl, ⟨run8_ok (by assumption) rfl, ⟨one_ok (c' := 2) rfl (ok64 (by omega)), ⟨one_ok (c' := 3) rfl (ok32 (by omega) (by omega)), ⟨one_ok (c' := 100 + 5) rfl (okS (by first | exact Sl.nil _ | exact TS.slN (by assumption) (by repeat (first | exact List.Mem.head _ | refine List.Mem.tail _ ?_)))), trivial⟩⟩⟩⟩⟩⟩⟩ ?_; intro _ _ _)))
  refine E_cellC (by assumption) rfl rfl ag55 rfl (by repeat (first | exact List.Mem.head _ | refine List.Mem.tail _ ?_)) ?_
  intro cs' hc' hcc
  have e1 : ∀ j, j < 89 → cs'[j]? = cs4[j]? := fun j hj => by
    rw [hcc j hj, hW5, if_pos ⟨rfl, Nat.zero_le _, by rw [hcs4]; simp only [csz]; omega⟩, Nat.sub_zero]
  refine ⟨hxW.trans hS5.e, hS5.t, cs', rfl, hc', kk, zz, hk0, hz0, hk1, hz1, ?_, ?_⟩
  · rw [e1 0 (by omega), hfl4]; exact (wide_get hz4).1
  · rw [e1 86 (by omega), hfl4]; exact (wide_get hz4).2
end Go.Proofs.Ygcsam
