/-
  Totals compare; steadyHolds. Own work.
-/
import Derived.Test.YgcsamG4
import Derived.Laws.StructEq
namespace Go.Proofs.Ygcsam
set_option linter.unusedVariables false
set_option linter.unusedSimpArgs false
set_option maxRecDepth 4000
section
variable {P : Program} {w : World}
theorem run_eqFields_same {d : Nat} {xs : Array Value} : ∀ fs : List Field, (∀ f ∈ fs, ∃ x, (part f.type xs f.offset).run P w = .ok x w ∧ (Op.equalIn d f.type x x).run P w = .ok true w) → (Op.eqFields d xs xs fs).run P w = .ok true w
  | [], _ => by simp [Op.eqFields]
  | f :: fs, h => by
    obtain ⟨x, h1, h2⟩ := h f (by simp)
    have h3 := run_eqFields_same fs fun g hg => h g (by simp [hg])
    unfold Op.eqFields
    split
    · simp only [Sem.run_bind, h1, Result.andThen_ok, h2, Bool.not_true, Bool.false_eq_true, if_false, h3]
    · exact h3
end
theorem tot_part {s : Nat → Nat} {wr : Bool} {r c : Nat} : (totC s wr r c).extract 0 (0 + 4) = ns .u64 4 s := by
  apply Array.ext_getElem?
  intro j
  rw [Array.getElem?_extract]
  by_cases h : j < 4
  · rw [if_pos (by simp [totC]; omega), ns_get h]
    have hor : j = 0 ∨ j = 1 ∨ j = 2 ∨ j = 3 := by omega
    rcases hor with rfl | rfl | rfl | rfl <;> rfl
  · rw [if_neg (by simp [totC]; omega)]
    symm
    rw [Array.getElem?_eq_none]
    rw [ns_size]; omega
theorem un48 : Samg.prog.underlying 48 = some (.struct (Samg.prog.fieldsOf 48)) := by kernel_rfl
theorem fs48 : (Samg.prog.fieldsOf 48).toList.map (fun f => (f.type, f.offset)) = [(45, 0), (4, 4), (27, 5), (21, 6)] := by kernel_rfl
theorem run_neq48 {w : World} {s : Nat → Nat} {wr : Bool} {r c : Nat} : (binOp .neq 48 (.agg (totC s wr r c)) (.agg (totC s wr r c))).run Samg.prog w = .ok (.bool false) w := by
  have h : (Op.equalIn 10000 48 (.agg (totC s wr r c)) (.agg (totC s wr r c))).run Samg.prog w = .ok true w := by
    rw [run_equalIn_struct w 9999 48 _ _ un48 (by kernel_rfl)]
    refine run_eqFields_same _ fun f hf => ?_
    have hm : (f.type, f.offset) ∈ [(45, 0), (4, 4), (27, 5), (21, 6)] := by
      rw [← fs48]; exact List.mem_map.2 ⟨f, hf, rfl⟩
    simp only [List.mem_cons, List.not_mem_nil, or_false, Prod.mk.injEq] at hm
    rcases hm with ⟨h1, h2⟩ | ⟨h1, h2⟩ | ⟨h1, h2⟩ | ⟨h1, h2⟩ <;> rw [h1, h2]
    · refine ⟨.agg (ns .u64 4 s), ?_, ?_⟩
      · have h45 := run_underlying' (w := w) Samg.underlying45
        have hsz := run_sizeOf (w := w) ag45.2
        simp only [part, isAgg, Sem.run_bind, h45, Result.andThen_ok, Sem.run_pure, hsz]
        simp [tot_part]
      · rw [run_equalIn_ns 9997 num45]
        simp
    · exact ⟨.bool wr, by simp [part, isAgg, run_underlying' Samg.underlying4, totC], by rw [run_equalIn_bool' w 9998 4 wr wr Samg.underlying4]; simp⟩
    · exact ⟨.int .u64 (r : Int), by simp [part, isAgg, run_underlying' Samg.underlying27, totC], by rw [run_equalIn_int w 9998 27 .u64 .u64 _ _ Samg.underlying27]; simp⟩
    · exact ⟨.int .i32 (c : Int), by simp [part, isAgg, run_underlying' Samg.underlying21, totC], by rw [run_equalIn_int w 9998 21 .i32 .i32 _ _ Samg.underlying21]; simp⟩
  rw [run_neq_struct, h]; rfl
theorem Wt_tot (σ : VS) (k : Nat) : ∃ s wr r c, Wt σ k = totC s wr r c := by
  unfold Wt wgh
  split
  · exact ⟨_, _, _, _, rfl⟩
  · exact ⟨_, _, _, _, rfl⟩
theorem Wt_size (σ : VS) (k : Nat) : (Wt σ k).size = 7 := by
  obtain ⟨s, wr, r, c, e⟩ := Wt_tot σ k
  rw [e]; rfl
section
variable {ops : Array Oper} {e : Bool} {K : Env → World → Prop} {ρ : Env} {w w0 : World} {d : Nat} {ty : TypeId} {pos : String} {af : Array Edge} {B : Nat} {L : List Fact} {M : List (Nat × Array Value)}
theorem O_neqW {t' : Nat} {σ : VS} {k : Nat} {x y : Operand} (hx : ev ρ x = .agg (Wt σ k)) (hy : ev ρ y = .agg (Wt σ k)) (kk : K (put ρ d (.bool false)) w) : WO Samg.prog ops ⟨some d, .binOp .neq 48 x y t', ty, pos, af, none⟩ e K ρ w := by
  obtain ⟨s, wr, r, c, e⟩ := Wt_tot σ k
  rw [e] at hx hy
  refine O_pure rfl (fun w' => ?_) kk
  have h2 : (eqGuard .neq 48 x y (.agg (totC s wr r c)) (.agg (totC s wr r c))).run Samg.prog w' = .ok () w' := run_guard_agg (by kernel_rfl)
  simp only [execOp, hx, hy, Sem.run_bind, h2, Result.andThen_ok, run_neq48, Sem.run_pure]
theorem O_ldT {b n cap k : Nat} {cs : Array Value} {x : Operand} (h : TS B w0 w L M) (hm : (48, some ⟨b, 0, none⟩, n, cap) ∈ L) (hk : k < n) (hx : ev ρ x = .pointer (some ⟨b, 0 + k * 7, none⟩)) (hs : cs.size = 7) (hcell : ∀ j, j < 7 → w0.cell? ⟨b, k * 7 + j, none⟩ = cs[j]?) (hlt : b < w0.heap.size)
    (kk : K (put ρ d (.agg cs)) w) : WO Samg.prog ops ⟨some d, .load 48 x, ty, pos, af, none⟩ e K ρ w := by
  obtain ⟨hB, c, hb, hc⟩ := h.row hm
  have hle := (h.slN hm).1
  have hsz : csz 48 = 7 := rfl
  rw [hsz] at hc
  refine O_load_agg ag48 hx hb (by omega) ?_
  rw [show c.extract (0 + k * 7) (0 + k * 7 + 7) = cs from ?_]
  · exact kk
  · apply Array.ext_getElem?
    intro j
    rw [Array.getElem?_extract]
    by_cases hj : j < 7
    · rw [if_pos (by omega), ← hcell j hj, ← cell_eqE h.e hlt, hb.cellq, Nat.zero_add]
    · rw [if_neg (by omega)]
      symm
      rw [Array.getElem?_eq_none]
      omega
end
theorem at_snapd (σ : VS) (lo : Nat) : at_ (snapd σ) lo = at_ σ lo := by
  unfold at_
  exact U_congr (σ := σ) (σ' := snapd σ) _ _ fun i _ => ⟨rfl, rfl, rfl, rfl⟩
theorem at_top (σ : VS) : at_ σ σ.nj = cur σ := by
  unfold at_
  rw [Nat.sub_self]; rfl
theorem okA.bool {B : Nat} {w : World} {t o : Nat} {cs : Array Value} (h : okA B w t cs) (ho : o < csz t) (hl : lay t o = 4) : ∃ p : Bool, cs[o]? = some (.bool p) := by
  have h1 : o < cs.size := by rw [h.1]; exact ho
  have h2 := h.2 o cs[o] (by simp [h1])
  rw [hl] at h2
  obtain ⟨z, e1⟩ := h2.bool
  exact ⟨z, by rw [← e1]; simp [h1]⟩
set_option maxHeartbeats 16000000 in
theorem steadyHolds_ok {B s : Nat} {σ σ' : VS} {w : World} (hT : WT B w) (hV : V B w s σ') (hI : VI σ') (hnm0 : σ.nm ≤ 16384) {b c : Nat} (hs : Sl B w 48 (some ⟨b, 0, none⟩) (σ.nm + 1) c) (hto : ∀ k, k ≤ σ.nm → ∀ j, j < 7 → w.cell? ⟨b, k * 7 + j, none⟩ = (Wt σ k)[j]?) {cs rs : Array Value} (hA : okA B w 55 cs) (hR : okA B w 51 rs) {K : Nat} {z : Int} (hK : cs[0]? = some (.int .u8 (K : Int))) (hZ : cs[86]? = some (.int .i32 z)) (hP : PvR σ σ' K z rs[10]? rs[0]?) :
    Rd B Samg.prog 18 [.slice (some ⟨b, 0, none⟩) (σ.nm + 1) c, .pointer (some ⟨s, 0, none⟩), .agg cs, .agg rs] w fun v w' => v = .bool true := by
  refine W_enter (l := [_, _, _, _]) Samg.func18 rfl rfl rfl ?_
  have hS := (((hV.start hT).addL hs).addM hA).addM hR
  have hna := hI.na; have hns := hI.ns; have hnt := hI.nt; have hnj := hI.nj; have hnm := hI.nm; have hnl := hI.nl
  obtain ⟨z', hZ', hz1, hz2⟩ := hA.i32 (o := 86) (by decide) rfl
  obtain rfl : z' = z := by rw [hZ] at hZ'; cases hZ'; rfl
  obtain ⟨z10, hr10, hr1, hr2⟩ := hR.i32 (o := 10) (by decide) rfl
  obtain ⟨p0, hr0⟩ := hR.bool (o := 0) (by decide) rfl
  rw [hr10, hr0] at hP
  refine W_cut3 (fun ρ w' => ∃ T : Nat, T ≤ σ.nm ∧ T ≤ σ'.nm ∧ (∀ i, i < T → wgh (at_ σ' (σ'.mks i)) σ'.orig = Wt σ i) ∧ TS B w w' ((48, some ⟨b, 0, none⟩, σ.nm + 1, c) :: [(86, some ⟨s, 0, none⟩, 1, 1), (148, σ'.aA, σ'.na, σ'.cA), (153, σ'.aS, σ'.ns, σ'.cS), (178, σ'.aJ, σ'.nj, σ'.cJ), (126, σ'.aL, σ'.nl, σ'.cL), (172, σ'.aT, σ'.nt, σ'.cT), (21, σ'.aH, σ'.nh, σ'.cH)]) [] ∧ Has ρ [(0, .slice (some ⟨b, 0, none⟩) (σ.nm + 1) c), (1, .pointer (some ⟨s, 0, none⟩)), (9, .int .i64 ((T : Nat) : Int))]) ?_ ?_
  · have hS0 := hS
    repeat (first | (refine L_cons ?_) | (refine R_cons rfl ?_) | (refine W_seq ?_) | (refine W_region (by kernel_rfl) ?_) | (refine L_nil ?_) | (refine R_nil ?_) | (guard_target =~ thenQ _ _ _ _ _; refine T_next ?_))
    refine O_bxsE hS0 (by repeat (first | exact List.Mem.head _ | refine List.Mem.tail _ ?_)) rfl ?_
    intro w1 b6 hx1 _ hn6 hc6 hS1
    repeat (first | (refine L_cons ?_) | (refine R_cons rfl ?_) | (refine W_seq ?_) | (refine W_region (by kernel_rfl) ?_) | (refine L_nil ?_) | (refine R_nil ?_) | (guard_target =~ thenQ _ _ _ _ _; refine T_next ?_))
    refine O_bxsE hS1 (by repeat (first | exact List.Mem.head _ | refine List.Mem.tail _ ?_)) rfl ?_
    intro w2 b7 hx2 _ hn7 hc7 hS2
    have hcK : w2.cell? ⟨b6, 0, none⟩ = some (.int .u8 (K : Int)) := cell_ext ((hc6 0).trans hK) hx2
    have hcZ : w2.cell? ⟨b6, 86, none⟩ = some (.int .i32 z') := cell_ext ((hc6 86).trans hZ) hx2
    have hc10 : w2.cell? ⟨b7, 10, none⟩ = some (.int .i32 z10) := (hc7 10).trans hr10
    have hc0 : w2.cell? ⟨b7, 0, none⟩ = some (.bool p0) := (hc7 0).trans hr0
    have hb6 := cell_lt hcK
    have hb7 := cell_lt hc10
    have hlt0 : b < w.heap.size := (hS.ltC (b := b) (by repeat (first | exact List.Mem.head _ | refine List.Mem.tail _ ?_)))
    have hlt : b < w2.heap.size := Nat.lt_of_lt_of_le hlt0 hS2.e.size
    have hxw : Ext w w2 := hS2.e
    have hto2 : ∀ k, k ≤ σ.nm → ∀ j, j < 7 → w2.cell? ⟨b, k * 7 + j, none⟩ = (Wt σ k)[j]? := fun k hk j hj => (cell_eqE hxw hlt0).trans (hto k hk j hj)
    have hV1 := hV
    replace hV := hV.ext hxw
    have hS3 := hS2.restart
    have fin : ∀ {w' : World} {L : List Fact} {M : List (Nat × Array Value)}, TS B w2 w' L M → (48, some ⟨b, 0, none⟩, σ.nm + 1, c) ∈ L → TS B w w' ((48, some ⟨b, 0, none⟩, σ.nm + 1, c) :: [(86, some ⟨s, 0, none⟩, 1, 1), (148, σ'.aA, σ'.na, σ'.cA), (153, σ'.aS, σ'.ns, σ'.cS), (178, σ'.aJ, σ'.nj, σ'.cJ), (126, σ'.aL, σ'.nl, σ'.cL), (172, σ'.aT, σ'.nt, σ'.cT), (21, σ'.aH, σ'.nh, σ'.cH)]) [] := fun h hm => by
      have h2 : TS B w2 _ _ [] := TS.pick h hm (hV.at h)
      exact ⟨h2.t, hxw.trans h2.e, h2.l, h2.m⟩
    have h9 : ((σ.nm + 1 : Nat) : Int) - 1 = ((σ.nm : Nat) : Int) := by omega
    clear hS0 hS1 hS2 hS hc6 hc7 hx1 hx2
    rcases hP with ⟨hK1, hx, rfl⟩ | ⟨hK1, ⟨q, hzq, hq1, hq2, hq3, hq4, hq5, hq6⟩, hy⟩ | hK1 | ⟨hSt, hs1, hs2⟩
    · have hz10 : z10 = (σ.nm : Int) := by cases hx; rfl
      have hnm' : (snapd σ).nm = σ.nm + 1 := rfl
      have e1 : wgh (at_ (snapd σ) ((snapd σ).mks σ.nm)) (snapd σ).orig = Wt σ σ.nm := by
        have hm : (snapd σ).mks σ.nm = σ.nj := if_pos rfl
        rw [hm, at_snapd, at_top]
        unfold Wt
        rw [if_pos rfl]; rfl
      have e2 : wgh (cur (snapd σ)) (snapd σ).orig = Wt σ σ.nm := by
        unfold Wt
        rw [if_pos rfl]; rfl
      have e3 : ∀ i, i < σ.nm → wgh (at_ (snapd σ) ((snapd σ).mks i)) (snapd σ).orig = Wt σ i := fun i hi => by
        have hm : (snapd σ).mks i = σ.mks i := if_neg (by omega)
        rw [hm, at_snapd]
        unfold Wt
        rw [if_neg (by omega)]; rfl
      repeat' (first
        | (refine L_cons ?_)
        | (refine R_cons rfl ?_)
        | (refine W_seq ?_)
        | (refine W_region (by kernel_rfl) ?_)
        | (refine L_nil ?_)
        | (refine R_nil ?_)
        | (refine W_block ?_)
        | (refine W_skip ?_)
        | (refine W_exit ?_)
        | (refine W_ret ?_)
        | (guard_target =~ thenQ _ _ _ _ _; first | (refine T_next ?_) | (refine T_exit ?_) | (refine T_ret ?_))
        | (guard_target =~ blockQ _ _ _ _ _; first | (refine B_next ?_) | (refine B_same ?_) | (refine B_other (by kernel_rfl) ?_) | (refine B_ret ?_))
        | (refine W_true rfl rfl ?_)
        | (refine W_false rfl rfl ?_)
        | (guard_target =~ WO _ _ (Oper.mk _ (Op.load 5 _) _ _ _ none) _ _ _ _; first | (refine O_ldV (v := .int .u8 ((K : Nat) : Int)) (by assumption) on5 rfl hcK hb6 ?_) | (refine O_ld8 (by assumption) (by repeat (first | exact List.Mem.head _ | refine List.Mem.tail _ ?_)) on5 rfl (by first | omega | (simp only [csz]; omega)) (by first | rfl | exact layMod rfl rfl) ?_; intro _ _))
        | (guard_target =~ WO _ _ (Oper.mk _ (Op.load 21 (Operand.tmp 20)) _ _ _ none) _ _ _ _; first | (refine O_ldV (v := .int .i32 z10) (by assumption) on21 rfl hc10 hb7 ?_))
        | (guard_target =~ WO _ _ (Oper.mk _ (Op.load 21 (Operand.tmp 24)) _ _ _ none) _ _ _ _; first | (refine O_ldV (v := .int .i32 z10) (by assumption) on21 rfl hc10 hb7 ?_))
        | (guard_target =~ WO _ _ (Oper.mk _ (Op.load 21 (Operand.tmp 59)) _ _ _ none) _ _ _ _; first | (refine O_ldV (v := .int .i32 z') (by assumption) on21 rfl hcZ hb6 ?_))
        | (guard_target =~ WO _ _ (Oper.mk _ (Op.load 21 (Operand.tmp 63)) _ _ _ none) _ _ _ _; first | (refine O_ldV (v := .int .i32 z') (by assumption) on21 rfl hcZ hb6 ?_))
        | (guard_target =~ WO _ _ (Oper.mk _ (Op.load 21 (Operand.tmp 74)) _ _ _ none) _ _ _ _; first | (refine O_ldV (v := .int .i32 z') (by assumption) on21 rfl hcZ hb6 ?_))
        | (guard_target =~ WO _ _ (Oper.mk _ (Op.load 21 (Operand.tmp 86)) _ _ _ none) _ _ _ _; first | (refine O_ldV (v := .int .i32 z') (by assumption) on21 rfl hcZ hb6 ?_))
        | (guard_target =~ WO _ _ (Oper.mk _ (Op.load 21 (Operand.tmp 92)) _ _ _ none) _ _ _ _; first | (refine O_ldV (v := .int .i32 z') (by assumption) on21 rfl hcZ hb6 ?_))
        | (guard_target =~ WO _ _ (Oper.mk _ (Op.load 4 _) _ _ _ none) _ _ _ _; first | (refine O_ldV (v := .bool _) (by assumption) on4 rfl hc0 hb7 ?_) | (refine O_ldb (by assumption) (by repeat (first | exact List.Mem.head _ | refine List.Mem.tail _ ?_)) on4 rfl (by first | omega | (simp only [csz]; omega)) (by first | rfl | exact layMod rfl rfl) ?_ ?_))
        | (guard_target =~ WO _ _ (Oper.mk _ (Op.call (Call.mk (Callee.value (Operand.func 45)) _ _)) _ _ _ none) _ _ _ _; first | (refine O_rd (l := [.pointer (some ⟨s, 0, none⟩), .int .i32 _]) (by assumption) cl45 rfl (at_ok (TS.t (by assumption)) (hV.ext (TS.e (by assumption))) hI ⟨by omega, by omega⟩) ?_; rintro _ w4 ⟨cs4, rfl, hs4, hc4, hq4⟩ hS4 hx4; first | (refine (fun (hcs : cs4 = Wt σ σ.nm) => ?_) ((hq4 σ.nm hz10 (Nat.lt_succ_self _)).trans e1); subst hcs) | (refine (fun (hcs : cs4 = Wt σ σ.nm) => ?_) ((hc4 (by rw [hz10]; rfl)).trans e2); subst hcs)))
        | (guard_target =~ WO _ _ (Oper.mk _ (Op.indexAddr 57 _ _) _ _ _ none) _ _ _ _; first | (refine O_index_s (m := σ.nm) sl57 rfl (congrArg (Value.int .i64) h9) (by omega) ?_) | (refine O_ixK (by assumption) (by repeat (first | exact List.Mem.head _ | refine List.Mem.tail _ ?_)) sl57 rfl rfl (by omega) (by omega) ?_; rintro _ _ _) | (refine O_ixN (by assumption) (by repeat (first | exact List.Mem.head _ | refine List.Mem.tail _ ?_)) sl57 rfl rfl (by omega) (by omega) ?_; rintro _ _ _ _ _ _))
        | (guard_target =~ WO _ _ (Oper.mk _ (Op.load 48 _) _ _ _ none) _ _ _ _; first | (refine O_ldT (cs := Wt σ σ.nm) (by assumption) (by repeat (first | exact List.Mem.head _ | refine List.Mem.tail _ ?_)) (by omega) rfl (Wt_size _ _) (hto2 σ.nm (Nat.le_refl _)) hlt ?_) | (refine O_lda (by assumption) (by repeat (first | exact List.Mem.head _ | refine List.Mem.tail _ ?_)) ag48 rfl (by first | omega | (simp only [csz]; omega)) (by first | exact laySub0 rfl rfl | exact laySub rfl rfl rfl | exact laySame (by decide)) ?_; intro _ _ _))
        | (guard_target =~ WO _ _ (Oper.mk _ (Op.binOp BinOp.neq 48 _ _ _) _ _ _ none) _ _ _ _; first | (refine O_neqW rfl rfl ?_))
        | (guard_target =~ WO _ _ (Oper.mk _ (Op.load 78 _) _ _ _ none) _ _ _ _; first | (refine O_ldV (by assumption) on78 rfl hV.acc hV.lt ?_))
        | (guard_target =~ WO _ _ (Oper.mk _ (Op.load 79 _) _ _ _ none) _ _ _ _; first | (refine O_ldV (by assumption) on79 rfl hV.slo hV.lt ?_))
        | (guard_target =~ WO _ _ (Oper.mk _ (Op.load 81 _) _ _ _ none) _ _ _ _; first | (refine O_ldV (by assumption) on81 rfl hV.jou hV.lt ?_))
        | (guard_target =~ WO _ _ (Oper.mk _ (Op.load 46 _) _ _ _ none) _ _ _ _; first | (refine O_ldV (by assumption) on46 rfl hV.log hV.lt ?_))
        | (guard_target =~ WO _ _ (Oper.mk _ (Op.load 83 _) _ _ _ none) _ _ _ _; first | (refine O_ldV (by assumption) on83 rfl hV.tem hV.lt ?_))
        | (guard_target =~ WO _ _ (Oper.mk _ (Op.load 84 _) _ _ _ none) _ _ _ _; first | (refine O_ldV (by assumption) on84 rfl hV.tta hV.lt ?_))
        | (guard_target =~ WO _ _ (Oper.mk _ (Op.load 21 _) _ _ _ none) _ _ _ _; first | (refine O_ldV (by assumption) on21 rfl hV.nmk hV.lt ?_) | (refine O_ld32 (by assumption) (by repeat (first | exact List.Mem.head _ | refine List.Mem.tail _ ?_)) on21 rfl (by first | omega | (simp only [csz]; omega)) (by first | rfl | exact layMod rfl rfl) ?_; intro _ _ _))
        | (guard_target =~ WO _ _ (Oper.mk _ (Op.load 27 _) _ _ _ none) _ _ _ _; first | (refine O_ldV (by assumption) on27 rfl hV.rf hV.lt ?_))
        | (guard_target =~ WO _ _ (Oper.mk _ _ _ _ _ (some _)) _ _ _ _; first | (refine G_yes rfl ?_) | (refine G_no rfl ?_))
        | (guard_target =~ WC _ _ (Code.region 4 _ true) _ _ _; first | (refine W_drawnT (id := 4) [7, 18] [0, 1, 2, 3, 4, 5, 6, 8, 9, 10, 11, 7, 12, 13, 14, 15, 16, 17, 19, 20, 21, 22, 18, 23, 24] mixed (by kernel_rfl) (by kernel_rfl) (by assumption) ?_; intro _ _ _))
        | (guard_target =~ WC _ _ (Code.region 7 _ true) _ _ _; first | (refine W_drawnT (id := 7) [25] [0, 1, 2, 3, 4, 5, 6, 7, 8, 9, 10, 11, 12, 13, 14, 15, 16, 17, 18, 19, 20, 21, 22, 23, 24, 26, 27, 28, 29, 30, 25, 31, 32] mixed (by kernel_rfl) (by kernel_rfl) (by assumption) ?_; intro _ _ _))
        | (guard_target =~ WC _ _ (Code.region 17 _ true) _ _ _; first | (refine W_drawnT (id := 17) [3] [0, 1, 2, 4, 5, 6, 7, 3, 8] mixed (by kernel_rfl) (by kernel_rfl) (by assumption) ?_; intro _ _ _))
        | (guard_target =~ WO _ _ (Oper.mk _ (Op.box 55 _) _ _ _ none) _ _ _ _; first | (refine O_bxs (by assumption) (by repeat (first | exact List.Mem.head _ | refine List.Mem.tail _ ?_)) rfl ?_; intro _ _ _ _))
        | (guard_target =~ WO _ _ (Oper.mk _ (Op.box 51 _) _ _ _ none) _ _ _ _; first | (refine O_bxs (by assumption) (by repeat (first | exact List.Mem.head _ | refine List.Mem.tail _ ?_)) rfl ?_; intro _ _ _ _))
        | (guard_target =~ WO _ _ (Oper.mk _ (Op.assign _) _ _ _ none) _ _ _ _; first | (refine O_assign (v := (.int _ _)) rfl ?_) | (refine O_assign (v := (.bool _)) rfl ?_) | (refine O_assign (v := (.pointer _)) rfl ?_) | (refine O_assign (v := (.slice _ _ _)) rfl ?_) | (refine O_assign (v := (.agg _)) rfl ?_) | (refine O_assign (v := (.tuple _)) rfl ?_))
        | (guard_target =~ WO _ _ (Oper.mk _ (Op.move _) _ _ _ none) _ _ _ _; first | (refine O_move (v := (.int _ _)) rfl ?_) | (refine O_move (v := (.bool _)) rfl ?_) | (refine O_move (v := (.pointer _)) rfl ?_) | (refine O_move (v := (.slice _ _ _)) rfl ?_) | (refine O_move (v := (.agg _)) rfl ?_) | (refine O_move (v := (.tuple _)) rfl ?_))
        | (guard_target =~ WO _ _ (Oper.mk _ (Op.call _) _ _ _ none) _ _ _ _; first | (refine O_len Samg.underlying57 rfl rfl ?_))
        | (guard_target =~ WO _ _ (Oper.mk _ (Op.binOp BinOp.sub 3 _ _ _) _ _ _ none) _ _ _ _; first | (refine O_subZ rfl rfl (by simp only [rngZ]; omega) ?_))
        | (guard_target =~ WO _ _ (Oper.mk _ (Op.fieldAddr 55 _ 0) _ _ _ none) _ _ _ _; first | (refine O_fdT fd55_0 (by decide) rfl ?_) | (refine O_field fd55_0 (by decide) rfl ?_))
        | (guard_target =~ WO _ _ (Oper.mk _ (Op.binOp BinOp.eql 5 _ _ _) _ _ _ none) _ _ _ _; first | (first | (refine O_eqlS rfl rfl (fun h => absurd h (by omega)) ?_; intro _) | (refine O_eqlS rfl rfl ?_ (fun h => absurd (by omega) h); intro _) | (refine O_eqlS rfl rfl ?_ ?_ <;> intro _)))
        | (guard_target =~ WO _ _ (Oper.mk _ (Op.fieldAddr 51 _ 4) _ _ _ none) _ _ _ _; first | (refine O_fdT fd51_4 (by decide) rfl ?_) | (refine O_field fd51_4 (by decide) rfl ?_))
        | (guard_target =~ WO _ _ (Oper.mk _ (Op.binOp BinOp.geq 21 _ _ _) _ _ _ none) _ _ _ _; first | (first | (refine O_geqS rfl rfl (fun h => absurd h (by omega)) ?_; intro _) | (refine O_geqS rfl rfl ?_ (fun h => absurd h (by omega)); intro _) | (refine O_geqS rfl rfl ?_ ?_ <;> intro _)))
        | (guard_target =~ WO _ _ (Oper.mk _ (Op.pick _ _ _) _ _ _ none) _ _ _ _; first | (refine O_pick_t (v := (.bool _)) rfl rfl ?_) | (refine O_pick_f (v := (.bool _)) rfl rfl ?_))
        | (guard_target =~ WO _ _ (Oper.mk _ (Op.convert 21 3 _) _ _ _ none) _ _ _ _; first | (refine O_convZ Samg.underlying21 Samg.underlying3 rfl (by simp only [rngZ]; omega) ?_) | (refine O_convA Samg.underlying21 Samg.underlying3 rfl rfl ?_; intro _ hr; simp only [rngZ] at hr))
        | (guard_target =~ WO _ _ (Oper.mk _ (Op.binOp BinOp.neq 3 _ _ _) _ _ _ none) _ _ _ _; first | (first | (refine O_neqS rfl rfl (fun h => absurd (by omega) h) ?_; intro _) | (refine O_neqS rfl rfl ?_ (fun h => absurd h (by omega)); intro _) | (refine O_neqS rfl rfl ?_ ?_ <;> intro _)))
        | (guard_target =~ WO _ _ (Oper.mk _ (Op.binOp BinOp.add 21 _ _ _) _ _ _ none) _ _ _ _; first | (refine O_addZ rfl rfl (by simp only [rngZ]; omega) ?_))
        | (guard_target =~ WO _ _ (Oper.mk _ (Op.fieldAddr 51 _ 0) _ _ _ none) _ _ _ _; first | (refine O_fdT fd51_0 (by decide) rfl ?_) | (refine O_field fd51_0 (by decide) rfl ?_))
        | (guard_target =~ WO _ _ (Oper.mk _ (Op.fieldAddr 55 _ 5) _ _ _ none) _ _ _ _; first | (refine O_fdT fd55_5 (by decide) rfl ?_) | (refine O_field fd55_5 (by decide) rfl ?_))
        | (guard_target =~ WO _ _ (Oper.mk _ (Op.binOp BinOp.lss 21 _ _ _) _ _ _ none) _ _ _ _; first | (first | (refine O_lssS rfl rfl (fun h => absurd h (by omega)) ?_; intro _) | (refine O_lssS rfl rfl ?_ (fun h => absurd h (by omega)); intro _) | (refine O_lssS rfl rfl ?_ ?_ <;> intro _)))
        | (guard_target =~ WO _ _ (Oper.mk _ (Op.binOp BinOp.geq 3 _ _ _) _ _ _ none) _ _ _ _; first | (first | (refine O_geqS rfl rfl (fun h => absurd h (by omega)) ?_; intro _) | (refine O_geqS rfl rfl ?_ (fun h => absurd h (by omega)); intro _) | (refine O_geqS rfl rfl ?_ ?_ <;> intro _)))
        | (guard_target =~ WO _ _ (Oper.mk _ (Op.nilCheck _) _ _ _ none) _ _ _ _; first | (refine O_nil rfl ?_))
        | (guard_target =~ WO _ _ (Oper.mk _ (Op.fieldAddr 86 _ 6) _ _ _ none) _ _ _ _; first | (refine O_fdT fd86_6 (by decide) rfl ?_) | (refine O_field fd86_6 (by decide) rfl ?_))
        | (guard_target =~ WO _ _ (Oper.mk _ (Op.binOp BinOp.neq 21 _ _ _) _ _ _ none) _ _ _ _; first | (first | (refine O_neqS rfl rfl (fun h => absurd (by omega) h) ?_; intro _) | (refine O_neqS rfl rfl ?_ (fun h => absurd h (by omega)); intro _) | (refine O_neqS rfl rfl ?_ ?_ <;> intro _)))
        | (guard_target =~ WO _ _ (Oper.mk _ (Op.convert 3 21 _) _ _ _ none) _ _ _ _; first | (refine O_convZ Samg.underlying3 Samg.underlying21 rfl (by simp only [rngZ]; omega) ?_) | (refine O_convA Samg.underlying3 Samg.underlying21 rfl rfl ?_; intro _ hr; simp only [rngZ] at hr))
        | (guard_target =~ WO _ _ (Oper.mk _ (Op.binOp BinOp.lss 3 _ _ _) _ _ _ none) _ _ _ _; first | (first | (refine O_lssS rfl rfl (fun h => absurd h (by omega)) ?_; intro _) | (refine O_lssS rfl rfl ?_ (fun h => absurd h (by omega)); intro _) | (refine O_lssS rfl rfl ?_ ?_ <;> intro _)))
        | (guard_target =~ WO _ _ (Oper.mk _ (Op.binOp BinOp.add 3 _ _ _) _ _ _ none) _ _ _ _; first | (refine O_addZ rfl rfl (by simp only [rngZ]; omega) ?_)))
      exact ⟨σ.nm, Nat.le_refl _, by omega, e3, fin (by assumption) (by repeat (first | exact List.Mem.head _ | refine List.Mem.tail _ ?_)), Has.mk ⟨rfl, rfl, congrArg (Value.int .i64) h9, trivial⟩⟩
    · obtain rfl : p0 = true := by cases hy; rfl
      have e2 : wgh (cur σ') σ'.orig = Wt σ q := by
        unfold Wt
        rw [if_neg (by omega), hq5, hq4]
      have e3 : ∀ i, i < q → wgh (at_ σ' (σ'.mks i)) σ'.orig = Wt σ i := fun i hi => by
        unfold Wt
        rw [if_neg (by omega), hq3 i hi, hq6 i hi, hq4]
      repeat' (first
        | (refine L_cons ?_)
        | (refine R_cons rfl ?_)
        | (refine W_seq ?_)
        | (refine W_region (by kernel_rfl) ?_)
        | (refine L_nil ?_)
        | (refine R_nil ?_)
        | (refine W_block ?_)
        | (refine W_skip ?_)
        | (refine W_exit ?_)
        | (refine W_ret ?_)
        | (guard_target =~ thenQ _ _ _ _ _; first | (refine T_next ?_) | (refine T_exit ?_) | (refine T_ret ?_))
        | (guard_target =~ blockQ _ _ _ _ _; first | (refine B_next ?_) | (refine B_same ?_) | (refine B_other (by kernel_rfl) ?_) | (refine B_ret ?_))
        | (refine W_true rfl rfl ?_)
        | (refine W_false rfl rfl ?_)
        | (guard_target =~ WO _ _ (Oper.mk _ (Op.load 5 _) _ _ _ none) _ _ _ _; first | (refine O_ldV (v := .int .u8 ((K : Nat) : Int)) (by assumption) on5 rfl hcK hb6 ?_) | (refine O_ld8 (by assumption) (by repeat (first | exact List.Mem.head _ | refine List.Mem.tail _ ?_)) on5 rfl (by first | omega | (simp only [csz]; omega)) (by first | rfl | exact layMod rfl rfl) ?_; intro _ _))
        | (guard_target =~ WO _ _ (Oper.mk _ (Op.load 21 (Operand.tmp 20)) _ _ _ none) _ _ _ _; first | (refine O_ldV (v := .int .i32 z10) (by assumption) on21 rfl hc10 hb7 ?_))
        | (guard_target =~ WO _ _ (Oper.mk _ (Op.load 21 (Operand.tmp 24)) _ _ _ none) _ _ _ _; first | (refine O_ldV (v := .int .i32 z10) (by assumption) on21 rfl hc10 hb7 ?_))
        | (guard_target =~ WO _ _ (Oper.mk _ (Op.load 21 (Operand.tmp 59)) _ _ _ none) _ _ _ _; first | (refine O_ldV (v := .int .i32 z') (by assumption) on21 rfl hcZ hb6 ?_))
        | (guard_target =~ WO _ _ (Oper.mk _ (Op.load 21 (Operand.tmp 63)) _ _ _ none) _ _ _ _; first | (refine O_ldV (v := .int .i32 z') (by assumption) on21 rfl hcZ hb6 ?_))
        | (guard_target =~ WO _ _ (Oper.mk _ (Op.load 21 (Operand.tmp 74)) _ _ _ none) _ _ _ _; first | (refine O_ldV (v := .int .i32 z') (by assumption) on21 rfl hcZ hb6 ?_))
        | (guard_target =~ WO _ _ (Oper.mk _ (Op.load 21 (Operand.tmp 86)) _ _ _ none) _ _ _ _; first | (refine O_ldV (v := .int .i32 z') (by assumption) on21 rfl hcZ hb6 ?_))
        | (guard_target =~ WO _ _ (Oper.mk _ (Op.load 21 (Operand.tmp 92)) _ _ _ none) _ _ _ _; first | (refine O_ldV (v := .int .i32 z') (by assumption) on21 rfl hcZ hb6 ?_))
        | (guard_target =~ WO _ _ (Oper.mk _ (Op.load 4 _) _ _ _ none) _ _ _ _; first | (refine O_ldV (v := .bool _) (by assumption) on4 rfl hc0 hb7 ?_) | (refine O_ldb (by assumption) (by repeat (first | exact List.Mem.head _ | refine List.Mem.tail _ ?_)) on4 rfl (by first | omega | (simp only [csz]; omega)) (by first | rfl | exact layMod rfl rfl) ?_ ?_))
        | (guard_target =~ WO _ _ (Oper.mk _ (Op.call (Call.mk (Callee.value (Operand.func 45)) _ _)) _ _ _ none) _ _ _ _; first | (refine O_rd (l := [.pointer (some ⟨s, 0, none⟩), .int .i32 _]) (by assumption) cl45 rfl (at_ok (TS.t (by assumption)) (hV.ext (TS.e (by assumption))) hI ⟨by omega, by omega⟩) ?_; rintro _ w4 ⟨cs4, rfl, hs4, hc4, hq4⟩ hS4 hx4; obtain rfl : cs4 = Wt σ q := (hc4 rfl).trans e2))
        | (guard_target =~ WO _ _ (Oper.mk _ (Op.indexAddr 57 _ _) _ _ _ none) _ _ _ _; first | (refine O_index_s (m := q) sl57 rfl (congrArg (Value.int .i32) hzq) (by omega) ?_) | (refine O_ixK (by assumption) (by repeat (first | exact List.Mem.head _ | refine List.Mem.tail _ ?_)) sl57 rfl rfl (by omega) (by omega) ?_; rintro _ _ _) | (refine O_ixN (by assumption) (by repeat (first | exact List.Mem.head _ | refine List.Mem.tail _ ?_)) sl57 rfl rfl (by omega) (by omega) ?_; rintro _ _ _ _ _ _))
        | (guard_target =~ WO _ _ (Oper.mk _ (Op.load 48 _) _ _ _ none) _ _ _ _; first | (refine O_ldT (cs := Wt σ q) (by assumption) (by repeat (first | exact List.Mem.head _ | refine List.Mem.tail _ ?_)) (by omega) rfl (Wt_size _ _) (hto2 q (by omega)) hlt ?_) | (refine O_lda (by assumption) (by repeat (first | exact List.Mem.head _ | refine List.Mem.tail _ ?_)) ag48 rfl (by first | omega | (simp only [csz]; omega)) (by first | exact laySub0 rfl rfl | exact laySub rfl rfl rfl | exact laySame (by decide)) ?_; intro _ _ _))
        | (guard_target =~ WO _ _ (Oper.mk _ (Op.binOp BinOp.neq 48 _ _ _) _ _ _ none) _ _ _ _; first | (refine O_neqW rfl rfl ?_))
        | (guard_target =~ WO _ _ (Oper.mk _ (Op.load 78 _) _ _ _ none) _ _ _ _; first | (refine O_ldV (by assumption) on78 rfl hV.acc hV.lt ?_))
        | (guard_target =~ WO _ _ (Oper.mk _ (Op.load 79 _) _ _ _ none) _ _ _ _; first | (refine O_ldV (by assumption) on79 rfl hV.slo hV.lt ?_))
        | (guard_target =~ WO _ _ (Oper.mk _ (Op.load 81 _) _ _ _ none) _ _ _ _; first | (refine O_ldV (by assumption) on81 rfl hV.jou hV.lt ?_))
        | (guard_target =~ WO _ _ (Oper.mk _ (Op.load 46 _) _ _ _ none) _ _ _ _; first | (refine O_ldV (by assumption) on46 rfl hV.log hV.lt ?_))
        | (guard_target =~ WO _ _ (Oper.mk _ (Op.load 83 _) _ _ _ none) _ _ _ _; first | (refine O_ldV (by assumption) on83 rfl hV.tem hV.lt ?_))
        | (guard_target =~ WO _ _ (Oper.mk _ (Op.load 84 _) _ _ _ none) _ _ _ _; first | (refine O_ldV (by assumption) on84 rfl hV.tta hV.lt ?_))
        | (guard_target =~ WO _ _ (Oper.mk _ (Op.load 21 _) _ _ _ none) _ _ _ _; first | (refine O_ldV (by assumption) on21 rfl hV.nmk hV.lt ?_) | (refine O_ld32 (by assumption) (by repeat (first | exact List.Mem.head _ | refine List.Mem.tail _ ?_)) on21 rfl (by first | omega | (simp only [csz]; omega)) (by first | rfl | exact layMod rfl rfl) ?_; intro _ _ _))
        | (guard_target =~ WO _ _ (Oper.mk _ (Op.load 27 _) _ _ _ none) _ _ _ _; first | (refine O_ldV (by assumption) on27 rfl hV.rf hV.lt ?_))
        | (guard_target =~ WO _ _ (Oper.mk _ _ _ _ _ (some _)) _ _ _ _; first | (refine G_yes rfl ?_) | (refine G_no rfl ?_))
        | (guard_target =~ WC _ _ (Code.region 4 _ true) _ _ _; first | (refine W_drawnT (id := 4) [7, 18] [0, 1, 2, 3, 4, 5, 6, 8, 9, 10, 11, 7, 12, 13, 14, 15, 16, 17, 19, 20, 21, 22, 18, 23, 24] mixed (by kernel_rfl) (by kernel_rfl) (by assumption) ?_; intro _ _ _))
        | (guard_target =~ WC _ _ (Code.region 7 _ true) _ _ _; first | (refine W_drawnT (id := 7) [25] [0, 1, 2, 3, 4, 5, 6, 7, 8, 9, 10, 11, 12, 13, 14, 15, 16, 17, 18, 19, 20, 21, 22, 23, 24, 26, 27, 28, 29, 30, 25, 31, 32] mixed (by kernel_rfl) (by kernel_rfl) (by assumption) ?_; intro _ _ _))
        | (guard_target =~ WC _ _ (Code.region 17 _ true) _ _ _; first | (refine W_drawnT (id := 17) [3] [0, 1, 2, 4, 5, 6, 7, 3, 8] mixed (by kernel_rfl) (by kernel_rfl) (by assumption) ?_; intro _ _ _))
        | (guard_target =~ WO _ _ (Oper.mk _ (Op.box 55 _) _ _ _ none) _ _ _ _; first | (refine O_bxs (by assumption) (by repeat (first | exact List.Mem.head _ | refine List.Mem.tail _ ?_)) rfl ?_; intro _ _ _ _))
        | (guard_target =~ WO _ _ (Oper.mk _ (Op.box 51 _) _ _ _ none) _ _ _ _; first | (refine O_bxs (by assumption) (by repeat (first | exact List.Mem.head _ | refine List.Mem.tail _ ?_)) rfl ?_; intro _ _ _ _))
        | (guard_target =~ WO _ _ (Oper.mk _ (Op.assign _) _ _ _ none) _ _ _ _; first | (refine O_assign (v := (.int _ _)) rfl ?_) | (refine O_assign (v := (.bool _)) rfl ?_) | (refine O_assign (v := (.pointer _)) rfl ?_) | (refine O_assign (v := (.slice _ _ _)) rfl ?_) | (refine O_assign (v := (.agg _)) rfl ?_) | (refine O_assign (v := (.tuple _)) rfl ?_))
        | (guard_target =~ WO _ _ (Oper.mk _ (Op.move _) _ _ _ none) _ _ _ _; first | (refine O_move (v := (.int _ _)) rfl ?_) | (refine O_move (v := (.bool _)) rfl ?_) | (refine O_move (v := (.pointer _)) rfl ?_) | (refine O_move (v := (.slice _ _ _)) rfl ?_) | (refine O_move (v := (.agg _)) rfl ?_) | (refine O_move (v := (.tuple _)) rfl ?_))
        | (guard_target =~ WO _ _ (Oper.mk _ (Op.call _) _ _ _ none) _ _ _ _; first | (refine O_len Samg.underlying57 rfl rfl ?_))
        | (guard_target =~ WO _ _ (Oper.mk _ (Op.binOp BinOp.sub 3 _ _ _) _ _ _ none) _ _ _ _; first | (refine O_subZ rfl rfl (by simp only [rngZ]; omega) ?_))
        | (guard_target =~ WO _ _ (Oper.mk _ (Op.fieldAddr 55 _ 0) _ _ _ none) _ _ _ _; first | (refine O_fdT fd55_0 (by decide) rfl ?_) | (refine O_field fd55_0 (by decide) rfl ?_))
        | (guard_target =~ WO _ _ (Oper.mk _ (Op.binOp BinOp.eql 5 _ _ _) _ _ _ none) _ _ _ _; first | (first | (refine O_eqlS rfl rfl (fun h => absurd h (by omega)) ?_; intro _) | (refine O_eqlS rfl rfl ?_ (fun h => absurd (by omega) h); intro _) | (refine O_eqlS rfl rfl ?_ ?_ <;> intro _)))
        | (guard_target =~ WO _ _ (Oper.mk _ (Op.fieldAddr 51 _ 4) _ _ _ none) _ _ _ _; first | (refine O_fdT fd51_4 (by decide) rfl ?_) | (refine O_field fd51_4 (by decide) rfl ?_))
        | (guard_target =~ WO _ _ (Oper.mk _ (Op.binOp BinOp.geq 21 _ _ _) _ _ _ none) _ _ _ _; first | (first | (refine O_geqS rfl rfl (fun h => absurd h (by omega)) ?_; intro _) | (refine O_geqS rfl rfl ?_ (fun h => absurd h (by omega)); intro _) | (refine O_geqS rfl rfl ?_ ?_ <;> intro _)))
        | (guard_target =~ WO _ _ (Oper.mk _ (Op.pick _ _ _) _ _ _ none) _ _ _ _; first | (refine O_pick_t (v := (.bool _)) rfl rfl ?_) | (refine O_pick_f (v := (.bool _)) rfl rfl ?_))
        | (guard_target =~ WO _ _ (Oper.mk _ (Op.convert 21 3 _) _ _ _ none) _ _ _ _; first | (refine O_convZ Samg.underlying21 Samg.underlying3 rfl (by simp only [rngZ]; omega) ?_) | (refine O_convA Samg.underlying21 Samg.underlying3 rfl rfl ?_; intro _ hr; simp only [rngZ] at hr))
        | (guard_target =~ WO _ _ (Oper.mk _ (Op.binOp BinOp.neq 3 _ _ _) _ _ _ none) _ _ _ _; first | (first | (refine O_neqS rfl rfl (fun h => absurd (by omega) h) ?_; intro _) | (refine O_neqS rfl rfl ?_ (fun h => absurd h (by omega)); intro _) | (refine O_neqS rfl rfl ?_ ?_ <;> intro _)))
        | (guard_target =~ WO _ _ (Oper.mk _ (Op.binOp BinOp.add 21 _ _ _) _ _ _ none) _ _ _ _; first | (refine O_addZ rfl rfl (by simp only [rngZ]; omega) ?_))
        | (guard_target =~ WO _ _ (Oper.mk _ (Op.fieldAddr 51 _ 0) _ _ _ none) _ _ _ _; first | (refine O_fdT fd51_0 (by decide) rfl ?_) | (refine O_field fd51_0 (by decide) rfl ?_))
        | (guard_target =~ WO _ _ (Oper.mk _ (Op.fieldAddr 55 _ 5) _ _ _ none) _ _ _ _; first | (refine O_fdT fd55_5 (by decide) rfl ?_) | (refine O_field fd55_5 (by decide) rfl ?_))
        | (guard_target =~ WO _ _ (Oper.mk _ (Op.binOp BinOp.lss 21 _ _ _) _ _ _ none) _ _ _ _; first | (first | (refine O_lssS rfl rfl (fun h => absurd h (by omega)) ?_; intro _) | (refine O_lssS rfl rfl ?_ (fun h => absurd h (by omega)); intro _) | (refine O_lssS rfl rfl ?_ ?_ <;> intro _)))
        | (guard_target =~ WO _ _ (Oper.mk _ (Op.binOp BinOp.geq 3 _ _ _) _ _ _ none) _ _ _ _; first | (first | (refine O_geqS rfl rfl (fun h => absurd h (by omega)) ?_; intro _) | (refine O_geqS rfl rfl ?_ (fun h => absurd h (by omega)); intro _) | (refine O_geqS rfl rfl ?_ ?_ <;> intro _)))
        | (guard_target =~ WO _ _ (Oper.mk _ (Op.nilCheck _) _ _ _ none) _ _ _ _; first | (refine O_nil rfl ?_))
        | (guard_target =~ WO _ _ (Oper.mk _ (Op.fieldAddr 86 _ 6) _ _ _ none) _ _ _ _; first | (refine O_fdT fd86_6 (by decide) rfl ?_) | (refine O_field fd86_6 (by decide) rfl ?_))
        | (guard_target =~ WO _ _ (Oper.mk _ (Op.binOp BinOp.neq 21 _ _ _) _ _ _ none) _ _ _ _; first | (first | (refine O_neqS rfl rfl (fun h => absurd (by omega) h) ?_; intro _) | (refine O_neqS rfl rfl ?_ (fun h => absurd h (by omega)); intro _) | (refine O_neqS rfl rfl ?_ ?_ <;> intro _)))
        | (guard_target =~ WO _ _ (Oper.mk _ (Op.convert 3 21 _) _ _ _ none) _ _ _ _; first | (refine O_convZ Samg.underlying3 Samg.underlying21 rfl (by simp only [rngZ]; omega) ?_) | (refine O_convA Samg.underlying3 Samg.underlying21 rfl rfl ?_; intro _ hr; simp only [rngZ] at hr))
        | (guard_target =~ WO _ _ (Oper.mk _ (Op.binOp BinOp.lss 3 _ _ _) _ _ _ none) _ _ _ _; first | (first | (refine O_lssS rfl rfl (fun h => absurd h (by omega)) ?_; intro _) | (refine O_lssS rfl rfl ?_ (fun h => absurd h (by omega)); intro _) | (refine O_lssS rfl rfl ?_ ?_ <;> intro _)))
        | (guard_target =~ WO _ _ (Oper.mk _ (Op.binOp BinOp.add 3 _ _ _) _ _ _ none) _ _ _ _; first | (refine O_addZ rfl rfl (by simp only [rngZ]; omega) ?_)))
      exact ⟨q, by omega, by omega, e3, fin (by assumption) (by repeat (first | exact List.Mem.head _ | refine List.Mem.tail _ ?_)), Has.mk ⟨rfl, rfl, congrArg (Value.int .i64) hzq, trivial⟩⟩
    · repeat' (first
        | (refine L_cons ?_)
        | (refine R_cons rfl ?_)
        | (refine W_seq ?_)
        | (refine W_region (by kernel_rfl) ?_)
        | (refine L_nil ?_)
        | (refine R_nil ?_)
        | (refine W_block ?_)
        | (refine W_skip ?_)
        | (refine W_exit ?_)
        | (refine W_ret ?_)
        | (guard_target =~ thenQ _ _ _ _ _; first | (refine T_next ?_) | (refine T_exit ?_) | (refine T_ret ?_))
        | (guard_target =~ blockQ _ _ _ _ _; first | (refine B_next ?_) | (refine B_same ?_) | (refine B_other (by kernel_rfl) ?_) | (refine B_ret ?_))
        | (refine W_true rfl rfl ?_)
        | (refine W_false rfl rfl ?_)
        | (guard_target =~ WO _ _ (Oper.mk _ (Op.load 5 _) _ _ _ none) _ _ _ _; first | (refine O_ldV (v := .int .u8 ((K : Nat) : Int)) (by assumption) on5 rfl hcK hb6 ?_) | (refine O_ld8 (by assumption) (by repeat (first | exact List.Mem.head _ | refine List.Mem.tail _ ?_)) on5 rfl (by first | omega | (simp only [csz]; omega)) (by first | rfl | exact layMod rfl rfl) ?_; intro _ _))
        | (guard_target =~ WO _ _ (Oper.mk _ (Op.load 21 (Operand.tmp 20)) _ _ _ none) _ _ _ _; first | (refine O_ldV (v := .int .i32 z10) (by assumption) on21 rfl hc10 hb7 ?_))
        | (guard_target =~ WO _ _ (Oper.mk _ (Op.load 21 (Operand.tmp 24)) _ _ _ none) _ _ _ _; first | (refine O_ldV (v := .int .i32 z10) (by assumption) on21 rfl hc10 hb7 ?_))
        | (guard_target =~ WO _ _ (Oper.mk _ (Op.load 21 (Operand.tmp 59)) _ _ _ none) _ _ _ _; first | (refine O_ldV (v := .int .i32 z') (by assumption) on21 rfl hcZ hb6 ?_))
        | (guard_target =~ WO _ _ (Oper.mk _ (Op.load 21 (Operand.tmp 63)) _ _ _ none) _ _ _ _; first | (refine O_ldV (v := .int .i32 z') (by assumption) on21 rfl hcZ hb6 ?_))
        | (guard_target =~ WO _ _ (Oper.mk _ (Op.load 21 (Operand.tmp 74)) _ _ _ none) _ _ _ _; first | (refine O_ldV (v := .int .i32 z') (by assumption) on21 rfl hcZ hb6 ?_))
        | (guard_target =~ WO _ _ (Oper.mk _ (Op.load 21 (Operand.tmp 86)) _ _ _ none) _ _ _ _; first | (refine O_ldV (v := .int .i32 z') (by assumption) on21 rfl hcZ hb6 ?_))
        | (guard_target =~ WO _ _ (Oper.mk _ (Op.load 21 (Operand.tmp 92)) _ _ _ none) _ _ _ _; first | (refine O_ldV (v := .int .i32 z') (by assumption) on21 rfl hcZ hb6 ?_))
        | (guard_target =~ WO _ _ (Oper.mk _ (Op.load 4 _) _ _ _ none) _ _ _ _; first | (refine O_ldV (v := .bool _) (by assumption) on4 rfl hc0 hb7 ?_) | (refine O_ldb (by assumption) (by repeat (first | exact List.Mem.head _ | refine List.Mem.tail _ ?_)) on4 rfl (by first | omega | (simp only [csz]; omega)) (by first | rfl | exact layMod rfl rfl) ?_ ?_))
        | (guard_target =~ WO _ _ (Oper.mk _ (Op.load 78 _) _ _ _ none) _ _ _ _; first | (refine O_ldV (by assumption) on78 rfl hV.acc hV.lt ?_))
        | (guard_target =~ WO _ _ (Oper.mk _ (Op.load 79 _) _ _ _ none) _ _ _ _; first | (refine O_ldV (by assumption) on79 rfl hV.slo hV.lt ?_))
        | (guard_target =~ WO _ _ (Oper.mk _ (Op.load 81 _) _ _ _ none) _ _ _ _; first | (refine O_ldV (by assumption) on81 rfl hV.jou hV.lt ?_))
        | (guard_target =~ WO _ _ (Oper.mk _ (Op.load 46 _) _ _ _ none) _ _ _ _; first | (refine O_ldV (by assumption) on46 rfl hV.log hV.lt ?_))
        | (guard_target =~ WO _ _ (Oper.mk _ (Op.load 83 _) _ _ _ none) _ _ _ _; first | (refine O_ldV (by assumption) on83 rfl hV.tem hV.lt ?_))
        | (guard_target =~ WO _ _ (Oper.mk _ (Op.load 84 _) _ _ _ none) _ _ _ _; first | (refine O_ldV (by assumption) on84 rfl hV.tta hV.lt ?_))
        | (guard_target =~ WO _ _ (Oper.mk _ (Op.load 21 _) _ _ _ none) _ _ _ _; first | (refine O_ldV (by assumption) on21 rfl hV.nmk hV.lt ?_) | (refine O_ld32 (by assumption) (by repeat (first | exact List.Mem.head _ | refine List.Mem.tail _ ?_)) on21 rfl (by first | omega | (simp only [csz]; omega)) (by first | rfl | exact layMod rfl rfl) ?_; intro _ _ _))
        | (guard_target =~ WO _ _ (Oper.mk _ (Op.load 27 _) _ _ _ none) _ _ _ _; first | (refine O_ldV (by assumption) on27 rfl hV.rf hV.lt ?_))
        | (guard_target =~ WO _ _ (Oper.mk _ _ _ _ _ (some _)) _ _ _ _; first | (refine G_yes rfl ?_) | (refine G_no rfl ?_))
        | (guard_target =~ WC _ _ (Code.region 4 _ true) _ _ _; first | (refine W_drawnT (id := 4) [7, 18] [0, 1, 2, 3, 4, 5, 6, 8, 9, 10, 11, 7, 12, 13, 14, 15, 16, 17, 19, 20, 21, 22, 18, 23, 24] mixed (by kernel_rfl) (by kernel_rfl) (by assumption) ?_; intro _ _ _))
        | (guard_target =~ WC _ _ (Code.region 7 _ true) _ _ _; first | (refine W_drawnT (id := 7) [25] [0, 1, 2, 3, 4, 5, 6, 7, 8, 9, 10, 11, 12, 13, 14, 15, 16, 17, 18, 19, 20, 21, 22, 23, 24, 26, 27, 28, 29, 30, 25, 31, 32] mixed (by kernel_rfl) (by kernel_rfl) (by assumption) ?_; intro _ _ _))
        | (guard_target =~ WC _ _ (Code.region 17 _ true) _ _ _; first | (refine W_drawnT (id := 17) [3] [0, 1, 2, 4, 5, 6, 7, 3, 8] mixed (by kernel_rfl) (by kernel_rfl) (by assumption) ?_; intro _ _ _))
        | (guard_target =~ WO _ _ (Oper.mk _ (Op.box 55 _) _ _ _ none) _ _ _ _; first | (refine O_bxs (by assumption) (by repeat (first | exact List.Mem.head _ | refine List.Mem.tail _ ?_)) rfl ?_; intro _ _ _ _))
        | (guard_target =~ WO _ _ (Oper.mk _ (Op.box 51 _) _ _ _ none) _ _ _ _; first | (refine O_bxs (by assumption) (by repeat (first | exact List.Mem.head _ | refine List.Mem.tail _ ?_)) rfl ?_; intro _ _ _ _))
        | (guard_target =~ WO _ _ (Oper.mk _ (Op.assign _) _ _ _ none) _ _ _ _; first | (refine O_assign (v := (.int _ _)) rfl ?_) | (refine O_assign (v := (.bool _)) rfl ?_) | (refine O_assign (v := (.pointer _)) rfl ?_) | (refine O_assign (v := (.slice _ _ _)) rfl ?_) | (refine O_assign (v := (.agg _)) rfl ?_) | (refine O_assign (v := (.tuple _)) rfl ?_))
        | (guard_target =~ WO _ _ (Oper.mk _ (Op.move _) _ _ _ none) _ _ _ _; first | (refine O_move (v := (.int _ _)) rfl ?_) | (refine O_move (v := (.bool _)) rfl ?_) | (refine O_move (v := (.pointer _)) rfl ?_) | (refine O_move (v := (.slice _ _ _)) rfl ?_) | (refine O_move (v := (.agg _)) rfl ?_) | (refine O_move (v := (.tuple _)) rfl ?_))
        | (guard_target =~ WO _ _ (Oper.mk _ (Op.call _) _ _ _ none) _ _ _ _; first | (refine O_len Samg.underlying57 rfl rfl ?_))
        | (guard_target =~ WO _ _ (Oper.mk _ (Op.binOp BinOp.sub 3 _ _ _) _ _ _ none) _ _ _ _; first | (refine O_subZ rfl rfl (by simp only [rngZ]; omega) ?_))
        | (guard_target =~ WO _ _ (Oper.mk _ (Op.fieldAddr 55 _ 0) _ _ _ none) _ _ _ _; first | (refine O_fdT fd55_0 (by decide) rfl ?_) | (refine O_field fd55_0 (by decide) rfl ?_))
        | (guard_target =~ WO _ _ (Oper.mk _ (Op.binOp BinOp.eql 5 _ _ _) _ _ _ none) _ _ _ _; first | (first | (refine O_eqlS rfl rfl (fun h => absurd h (by omega)) ?_; intro _) | (refine O_eqlS rfl rfl ?_ (fun h => absurd (by omega) h); intro _) | (refine O_eqlS rfl rfl ?_ ?_ <;> intro _)))
        | (guard_target =~ WO _ _ (Oper.mk _ (Op.fieldAddr 51 _ 4) _ _ _ none) _ _ _ _; first | (refine O_fdT fd51_4 (by decide) rfl ?_) | (refine O_field fd51_4 (by decide) rfl ?_))
        | (guard_target =~ WO _ _ (Oper.mk _ (Op.binOp BinOp.geq 21 _ _ _) _ _ _ none) _ _ _ _; first | (first | (refine O_geqS rfl rfl (fun h => absurd h (by omega)) ?_; intro _) | (refine O_geqS rfl rfl ?_ (fun h => absurd h (by omega)); intro _) | (refine O_geqS rfl rfl ?_ ?_ <;> intro _)))
        | (guard_target =~ WO _ _ (Oper.mk _ (Op.pick _ _ _) _ _ _ none) _ _ _ _; first | (refine O_pick_t (v := (.bool _)) rfl rfl ?_) | (refine O_pick_f (v := (.bool _)) rfl rfl ?_))
        | (guard_target =~ WO _ _ (Oper.mk _ (Op.convert 21 3 _) _ _ _ none) _ _ _ _; first | (refine O_convZ Samg.underlying21 Samg.underlying3 rfl (by simp only [rngZ]; omega) ?_) | (refine O_convA Samg.underlying21 Samg.underlying3 rfl rfl ?_; intro _ hr; simp only [rngZ] at hr))
        | (guard_target =~ WO _ _ (Oper.mk _ (Op.binOp BinOp.neq 3 _ _ _) _ _ _ none) _ _ _ _; first | (first | (refine O_neqS rfl rfl (fun h => absurd (by omega) h) ?_; intro _) | (refine O_neqS rfl rfl ?_ (fun h => absurd h (by omega)); intro _) | (refine O_neqS rfl rfl ?_ ?_ <;> intro _)))
        | (guard_target =~ WO _ _ (Oper.mk _ (Op.indexAddr 57 _ _) _ _ _ none) _ _ _ _; first | (refine O_ixK (by assumption) (by repeat (first | exact List.Mem.head _ | refine List.Mem.tail _ ?_)) sl57 rfl rfl (by omega) (by omega) ?_; rintro _ _ _) | (refine O_ixN (by assumption) (by repeat (first | exact List.Mem.head _ | refine List.Mem.tail _ ?_)) sl57 rfl rfl (by omega) (by omega) ?_; rintro _ _ _ _ _ _))
        | (guard_target =~ WO _ _ (Oper.mk _ (Op.load 48 _) _ _ _ none) _ _ _ _; first | (refine O_lda (by assumption) (by repeat (first | exact List.Mem.head _ | refine List.Mem.tail _ ?_)) ag48 rfl (by first | omega | (simp only [csz]; omega)) (by first | exact laySub0 rfl rfl | exact laySub rfl rfl rfl | exact laySame (by decide)) ?_; intro _ _ _))
        | (guard_target =~ WO _ _ (Oper.mk _ (Op.binOp BinOp.add 21 _ _ _) _ _ _ none) _ _ _ _; first | (refine O_addZ rfl rfl (by simp only [rngZ]; omega) ?_))
        | (guard_target =~ WO _ _ (Oper.mk _ (Op.fieldAddr 51 _ 0) _ _ _ none) _ _ _ _; first | (refine O_fdT fd51_0 (by decide) rfl ?_) | (refine O_field fd51_0 (by decide) rfl ?_))
        | (guard_target =~ WO _ _ (Oper.mk _ (Op.fieldAddr 55 _ 5) _ _ _ none) _ _ _ _; first | (refine O_fdT fd55_5 (by decide) rfl ?_) | (refine O_field fd55_5 (by decide) rfl ?_))
        | (guard_target =~ WO _ _ (Oper.mk _ (Op.binOp BinOp.lss 21 _ _ _) _ _ _ none) _ _ _ _; first | (first | (refine O_lssS rfl rfl (fun h => absurd h (by omega)) ?_; intro _) | (refine O_lssS rfl rfl ?_ (fun h => absurd h (by omega)); intro _) | (refine O_lssS rfl rfl ?_ ?_ <;> intro _)))
        | (guard_target =~ WO _ _ (Oper.mk _ (Op.binOp BinOp.geq 3 _ _ _) _ _ _ none) _ _ _ _; first | (first | (refine O_geqS rfl rfl (fun h => absurd h (by omega)) ?_; intro _) | (refine O_geqS rfl rfl ?_ (fun h => absurd h (by omega)); intro _) | (refine O_geqS rfl rfl ?_ ?_ <;> intro _)))
        | (guard_target =~ WO _ _ (Oper.mk _ (Op.nilCheck _) _ _ _ none) _ _ _ _; first | (refine O_nil rfl ?_))
        | (guard_target =~ WO _ _ (Oper.mk _ (Op.fieldAddr 86 _ 6) _ _ _ none) _ _ _ _; first | (refine O_fdT fd86_6 (by decide) rfl ?_) | (refine O_field fd86_6 (by decide) rfl ?_))
        | (guard_target =~ WO _ _ (Oper.mk _ (Op.binOp BinOp.neq 21 _ _ _) _ _ _ none) _ _ _ _; first | (first | (refine O_neqS rfl rfl (fun h => absurd (by omega) h) ?_; intro _) | (refine O_neqS rfl rfl ?_ (fun h => absurd h (by omega)); intro _) | (refine O_neqS rfl rfl ?_ ?_ <;> intro _)))
        | (guard_target =~ WO _ _ (Oper.mk _ (Op.convert 3 21 _) _ _ _ none) _ _ _ _; first | (refine O_convZ Samg.underlying3 Samg.underlying21 rfl (by simp only [rngZ]; omega) ?_) | (refine O_convA Samg.underlying3 Samg.underlying21 rfl rfl ?_; intro _ hr; simp only [rngZ] at hr))
        | (guard_target =~ WO _ _ (Oper.mk _ (Op.binOp BinOp.lss 3 _ _ _) _ _ _ none) _ _ _ _; first | (first | (refine O_lssS rfl rfl (fun h => absurd h (by omega)) ?_; intro _) | (refine O_lssS rfl rfl ?_ (fun h => absurd h (by omega)); intro _) | (refine O_lssS rfl rfl ?_ ?_ <;> intro _)))
        | (guard_target =~ WO _ _ (Oper.mk _ (Op.binOp BinOp.add 3 _ _ _) _ _ _ none) _ _ _ _; first | (refine O_addZ rfl rfl (by simp only [rngZ]; omega) ?_)))
      exact E_ret rfl rfl rfl ⟨hxw.trans (TS.e (by assumption)), TS.t (by assumption), rfl⟩
    · have e3 : ∀ i, i < σ.nm → wgh (at_ σ' (σ'.mks i)) σ'.orig = Wt σ i := fun i hi => by
        unfold Wt
        rw [if_neg (by omega), hSt.mks i hi, hSt.at_ i hi, hSt.orig]
      have hnm2 := hSt.nm
      have hs1' : K = 31 → z10 = -1 := fun h => by have := hs1 h; cases this; rfl
      have hs2' : p0 = true → K ≠ 32 := fun h1 h2 => by have := hs2 h2; cases this; cases h1
      clear hs1 hs2
      cases p0
      · repeat' (first
          | (refine L_cons ?_)
          | (refine R_cons rfl ?_)
          | (refine W_seq ?_)
          | (refine W_region (by kernel_rfl) ?_)
          | (refine L_nil ?_)
          | (refine R_nil ?_)
          | (refine W_block ?_)
          | (refine W_skip ?_)
          | (refine W_exit ?_)
          | (refine W_ret ?_)
          | (guard_target =~ thenQ _ _ _ _ _; first | (refine T_next ?_) | (refine T_exit ?_) | (refine T_ret ?_))
          | (guard_target =~ blockQ _ _ _ _ _; first | (refine B_next ?_) | (refine B_same ?_) | (refine B_other (by kernel_rfl) ?_) | (refine B_ret ?_))
          | (refine W_true rfl rfl ?_)
          | (refine W_false rfl rfl ?_)
          | (guard_target =~ WO _ _ (Oper.mk _ (Op.load 5 _) _ _ _ none) _ _ _ _; first | (refine O_ldV (v := .int .u8 ((K : Nat) : Int)) (by assumption) on5 rfl hcK hb6 ?_) | (refine O_ld8 (by assumption) (by repeat (first | exact List.Mem.head _ | refine List.Mem.tail _ ?_)) on5 rfl (by first | omega | (simp only [csz]; omega)) (by first | rfl | exact layMod rfl rfl) ?_; intro _ _))
          | (guard_target =~ WO _ _ (Oper.mk _ (Op.load 21 (Operand.tmp 20)) _ _ _ none) _ _ _ _; first | (refine O_ldV (v := .int .i32 z10) (by assumption) on21 rfl hc10 hb7 ?_))
          | (guard_target =~ WO _ _ (Oper.mk _ (Op.load 21 (Operand.tmp 24)) _ _ _ none) _ _ _ _; first | (refine O_ldV (v := .int .i32 z10) (by assumption) on21 rfl hc10 hb7 ?_))
          | (guard_target =~ WO _ _ (Oper.mk _ (Op.load 21 (Operand.tmp 59)) _ _ _ none) _ _ _ _; first | (refine O_ldV (v := .int .i32 z') (by assumption) on21 rfl hcZ hb6 ?_))
          | (guard_target =~ WO _ _ (Oper.mk _ (Op.load 21 (Operand.tmp 63)) _ _ _ none) _ _ _ _; first | (refine O_ldV (v := .int .i32 z') (by assumption) on21 rfl hcZ hb6 ?_))
          | (guard_target =~ WO _ _ (Oper.mk _ (Op.load 21 (Operand.tmp 74)) _ _ _ none) _ _ _ _; first | (refine O_ldV (v := .int .i32 z') (by assumption) on21 rfl hcZ hb6 ?_))
          | (guard_target =~ WO _ _ (Oper.mk _ (Op.load 21 (Operand.tmp 86)) _ _ _ none) _ _ _ _; first | (refine O_ldV (v := .int .i32 z') (by assumption) on21 rfl hcZ hb6 ?_))
          | (guard_target =~ WO _ _ (Oper.mk _ (Op.load 21 (Operand.tmp 92)) _ _ _ none) _ _ _ _; first | (refine O_ldV (v := .int .i32 z') (by assumption) on21 rfl hcZ hb6 ?_))
          | (guard_target =~ WO _ _ (Oper.mk _ (Op.load 4 _) _ _ _ none) _ _ _ _; first | (refine O_ldV (v := .bool _) (by assumption) on4 rfl hc0 hb7 ?_) | (refine O_ldb (by assumption) (by repeat (first | exact List.Mem.head _ | refine List.Mem.tail _ ?_)) on4 rfl (by first | omega | (simp only [csz]; omega)) (by first | rfl | exact layMod rfl rfl) ?_ ?_))
          | (guard_target =~ WO _ _ (Oper.mk _ (Op.load 78 _) _ _ _ none) _ _ _ _; first | (refine O_ldV (by assumption) on78 rfl hV.acc hV.lt ?_))
          | (guard_target =~ WO _ _ (Oper.mk _ (Op.load 79 _) _ _ _ none) _ _ _ _; first | (refine O_ldV (by assumption) on79 rfl hV.slo hV.lt ?_))
          | (guard_target =~ WO _ _ (Oper.mk _ (Op.load 81 _) _ _ _ none) _ _ _ _; first | (refine O_ldV (by assumption) on81 rfl hV.jou hV.lt ?_))
          | (guard_target =~ WO _ _ (Oper.mk _ (Op.load 46 _) _ _ _ none) _ _ _ _; first | (refine O_ldV (by assumption) on46 rfl hV.log hV.lt ?_))
          | (guard_target =~ WO _ _ (Oper.mk _ (Op.load 83 _) _ _ _ none) _ _ _ _; first | (refine O_ldV (by assumption) on83 rfl hV.tem hV.lt ?_))
          | (guard_target =~ WO _ _ (Oper.mk _ (Op.load 84 _) _ _ _ none) _ _ _ _; first | (refine O_ldV (by assumption) on84 rfl hV.tta hV.lt ?_))
          | (guard_target =~ WO _ _ (Oper.mk _ (Op.load 21 _) _ _ _ none) _ _ _ _; first | (refine O_ldV (by assumption) on21 rfl hV.nmk hV.lt ?_) | (refine O_ld32 (by assumption) (by repeat (first | exact List.Mem.head _ | refine List.Mem.tail _ ?_)) on21 rfl (by first | omega | (simp only [csz]; omega)) (by first | rfl | exact layMod rfl rfl) ?_; intro _ _ _))
          | (guard_target =~ WO _ _ (Oper.mk _ (Op.load 27 _) _ _ _ none) _ _ _ _; first | (refine O_ldV (by assumption) on27 rfl hV.rf hV.lt ?_))
          | (guard_target =~ WO _ _ (Oper.mk _ _ _ _ _ (some _)) _ _ _ _; first | (refine G_yes rfl ?_) | (refine G_no rfl ?_))
          | (guard_target =~ WC _ _ (Code.region 4 _ true) _ _ _; first | (refine W_drawnT (id := 4) [7, 18] [0, 1, 2, 3, 4, 5, 6, 8, 9, 10, 11, 7, 12, 13, 14, 15, 16, 17, 19, 20, 21, 22, 18, 23, 24] mixed (by kernel_rfl) (by kernel_rfl) (by assumption) ?_; intro _ _ _))
          | (guard_target =~ WC _ _ (Code.region 7 _ true) _ _ _; first | (refine W_drawnT (id := 7) [25] [0, 1, 2, 3, 4, 5, 6, 7, 8, 9, 10, 11, 12, 13, 14, 15, 16, 17, 18, 19, 20, 21, 22, 23, 24, 26, 27, 28, 29, 30, 25, 31, 32] mixed (by kernel_rfl) (by kernel_rfl) (by assumption) ?_; intro _ _ _))
          | (guard_target =~ WC _ _ (Code.region 17 _ true) _ _ _; first | (refine W_drawnT (id := 17) [3] [0, 1, 2, 4, 5, 6, 7, 3, 8] mixed (by kernel_rfl) (by kernel_rfl) (by assumption) ?_; intro _ _ _))
          | (guard_target =~ WO _ _ (Oper.mk _ (Op.box 55 _) _ _ _ none) _ _ _ _; first | (refine O_bxs (by assumption) (by repeat (first | exact List.Mem.head _ | refine List.Mem.tail _ ?_)) rfl ?_; intro _ _ _ _))
          | (guard_target =~ WO _ _ (Oper.mk _ (Op.box 51 _) _ _ _ none) _ _ _ _; first | (refine O_bxs (by assumption) (by repeat (first | exact List.Mem.head _ | refine List.Mem.tail _ ?_)) rfl ?_; intro _ _ _ _))
          | (guard_target =~ WO _ _ (Oper.mk _ (Op.assign _) _ _ _ none) _ _ _ _; first | (refine O_assign (v := (.int _ _)) rfl ?_) | (refine O_assign (v := (.bool _)) rfl ?_) | (refine O_assign (v := (.pointer _)) rfl ?_) | (refine O_assign (v := (.slice _ _ _)) rfl ?_) | (refine O_assign (v := (.agg _)) rfl ?_) | (refine O_assign (v := (.tuple _)) rfl ?_))
          | (guard_target =~ WO _ _ (Oper.mk _ (Op.move _) _ _ _ none) _ _ _ _; first | (refine O_move (v := (.int _ _)) rfl ?_) | (refine O_move (v := (.bool _)) rfl ?_) | (refine O_move (v := (.pointer _)) rfl ?_) | (refine O_move (v := (.slice _ _ _)) rfl ?_) | (refine O_move (v := (.agg _)) rfl ?_) | (refine O_move (v := (.tuple _)) rfl ?_))
          | (guard_target =~ WO _ _ (Oper.mk _ (Op.call _) _ _ _ none) _ _ _ _; first | (refine O_len Samg.underlying57 rfl rfl ?_))
          | (guard_target =~ WO _ _ (Oper.mk _ (Op.binOp BinOp.sub 3 _ _ _) _ _ _ none) _ _ _ _; first | (refine O_subZ rfl rfl (by simp only [rngZ]; omega) ?_))
          | (guard_target =~ WO _ _ (Oper.mk _ (Op.fieldAddr 55 _ 0) _ _ _ none) _ _ _ _; first | (refine O_fdT fd55_0 (by decide) rfl ?_) | (refine O_field fd55_0 (by decide) rfl ?_))
          | (guard_target =~ WO _ _ (Oper.mk _ (Op.binOp BinOp.eql 5 _ _ _) _ _ _ none) _ _ _ _; first | (first | (refine O_eqlS rfl rfl (fun h => absurd h (by omega)) ?_; intro _) | (refine O_eqlS rfl rfl ?_ (fun h => absurd (by omega) h); intro _) | (refine O_eqlS rfl rfl ?_ ?_ <;> intro _)))
          | (guard_target =~ WO _ _ (Oper.mk _ (Op.fieldAddr 51 _ 4) _ _ _ none) _ _ _ _; first | (refine O_fdT fd51_4 (by decide) rfl ?_) | (refine O_field fd51_4 (by decide) rfl ?_))
          | (guard_target =~ WO _ _ (Oper.mk _ (Op.binOp BinOp.geq 21 _ _ _) _ _ _ none) _ _ _ _; first | (first | (refine O_geqS rfl rfl (fun h => absurd h (by omega)) ?_; intro _) | (refine O_geqS rfl rfl ?_ (fun h => absurd h (by omega)); intro _) | (refine O_geqS rfl rfl ?_ ?_ <;> intro _)))
          | (guard_target =~ WO _ _ (Oper.mk _ (Op.pick _ _ _) _ _ _ none) _ _ _ _; first | (refine O_pick_t (v := (.bool _)) rfl rfl ?_) | (refine O_pick_f (v := (.bool _)) rfl rfl ?_))
          | (guard_target =~ WO _ _ (Oper.mk _ (Op.convert 21 3 _) _ _ _ none) _ _ _ _; first | (refine O_convZ Samg.underlying21 Samg.underlying3 rfl (by simp only [rngZ]; omega) ?_) | (refine O_convA Samg.underlying21 Samg.underlying3 rfl rfl ?_; intro _ hr; simp only [rngZ] at hr))
          | (guard_target =~ WO _ _ (Oper.mk _ (Op.binOp BinOp.neq 3 _ _ _) _ _ _ none) _ _ _ _; first | (first | (refine O_neqS rfl rfl (fun h => absurd (by omega) h) ?_; intro _) | (refine O_neqS rfl rfl ?_ (fun h => absurd h (by omega)); intro _) | (refine O_neqS rfl rfl ?_ ?_ <;> intro _)))
          | (guard_target =~ WO _ _ (Oper.mk _ (Op.indexAddr 57 _ _) _ _ _ none) _ _ _ _; first | (refine O_ixK (by assumption) (by repeat (first | exact List.Mem.head _ | refine List.Mem.tail _ ?_)) sl57 rfl rfl (by omega) (by omega) ?_; rintro _ _ _) | (refine O_ixN (by assumption) (by repeat (first | exact List.Mem.head _ | refine List.Mem.tail _ ?_)) sl57 rfl rfl (by omega) (by omega) ?_; rintro _ _ _ _ _ _))
          | (guard_target =~ WO _ _ (Oper.mk _ (Op.load 48 _) _ _ _ none) _ _ _ _; first | (refine O_lda (by assumption) (by repeat (first | exact List.Mem.head _ | refine List.Mem.tail _ ?_)) ag48 rfl (by first | omega | (simp only [csz]; omega)) (by first | exact laySub0 rfl rfl | exact laySub rfl rfl rfl | exact laySame (by decide)) ?_; intro _ _ _))
          | (guard_target =~ WO _ _ (Oper.mk _ (Op.binOp BinOp.add 21 _ _ _) _ _ _ none) _ _ _ _; first | (refine O_addZ rfl rfl (by simp only [rngZ]; omega) ?_))
          | (guard_target =~ WO _ _ (Oper.mk _ (Op.fieldAddr 51 _ 0) _ _ _ none) _ _ _ _; first | (refine O_fdT fd51_0 (by decide) rfl ?_) | (refine O_field fd51_0 (by decide) rfl ?_))
          | (guard_target =~ WO _ _ (Oper.mk _ (Op.fieldAddr 55 _ 5) _ _ _ none) _ _ _ _; first | (refine O_fdT fd55_5 (by decide) rfl ?_) | (refine O_field fd55_5 (by decide) rfl ?_))
          | (guard_target =~ WO _ _ (Oper.mk _ (Op.binOp BinOp.lss 21 _ _ _) _ _ _ none) _ _ _ _; first | (first | (refine O_lssS rfl rfl (fun h => absurd h (by omega)) ?_; intro _) | (refine O_lssS rfl rfl ?_ (fun h => absurd h (by omega)); intro _) | (refine O_lssS rfl rfl ?_ ?_ <;> intro _)))
          | (guard_target =~ WO _ _ (Oper.mk _ (Op.binOp BinOp.geq 3 _ _ _) _ _ _ none) _ _ _ _; first | (first | (refine O_geqS rfl rfl (fun h => absurd h (by omega)) ?_; intro _) | (refine O_geqS rfl rfl ?_ (fun h => absurd h (by omega)); intro _) | (refine O_geqS rfl rfl ?_ ?_ <;> intro _)))
          | (guard_target =~ WO _ _ (Oper.mk _ (Op.nilCheck _) _ _ _ none) _ _ _ _; first | (refine O_nil rfl ?_))
          | (guard_target =~ WO _ _ (Oper.mk _ (Op.fieldAddr 86 _ 6) _ _ _ none) _ _ _ _; first | (refine O_fdT fd86_6 (by decide) rfl ?_) | (refine O_field fd86_6 (by decide) rfl ?_))
          | (guard_target =~ WO _ _ (Oper.mk _ (Op.binOp BinOp.neq 21 _ _ _) _ _ _ none) _ _ _ _; first | (first | (refine O_neqS rfl rfl (fun h => absurd (by omega) h) ?_; intro _) | (refine O_neqS rfl rfl ?_ (fun h => absurd h (by omega)); intro _) | (refine O_neqS rfl rfl ?_ ?_ <;> intro _)))
          | (guard_target =~ WO _ _ (Oper.mk _ (Op.convert 3 21 _) _ _ _ none) _ _ _ _; first | (refine O_convZ Samg.underlying3 Samg.underlying21 rfl (by simp only [rngZ]; omega) ?_) | (refine O_convA Samg.underlying3 Samg.underlying21 rfl rfl ?_; intro _ hr; simp only [rngZ] at hr))
          | (guard_target =~ WO _ _ (Oper.mk _ (Op.binOp BinOp.lss 3 _ _ _) _ _ _ none) _ _ _ _; first | (first | (refine O_lssS rfl rfl (fun h => absurd h (by omega)) ?_; intro _) | (refine O_lssS rfl rfl ?_ (fun h => absurd h (by omega)); intro _) | (refine O_lssS rfl rfl ?_ ?_ <;> intro _)))
          | (guard_target =~ WO _ _ (Oper.mk _ (Op.binOp BinOp.add 3 _ _ _) _ _ _ none) _ _ _ _; first | (refine O_addZ rfl rfl (by simp only [rngZ]; omega) ?_)))
        all_goals first
          | exact ⟨σ.nm, Nat.le_refl _, by omega, e3, fin (by assumption) (by repeat (first | exact List.Mem.head _ | refine List.Mem.tail _ ?_)), Has.mk ⟨rfl, rfl, congrArg (Value.int .i64) h9, trivial⟩⟩
          | exact E_ret rfl rfl rfl ⟨hxw.trans (TS.e (by assumption)), TS.t (by assumption), rfl⟩
      · have hs3 := hs2' rfl
        repeat' (first
          | (refine L_cons ?_)
          | (refine R_cons rfl ?_)
          | (refine W_seq ?_)
          | (refine W_region (by kernel_rfl) ?_)
          | (refine L_nil ?_)
          | (refine R_nil ?_)
          | (refine W_block ?_)
          | (refine W_skip ?_)
          | (refine W_exit ?_)
          | (refine W_ret ?_)
          | (guard_target =~ thenQ _ _ _ _ _; first | (refine T_next ?_) | (refine T_exit ?_) | (refine T_ret ?_))
          | (guard_target =~ blockQ _ _ _ _ _; first | (refine B_next ?_) | (refine B_same ?_) | (refine B_other (by kernel_rfl) ?_) | (refine B_ret ?_))
          | (refine W_true rfl rfl ?_)
          | (refine W_false rfl rfl ?_)
          | (guard_target =~ WO _ _ (Oper.mk _ (Op.load 5 _) _ _ _ none) _ _ _ _; first | (refine O_ldV (v := .int .u8 ((K : Nat) : Int)) (by assumption) on5 rfl hcK hb6 ?_) | (refine O_ld8 (by assumption) (by repeat (first | exact List.Mem.head _ | refine List.Mem.tail _ ?_)) on5 rfl (by first | omega | (simp only [csz]; omega)) (by first | rfl | exact layMod rfl rfl) ?_; intro _ _))
          | (guard_target =~ WO _ _ (Oper.mk _ (Op.load 21 (Operand.tmp 20)) _ _ _ none) _ _ _ _; first | (refine O_ldV (v := .int .i32 z10) (by assumption) on21 rfl hc10 hb7 ?_))
          | (guard_target =~ WO _ _ (Oper.mk _ (Op.load 21 (Operand.tmp 24)) _ _ _ none) _ _ _ _; first | (refine O_ldV (v := .int .i32 z10) (by assumption) on21 rfl hc10 hb7 ?_))
          | (guard_target =~ WO _ _ (Oper.mk _ (Op.load 21 (Operand.tmp 59)) _ _ _ none) _ _ _ _; first | (refine O_ldV (v := .int .i32 z') (by assumption) on21 rfl hcZ hb6 ?_))
          | (guard_target =~ WO _ _ (Oper.mk _ (Op.load 21 (Operand.tmp 63)) _ _ _ none) _ _ _ _; first | (refine O_ldV (v := .int .i32 z') (by assumption) on21 rfl hcZ hb6 ?_))
          | (guard_target =~ WO _ _ (Oper.mk _ (Op.load 21 (Operand.tmp 74)) _ _ _ none) _ _ _ _; first | (refine O_ldV (v := .int .i32 z') (by assumption) on21 rfl hcZ hb6 ?_))
          | (guard_target =~ WO _ _ (Oper.mk _ (Op.load 21 (Operand.tmp 86)) _ _ _ none) _ _ _ _; first | (refine O_ldV (v := .int .i32 z') (by assumption) on21 rfl hcZ hb6 ?_))
          | (guard_target =~ WO _ _ (Oper.mk _ (Op.load 21 (Operand.tmp 92)) _ _ _ none) _ _ _ _; first | (refine O_ldV (v := .int .i32 z') (by assumption) on21 rfl hcZ hb6 ?_))
          | (guard_target =~ WO _ _ (Oper.mk _ (Op.load 4 _) _ _ _ none) _ _ _ _; first | (refine O_ldV (v := .bool _) (by assumption) on4 rfl hc0 hb7 ?_) | (refine O_ldb (by assumption) (by repeat (first | exact List.Mem.head _ | refine List.Mem.tail _ ?_)) on4 rfl (by first | omega | (simp only [csz]; omega)) (by first | rfl | exact layMod rfl rfl) ?_ ?_))
          | (guard_target =~ WO _ _ (Oper.mk _ (Op.load 78 _) _ _ _ none) _ _ _ _; first | (refine O_ldV (by assumption) on78 rfl hV.acc hV.lt ?_))
          | (guard_target =~ WO _ _ (Oper.mk _ (Op.load 79 _) _ _ _ none) _ _ _ _; first | (refine O_ldV (by assumption) on79 rfl hV.slo hV.lt ?_))
          | (guard_target =~ WO _ _ (Oper.mk _ (Op.load 81 _) _ _ _ none) _ _ _ _; first | (refine O_ldV (by assumption) on81 rfl hV.jou hV.lt ?_))
          | (guard_target =~ WO _ _ (Oper.mk _ (Op.load 46 _) _ _ _ none) _ _ _ _; first | (refine O_ldV (by assumption) on46 rfl hV.log hV.lt ?_))
          | (guard_target =~ WO _ _ (Oper.mk _ (Op.load 83 _) _ _ _ none) _ _ _ _; first | (refine O_ldV (by assumption) on83 rfl hV.tem hV.lt ?_))
          | (guard_target =~ WO _ _ (Oper.mk _ (Op.load 84 _) _ _ _ none) _ _ _ _; first | (refine O_ldV (by assumption) on84 rfl hV.tta hV.lt ?_))
          | (guard_target =~ WO _ _ (Oper.mk _ (Op.load 21 _) _ _ _ none) _ _ _ _; first | (refine O_ldV (by assumption) on21 rfl hV.nmk hV.lt ?_) | (refine O_ld32 (by assumption) (by repeat (first | exact List.Mem.head _ | refine List.Mem.tail _ ?_)) on21 rfl (by first | omega | (simp only [csz]; omega)) (by first | rfl | exact layMod rfl rfl) ?_; intro _ _ _))
          | (guard_target =~ WO _ _ (Oper.mk _ (Op.load 27 _) _ _ _ none) _ _ _ _; first | (refine O_ldV (by assumption) on27 rfl hV.rf hV.lt ?_))
          | (guard_target =~ WO _ _ (Oper.mk _ _ _ _ _ (some _)) _ _ _ _; first | (refine G_yes rfl ?_) | (refine G_no rfl ?_))
          | (guard_target =~ WC _ _ (Code.region 4 _ true) _ _ _; first | (refine W_drawnT (id := 4) [7, 18] [0, 1, 2, 3, 4, 5, 6, 8, 9, 10, 11, 7, 12, 13, 14, 15, 16, 17, 19, 20, 21, 22, 18, 23, 24] mixed (by kernel_rfl) (by kernel_rfl) (by assumption) ?_; intro _ _ _))
          | (guard_target =~ WC _ _ (Code.region 7 _ true) _ _ _; first | (refine W_drawnT (id := 7) [25] [0, 1, 2, 3, 4, 5, 6, 7, 8, 9, 10, 11, 12, 13, 14, 15, 16, 17, 18, 19, 20, 21, 22, 23, 24, 26, 27, 28, 29, 30, 25, 31, 32] mixed (by kernel_rfl) (by kernel_rfl) (by assumption) ?_; intro _ _ _))
          | (guard_target =~ WC _ _ (Code.region 17 _ true) _ _ _; first | (refine W_drawnT (id := 17) [3] [0, 1, 2, 4, 5, 6, 7, 3, 8] mixed (by kernel_rfl) (by kernel_rfl) (by assumption) ?_; intro _ _ _))
          | (guard_target =~ WO _ _ (Oper.mk _ (Op.box 55 _) _ _ _ none) _ _ _ _; first | (refine O_bxs (by assumption) (by repeat (first | exact List.Mem.head _ | refine List.Mem.tail _ ?_)) rfl ?_; intro _ _ _ _))
          | (guard_target =~ WO _ _ (Oper.mk _ (Op.box 51 _) _ _ _ none) _ _ _ _; first | (refine O_bxs (by assumption) (by repeat (first | exact List.Mem.head _ | refine List.Mem.tail _ ?_)) rfl ?_; intro _ _ _ _))
          | (guard_target =~ WO _ _ (Oper.mk _ (Op.assign _) _ _ _ none) _ _ _ _; first | (refine O_assign (v := (.int _ _)) rfl ?_) | (refine O_assign (v := (.bool _)) rfl ?_) | (refine O_assign (v := (.pointer _)) rfl ?_) | (refine O_assign (v := (.slice _ _ _)) rfl ?_) | (refine O_assign (v := (.agg _)) rfl ?_) | (refine O_assign (v := (.tuple _)) rfl ?_))
          | (guard_target =~ WO _ _ (Oper.mk _ (Op.move _) _ _ _ none) _ _ _ _; first | (refine O_move (v := (.int _ _)) rfl ?_) | (refine O_move (v := (.bool _)) rfl ?_) | (refine O_move (v := (.pointer _)) rfl ?_) | (refine O_move (v := (.slice _ _ _)) rfl ?_) | (refine O_move (v := (.agg _)) rfl ?_) | (refine O_move (v := (.tuple _)) rfl ?_))
          | (guard_target =~ WO _ _ (Oper.mk _ (Op.call _) _ _ _ none) _ _ _ _; first | (refine O_len Samg.underlying57 rfl rfl ?_))
          | (guard_target =~ WO _ _ (Oper.mk _ (Op.binOp BinOp.sub 3 _ _ _) _ _ _ none) _ _ _ _; first | (refine O_subZ rfl rfl (by simp only [rngZ]; omega) ?_))
          | (guard_target =~ WO _ _ (Oper.mk _ (Op.fieldAddr 55 _ 0) _ _ _ none) _ _ _ _; first | (refine O_fdT fd55_0 (by decide) rfl ?_) | (refine O_field fd55_0 (by decide) rfl ?_))
          | (guard_target =~ WO _ _ (Oper.mk _ (Op.binOp BinOp.eql 5 _ _ _) _ _ _ none) _ _ _ _; first | (first | (refine O_eqlS rfl rfl (fun h => absurd h (by omega)) ?_; intro _) | (refine O_eqlS rfl rfl ?_ (fun h => absurd (by omega) h); intro _) | (refine O_eqlS rfl rfl ?_ ?_ <;> intro _)))
          | (guard_target =~ WO _ _ (Oper.mk _ (Op.fieldAddr 51 _ 4) _ _ _ none) _ _ _ _; first | (refine O_fdT fd51_4 (by decide) rfl ?_) | (refine O_field fd51_4 (by decide) rfl ?_))
          | (guard_target =~ WO _ _ (Oper.mk _ (Op.binOp BinOp.geq 21 _ _ _) _ _ _ none) _ _ _ _; first | (first | (refine O_geqS rfl rfl (fun h => absurd h (by omega)) ?_; intro _) | (refine O_geqS rfl rfl ?_ (fun h => absurd h (by omega)); intro _) | (refine O_geqS rfl rfl ?_ ?_ <;> intro _)))
          | (guard_target =~ WO _ _ (Oper.mk _ (Op.pick _ _ _) _ _ _ none) _ _ _ _; first | (refine O_pick_t (v := (.bool _)) rfl rfl ?_) | (refine O_pick_f (v := (.bool _)) rfl rfl ?_))
          | (guard_target =~ WO _ _ (Oper.mk _ (Op.convert 21 3 _) _ _ _ none) _ _ _ _; first | (refine O_convZ Samg.underlying21 Samg.underlying3 rfl (by simp only [rngZ]; omega) ?_) | (refine O_convA Samg.underlying21 Samg.underlying3 rfl rfl ?_; intro _ hr; simp only [rngZ] at hr))
          | (guard_target =~ WO _ _ (Oper.mk _ (Op.binOp BinOp.neq 3 _ _ _) _ _ _ none) _ _ _ _; first | (first | (refine O_neqS rfl rfl (fun h => absurd (by omega) h) ?_; intro _) | (refine O_neqS rfl rfl ?_ (fun h => absurd h (by omega)); intro _) | (refine O_neqS rfl rfl ?_ ?_ <;> intro _)))
          | (guard_target =~ WO _ _ (Oper.mk _ (Op.indexAddr 57 _ _) _ _ _ none) _ _ _ _; first | (refine O_ixK (by assumption) (by repeat (first | exact List.Mem.head _ | refine List.Mem.tail _ ?_)) sl57 rfl rfl (by omega) (by omega) ?_; rintro _ _ _) | (refine O_ixN (by assumption) (by repeat (first | exact List.Mem.head _ | refine List.Mem.tail _ ?_)) sl57 rfl rfl (by omega) (by omega) ?_; rintro _ _ _ _ _ _))
          | (guard_target =~ WO _ _ (Oper.mk _ (Op.load 48 _) _ _ _ none) _ _ _ _; first | (refine O_lda (by assumption) (by repeat (first | exact List.Mem.head _ | refine List.Mem.tail _ ?_)) ag48 rfl (by first | omega | (simp only [csz]; omega)) (by first | exact laySub0 rfl rfl | exact laySub rfl rfl rfl | exact laySame (by decide)) ?_; intro _ _ _))
          | (guard_target =~ WO _ _ (Oper.mk _ (Op.binOp BinOp.add 21 _ _ _) _ _ _ none) _ _ _ _; first | (refine O_addZ rfl rfl (by simp only [rngZ]; omega) ?_))
          | (guard_target =~ WO _ _ (Oper.mk _ (Op.fieldAddr 51 _ 0) _ _ _ none) _ _ _ _; first | (refine O_fdT fd51_0 (by decide) rfl ?_) | (refine O_field fd51_0 (by decide) rfl ?_))
          | (guard_target =~ WO _ _ (Oper.mk _ (Op.fieldAddr 55 _ 5) _ _ _ none) _ _ _ _; first | (refine O_fdT fd55_5 (by decide) rfl ?_) | (refine O_field fd55_5 (by decide) rfl ?_))
          | (guard_target =~ WO _ _ (Oper.mk _ (Op.binOp BinOp.lss 21 _ _ _) _ _ _ none) _ _ _ _; first | (first | (refine O_lssS rfl rfl (fun h => absurd h (by omega)) ?_; intro _) | (refine O_lssS rfl rfl ?_ (fun h => absurd h (by omega)); intro _) | (refine O_lssS rfl rfl ?_ ?_ <;> intro _)))
          | (guard_target =~ WO _ _ (Oper.mk _ (Op.binOp BinOp.geq 3 _ _ _) _ _ _ none) _ _ _ _; first | (first | (refine O_geqS rfl rfl (fun h => absurd h (by omega)) ?_; intro _) | (refine O_geqS rfl rfl ?_ (fun h => absurd h (by omega)); intro _) | (refine O_geqS rfl rfl ?_ ?_ <;> intro _)))
          | (guard_target =~ WO _ _ (Oper.mk _ (Op.nilCheck _) _ _ _ none) _ _ _ _; first | (refine O_nil rfl ?_))
          | (guard_target =~ WO _ _ (Oper.mk _ (Op.fieldAddr 86 _ 6) _ _ _ none) _ _ _ _; first | (refine O_fdT fd86_6 (by decide) rfl ?_) | (refine O_field fd86_6 (by decide) rfl ?_))
          | (guard_target =~ WO _ _ (Oper.mk _ (Op.binOp BinOp.neq 21 _ _ _) _ _ _ none) _ _ _ _; first | (first | (refine O_neqS rfl rfl (fun h => absurd (by omega) h) ?_; intro _) | (refine O_neqS rfl rfl ?_ (fun h => absurd h (by omega)); intro _) | (refine O_neqS rfl rfl ?_ ?_ <;> intro _)))
          | (guard_target =~ WO _ _ (Oper.mk _ (Op.convert 3 21 _) _ _ _ none) _ _ _ _; first | (refine O_convZ Samg.underlying3 Samg.underlying21 rfl (by simp only [rngZ]; omega) ?_) | (refine O_convA Samg.underlying3 Samg.underlying21 rfl rfl ?_; intro _ hr; simp only [rngZ] at hr))
          | (guard_target =~ WO _ _ (Oper.mk _ (Op.binOp BinOp.lss 3 _ _ _) _ _ _ none) _ _ _ _; first | (first | (refine O_lssS rfl rfl (fun h => absurd h (by omega)) ?_; intro _) | (refine O_lssS rfl rfl ?_ (fun h => absurd h (by omega)); intro _) | (refine O_lssS rfl rfl ?_ ?_ <;> intro _)))
          | (guard_target =~ WO _ _ (Oper.mk _ (Op.binOp BinOp.add 3 _ _ _) _ _ _ none) _ _ _ _; first | (refine O_addZ rfl rfl (by simp only [rngZ]; omega) ?_)))
        all_goals first
          | exact ⟨σ.nm, Nat.le_refl _, by omega, e3, fin (by assumption) (by repeat (first | exact List.Mem.head _ | refine List.Mem.tail _ ?_)), Has.mk ⟨rfl, rfl, congrArg (Value.int .i64) h9, trivial⟩⟩
          | exact E_ret rfl rfl rfl ⟨hxw.trans (TS.e (by assumption)), TS.t (by assumption), rfl⟩
  · rintro ρ w3 ⟨T, hT1, hT2, hw, hS3, ρ', rfl⟩
    have hlt : b < w.heap.size := (hS.ltC (b := b) (by repeat (first | exact List.Mem.head _ | refine List.Mem.tail _ ?_)))
    repeat' (first
      | (refine L_cons ?_)
      | (refine R_cons rfl ?_)
      | (refine W_seq ?_)
      | (refine W_region (by kernel_rfl) ?_)
      | (refine L_nil ?_)
      | (refine R_nil ?_)
      | (refine W_block ?_)
      | (refine W_skip ?_)
      | (refine W_exit ?_)
      | (refine W_ret ?_)
      | (guard_target =~ thenQ _ _ _ _ _; first | (refine T_next ?_) | (refine T_exit ?_) | (refine T_ret ?_))
      | (guard_target =~ blockQ _ _ _ _ _; first | (refine B_next ?_) | (refine B_same ?_) | (refine B_other (by kernel_rfl) ?_) | (refine B_ret ?_))
      | (refine W_true rfl rfl ?_)
      | (refine W_false rfl rfl ?_)
      | (guard_target =~ WO _ _ (Oper.mk _ (Op.load 78 _) _ _ _ none) _ _ _ _; first | (refine O_ldV (by assumption) on78 rfl hV.acc hV.lt ?_))
      | (guard_target =~ WO _ _ (Oper.mk _ (Op.load 79 _) _ _ _ none) _ _ _ _; first | (refine O_ldV (by assumption) on79 rfl hV.slo hV.lt ?_))
      | (guard_target =~ WO _ _ (Oper.mk _ (Op.load 81 _) _ _ _ none) _ _ _ _; first | (refine O_ldV (by assumption) on81 rfl hV.jou hV.lt ?_))
      | (guard_target =~ WO _ _ (Oper.mk _ (Op.load 46 _) _ _ _ none) _ _ _ _; first | (refine O_ldV (by assumption) on46 rfl hV.log hV.lt ?_))
      | (guard_target =~ WO _ _ (Oper.mk _ (Op.load 83 _) _ _ _ none) _ _ _ _; first | (refine O_ldV (by assumption) on83 rfl hV.tem hV.lt ?_))
      | (guard_target =~ WO _ _ (Oper.mk _ (Op.load 84 _) _ _ _ none) _ _ _ _; first | (refine O_ldV (by assumption) on84 rfl hV.tta hV.lt ?_))
      | (guard_target =~ WO _ _ (Oper.mk _ (Op.load 21 _) _ _ _ none) _ _ _ _; first | (refine O_ldV (by assumption) on21 rfl hV.nmk hV.lt ?_) | (refine O_ld32 (by assumption) (by repeat (first | exact List.Mem.head _ | refine List.Mem.tail _ ?_)) on21 rfl (by first | omega | (simp only [csz]; omega)) (by first | rfl | exact layMod rfl rfl) ?_; intro _ _ _))
      | (guard_target =~ WO _ _ (Oper.mk _ (Op.load 27 _) _ _ _ none) _ _ _ _; first | (refine O_ldV (by assumption) on27 rfl hV.rf hV.lt ?_))
      | (guard_target =~ WO _ _ (Oper.mk _ _ _ _ _ (some _)) _ _ _ _; first | (refine G_yes rfl ?_) | (refine G_no rfl ?_))
      | (guard_target =~ WC _ _ (Code.region 4 _ true) _ _ _; first | (refine W_drawnT (id := 4) [7, 18] [0, 1, 2, 3, 4, 5, 6, 8, 9, 10, 11, 7, 12, 13, 14, 15, 16, 17, 19, 20, 21, 22, 18, 23, 24] mixed (by kernel_rfl) (by kernel_rfl) (by assumption) ?_; intro _ _ _))
      | (guard_target =~ WC _ _ (Code.region 7 _ true) _ _ _; first | (refine W_drawnT (id := 7) [25] [0, 1, 2, 3, 4, 5, 6, 7, 8, 9, 10, 11, 12, 13, 14, 15, 16, 17, 18, 19, 20, 21, 22, 23, 24, 26, 27, 28, 29, 30, 25, 31, 32] mixed (by kernel_rfl) (by kernel_rfl) (by assumption) ?_; intro _ _ _))
      | (guard_target =~ WC _ _ (Code.region 17 _ true) _ _ _; first | (refine W_drawnT (id := 17) [3] [0, 1, 2, 4, 5, 6, 7, 3, 8] mixed (by kernel_rfl) (by kernel_rfl) (by assumption) ?_; intro _ _ _))
      | (guard_target =~ WO _ _ (Oper.mk _ (Op.box 55 _) _ _ _ none) _ _ _ _; first | (refine O_bxs (by assumption) (by repeat (first | exact List.Mem.head _ | refine List.Mem.tail _ ?_)) rfl ?_; intro _ _ _ _))
      | (guard_target =~ WO _ _ (Oper.mk _ (Op.box 51 _) _ _ _ none) _ _ _ _; first | (refine O_bxs (by assumption) (by repeat (first | exact List.Mem.head _ | refine List.Mem.tail _ ?_)) rfl ?_; intro _ _ _ _))
      | (guard_target =~ WO _ _ (Oper.mk _ (Op.assign _) _ _ _ none) _ _ _ _; first | (refine O_assign (v := (.int _ _)) rfl ?_) | (refine O_assign (v := (.bool _)) rfl ?_) | (refine O_assign (v := (.pointer _)) rfl ?_) | (refine O_assign (v := (.slice _ _ _)) rfl ?_) | (refine O_assign (v := (.agg _)) rfl ?_) | (refine O_assign (v := (.tuple _)) rfl ?_))
      | (guard_target =~ WO _ _ (Oper.mk _ (Op.move _) _ _ _ none) _ _ _ _; first | (refine O_move (v := (.int _ _)) rfl ?_) | (refine O_move (v := (.bool _)) rfl ?_) | (refine O_move (v := (.pointer _)) rfl ?_) | (refine O_move (v := (.slice _ _ _)) rfl ?_) | (refine O_move (v := (.agg _)) rfl ?_) | (refine O_move (v := (.tuple _)) rfl ?_))
      | (guard_target =~ WO _ _ (Oper.mk _ (Op.call _) _ _ _ none) _ _ _ _; first | (refine O_len Samg.underlying57 rfl rfl ?_))
      | (guard_target =~ WO _ _ (Oper.mk _ (Op.binOp BinOp.sub 3 _ _ _) _ _ _ none) _ _ _ _; first | (refine O_subZ rfl rfl (by simp only [rngZ]; omega) ?_))
      | (guard_target =~ WO _ _ (Oper.mk _ (Op.fieldAddr 55 _ 0) _ _ _ none) _ _ _ _; first | (refine O_fdT fd55_0 (by decide) rfl ?_) | (refine O_field fd55_0 (by decide) rfl ?_))
      | (guard_target =~ WO _ _ (Oper.mk _ (Op.load 5 _) _ _ _ none) _ _ _ _; first | (refine O_ld8 (by assumption) (by repeat (first | exact List.Mem.head _ | refine List.Mem.tail _ ?_)) on5 rfl (by first | omega | (simp only [csz]; omega)) (by first | rfl | exact layMod rfl rfl) ?_; intro _ _))
      | (guard_target =~ WO _ _ (Oper.mk _ (Op.binOp BinOp.eql 5 _ _ _) _ _ _ none) _ _ _ _; first | (first | (refine O_eqlS rfl rfl (fun h => absurd h (by omega)) ?_; intro _) | (refine O_eqlS rfl rfl ?_ (fun h => absurd (by omega) h); intro _) | (refine O_eqlS rfl rfl ?_ ?_ <;> intro _)))
      | (guard_target =~ WO _ _ (Oper.mk _ (Op.fieldAddr 51 _ 4) _ _ _ none) _ _ _ _; first | (refine O_fdT fd51_4 (by decide) rfl ?_) | (refine O_field fd51_4 (by decide) rfl ?_))
      | (guard_target =~ WO _ _ (Oper.mk _ (Op.binOp BinOp.geq 21 _ _ _) _ _ _ none) _ _ _ _; first | (first | (refine O_geqS rfl rfl (fun h => absurd h (by omega)) ?_; intro _) | (refine O_geqS rfl rfl ?_ (fun h => absurd h (by omega)); intro _) | (refine O_geqS rfl rfl ?_ ?_ <;> intro _)))
      | (guard_target =~ WO _ _ (Oper.mk _ (Op.pick _ _ _) _ _ _ none) _ _ _ _; first | (refine O_pick_t (v := (.bool _)) rfl rfl ?_) | (refine O_pick_f (v := (.bool _)) rfl rfl ?_))
      | (guard_target =~ WO _ _ (Oper.mk _ (Op.convert 21 3 _) _ _ _ none) _ _ _ _; first | (refine O_convZ Samg.underlying21 Samg.underlying3 rfl (by simp only [rngZ]; omega) ?_) | (refine O_convA Samg.underlying21 Samg.underlying3 rfl rfl ?_; intro _ hr; simp only [rngZ] at hr))
      | (guard_target =~ WO _ _ (Oper.mk _ (Op.binOp BinOp.neq 3 _ _ _) _ _ _ none) _ _ _ _; first | (first | (refine O_neqS rfl rfl (fun h => absurd (by omega) h) ?_; intro _) | (refine O_neqS rfl rfl ?_ (fun h => absurd h (by omega)); intro _) | (refine O_neqS rfl rfl ?_ ?_ <;> intro _)))
      | (guard_target =~ WO _ _ (Oper.mk _ (Op.indexAddr 57 _ _) _ _ _ none) _ _ _ _; first | (refine O_ixK (by assumption) (by repeat (first | exact List.Mem.head _ | refine List.Mem.tail _ ?_)) sl57 rfl rfl (by omega) (by omega) ?_; rintro _ _ _) | (refine O_ixN (by assumption) (by repeat (first | exact List.Mem.head _ | refine List.Mem.tail _ ?_)) sl57 rfl rfl (by omega) (by omega) ?_; rintro _ _ _ _ _ _))
      | (guard_target =~ WO _ _ (Oper.mk _ (Op.load 48 _) _ _ _ none) _ _ _ _; first | (refine O_lda (by assumption) (by repeat (first | exact List.Mem.head _ | refine List.Mem.tail _ ?_)) ag48 rfl (by first | omega | (simp only [csz]; omega)) (by first | exact laySub0 rfl rfl | exact laySub rfl rfl rfl | exact laySame (by decide)) ?_; intro _ _ _))
      | (guard_target =~ WO _ _ (Oper.mk _ (Op.binOp BinOp.add 21 _ _ _) _ _ _ none) _ _ _ _; first | (refine O_addZ rfl rfl (by simp only [rngZ]; omega) ?_))
      | (guard_target =~ WO _ _ (Oper.mk _ (Op.fieldAddr 51 _ 0) _ _ _ none) _ _ _ _; first | (refine O_fdT fd51_0 (by decide) rfl ?_) | (refine O_field fd51_0 (by decide) rfl ?_))
      | (guard_target =~ WO _ _ (Oper.mk _ (Op.load 4 _) _ _ _ none) _ _ _ _; first | (refine O_ldb (by assumption) (by repeat (first | exact List.Mem.head _ | refine List.Mem.tail _ ?_)) on4 rfl (by first | omega | (simp only [csz]; omega)) (by first | rfl | exact layMod rfl rfl) ?_ ?_))
      | (guard_target =~ WO _ _ (Oper.mk _ (Op.fieldAddr 55 _ 5) _ _ _ none) _ _ _ _; first | (refine O_fdT fd55_5 (by decide) rfl ?_) | (refine O_field fd55_5 (by decide) rfl ?_))
      | (guard_target =~ WO _ _ (Oper.mk _ (Op.binOp BinOp.lss 21 _ _ _) _ _ _ none) _ _ _ _; first | (first | (refine O_lssS rfl rfl (fun h => absurd h (by omega)) ?_; intro _) | (refine O_lssS rfl rfl ?_ (fun h => absurd h (by omega)); intro _) | (refine O_lssS rfl rfl ?_ ?_ <;> intro _)))
      | (guard_target =~ WO _ _ (Oper.mk _ (Op.binOp BinOp.geq 3 _ _ _) _ _ _ none) _ _ _ _; first | (first | (refine O_geqS rfl rfl (fun h => absurd h (by omega)) ?_; intro _) | (refine O_geqS rfl rfl ?_ (fun h => absurd h (by omega)); intro _) | (refine O_geqS rfl rfl ?_ ?_ <;> intro _)))
      | (guard_target =~ WO _ _ (Oper.mk _ (Op.nilCheck _) _ _ _ none) _ _ _ _; first | (refine O_nil rfl ?_))
      | (guard_target =~ WO _ _ (Oper.mk _ (Op.fieldAddr 86 _ 6) _ _ _ none) _ _ _ _; first | (refine O_fdT fd86_6 (by decide) rfl ?_) | (refine O_field fd86_6 (by decide) rfl ?_))
      | (guard_target =~ WO _ _ (Oper.mk _ (Op.binOp BinOp.neq 21 _ _ _) _ _ _ none) _ _ _ _; first | (first | (refine O_neqS rfl rfl (fun h => absurd (by omega) h) ?_; intro _) | (refine O_neqS rfl rfl ?_ (fun h => absurd h (by omega)); intro _) | (refine O_neqS rfl rfl ?_ ?_ <;> intro _)))
      | (guard_target =~ WO _ _ (Oper.mk _ (Op.convert 3 21 _) _ _ _ none) _ _ _ _; first | (refine O_convZ Samg.underlying3 Samg.underlying21 rfl (by simp only [rngZ]; omega) ?_) | (refine O_convA Samg.underlying3 Samg.underlying21 rfl rfl ?_; intro _ hr; simp only [rngZ] at hr))
      | (guard_target =~ WO _ _ (Oper.mk _ (Op.binOp BinOp.lss 3 _ _ _) _ _ _ none) _ _ _ _; first | (first | (refine O_lssS rfl rfl (fun h => absurd h (by omega)) ?_; intro _) | (refine O_lssS rfl rfl ?_ (fun h => absurd h (by omega)); intro _) | (refine O_lssS rfl rfl ?_ ?_ <;> intro _)))
      | (guard_target =~ WO _ _ (Oper.mk _ (Op.binOp BinOp.add 3 _ _ _) _ _ _ none) _ _ _ _; first | (refine O_addZ rfl rfl (by simp only [rngZ]; omega) ?_)))
    refine W_loop (fun m ρ w' => ∃ i : Nat, m = T - i ∧ i ≤ T ∧ TS B w w' ((48, some ⟨b, 0, none⟩, σ.nm + 1, c) :: [(86, some ⟨s, 0, none⟩, 1, 1), (148, σ'.aA, σ'.na, σ'.cA), (153, σ'.aS, σ'.ns, σ'.cS), (178, σ'.aJ, σ'.nj, σ'.cJ), (126, σ'.aL, σ'.nl, σ'.cL), (172, σ'.aT, σ'.nt, σ'.cT), (21, σ'.aH, σ'.nh, σ'.cH)]) [] ∧ Has ρ [(0, .slice (some ⟨b, 0, none⟩) (σ.nm + 1) c), (1, .pointer (some ⟨s, 0, none⟩)), (9, .int .i64 ((T : Nat) : Int)), (11, .int .i64 ((i : Nat) : Int))]) T ⟨0, by omega, by omega, TS.pick (by assumption) (by repeat (first | exact List.Mem.head _ | refine List.Mem.tail _ ?_)) (hV.at (by assumption)), Has.mk ⟨rfl, rfl, rfl, rfl, trivial⟩⟩ ?_
    clear hS3
    rintro m ρ w4 ⟨i, rfl, hi, hS4, ρ', rfl⟩
    by_cases hin : i < T
    · repeat' (first
        | (refine L_cons ?_)
        | (refine R_cons rfl ?_)
        | (refine W_seq ?_)
        | (refine W_region (by kernel_rfl) ?_)
        | (refine L_nil ?_)
        | (refine R_nil ?_)
        | (refine W_block ?_)
        | (refine W_skip ?_)
        | (refine W_exit ?_)
        | (refine W_ret ?_)
        | (guard_target =~ thenQ _ _ _ _ _; first | (refine T_next ?_) | (refine T_exit ?_) | (refine T_ret ?_))
        | (guard_target =~ blockQ _ _ _ _ _; first | (refine B_next ?_) | (refine B_same ?_) | (refine B_other (by kernel_rfl) ?_) | (refine B_ret ?_))
        | (refine W_true rfl rfl ?_)
        | (refine W_false rfl rfl ?_)
        | (guard_target =~ WO _ _ (Oper.mk _ (Op.call (Call.mk (Callee.value (Operand.func 45)) _ _)) _ _ _ none) _ _ _ _; first | (refine O_rd (l := [.pointer (some ⟨s, 0, none⟩), .int .i32 _]) (by assumption) cl45 rfl (at_ok (TS.t (by assumption)) (hV.ext (TS.e (by assumption))) hI ⟨by omega, by omega⟩) ?_; rintro _ w4 ⟨cs4, rfl, hs4, hc4, hq4⟩ hS4 hx4; obtain rfl : cs4 = Wt σ i := (hq4 i rfl (by omega)).trans (hw i hin)))
        | (guard_target =~ WO _ _ (Oper.mk _ (Op.indexAddr 57 _ _) _ _ _ none) _ _ _ _; first | (refine O_index_s (m := i) sl57 rfl rfl (by omega) ?_) | (refine O_ixK (by assumption) (by repeat (first | exact List.Mem.head _ | refine List.Mem.tail _ ?_)) sl57 rfl rfl (by omega) (by omega) ?_; rintro _ _ _) | (refine O_ixN (by assumption) (by repeat (first | exact List.Mem.head _ | refine List.Mem.tail _ ?_)) sl57 rfl rfl (by omega) (by omega) ?_; rintro _ _ _ _ _ _))
        | (guard_target =~ WO _ _ (Oper.mk _ (Op.load 48 _) _ _ _ none) _ _ _ _; first | (refine O_ldT (cs := Wt σ i) (by assumption) (by repeat (first | exact List.Mem.head _ | refine List.Mem.tail _ ?_)) (by omega) rfl (Wt_size _ _) (hto i (by omega)) hlt ?_) | (refine O_lda (by assumption) (by repeat (first | exact List.Mem.head _ | refine List.Mem.tail _ ?_)) ag48 rfl (by first | omega | (simp only [csz]; omega)) (by first | exact laySub0 rfl rfl | exact laySub rfl rfl rfl | exact laySame (by decide)) ?_; intro _ _ _))
        | (guard_target =~ WO _ _ (Oper.mk _ (Op.binOp BinOp.neq 48 _ _ _) _ _ _ none) _ _ _ _; first | (refine O_neqW rfl rfl ?_))
        | (guard_target =~ WO _ _ (Oper.mk _ (Op.load 78 _) _ _ _ none) _ _ _ _; first | (refine O_ldV (by assumption) on78 rfl hV.acc hV.lt ?_))
        | (guard_target =~ WO _ _ (Oper.mk _ (Op.load 79 _) _ _ _ none) _ _ _ _; first | (refine O_ldV (by assumption) on79 rfl hV.slo hV.lt ?_))
        | (guard_target =~ WO _ _ (Oper.mk _ (Op.load 81 _) _ _ _ none) _ _ _ _; first | (refine O_ldV (by assumption) on81 rfl hV.jou hV.lt ?_))
        | (guard_target =~ WO _ _ (Oper.mk _ (Op.load 46 _) _ _ _ none) _ _ _ _; first | (refine O_ldV (by assumption) on46 rfl hV.log hV.lt ?_))
        | (guard_target =~ WO _ _ (Oper.mk _ (Op.load 83 _) _ _ _ none) _ _ _ _; first | (refine O_ldV (by assumption) on83 rfl hV.tem hV.lt ?_))
        | (guard_target =~ WO _ _ (Oper.mk _ (Op.load 84 _) _ _ _ none) _ _ _ _; first | (refine O_ldV (by assumption) on84 rfl hV.tta hV.lt ?_))
        | (guard_target =~ WO _ _ (Oper.mk _ (Op.load 21 _) _ _ _ none) _ _ _ _; first | (refine O_ldV (by assumption) on21 rfl hV.nmk hV.lt ?_) | (refine O_ld32 (by assumption) (by repeat (first | exact List.Mem.head _ | refine List.Mem.tail _ ?_)) on21 rfl (by first | omega | (simp only [csz]; omega)) (by first | rfl | exact layMod rfl rfl) ?_; intro _ _ _))
        | (guard_target =~ WO _ _ (Oper.mk _ (Op.load 27 _) _ _ _ none) _ _ _ _; first | (refine O_ldV (by assumption) on27 rfl hV.rf hV.lt ?_))
        | (guard_target =~ WO _ _ (Oper.mk _ _ _ _ _ (some _)) _ _ _ _; first | (refine G_yes rfl ?_) | (refine G_no rfl ?_))
        | (guard_target =~ WC _ _ (Code.region 4 _ true) _ _ _; first | (refine W_drawnT (id := 4) [7, 18] [0, 1, 2, 3, 4, 5, 6, 8, 9, 10, 11, 7, 12, 13, 14, 15, 16, 17, 19, 20, 21, 22, 18, 23, 24] mixed (by kernel_rfl) (by kernel_rfl) (by assumption) ?_; intro _ _ _))
        | (guard_target =~ WC _ _ (Code.region 7 _ true) _ _ _; first | (refine W_drawnT (id := 7) [25] [0, 1, 2, 3, 4, 5, 6, 7, 8, 9, 10, 11, 12, 13, 14, 15, 16, 17, 18, 19, 20, 21, 22, 23, 24, 26, 27, 28, 29, 30, 25, 31, 32] mixed (by kernel_rfl) (by kernel_rfl) (by assumption) ?_; intro _ _ _))
        | (guard_target =~ WC _ _ (Code.region 17 _ true) _ _ _; first | (refine W_drawnT (id := 17) [3] [0, 1, 2, 4, 5, 6, 7, 3, 8] mixed (by kernel_rfl) (by kernel_rfl) (by assumption) ?_; intro _ _ _))
        | (guard_target =~ WO _ _ (Oper.mk _ (Op.box 55 _) _ _ _ none) _ _ _ _; first | (refine O_bxs (by assumption) (by repeat (first | exact List.Mem.head _ | refine List.Mem.tail _ ?_)) rfl ?_; intro _ _ _ _))
        | (guard_target =~ WO _ _ (Oper.mk _ (Op.box 51 _) _ _ _ none) _ _ _ _; first | (refine O_bxs (by assumption) (by repeat (first | exact List.Mem.head _ | refine List.Mem.tail _ ?_)) rfl ?_; intro _ _ _ _))
        | (guard_target =~ WO _ _ (Oper.mk _ (Op.assign _) _ _ _ none) _ _ _ _; first | (refine O_assign (v := (.int _ _)) rfl ?_) | (refine O_assign (v := (.bool _)) rfl ?_) | (refine O_assign (v := (.pointer _)) rfl ?_) | (refine O_assign (v := (.slice _ _ _)) rfl ?_) | (refine O_assign (v := (.agg _)) rfl ?_) | (refine O_assign (v := (.tuple _)) rfl ?_))
        | (guard_target =~ WO _ _ (Oper.mk _ (Op.move _) _ _ _ none) _ _ _ _; first | (refine O_move (v := (.int _ _)) rfl ?_) | (refine O_move (v := (.bool _)) rfl ?_) | (refine O_move (v := (.pointer _)) rfl ?_) | (refine O_move (v := (.slice _ _ _)) rfl ?_) | (refine O_move (v := (.agg _)) rfl ?_) | (refine O_move (v := (.tuple _)) rfl ?_))
        | (guard_target =~ WO _ _ (Oper.mk _ (Op.call _) _ _ _ none) _ _ _ _; first | (refine O_len Samg.underlying57 rfl rfl ?_))
        | (guard_target =~ WO _ _ (Oper.mk _ (Op.binOp BinOp.sub 3 _ _ _) _ _ _ none) _ _ _ _; first | (refine O_subZ rfl rfl (by simp only [rngZ]; omega) ?_))
        | (guard_target =~ WO _ _ (Oper.mk _ (Op.fieldAddr 55 _ 0) _ _ _ none) _ _ _ _; first | (refine O_fdT fd55_0 (by decide) rfl ?_) | (refine O_field fd55_0 (by decide) rfl ?_))
        | (guard_target =~ WO _ _ (Oper.mk _ (Op.load 5 _) _ _ _ none) _ _ _ _; first | (refine O_ld8 (by assumption) (by repeat (first | exact List.Mem.head _ | refine List.Mem.tail _ ?_)) on5 rfl (by first | omega | (simp only [csz]; omega)) (by first | rfl | exact layMod rfl rfl) ?_; intro _ _))
        | (guard_target =~ WO _ _ (Oper.mk _ (Op.binOp BinOp.eql 5 _ _ _) _ _ _ none) _ _ _ _; first | (first | (refine O_eqlS rfl rfl (fun h => absurd h (by omega)) ?_; intro _) | (refine O_eqlS rfl rfl ?_ (fun h => absurd (by omega) h); intro _) | (refine O_eqlS rfl rfl ?_ ?_ <;> intro _)))
        | (guard_target =~ WO _ _ (Oper.mk _ (Op.fieldAddr 51 _ 4) _ _ _ none) _ _ _ _; first | (refine O_fdT fd51_4 (by decide) rfl ?_) | (refine O_field fd51_4 (by decide) rfl ?_))
        | (guard_target =~ WO _ _ (Oper.mk _ (Op.binOp BinOp.geq 21 _ _ _) _ _ _ none) _ _ _ _; first | (first | (refine O_geqS rfl rfl (fun h => absurd h (by omega)) ?_; intro _) | (refine O_geqS rfl rfl ?_ (fun h => absurd h (by omega)); intro _) | (refine O_geqS rfl rfl ?_ ?_ <;> intro _)))
        | (guard_target =~ WO _ _ (Oper.mk _ (Op.pick _ _ _) _ _ _ none) _ _ _ _; first | (refine O_pick_t (v := (.bool _)) rfl rfl ?_) | (refine O_pick_f (v := (.bool _)) rfl rfl ?_))
        | (guard_target =~ WO _ _ (Oper.mk _ (Op.convert 21 3 _) _ _ _ none) _ _ _ _; first | (refine O_convZ Samg.underlying21 Samg.underlying3 rfl (by simp only [rngZ]; omega) ?_) | (refine O_convA Samg.underlying21 Samg.underlying3 rfl rfl ?_; intro _ hr; simp only [rngZ] at hr))
        | (guard_target =~ WO _ _ (Oper.mk _ (Op.binOp BinOp.neq 3 _ _ _) _ _ _ none) _ _ _ _; first | (first | (refine O_neqS rfl rfl (fun h => absurd (by omega) h) ?_; intro _) | (refine O_neqS rfl rfl ?_ (fun h => absurd h (by omega)); intro _) | (refine O_neqS rfl rfl ?_ ?_ <;> intro _)))
        | (guard_target =~ WO _ _ (Oper.mk _ (Op.binOp BinOp.add 21 _ _ _) _ _ _ none) _ _ _ _; first | (refine O_addZ rfl rfl (by simp only [rngZ]; omega) ?_))
        | (guard_target =~ WO _ _ (Oper.mk _ (Op.fieldAddr 51 _ 0) _ _ _ none) _ _ _ _; first | (refine O_fdT fd51_0 (by decide) rfl ?_) | (refine O_field fd51_0 (by decide) rfl ?_))
        | (guard_target =~ WO _ _ (Oper.mk _ (Op.load 4 _) _ _ _ none) _ _ _ _; first | (refine O_ldb (by assumption) (by repeat (first | exact List.Mem.head _ | refine List.Mem.tail _ ?_)) on4 rfl (by first | omega | (simp only [csz]; omega)) (by first | rfl | exact layMod rfl rfl) ?_ ?_))
        | (guard_target =~ WO _ _ (Oper.mk _ (Op.fieldAddr 55 _ 5) _ _ _ none) _ _ _ _; first | (refine O_fdT fd55_5 (by decide) rfl ?_) | (refine O_field fd55_5 (by decide) rfl ?_))
        | (guard_target =~ WO _ _ (Oper.mk _ (Op.binOp BinOp.lss 21 _ _ _) _ _ _ none) _ _ _ _; first | (first | (refine O_lssS rfl rfl (fun h => absurd h (by omega)) ?_; intro _) | (refine O_lssS rfl rfl ?_ (fun h => absurd h (by omega)); intro _) | (refine O_lssS rfl rfl ?_ ?_ <;> intro _)))
        | (guard_target =~ WO _ _ (Oper.mk _ (Op.binOp BinOp.geq 3 _ _ _) _ _ _ none) _ _ _ _; first | (first | (refine O_geqS rfl rfl (fun h => absurd h (by omega)) ?_; intro _) | (refine O_geqS rfl rfl ?_ (fun h => absurd h (by omega)); intro _) | (refine O_geqS rfl rfl ?_ ?_ <;> intro _)))
        | (guard_target =~ WO _ _ (Oper.mk _ (Op.nilCheck _) _ _ _ none) _ _ _ _; first | (refine O_nil rfl ?_))
        | (guard_target =~ WO _ _ (Oper.mk _ (Op.fieldAddr 86 _ 6) _ _ _ none) _ _ _ _; first | (refine O_fdT fd86_6 (by decide) rfl ?_) | (refine O_field fd86_6 (by decide) rfl ?_))
        | (guard_target =~ WO _ _ (Oper.mk _ (Op.binOp BinOp.neq 21 _ _ _) _ _ _ none) _ _ _ _; first | (first | (refine O_neqS rfl rfl (fun h => absurd (by omega) h) ?_; intro _) | (refine O_neqS rfl rfl ?_ (fun h => absurd h (by omega)); intro _) | (refine O_neqS rfl rfl ?_ ?_ <;> intro _)))
        | (guard_target =~ WO _ _ (Oper.mk _ (Op.convert 3 21 _) _ _ _ none) _ _ _ _; first | (refine O_convZ Samg.underlying3 Samg.underlying21 rfl (by simp only [rngZ]; omega) ?_) | (refine O_convA Samg.underlying3 Samg.underlying21 rfl rfl ?_; intro _ hr; simp only [rngZ] at hr))
        | (guard_target =~ WO _ _ (Oper.mk _ (Op.binOp BinOp.lss 3 _ _ _) _ _ _ none) _ _ _ _; first | (first | (refine O_lssS rfl rfl (fun h => absurd h (by omega)) ?_; intro _) | (refine O_lssS rfl rfl ?_ (fun h => absurd h (by omega)); intro _) | (refine O_lssS rfl rfl ?_ ?_ <;> intro _)))
        | (guard_target =~ WO _ _ (Oper.mk _ (Op.binOp BinOp.add 3 _ _ _) _ _ _ none) _ _ _ _; first | (refine O_addZ rfl rfl (by simp only [rngZ]; omega) ?_)))
      exact ⟨T - (i + 1), by omega, i + 1, rfl, by omega, TS.pick (by assumption) (by repeat (first | exact List.Mem.head _ | refine List.Mem.tail _ ?_)) (hV.at (by assumption)), Has.mk ⟨rfl, rfl, rfl, rfl, trivial⟩⟩
    · repeat' (first
        | (refine L_cons ?_)
        | (refine R_cons rfl ?_)
        | (refine W_seq ?_)
        | (refine W_region (by kernel_rfl) ?_)
        | (refine L_nil ?_)
        | (refine R_nil ?_)
        | (refine W_block ?_)
        | (refine W_skip ?_)
        | (refine W_exit ?_)
        | (refine W_ret ?_)
        | (guard_target =~ thenQ _ _ _ _ _; first | (refine T_next ?_) | (refine T_exit ?_) | (refine T_ret ?_))
        | (guard_target =~ blockQ _ _ _ _ _; first | (refine B_next ?_) | (refine B_same ?_) | (refine B_other (by kernel_rfl) ?_) | (refine B_ret ?_))
        | (refine W_true rfl rfl ?_)
        | (refine W_false rfl rfl ?_)
        | (guard_target =~ WO _ _ (Oper.mk _ (Op.load 78 _) _ _ _ none) _ _ _ _; first | (refine O_ldV (by assumption) on78 rfl hV.acc hV.lt ?_))
        | (guard_target =~ WO _ _ (Oper.mk _ (Op.load 79 _) _ _ _ none) _ _ _ _; first | (refine O_ldV (by assumption) on79 rfl hV.slo hV.lt ?_))
        | (guard_target =~ WO _ _ (Oper.mk _ (Op.load 81 _) _ _ _ none) _ _ _ _; first | (refine O_ldV (by assumption) on81 rfl hV.jou hV.lt ?_))
        | (guard_target =~ WO _ _ (Oper.mk _ (Op.load 46 _) _ _ _ none) _ _ _ _; first | (refine O_ldV (by assumption) on46 rfl hV.log hV.lt ?_))
        | (guard_target =~ WO _ _ (Oper.mk _ (Op.load 83 _) _ _ _ none) _ _ _ _; first | (refine O_ldV (by assumption) on83 rfl hV.tem hV.lt ?_))
        | (guard_target =~ WO _ _ (Oper.mk _ (Op.load 84 _) _ _ _ none) _ _ _ _; first | (refine O_ldV (by assumption) on84 rfl hV.tta hV.lt ?_))
        | (guard_target =~ WO _ _ (Oper.mk _ (Op.load 21 _) _ _ _ none) _ _ _ _; first | (refine O_ldV (by assumption) on21 rfl hV.nmk hV.lt ?_) | (refine O_ld32 (by assumption) (by repeat (first | exact List.Mem.head _ | refine List.Mem.tail _ ?_)) on21 rfl (by first | omega | (simp only [csz]; omega)) (by first | rfl | exact layMod rfl rfl) ?_; intro _ _ _))
        | (guard_target =~ WO _ _ (Oper.mk _ (Op.load 27 _) _ _ _ none) _ _ _ _; first | (refine O_ldV (by assumption) on27 rfl hV.rf hV.lt ?_))
        | (guard_target =~ WO _ _ (Oper.mk _ _ _ _ _ (some _)) _ _ _ _; first | (refine G_yes rfl ?_) | (refine G_no rfl ?_))
        | (guard_target =~ WC _ _ (Code.region 4 _ true) _ _ _; first | (refine W_drawnT (id := 4) [7, 18] [0, 1, 2, 3, 4, 5, 6, 8, 9, 10, 11, 7, 12, 13, 14, 15, 16, 17, 19, 20, 21, 22, 18, 23, 24] mixed (by kernel_rfl) (by kernel_rfl) (by assumption) ?_; intro _ _ _))
        | (guard_target =~ WC _ _ (Code.region 7 _ true) _ _ _; first | (refine W_drawnT (id := 7) [25] [0, 1, 2, 3, 4, 5, 6, 7, 8, 9, 10, 11, 12, 13, 14, 15, 16, 17, 18, 19, 20, 21, 22, 23, 24, 26, 27, 28, 29, 30, 25, 31, 32] mixed (by kernel_rfl) (by kernel_rfl) (by assumption) ?_; intro _ _ _))
        | (guard_target =~ WC _ _ (Code.region 17 _ true) _ _ _; first | (refine W_drawnT (id := 17) [3] [0, 1, 2, 4, 5, 6, 7, 3, 8] mixed (by kernel_rfl) (by kernel_rfl) (by assumption) ?_; intro _ _ _))
        | (guard_target =~ WO _ _ (Oper.mk _ (Op.box 55 _) _ _ _ none) _ _ _ _; first | (refine O_bxs (by assumption) (by repeat (first | exact List.Mem.head _ | refine List.Mem.tail _ ?_)) rfl ?_; intro _ _ _ _))
        | (guard_target =~ WO _ _ (Oper.mk _ (Op.box 51 _) _ _ _ none) _ _ _ _; first | (refine O_bxs (by assumption) (by repeat (first | exact List.Mem.head _ | refine List.Mem.tail _ ?_)) rfl ?_; intro _ _ _ _))
        | (guard_target =~ WO _ _ (Oper.mk _ (Op.assign _) _ _ _ none) _ _ _ _; first | (refine O_assign (v := (.int _ _)) rfl ?_) | (refine O_assign (v := (.bool _)) rfl ?_) | (refine O_assign (v := (.pointer _)) rfl ?_) | (refine O_assign (v := (.slice _ _ _)) rfl ?_) | (refine O_assign (v := (.agg _)) rfl ?_) | (refine O_assign (v := (.tuple _)) rfl ?_))
        | (guard_target =~ WO _ _ (Oper.mk _ (Op.move _) _ _ _ none) _ _ _ _; first | (refine O_move (v := (.int _ _)) rfl ?_) | (refine O_move (v := (.bool _)) rfl ?_) | (refine O_move (v := (.pointer _)) rfl ?_) | (refine O_move (v := (.slice _ _ _)) rfl ?_) | (refine O_move (v := (.agg _)) rfl ?_) | (refine O_move (v := (.tuple _)) rfl ?_))
        | (guard_target =~ WO _ _ (Oper.mk _ (Op.call _) _ _ _ none) _ _ _ _; first | (refine O_len Samg.underlying57 rfl rfl ?_))
        | (guard_target =~ WO _ _ (Oper.mk _ (Op.binOp BinOp.sub 3 _ _ _) _ _ _ none) _ _ _ _; first | (refine O_subZ rfl rfl (by simp only [rngZ]; omega) ?_))
        | (guard_target =~ WO _ _ (Oper.mk _ (Op.fieldAddr 55 _ 0) _ _ _ none) _ _ _ _; first | (refine O_fdT fd55_0 (by decide) rfl ?_) | (refine O_field fd55_0 (by decide) rfl ?_))
        | (guard_target =~ WO _ _ (Oper.mk _ (Op.load 5 _) _ _ _ none) _ _ _ _; first | (refine O_ld8 (by assumption) (by repeat (first | exact List.Mem.head _ | refine List.Mem.tail _ ?_)) on5 rfl (by first | omega | (simp only [csz]; omega)) (by first | rfl | exact layMod rfl rfl) ?_; intro _ _))
        | (guard_target =~ WO _ _ (Oper.mk _ (Op.binOp BinOp.eql 5 _ _ _) _ _ _ none) _ _ _ _; first | (first | (refine O_eqlS rfl rfl (fun h => absurd h (by omega)) ?_; intro _) | (refine O_eqlS rfl rfl ?_ (fun h => absurd (by omega) h); intro _) | (refine O_eqlS rfl rfl ?_ ?_ <;> intro _)))
        | (guard_target =~ WO _ _ (Oper.mk _ (Op.fieldAddr 51 _ 4) _ _ _ none) _ _ _ _; first | (refine O_fdT fd51_4 (by decide) rfl ?_) | (refine O_field fd51_4 (by decide) rfl ?_))
        | (guard_target =~ WO _ _ (Oper.mk _ (Op.binOp BinOp.geq 21 _ _ _) _ _ _ none) _ _ _ _; first | (first | (refine O_geqS rfl rfl (fun h => absurd h (by omega)) ?_; intro _) | (refine O_geqS rfl rfl ?_ (fun h => absurd h (by omega)); intro _) | (refine O_geqS rfl rfl ?_ ?_ <;> intro _)))
        | (guard_target =~ WO _ _ (Oper.mk _ (Op.pick _ _ _) _ _ _ none) _ _ _ _; first | (refine O_pick_t (v := (.bool _)) rfl rfl ?_) | (refine O_pick_f (v := (.bool _)) rfl rfl ?_))
        | (guard_target =~ WO _ _ (Oper.mk _ (Op.convert 21 3 _) _ _ _ none) _ _ _ _; first | (refine O_convZ Samg.underlying21 Samg.underlying3 rfl (by simp only [rngZ]; omega) ?_) | (refine O_convA Samg.underlying21 Samg.underlying3 rfl rfl ?_; intro _ hr; simp only [rngZ] at hr))
        | (guard_target =~ WO _ _ (Oper.mk _ (Op.binOp BinOp.neq 3 _ _ _) _ _ _ none) _ _ _ _; first | (first | (refine O_neqS rfl rfl (fun h => absurd (by omega) h) ?_; intro _) | (refine O_neqS rfl rfl ?_ (fun h => absurd h (by omega)); intro _) | (refine O_neqS rfl rfl ?_ ?_ <;> intro _)))
        | (guard_target =~ WO _ _ (Oper.mk _ (Op.indexAddr 57 _ _) _ _ _ none) _ _ _ _; first | (refine O_ixK (by assumption) (by repeat (first | exact List.Mem.head _ | refine List.Mem.tail _ ?_)) sl57 rfl rfl (by omega) (by omega) ?_; rintro _ _ _) | (refine O_ixN (by assumption) (by repeat (first | exact List.Mem.head _ | refine List.Mem.tail _ ?_)) sl57 rfl rfl (by omega) (by omega) ?_; rintro _ _ _ _ _ _))
        | (guard_target =~ WO _ _ (Oper.mk _ (Op.load 48 _) _ _ _ none) _ _ _ _; first | (refine O_lda (by assumption) (by repeat (first | exact List.Mem.head _ | refine List.Mem.tail _ ?_)) ag48 rfl (by first | omega | (simp only [csz]; omega)) (by first | exact laySub0 rfl rfl | exact laySub rfl rfl rfl | exact laySame (by decide)) ?_; intro _ _ _))
        | (guard_target =~ WO _ _ (Oper.mk _ (Op.binOp BinOp.add 21 _ _ _) _ _ _ none) _ _ _ _; first | (refine O_addZ rfl rfl (by simp only [rngZ]; omega) ?_))
        | (guard_target =~ WO _ _ (Oper.mk _ (Op.fieldAddr 51 _ 0) _ _ _ none) _ _ _ _; first | (refine O_fdT fd51_0 (by decide) rfl ?_) | (refine O_field fd51_0 (by decide) rfl ?_))
        | (guard_target =~ WO _ _ (Oper.mk _ (Op.load 4 _) _ _ _ none) _ _ _ _; first | (refine O_ldb (by assumption) (by repeat (first | exact List.Mem.head _ | refine List.Mem.tail _ ?_)) on4 rfl (by first | omega | (simp only [csz]; omega)) (by first | rfl | exact layMod rfl rfl) ?_ ?_))
        | (guard_target =~ WO _ _ (Oper.mk _ (Op.fieldAddr 55 _ 5) _ _ _ none) _ _ _ _; first | (refine O_fdT fd55_5 (by decide) rfl ?_) | (refine O_field fd55_5 (by decide) rfl ?_))
        | (guard_target =~ WO _ _ (Oper.mk _ (Op.binOp BinOp.lss 21 _ _ _) _ _ _ none) _ _ _ _; first | (first | (refine O_lssS rfl rfl (fun h => absurd h (by omega)) ?_; intro _) | (refine O_lssS rfl rfl ?_ (fun h => absurd h (by omega)); intro _) | (refine O_lssS rfl rfl ?_ ?_ <;> intro _)))
        | (guard_target =~ WO _ _ (Oper.mk _ (Op.binOp BinOp.geq 3 _ _ _) _ _ _ none) _ _ _ _; first | (first | (refine O_geqS rfl rfl (fun h => absurd h (by omega)) ?_; intro _) | (refine O_geqS rfl rfl ?_ (fun h => absurd h (by omega)); intro _) | (refine O_geqS rfl rfl ?_ ?_ <;> intro _)))
        | (guard_target =~ WO _ _ (Oper.mk _ (Op.nilCheck _) _ _ _ none) _ _ _ _; first | (refine O_nil rfl ?_))
        | (guard_target =~ WO _ _ (Oper.mk _ (Op.fieldAddr 86 _ 6) _ _ _ none) _ _ _ _; first | (refine O_fdT fd86_6 (by decide) rfl ?_) | (refine O_field fd86_6 (by decide) rfl ?_))
        | (guard_target =~ WO _ _ (Oper.mk _ (Op.binOp BinOp.neq 21 _ _ _) _ _ _ none) _ _ _ _; first | (first | (refine O_neqS rfl rfl (fun h => absurd (by omega) h) ?_; intro _) | (refine O_neqS rfl rfl ?_ (fun h => absurd h (by omega)); intro _) | (refine O_neqS rfl rfl ?_ ?_ <;> intro _)))
        | (guard_target =~ WO _ _ (Oper.mk _ (Op.convert 3 21 _) _ _ _ none) _ _ _ _; first | (refine O_convZ Samg.underlying3 Samg.underlying21 rfl (by simp only [rngZ]; omega) ?_) | (refine O_convA Samg.underlying3 Samg.underlying21 rfl rfl ?_; intro _ hr; simp only [rngZ] at hr))
        | (guard_target =~ WO _ _ (Oper.mk _ (Op.binOp BinOp.lss 3 _ _ _) _ _ _ none) _ _ _ _; first | (first | (refine O_lssS rfl rfl (fun h => absurd h (by omega)) ?_; intro _) | (refine O_lssS rfl rfl ?_ (fun h => absurd h (by omega)); intro _) | (refine O_lssS rfl rfl ?_ ?_ <;> intro _)))
        | (guard_target =~ WO _ _ (Oper.mk _ (Op.binOp BinOp.add 3 _ _ _) _ _ _ none) _ _ _ _; first | (refine O_addZ rfl rfl (by simp only [rngZ]; omega) ?_)))
      exact E_ret1T (by assumption) rfl rfl rfl rfl
end Go.Proofs.Ygcsam
