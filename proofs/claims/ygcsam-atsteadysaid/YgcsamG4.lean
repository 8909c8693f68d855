/-
  THE WEIGHTS ARE STEADY: weights, steadyHolds. Own work.
-/
import Derived.Test.YgcsamG3
namespace Go.Proofs.Ygcsam
set_option linter.unusedVariables false
set_option linter.unusedSimpArgs false
set_option maxRecDepth 4000
/-- What the snapshot k weighs. -/
def Wt (σ : VS) (k : Nat) : Array Value := if k = σ.nm then wgh (cur σ) σ.orig else wgh (at_ σ (σ.mks k)) σ.orig
theorem cell_eqE {w w' : World} {b o : Nat} (e : Ext w w') (h : b < w.heap.size) : w'.cell? ⟨b, o, none⟩ = w.cell? ⟨b, o, none⟩ := by
  unfold World.cell?; simp only [e.block b h]
theorem weights_ok {B s : Nat} {σ : VS} {w : World} (hT : WT B w) (hV : V B w s σ) (hI : VI σ) : Rd B Samg.prog 17 [.pointer (some ⟨s, 0, none⟩)] w fun v w' => ∃ b c, v = .slice (some ⟨b, 0, none⟩) (σ.nm + 1) c ∧ Sl B w' 48 (some ⟨b, 0, none⟩) (σ.nm + 1) c ∧ w.heap.size ≤ b ∧ ∀ k, k ≤ σ.nm → ∀ j, j < 7 → w'.cell? ⟨b, k * 7 + j, none⟩ = (Wt σ k)[j]? := by
  refine W_enter (l := [_]) Samg.func17 rfl rfl rfl ?_
  have hS := hV.start hT; have hMu := Mu.refl B w; have hna := hI.na; have hns := hI.ns; have hnt := hI.nt; have hnj := hI.nj; have hnm := hI.nm; have hnl := hI.nl
  repeat' (first
    | (refine L_cons ?_)
    | (refine R_cons rfl ?_)
    | (refine W_seq ?_)
    | (refine W_region (by kernel_rfl) ?_)
    | (refine L_nil ?_)
    | (refine R_nil ?_)
    | (refine W_block ?_)
    | (refine W_skip ?_)
    | (refine W_exit ?_)
    | (refine W_ret ?_)
    | (guard_target =~ thenQ _ _ _ _ _; first | (refine T_next ?_) | (refine T_exit ?_) | (refine T_ret ?_))
    | (guard_target =~ blockQ _ _ _ _ _; first | (refine B_next ?_) | (refine B_same ?_) | (refine B_other (by kernel_rfl) ?_) | (refine B_ret ?_))
    | (refine W_true rfl rfl ?_)
    | (refine W_false rfl rfl ?_)
    | (guard_target =~ WO _ _ (Oper.mk _ (Op.load 78 _) _ _ _ none) _ _ _ _; first | (refine O_ldV (by assumption) on78 rfl hV.acc hV.lt ?_))
    | (guard_target =~ WO _ _ (Oper.mk _ (Op.load 79 _) _ _ _ none) _ _ _ _; first | (refine O_ldV (by assumption) on79 rfl hV.slo hV.lt ?_))
    | (guard_target =~ WO _ _ (Oper.mk _ (Op.load 81 _) _ _ _ none) _ _ _ _; first | (refine O_ldV (by assumption) on81 rfl hV.jou hV.lt ?_))
    | (guard_target =~ WO _ _ (Oper.mk _ (Op.load 46 _) _ _ _ none) _ _ _ _; first | (refine O_ldV (by assumption) on46 rfl hV.log hV.lt ?_))
    | (guard_target =~ WO _ _ (Oper.mk _ (Op.load 83 _) _ _ _ none) _ _ _ _; first | (refine O_ldV (by assumption) on83 rfl hV.tem hV.lt ?_))
    | (guard_target =~ WO _ _ (Oper.mk _ (Op.load 84 _) _ _ _ none) _ _ _ _; first | (refine O_ldV (by assumption) on84 rfl hV.tta hV.lt ?_))
    | (guard_target =~ WO _ _ (Oper.mk _ (Op.load 21 _) _ _ _ none) _ _ _ _; first | (refine O_ldV (by assumption) on21 rfl hV.nmk hV.lt ?_) | (refine O_ld32 (by assumption) (by repeat (first | exact List.Mem.head _ | refine List.Mem.tail _ ?_)) on21 rfl (by first | omega | (simp only [csz]; omega)) (by first | rfl | exact layMod rfl rfl) ?_; intro _ _ _))
    | (guard_target =~ WO _ _ (Oper.mk _ (Op.load 27 _) _ _ _ none) _ _ _ _; first | (refine O_ldV (by assumption) on27 rfl hV.rf hV.lt ?_))
    | (guard_target =~ WO _ _ (Oper.mk _ (Op.assign _) _ _ _ none) _ _ _ _; first | (refine O_assign (v := (.int _ _)) rfl ?_) | (refine O_assign (v := (.bool _)) rfl ?_) | (refine O_assign (v := (.pointer _)) rfl ?_) | (refine O_assign (v := (.slice _ _ _)) rfl ?_) | (refine O_assign (v := (.agg _)) rfl ?_) | (refine O_assign (v := (.tuple _)) rfl ?_))
    | (guard_target =~ WO _ _ (Oper.mk _ (Op.move _) _ _ _ none) _ _ _ _; first | (refine O_move (v := (.int _ _)) rfl ?_) | (refine O_move (v := (.bool _)) rfl ?_) | (refine O_move (v := (.pointer _)) rfl ?_) | (refine O_move (v := (.slice _ _ _)) rfl ?_) | (refine O_move (v := (.agg _)) rfl ?_) | (refine O_move (v := (.tuple _)) rfl ?_))
    | (guard_target =~ WO _ _ (Oper.mk _ (Op.nilCheck _) _ _ _ none) _ _ _ _; first | (refine O_nil rfl ?_))
    | (guard_target =~ WO _ _ (Oper.mk _ (Op.fieldAddr 86 _ 6) _ _ _ none) _ _ _ _; first | (refine O_fdT fd86_6 (by decide) rfl ?_) | (refine O_field fd86_6 (by decide) rfl ?_))
    | (guard_target =~ WO _ _ (Oper.mk _ (Op.binOp BinOp.leq 21 _ _ _) _ _ _ none) _ _ _ _; first | (first | (refine O_leqS rfl rfl (fun h => absurd h (by omega)) ?_; intro _) | (refine O_leqS rfl rfl ?_ (fun h => absurd h (by omega)); intro _) | (refine O_leqS rfl rfl ?_ ?_ <;> intro _)))
    | (guard_target =~ WO _ _ (Oper.mk _ (Op.buildSlice 57 1 _) _ _ _ none) _ _ _ _; first | (refine O_one (v := .agg _) (by assumption) sl57 zc48 (by decide) rfl rfl (TS.okA (t := 48) (by assumption) (by repeat (first | exact List.Mem.head _ | refine List.Mem.tail _ ?_))).1 (TS.okA (t := 48) (by assumption) (by repeat (first | exact List.Mem.head _ | refine List.Mem.tail _ ?_))).2 ?_; intro _ _ _ _ _ _ _))
    | (guard_target =~ WO _ _ (Oper.mk _ (Op.binOp BinOp.add 21 _ _ _) _ _ _ none) _ _ _ _; first | (refine O_addZ rfl rfl (by simp only [rngZ]; omega) ?_)))
  refine W_loop (fun m ρ w' => ∃ (i : Nat) (a : Option Addr) (c : Nat), m = σ.nm + 1 - i ∧ i ≤ σ.nm + 1 ∧ (∀ b, a = some ⟨b, 0, none⟩ → w.heap.size ≤ b ∧ ∀ k, k < i → ∀ j, j < 7 → w'.cell? ⟨b, k * 7 + j, none⟩ = (Wt σ k)[j]?) ∧ (0 < i → ∃ b, a = some ⟨b, 0, none⟩) ∧ TS B w w' ((48, a, i, c) :: [(86, some ⟨s, 0, none⟩, 1, 1), (148, σ.aA, σ.na, σ.cA), (153, σ.aS, σ.ns, σ.cS), (178, σ.aJ, σ.nj, σ.cJ), (126, σ.aL, σ.nl, σ.cL), (172, σ.aT, σ.nt, σ.cT), (21, σ.aH, σ.nh, σ.cH)]) [] ∧ Has ρ [(0, .pointer (some ⟨s, 0, none⟩)), (3, .slice a i c), (4, .int .i32 ((i : Nat) : Int))]) (σ.nm + 1) ⟨0, none, 0, by omega, by omega, fun b hb => (by cases hb), fun h => absurd h (Nat.lt_irrefl _), hS.addL (Sl.nil 48), Has.mk ⟨rfl, rfl, rfl, trivial⟩⟩ ?_
  clear hS
  rintro m ρ w3 ⟨i, a, c, rfl, hi, hto, hso, hS3, ρ', rfl⟩
  by_cases hin : i ≤ σ.nm
  · repeat' (first
      | (refine L_cons ?_)
      | (refine R_cons rfl ?_)
      | (refine W_seq ?_)
      | (refine W_region (by kernel_rfl) ?_)
      | (refine L_nil ?_)
      | (refine R_nil ?_)
      | (refine W_block ?_)
      | (refine W_skip ?_)
      | (refine W_exit ?_)
      | (refine W_ret ?_)
      | (guard_target =~ thenQ _ _ _ _ _; first | (refine T_next ?_) | (refine T_exit ?_) | (refine T_ret ?_))
      | (guard_target =~ blockQ _ _ _ _ _; first | (refine B_next ?_) | (refine B_same ?_) | (refine B_other (by kernel_rfl) ?_) | (refine B_ret ?_))
      | (refine W_true rfl rfl ?_)
      | (refine W_false rfl rfl ?_)
      | (guard_target =~ WO _ _ (Oper.mk _ (Op.call (Call.mk (Callee.builtin Builtin.min) _ _)) _ _ _ none) _ _ _ _; first | (refine O_min rfl rfl ?_; intro zm hm1 hm2 hm3))
      | (guard_target =~ WO _ _ (Oper.mk _ (Op.call (Call.mk (Callee.value (Operand.func 45)) _ _)) _ _ _ none) _ _ _ _; first | (refine O_rd (l := [.pointer (some ⟨s, 0, none⟩), .int .i32 _]) (by assumption) cl45 rfl (at_ok (TS.t (by assumption)) (hV.ext (TS.e (by assumption))) hI ⟨by omega, by omega⟩) ?_; rintro _ w4 ⟨cs4, rfl, hs4, hc4, hq4⟩ hS4 hx4; replace hS4 := hS4.addM hs4))
      | (guard_target =~ WO _ _ (Oper.mk _ (Op.buildSlice 57 1 _) _ _ _ none) _ _ _ _; first | (refine O_one (v := .agg _) (by assumption) sl57 zc48 (by decide) rfl rfl (TS.okA (t := 48) (by assumption) (by repeat (first | exact List.Mem.head _ | refine List.Mem.tail _ ?_))).1 (TS.okA (t := 48) (by assumption) (by repeat (first | exact List.Mem.head _ | refine List.Mem.tail _ ?_))).2 ?_; intro w5 b5 hx5 _ _ hb5 hS5) | (refine O_one (v := .agg _) (by assumption) sl57 zc48 (by decide) rfl rfl (TS.okA (t := 48) (by assumption) (by repeat (first | exact List.Mem.head _ | refine List.Mem.tail _ ?_))).1 (TS.okA (t := 48) (by assumption) (by repeat (first | exact List.Mem.head _ | refine List.Mem.tail _ ?_))).2 ?_; intro _ _ _ _ _ _ _))
      | (guard_target =~ WO _ _ (Oper.mk _ (Op.call (Call.mk (Callee.builtin Builtin.append) _ _)) _ _ _ none) _ _ _ _; first | (refine O_app (t := 57) (el := 48) rfl rfl (TS.t (by assumption)) sl57 by48 (by decide) zc48 (by decide) rfl rfl (by omega) (by omega) (TS.slN (by assumption) (by repeat (first | exact List.Mem.head _ | refine List.Mem.tail _ ?_))) (TS.row (by assumption) (List.mem_cons_self ..)).1 hb5 hs4.1 ?_; intro w7 b7 c7 hA7; have hS7 := TS.app hS5 hA7 (fun b hb => (hto b hb).1)))
      | (guard_target =~ WO _ _ (Oper.mk _ (Op.load 78 _) _ _ _ none) _ _ _ _; first | (refine O_ldV (by assumption) on78 rfl hV.acc hV.lt ?_))
      | (guard_target =~ WO _ _ (Oper.mk _ (Op.load 79 _) _ _ _ none) _ _ _ _; first | (refine O_ldV (by assumption) on79 rfl hV.slo hV.lt ?_))
      | (guard_target =~ WO _ _ (Oper.mk _ (Op.load 81 _) _ _ _ none) _ _ _ _; first | (refine O_ldV (by assumption) on81 rfl hV.jou hV.lt ?_))
      | (guard_target =~ WO _ _ (Oper.mk _ (Op.load 46 _) _ _ _ none) _ _ _ _; first | (refine O_ldV (by assumption) on46 rfl hV.log hV.lt ?_))
      | (guard_target =~ WO _ _ (Oper.mk _ (Op.load 83 _) _ _ _ none) _ _ _ _; first | (refine O_ldV (by assumption) on83 rfl hV.tem hV.lt ?_))
      | (guard_target =~ WO _ _ (Oper.mk _ (Op.load 84 _) _ _ _ none) _ _ _ _; first | (refine O_ldV (by assumption) on84 rfl hV.tta hV.lt ?_))
      | (guard_target =~ WO _ _ (Oper.mk _ (Op.load 21 _) _ _ _ none) _ _ _ _; first | (refine O_ldV (by assumption) on21 rfl hV.nmk hV.lt ?_) | (refine O_ld32 (by assumption) (by repeat (first | exact List.Mem.head _ | refine List.Mem.tail _ ?_)) on21 rfl (by first | omega | (simp only [csz]; omega)) (by first | rfl | exact layMod rfl rfl) ?_; intro _ _ _))
      | (guard_target =~ WO _ _ (Oper.mk _ (Op.load 27 _) _ _ _ none) _ _ _ _; first | (refine O_ldV (by assumption) on27 rfl hV.rf hV.lt ?_))
      | (guard_target =~ WO _ _ (Oper.mk _ (Op.assign _) _ _ _ none) _ _ _ _; first | (refine O_assign (v := (.int _ _)) rfl ?_) | (refine O_assign (v := (.bool _)) rfl ?_) | (refine O_assign (v := (.pointer _)) rfl ?_) | (refine O_assign (v := (.slice _ _ _)) rfl ?_) | (refine O_assign (v := (.agg _)) rfl ?_) | (refine O_assign (v := (.tuple _)) rfl ?_))
      | (guard_target =~ WO _ _ (Oper.mk _ (Op.move _) _ _ _ none) _ _ _ _; first | (refine O_move (v := (.int _ _)) rfl ?_) | (refine O_move (v := (.bool _)) rfl ?_) | (refine O_move (v := (.pointer _)) rfl ?_) | (refine O_move (v := (.slice _ _ _)) rfl ?_) | (refine O_move (v := (.agg _)) rfl ?_) | (refine O_move (v := (.tuple _)) rfl ?_))
      | (guard_target =~ WO _ _ (Oper.mk _ (Op.nilCheck _) _ _ _ none) _ _ _ _; first | (refine O_nil rfl ?_))
      | (guard_target =~ WO _ _ (Oper.mk _ (Op.fieldAddr 86 _ 6) _ _ _ none) _ _ _ _; first | (refine O_fdT fd86_6 (by decide) rfl ?_) | (refine O_field fd86_6 (by decide) rfl ?_))
      | (guard_target =~ WO _ _ (Oper.mk _ (Op.binOp BinOp.leq 21 _ _ _) _ _ _ none) _ _ _ _; first | (first | (refine O_leqS rfl rfl (fun h => absurd h (by omega)) ?_; intro _) | (refine O_leqS rfl rfl ?_ (fun h => absurd h (by omega)); intro _) | (refine O_leqS rfl rfl ?_ ?_ <;> intro _)))
      | (guard_target =~ WO _ _ (Oper.mk _ (Op.binOp BinOp.add 21 _ _ _) _ _ _ none) _ _ _ _; first | (refine O_addZ rfl rfl (by simp only [rngZ]; omega) ?_)))
    have hWt : cs4 = Wt σ i := by
      unfold Wt
      by_cases e : i = σ.nm
      · rw [if_pos e]; exact hc4 (by omega)
      · rw [if_neg e]; exact hq4 i rfl (by omega)
    have told : ∀ k, k < i + 1 → ∀ j, j < 7 → w7.cell? ⟨b7, k * 7 + j, none⟩ = (Wt σ k)[j]? := by
      intro k hk j hj
      by_cases e : k = i
      · subst e
        have := hA7.new j hj
        rw [← hWt]; exact this
      · obtain ⟨b0, hb0⟩ := hso (by omega)
        have hlt : b0 < w3.heap.size := by
          have := hS3.slN (List.mem_cons_self ..)
          rw [hb0] at this
          exact (TS.clear hS3 |>.addL this).ltC (List.mem_cons_self ..)
        rw [hA7.old b0 hb0 (k * 7 + j) (by show _ < i * 7; omega), cell_eqE (hx4.trans hx5) hlt]
        exact (hto b0 hb0).2 k (by omega) j hj
    exact ⟨σ.nm + 1 - (i + 1), by omega, i + 1, some ⟨b7, 0, none⟩, c7, rfl, by omega, fun b hb => (by
      cases hb
      refine ⟨?_, told⟩
      rcases hA7.isold with h | h
      · have := hS5.e.size; omega
      · exact (hto _ h).1), fun _ => ⟨b7, rfl⟩, TS.pick (by assumption) (by repeat (first | exact List.Mem.head _ | refine List.Mem.tail _ ?_)) (hV.at (by assumption)), Has.mk ⟨rfl, rfl, rfl, trivial⟩⟩
  · repeat' (first
      | (refine L_cons ?_)
      | (refine R_cons rfl ?_)
      | (refine W_seq ?_)
      | (refine W_region (by kernel_rfl) ?_)
      | (refine L_nil ?_)
      | (refine R_nil ?_)
      | (refine W_block ?_)
      | (refine W_skip ?_)
      | (refine W_exit ?_)
      | (refine W_ret ?_)
      | (guard_target =~ thenQ _ _ _ _ _; first | (refine T_next ?_) | (refine T_exit ?_) | (refine T_ret ?_))
      | (guard_target =~ blockQ _ _ _ _ _; first | (refine B_next ?_) | (refine B_same ?_) | (refine B_other (by kernel_rfl) ?_) | (refine B_ret ?_))
      | (refine W_true rfl rfl ?_)
      | (refine W_false rfl rfl ?_)
      | (guard_target =~ WO _ _ (Oper.mk _ (Op.call (Call.mk (Callee.builtin Builtin.min) _ _)) _ _ _ none) _ _ _ _; first | (refine O_min rfl rfl ?_; intro zm hm1 hm2 hm3))
      | (guard_target =~ WO _ _ (Oper.mk _ (Op.load 78 _) _ _ _ none) _ _ _ _; first | (refine O_ldV (by assumption) on78 rfl hV.acc hV.lt ?_))
      | (guard_target =~ WO _ _ (Oper.mk _ (Op.load 79 _) _ _ _ none) _ _ _ _; first | (refine O_ldV (by assumption) on79 rfl hV.slo hV.lt ?_))
      | (guard_target =~ WO _ _ (Oper.mk _ (Op.load 81 _) _ _ _ none) _ _ _ _; first | (refine O_ldV (by assumption) on81 rfl hV.jou hV.lt ?_))
      | (guard_target =~ WO _ _ (Oper.mk _ (Op.load 46 _) _ _ _ none) _ _ _ _; first | (refine O_ldV (by assumption) on46 rfl hV.log hV.lt ?_))
      | (guard_target =~ WO _ _ (Oper.mk _ (Op.load 83 _) _ _ _ none) _ _ _ _; first | (refine O_ldV (by assumption) on83 rfl hV.tem hV.lt ?_))
      | (guard_target =~ WO _ _ (Oper.mk _ (Op.load 84 _) _ _ _ none) _ _ _ _; first | (refine O_ldV (by assumption) on84 rfl hV.tta hV.lt ?_))
      | (guard_target =~ WO _ _ (Oper.mk _ (Op.load 21 _) _ _ _ none) _ _ _ _; first | (refine O_ldV (by assumption) on21 rfl hV.nmk hV.lt ?_) | (refine O_ld32 (by assumption) (by repeat (first | exact List.Mem.head _ | refine List.Mem.tail _ ?_)) on21 rfl (by first | omega | (simp only [csz]; omega)) (by first | rfl | exact layMod rfl rfl) ?_; intro _ _ _))
      | (guard_target =~ WO _ _ (Oper.mk _ (Op.load 27 _) _ _ _ none) _ _ _ _; first | (refine O_ldV (by assumption) on27 rfl hV.rf hV.lt ?_))
      | (guard_target =~ WO _ _ (Oper.mk _ (Op.assign _) _ _ _ none) _ _ _ _; first | (refine O_assign (v := (.int _ _)) rfl ?_) | (refine O_assign (v := (.bool _)) rfl ?_) | (refine O_assign (v := (.pointer _)) rfl ?_) | (refine O_assign (v := (.slice _ _ _)) rfl ?_) | (refine O_assign (v := (.agg _)) rfl ?_) | (refine O_assign (v := (.tuple _)) rfl ?_))
      | (guard_target =~ WO _ _ (Oper.mk _ (Op.move _) _ _ _ none) _ _ _ _; first | (refine O_move (v := (.int _ _)) rfl ?_) | (refine O_move (v := (.bool _)) rfl ?_) | (refine O_move (v := (.pointer _)) rfl ?_) | (refine O_move (v := (.slice _ _ _)) rfl ?_) | (refine O_move (v := (.agg _)) rfl ?_) | (refine O_move (v := (.tuple _)) rfl ?_))
      | (guard_target =~ WO _ _ (Oper.mk _ (Op.nilCheck _) _ _ _ none) _ _ _ _; first | (refine O_nil rfl ?_))
      | (guard_target =~ WO _ _ (Oper.mk _ (Op.fieldAddr 86 _ 6) _ _ _ none) _ _ _ _; first | (refine O_fdT fd86_6 (by decide) rfl ?_) | (refine O_field fd86_6 (by decide) rfl ?_))
      | (guard_target =~ WO _ _ (Oper.mk _ (Op.binOp BinOp.leq 21 _ _ _) _ _ _ none) _ _ _ _; first | (first | (refine O_leqS rfl rfl (fun h => absurd h (by omega)) ?_; intro _) | (refine O_leqS rfl rfl ?_ (fun h => absurd h (by omega)); intro _) | (refine O_leqS rfl rfl ?_ ?_ <;> intro _)))
      | (guard_target =~ WO _ _ (Oper.mk _ (Op.buildSlice 57 1 _) _ _ _ none) _ _ _ _; first | (refine O_one (v := .agg _) (by assumption) sl57 zc48 (by decide) rfl rfl (TS.okA (t := 48) (by assumption) (by repeat (first | exact List.Mem.head _ | refine List.Mem.tail _ ?_))).1 (TS.okA (t := 48) (by assumption) (by repeat (first | exact List.Mem.head _ | refine List.Mem.tail _ ?_))).2 ?_; intro _ _ _ _ _ _ _))
      | (guard_target =~ WO _ _ (Oper.mk _ (Op.binOp BinOp.add 21 _ _ _) _ _ _ none) _ _ _ _; first | (refine O_addZ rfl rfl (by simp only [rngZ]; omega) ?_)))
    obtain ⟨b, rfl⟩ := hso (by omega)
    obtain rfl : i = σ.nm + 1 := by omega
    exact E_ret1T hS3 rfl rfl rfl ⟨b, c, rfl, hS3.slN (List.mem_cons_self ..), (hto b rfl).1, fun k hk j hj => (hto b rfl).2 k (by omega) j hj⟩
end Go.Proofs.Ygcsam
