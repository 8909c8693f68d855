/-
  Snap, UndoOne, RevertTo. Own work.
-/
import Derived.Test.YgcsamW3
namespace Go.Proofs.Ygcsam
set_option linter.unusedVariables false
set_option linter.unusedSimpArgs false
set_option maxRecDepth 4000
theorem lay86b {o : Nat} (h1 : 8195 ≤ o) (h2 : o < 24580) : lay 86 (o % csz 86) = 3 := by
  simp only [csz]
  rw [Nat.mod_eq_of_lt (by omega)]
  simp only [lay]
  rw [if_neg (by omega), if_neg (by omega), if_neg (by omega), if_neg (by omega), if_pos (by omega)]
theorem VI.snap {σ : VS} (h : VI σ) (hm : σ.nm ≤ 16383) : VI { σ with nm := σ.nm + 1, mks := fun i => if i = σ.nm then σ.nj else σ.mks i } :=
  { h with
    nm := Nat.succ_le_succ hm
    mle := fun i hi => by
      have hi : i < σ.nm + 1 := hi
      show (if i = σ.nm then σ.nj else σ.mks i) ≤ σ.nj
      split
      · exact Nat.le_refl _
      · exact h.mle i (by omega)
    mono := fun i j hij hj => by
      have hj : j < σ.nm + 1 := hj
      show (if i = σ.nm then σ.nj else σ.mks i) ≤ (if j = σ.nm then σ.nj else σ.mks j)
      by_cases e1 : i = σ.nm
      · rw [if_pos e1, if_pos (by omega)]; exact Nat.le_refl _
      · by_cases e2 : j = σ.nm
        · rw [if_neg e1, if_pos e2]; exact h.mle i (by omega)
        · rw [if_neg e1, if_neg e2]; exact h.mono i j hij (by omega) }
theorem snap_ok {B s : Nat} {σ : VS} {w : World} (hT : WT B w) (hV : V B w s σ) (hI : VI σ) : Ret Samg.prog 66 #[.pointer (some ⟨s, 0, none⟩)] w (Mt B s w fun v σ' => (v = .int .i32 (-1) ∧ σ' = σ) ∨ (v = .int .i32 (σ.nm : Int) ∧ σ' = { σ with nm := σ.nm + 1, mks := fun i => if i = σ.nm then σ.nj else σ.mks i })) := by
  refine W_enter (l := [_]) Samg.func66 rfl rfl rfl ?_
  have hS := hV.start hT; have hMu := Mu.refl B w; have hna := hI.na; have hns := hI.ns; have hnt := hI.nt; have hnj := hI.nj; have hnm := hI.nm; have hnl := hI.nl
  repeat' (first
    | (refine L_cons ?_)
    | (refine R_cons rfl ?_)
    | (refine W_seq ?_)
    | (refine W_region (by kernel_rfl) ?_)
    | (refine L_nil ?_)
    | (refine R_nil ?_)
    | (refine W_block ?_)
    | (refine W_skip ?_)
    | (refine W_exit ?_)
    | (refine W_ret ?_)
    | (guard_target =~ thenQ _ _ _ _ _; first | (refine T_next ?_) | (refine T_exit ?_) | (refine T_ret ?_))
    | (guard_target =~ blockQ _ _ _ _ _; first | (refine B_next ?_) | (refine B_same ?_) | (refine B_other (by kernel_rfl) ?_) | (refine B_ret ?_))
    | (refine W_true rfl rfl ?_)
    | (refine W_false rfl rfl ?_)
    | (guard_target =~ WO _ _ (Oper.mk _ (Op.indexAddr 82 _ _) _ _ _ none) _ _ _ _; first | (refine O_index1 (m := σ.nm) ar82 rfl rfl (by omega) ?_) | (refine O_ixa ar82 rfl rfl (by omega) (by omega) ?_; rintro _ _))
    | (guard_target =~ WO _ _ (Oper.mk _ (Op.load 21 _) _ _ _ none) _ _ _ _; first | (refine O_ldV (v := .int .i32 ((σ.nm : Nat) : Int)) (by assumption) on21 rfl hV.nmk hV.lt ?_) | (refine O_ldV (by assumption) on21 rfl hV.nmk hV.lt ?_) | (refine O_ld32 (by assumption) (by repeat (first | exact List.Mem.head _ | refine List.Mem.tail _ ?_)) on21 rfl (by first | omega | (simp only [csz]; omega)) (by first | rfl | exact layMod rfl rfl) ?_; intro _ _ _))
    | (guard_target =~ WO _ _ (Oper.mk _ (Op.load 78 _) _ _ _ none) _ _ _ _; first | (refine O_ldV (by assumption) on78 rfl hV.acc hV.lt ?_))
    | (guard_target =~ WO _ _ (Oper.mk _ (Op.load 79 _) _ _ _ none) _ _ _ _; first | (refine O_ldV (by assumption) on79 rfl hV.slo hV.lt ?_))
    | (guard_target =~ WO _ _ (Oper.mk _ (Op.load 81 _) _ _ _ none) _ _ _ _; first | (refine O_ldV (by assumption) on81 rfl hV.jou hV.lt ?_) | (refine O_lds (t' := 178) (by assumption) (by repeat (first | exact List.Mem.head _ | refine List.Mem.tail _ ?_)) on81 rfl (by first | omega | (simp only [csz]; omega)) (by first | rfl | exact layMod rfl rfl) ?_; intro _ _ _ _ _ _))
    | (guard_target =~ WO _ _ (Oper.mk _ (Op.load 46 _) _ _ _ none) _ _ _ _; first | (refine O_ldV (by assumption) on46 rfl hV.log hV.lt ?_))
    | (guard_target =~ WO _ _ (Oper.mk _ (Op.load 83 _) _ _ _ none) _ _ _ _; first | (refine O_ldV (by assumption) on83 rfl hV.tem hV.lt ?_))
    | (guard_target =~ WO _ _ (Oper.mk _ (Op.load 84 _) _ _ _ none) _ _ _ _; first | (refine O_ldV (by assumption) on84 rfl hV.tta hV.lt ?_))
    | (guard_target =~ WO _ _ (Oper.mk _ (Op.load 27 _) _ _ _ none) _ _ _ _; first | (refine O_ldV (by assumption) on27 rfl hV.rf hV.lt ?_))
    | (guard_target =~ WO _ _ (Oper.mk _ _ _ _ _ (some _)) _ _ _ _; first | (refine G_yes rfl ?_) | (refine G_no rfl ?_))
    | (guard_target =~ WC _ _ (Code.region 3 _ true) _ _ _; first | (refine W_drawnT (id := 3) [] [0, 1, 2, 3, 4, 5, 6, 7, 8, 9, 10, 11, 12, 13, 14] mixed (by kernel_rfl) (by kernel_rfl) (by assumption) ?_; intro _ _ _))
    | (guard_target =~ WO _ _ (Oper.mk _ (Op.assign _) _ _ _ none) _ _ _ _; first | (refine O_assign (v := (.int _ _)) rfl ?_) | (refine O_assign (v := (.bool _)) rfl ?_) | (refine O_assign (v := (.pointer _)) rfl ?_) | (refine O_assign (v := (.slice _ _ _)) rfl ?_) | (refine O_assign (v := (.agg _)) rfl ?_) | (refine O_assign (v := (.tuple _)) rfl ?_))
    | (guard_target =~ WO _ _ (Oper.mk _ (Op.move _) _ _ _ none) _ _ _ _; first | (refine O_move (v := (.int _ _)) rfl ?_) | (refine O_move (v := (.bool _)) rfl ?_) | (refine O_move (v := (.pointer _)) rfl ?_) | (refine O_move (v := (.slice _ _ _)) rfl ?_) | (refine O_move (v := (.agg _)) rfl ?_) | (refine O_move (v := (.tuple _)) rfl ?_))
    | (guard_target =~ WO _ _ (Oper.mk _ (Op.nilCheck _) _ _ _ none) _ _ _ _; first | (refine O_nil rfl ?_))
    | (guard_target =~ WO _ _ (Oper.mk _ (Op.fieldAddr 86 _ 6) _ _ _ none) _ _ _ _; first | (refine O_fdT fd86_6 (by decide) rfl ?_) | (refine O_field fd86_6 (by decide) rfl ?_))
    | (guard_target =~ WO _ _ (Oper.mk _ (Op.binOp BinOp.lss 21 _ _ _) _ _ _ none) _ _ _ _; first | (first | (refine O_lssS rfl rfl (fun h => absurd h (by omega)) ?_; intro _) | (refine O_lssS rfl rfl ?_ (fun h => absurd h (by omega)); intro _) | (refine O_lssS rfl rfl ?_ ?_ <;> intro _)))
    | (guard_target =~ WO _ _ (Oper.mk _ (Op.binOp BinOp.geq 21 _ _ _) _ _ _ none) _ _ _ _; first | (first | (refine O_geqS rfl rfl (fun h => absurd h (by omega)) ?_; intro _) | (refine O_geqS rfl rfl ?_ (fun h => absurd h (by omega)); intro _) | (refine O_geqS rfl rfl ?_ ?_ <;> intro _)))
    | (guard_target =~ WO _ _ (Oper.mk _ (Op.pick _ _ _) _ _ _ none) _ _ _ _; first | (refine O_pick_t (v := (.bool _)) rfl rfl ?_) | (refine O_pick_f (v := (.bool _)) rfl rfl ?_))
    | (guard_target =~ WO _ _ (Oper.mk _ (Op.fieldAddr 86 _ 4) _ _ _ none) _ _ _ _; first | (refine O_fdT fd86_4 (by decide) rfl ?_) | (refine O_field fd86_4 (by decide) rfl ?_))
    | (guard_target =~ WO _ _ (Oper.mk _ (Op.call _) _ _ _ none) _ _ _ _; first | (refine O_len Samg.underlying81 rfl rfl ?_))
    | (guard_target =~ WO _ _ (Oper.mk _ (Op.convert 3 21 _) _ _ _ none) _ _ _ _; first | (refine O_convZ Samg.underlying3 Samg.underlying21 rfl (by simp only [rngZ]; omega) ?_) | (refine O_convA Samg.underlying3 Samg.underlying21 rfl rfl ?_; intro _ hr; simp only [rngZ] at hr))
    | (guard_target =~ WO _ _ (Oper.mk _ (Op.fieldAddr 86 _ 5) _ _ _ none) _ _ _ _; first | (refine O_fdT fd86_5 (by decide) rfl ?_) | (refine O_field fd86_5 (by decide) rfl ?_))
    | (guard_target =~ WO _ _ (Oper.mk _ (Op.binOp BinOp.add 21 _ _ _) _ _ _ none) _ _ _ _; first | (refine O_addZ rfl rfl (by simp only [rngZ]; omega) ?_))
    | (guard_target =~ WO _ _ (Oper.mk _ (Op.binOp BinOp.sub 21 _ _ _) _ _ _ none) _ _ _ _; first | (refine O_subZ rfl rfl (by simp only [rngZ]; omega) ?_)))
  · exact E_ret rfl rfl rfl ⟨hMu.trans (TS.mu (by assumption) hV.B0), TS.t (by assumption), σ, hV.ext (TS.e (by assumption)), hI, .inl ⟨rfl, rfl⟩⟩
  refine O_stM (by assumption) hV hMu (by repeat (first | exact List.Mem.head _ | refine List.Mem.tail _ ?_)) rfl on21 rfl rfl (by simp only [csz]; omega) (okp (c' := 3) (lay86b (by omega) (by omega)) (ok32 (by omega) (by omega))) rfl ?_
  intro w1 hS1 hMu he1 hV1 hW1
  have hV := hV1.setMark hnm (q := σ.nj) (by omega) he1 hW1
  have hq : w1.cell? ⟨s, 8195 + σ.nm, none⟩ = some (.int .i32 (σ.nj : Int)) := by
    have := hW1 s (8195 + σ.nm)
    rw [if_pos ⟨rfl, Nat.le_refl _, by simp⟩] at this
    rw [this]
    simp; rfl
  repeat' (first
    | (refine L_cons ?_)
    | (refine R_cons rfl ?_)
    | (refine W_seq ?_)
    | (refine W_region (by kernel_rfl) ?_)
    | (refine L_nil ?_)
    | (refine R_nil ?_)
    | (refine W_block ?_)
    | (refine W_skip ?_)
    | (refine W_exit ?_)
    | (refine W_ret ?_)
    | (guard_target =~ thenQ _ _ _ _ _; first | (refine T_next ?_) | (refine T_exit ?_) | (refine T_ret ?_))
    | (guard_target =~ blockQ _ _ _ _ _; first | (refine B_next ?_) | (refine B_same ?_) | (refine B_other (by kernel_rfl) ?_) | (refine B_ret ?_))
    | (refine W_true rfl rfl ?_)
    | (refine W_false rfl rfl ?_)
    | (guard_target =~ WO _ _ (Oper.mk _ (Op.load 21 _) _ _ _ none) _ _ _ _; first | (refine O_ldV (v := .int .i32 ((σ.nm : Nat) : Int)) (by assumption) on21 rfl hV.nmk hV.lt ?_) | (refine O_ldV (by assumption) on21 rfl hV.nmk hV.lt ?_) | (refine O_ld32 (by assumption) (by repeat (first | exact List.Mem.head _ | refine List.Mem.tail _ ?_)) on21 rfl (by first | omega | (simp only [csz]; omega)) (by first | rfl | exact layMod rfl rfl) ?_; intro _ _ _))
    | (guard_target =~ WO _ _ (Oper.mk _ (Op.load 78 _) _ _ _ none) _ _ _ _; first | (refine O_ldV (by assumption) on78 rfl hV.acc hV.lt ?_))
    | (guard_target =~ WO _ _ (Oper.mk _ (Op.load 79 _) _ _ _ none) _ _ _ _; first | (refine O_ldV (by assumption) on79 rfl hV.slo hV.lt ?_))
    | (guard_target =~ WO _ _ (Oper.mk _ (Op.load 81 _) _ _ _ none) _ _ _ _; first | (refine O_ldV (by assumption) on81 rfl hV.jou hV.lt ?_) | (refine O_lds (t' := 178) (by assumption) (by repeat (first | exact List.Mem.head _ | refine List.Mem.tail _ ?_)) on81 rfl (by first | omega | (simp only [csz]; omega)) (by first | rfl | exact layMod rfl rfl) ?_; intro _ _ _ _ _ _))
    | (guard_target =~ WO _ _ (Oper.mk _ (Op.load 46 _) _ _ _ none) _ _ _ _; first | (refine O_ldV (by assumption) on46 rfl hV.log hV.lt ?_))
    | (guard_target =~ WO _ _ (Oper.mk _ (Op.load 83 _) _ _ _ none) _ _ _ _; first | (refine O_ldV (by assumption) on83 rfl hV.tem hV.lt ?_))
    | (guard_target =~ WO _ _ (Oper.mk _ (Op.load 84 _) _ _ _ none) _ _ _ _; first | (refine O_ldV (by assumption) on84 rfl hV.tta hV.lt ?_))
    | (guard_target =~ WO _ _ (Oper.mk _ (Op.load 27 _) _ _ _ none) _ _ _ _; first | (refine O_ldV (by assumption) on27 rfl hV.rf hV.lt ?_))
    | (guard_target =~ WO _ _ (Oper.mk _ _ _ _ _ (some _)) _ _ _ _; first | (refine G_yes rfl ?_) | (refine G_no rfl ?_))
    | (guard_target =~ WC _ _ (Code.region 3 _ true) _ _ _; first | (refine W_drawnT (id := 3) [] [0, 1, 2, 3, 4, 5, 6, 7, 8, 9, 10, 11, 12, 13, 14] mixed (by kernel_rfl) (by kernel_rfl) (by assumption) ?_; intro _ _ _))
    | (guard_target =~ WO _ _ (Oper.mk _ (Op.assign _) _ _ _ none) _ _ _ _; first | (refine O_assign (v := (.int _ _)) rfl ?_) | (refine O_assign (v := (.bool _)) rfl ?_) | (refine O_assign (v := (.pointer _)) rfl ?_) | (refine O_assign (v := (.slice _ _ _)) rfl ?_) | (refine O_assign (v := (.agg _)) rfl ?_) | (refine O_assign (v := (.tuple _)) rfl ?_))
    | (guard_target =~ WO _ _ (Oper.mk _ (Op.move _) _ _ _ none) _ _ _ _; first | (refine O_move (v := (.int _ _)) rfl ?_) | (refine O_move (v := (.bool _)) rfl ?_) | (refine O_move (v := (.pointer _)) rfl ?_) | (refine O_move (v := (.slice _ _ _)) rfl ?_) | (refine O_move (v := (.agg _)) rfl ?_) | (refine O_move (v := (.tuple _)) rfl ?_))
    | (guard_target =~ WO _ _ (Oper.mk _ (Op.nilCheck _) _ _ _ none) _ _ _ _; first | (refine O_nil rfl ?_))
    | (guard_target =~ WO _ _ (Oper.mk _ (Op.fieldAddr 86 _ 6) _ _ _ none) _ _ _ _; first | (refine O_fdT fd86_6 (by decide) rfl ?_) | (refine O_field fd86_6 (by decide) rfl ?_))
    | (guard_target =~ WO _ _ (Oper.mk _ (Op.binOp BinOp.lss 21 _ _ _) _ _ _ none) _ _ _ _; first | (first | (refine O_lssS rfl rfl (fun h => absurd h (by omega)) ?_; intro _) | (refine O_lssS rfl rfl ?_ (fun h => absurd h (by omega)); intro _) | (refine O_lssS rfl rfl ?_ ?_ <;> intro _)))
    | (guard_target =~ WO _ _ (Oper.mk _ (Op.binOp BinOp.geq 21 _ _ _) _ _ _ none) _ _ _ _; first | (first | (refine O_geqS rfl rfl (fun h => absurd h (by omega)) ?_; intro _) | (refine O_geqS rfl rfl ?_ (fun h => absurd h (by omega)); intro _) | (refine O_geqS rfl rfl ?_ ?_ <;> intro _)))
    | (guard_target =~ WO _ _ (Oper.mk _ (Op.pick _ _ _) _ _ _ none) _ _ _ _; first | (refine O_pick_t (v := (.bool _)) rfl rfl ?_) | (refine O_pick_f (v := (.bool _)) rfl rfl ?_))
    | (guard_target =~ WO _ _ (Oper.mk _ (Op.fieldAddr 86 _ 4) _ _ _ none) _ _ _ _; first | (refine O_fdT fd86_4 (by decide) rfl ?_) | (refine O_field fd86_4 (by decide) rfl ?_))
    | (guard_target =~ WO _ _ (Oper.mk _ (Op.call _) _ _ _ none) _ _ _ _; first | (refine O_len Samg.underlying81 rfl rfl ?_))
    | (guard_target =~ WO _ _ (Oper.mk _ (Op.convert 3 21 _) _ _ _ none) _ _ _ _; first | (refine O_convZ Samg.underlying3 Samg.underlying21 rfl (by simp only [rngZ]; omega) ?_) | (refine O_convA Samg.underlying3 Samg.underlying21 rfl rfl ?_; intro _ hr; simp only [rngZ] at hr))
    | (guard_target =~ WO _ _ (Oper.mk _ (Op.fieldAddr 86 _ 5) _ _ _ none) _ _ _ _; first | (refine O_fdT fd86_5 (by decide) rfl ?_) | (refine O_field fd86_5 (by decide) rfl ?_))
    | (guard_target =~ WO _ _ (Oper.mk _ (Op.indexAddr 82 _ _) _ _ _ none) _ _ _ _; first | (refine O_ixa ar82 rfl rfl (by omega) (by omega) ?_; rintro _ _))
    | (guard_target =~ WO _ _ (Oper.mk _ (Op.binOp BinOp.add 21 _ _ _) _ _ _ none) _ _ _ _; first | (refine O_addZ rfl rfl (by simp only [rngZ]; omega) ?_))
    | (guard_target =~ WO _ _ (Oper.mk _ (Op.binOp BinOp.sub 21 _ _ _) _ _ _ none) _ _ _ _; first | (refine O_subZ rfl rfl (by simp only [rngZ]; omega) ?_)))
  refine O_stM (by assumption) hV hMu (by repeat (first | exact List.Mem.head _ | refine List.Mem.tail _ ?_)) rfl on21 rfl rfl (by simp only [csz]; omega) (okp (c' := 3) rfl (ok32 (by omega) (by omega))) rfl ?_
  intro w2 hS2 hMu he2 hV2 hW2
  have hV := hV2.setNm1 hnm (by omega) hq he2 hW2
  repeat' (first
    | (refine L_cons ?_)
    | (refine R_cons rfl ?_)
    | (refine W_seq ?_)
    | (refine W_region (by kernel_rfl) ?_)
    | (refine L_nil ?_)
    | (refine R_nil ?_)
    | (refine W_block ?_)
    | (refine W_skip ?_)
    | (refine W_exit ?_)
    | (refine W_ret ?_)
    | (guard_target =~ thenQ _ _ _ _ _; first | (refine T_next ?_) | (refine T_exit ?_) | (refine T_ret ?_))
    | (guard_target =~ blockQ _ _ _ _ _; first | (refine B_next ?_) | (refine B_same ?_) | (refine B_other (by kernel_rfl) ?_) | (refine B_ret ?_))
    | (refine W_true rfl rfl ?_)
    | (refine W_false rfl rfl ?_)
    | (guard_target =~ WO _ _ (Oper.mk _ (Op.load 21 _) _ _ _ none) _ _ _ _; first | (refine O_ldV (v := .int .i32 ((σ.nm + 1 : Nat) : Int)) (by assumption) on21 rfl hV.nmk hV.lt ?_) | (refine O_ldV (by assumption) on21 rfl hV.nmk hV.lt ?_) | (refine O_ld32 (by assumption) (by repeat (first | exact List.Mem.head _ | refine List.Mem.tail _ ?_)) on21 rfl (by first | omega | (simp only [csz]; omega)) (by first | rfl | exact layMod rfl rfl) ?_; intro _ _ _))
    | (guard_target =~ WO _ _ (Oper.mk _ (Op.load 78 _) _ _ _ none) _ _ _ _; first | (refine O_ldV (by assumption) on78 rfl hV.acc hV.lt ?_))
    | (guard_target =~ WO _ _ (Oper.mk _ (Op.load 79 _) _ _ _ none) _ _ _ _; first | (refine O_ldV (by assumption) on79 rfl hV.slo hV.lt ?_))
    | (guard_target =~ WO _ _ (Oper.mk _ (Op.load 81 _) _ _ _ none) _ _ _ _; first | (refine O_ldV (by assumption) on81 rfl hV.jou hV.lt ?_) | (refine O_lds (t' := 178) (by assumption) (by repeat (first | exact List.Mem.head _ | refine List.Mem.tail _ ?_)) on81 rfl (by first | omega | (simp only [csz]; omega)) (by first | rfl | exact layMod rfl rfl) ?_; intro _ _ _ _ _ _))
    | (guard_target =~ WO _ _ (Oper.mk _ (Op.load 46 _) _ _ _ none) _ _ _ _; first | (refine O_ldV (by assumption) on46 rfl hV.log hV.lt ?_))
    | (guard_target =~ WO _ _ (Oper.mk _ (Op.load 83 _) _ _ _ none) _ _ _ _; first | (refine O_ldV (by assumption) on83 rfl hV.tem hV.lt ?_))
    | (guard_target =~ WO _ _ (Oper.mk _ (Op.load 84 _) _ _ _ none) _ _ _ _; first | (refine O_ldV (by assumption) on84 rfl hV.tta hV.lt ?_))
    | (guard_target =~ WO _ _ (Oper.mk _ (Op.load 27 _) _ _ _ none) _ _ _ _; first | (refine O_ldV (by assumption) on27 rfl hV.rf hV.lt ?_))
    | (guard_target =~ WO _ _ (Oper.mk _ _ _ _ _ (some _)) _ _ _ _; first | (refine G_yes rfl ?_) | (refine G_no rfl ?_))
    | (guard_target =~ WC _ _ (Code.region 3 _ true) _ _ _; first | (refine W_drawnT (id := 3) [] [0, 1, 2, 3, 4, 5, 6, 7, 8, 9, 10, 11, 12, 13, 14] mixed (by kernel_rfl) (by kernel_rfl) (by assumption) ?_; intro _ _ _))
    | (guard_target =~ WO _ _ (Oper.mk _ (Op.assign _) _ _ _ none) _ _ _ _; first | (refine O_assign (v := (.int _ _)) rfl ?_) | (refine O_assign (v := (.bool _)) rfl ?_) | (refine O_assign (v := (.pointer _)) rfl ?_) | (refine O_assign (v := (.slice _ _ _)) rfl ?_) | (refine O_assign (v := (.agg _)) rfl ?_) | (refine O_assign (v := (.tuple _)) rfl ?_))
    | (guard_target =~ WO _ _ (Oper.mk _ (Op.move _) _ _ _ none) _ _ _ _; first | (refine O_move (v := (.int _ _)) rfl ?_) | (refine O_move (v := (.bool _)) rfl ?_) | (refine O_move (v := (.pointer _)) rfl ?_) | (refine O_move (v := (.slice _ _ _)) rfl ?_) | (refine O_move (v := (.agg _)) rfl ?_) | (refine O_move (v := (.tuple _)) rfl ?_))
    | (guard_target =~ WO _ _ (Oper.mk _ (Op.nilCheck _) _ _ _ none) _ _ _ _; first | (refine O_nil rfl ?_))
    | (guard_target =~ WO _ _ (Oper.mk _ (Op.fieldAddr 86 _ 6) _ _ _ none) _ _ _ _; first | (refine O_fdT fd86_6 (by decide) rfl ?_) | (refine O_field fd86_6 (by decide) rfl ?_))
    | (guard_target =~ WO _ _ (Oper.mk _ (Op.binOp BinOp.lss 21 _ _ _) _ _ _ none) _ _ _ _; first | (first | (refine O_lssS rfl rfl (fun h => absurd h (by omega)) ?_; intro _) | (refine O_lssS rfl rfl ?_ (fun h => absurd h (by omega)); intro _) | (refine O_lssS rfl rfl ?_ ?_ <;> intro _)))
    | (guard_target =~ WO _ _ (Oper.mk _ (Op.binOp BinOp.geq 21 _ _ _) _ _ _ none) _ _ _ _; first | (first | (refine O_geqS rfl rfl (fun h => absurd h (by omega)) ?_; intro _) | (refine O_geqS rfl rfl ?_ (fun h => absurd h (by omega)); intro _) | (refine O_geqS rfl rfl ?_ ?_ <;> intro _)))
    | (guard_target =~ WO _ _ (Oper.mk _ (Op.pick _ _ _) _ _ _ none) _ _ _ _; first | (refine O_pick_t (v := (.bool _)) rfl rfl ?_) | (refine O_pick_f (v := (.bool _)) rfl rfl ?_))
    | (guard_target =~ WO _ _ (Oper.mk _ (Op.fieldAddr 86 _ 4) _ _ _ none) _ _ _ _; first | (refine O_fdT fd86_4 (by decide) rfl ?_) | (refine O_field fd86_4 (by decide) rfl ?_))
    | (guard_target =~ WO _ _ (Oper.mk _ (Op.call _) _ _ _ none) _ _ _ _; first | (refine O_len Samg.underlying81 rfl rfl ?_))
    | (guard_target =~ WO _ _ (Oper.mk _ (Op.convert 3 21 _) _ _ _ none) _ _ _ _; first | (refine O_convZ Samg.underlying3 Samg.underlying21 rfl (by simp only [rngZ]; omega) ?_) | (refine O_convA Samg.underlying3 Samg.underlying21 rfl rfl ?_; intro _ hr; simp only [rngZ] at hr))
    | (guard_target =~ WO _ _ (Oper.mk _ (Op.fieldAddr 86 _ 5) _ _ _ none) _ _ _ _; first | (refine O_fdT fd86_5 (by decide) rfl ?_) | (refine O_field fd86_5 (by decide) rfl ?_))
    | (guard_target =~ WO _ _ (Oper.mk _ (Op.indexAddr 82 _ _) _ _ _ none) _ _ _ _; first | (refine O_ixa ar82 rfl rfl (by omega) (by omega) ?_; rintro _ _))
    | (guard_target =~ WO _ _ (Oper.mk _ (Op.store 21 _ _) _ _ _ none) _ _ _ _; first | (refine O_st (by assumption) (by repeat (first | exact List.Mem.head _ | refine List.Mem.tail _ ?_)) (by omega) on21 rfl rfl (by first | omega | (simp only [csz]; omega)) (by first | exact okp (c' := 2) (by first | rfl | exact layMod rfl rfl) (ok64 (by omega)) | exact okp (c' := 1) (by first | rfl | exact layMod rfl rfl) (ok8 (by omega)) | exact okp (c' := 3) (by first | rfl | exact layMod rfl rfl) (ok32 (by omega) (by omega)) | exact okp (c' := 4) (by first | rfl | exact layMod rfl rfl) okB_) rfl ?_; intro _ _))
    | (guard_target =~ WO _ _ (Oper.mk _ (Op.binOp BinOp.add 21 _ _ _) _ _ _ none) _ _ _ _; first | (refine O_addZ rfl rfl (by simp only [rngZ]; omega) ?_))
    | (guard_target =~ WO _ _ (Oper.mk _ (Op.binOp BinOp.sub 21 _ _ _) _ _ _ none) _ _ _ _; first | (refine O_subZ rfl rfl (by simp only [rngZ]; omega) ?_)))
  exact E_ret (v := .int .i32 ((σ.nm : Nat) : Int)) rfl rfl (congrArg (Value.int .i32) (by omega)) ⟨hMu, TS.t (by assumption), _, hV.ext (TS.e (by assumption)), hI.snap (by omega), .inr ⟨rfl, rfl⟩⟩
/-- The top entry undone and taken off. -/
def popd (σ : VS) (al : Option Addr) (cl : Nat) : VS := { σ with bal := (undoE (σ.kd (σ.nj - 1)) (σ.ja (σ.nj - 1)) (σ.jn (σ.nj - 1)) (σ.jw (σ.nj - 1)) (cur σ)).1, val := (undoE (σ.kd (σ.nj - 1)) (σ.ja (σ.nj - 1)) (σ.jn (σ.nj - 1)) (σ.jw (σ.nj - 1)) (cur σ)).2.1, ref := (undoE (σ.kd (σ.nj - 1)) (σ.ja (σ.nj - 1)) (σ.jn (σ.nj - 1)) (σ.jw (σ.nj - 1)) (cur σ)).2.2, aL := al, nl := σ.nl - (if σ.kd (σ.nj - 1) = 7 then 1 else 0), cL := cl, nj := σ.nj - 1 }
theorem undoE_lt {k a n : Nat} {g : Nat → Nat} {t : St} (hg : ∀ i, g i < 18446744073709551616) (hn : n < 18446744073709551616) (h1 : ∀ i k, t.1 i k < 18446744073709551616) (h2 : ∀ i k, t.2.1 i k < 18446744073709551616) (h3 : t.2.2 < 18446744073709551616) : (∀ i j, (undoE k a n g t).1 i j < 18446744073709551616) ∧ (∀ i j, (undoE k a n g t).2.1 i j < 18446744073709551616) ∧ (undoE k a n g t).2.2 < 18446744073709551616 := by
  unfold undoE
  split
  · exact ⟨fun i j => by show upF t.1 a g i j < _; unfold upF; split; exact hg j; exact h1 i j, h2, h3⟩
  · split
    · exact ⟨h1, fun i j => by show upF t.2.1 a g i j < _; unfold upF; split; exact hg j; exact h2 i j, h3⟩
    · split
      · exact ⟨h1, h2, hn⟩
      · exact ⟨h1, h2, h3⟩
theorem VI.popd {σ : VS} (h : VI σ) {al : Option Addr} {cl : Nat} (h0 : 0 < σ.nj) (hm : ∀ i, i < σ.nm → σ.mks i ≤ σ.nj - 1) : VI (popd σ al cl) := by
  have hlt := undoE_lt (k := σ.kd (σ.nj - 1)) (a := σ.ja (σ.nj - 1)) (h.jw (σ.nj - 1)) (h.jn (σ.nj - 1)) (t := cur σ) h.bal h.val h.ref
  have hcl : σ.nl = cntL σ.kd (σ.nj - 1) + if σ.kd (σ.nj - 1) = 7 then 1 else 0 := by
    have := h.logs
    rw [show σ.nj = (σ.nj - 1) + 1 by omega] at this
    exact this
  exact { h with
    nj := Nat.le_trans (Nat.sub_le _ _) h.nj
    nl := Nat.le_trans (Nat.sub_le _ _) h.nl
    mle := hm
    bal := hlt.1
    val := hlt.2.1
    ref := hlt.2.2
    kd := fun i hi => h.kd i (by have : i < σ.nj - 1 := hi; omega)
    zb := fun i k hi => by
      have hi : σ.na ≤ i := hi
      show (undoE (σ.kd (σ.nj - 1)) (σ.ja (σ.nj - 1)) (σ.jn (σ.nj - 1)) (σ.jw (σ.nj - 1)) (cur σ)).1 i k = 0
      unfold undoE
      split
      · rename_i e
        have := h.pa (σ.nj - 1) (by omega) (by unfold acctK; omega)
        show upF σ.bal _ _ i k = 0
        unfold upF; rw [if_neg (by omega)]; exact h.zb i k hi
      · split
        · exact h.zb i k hi
        · split <;> exact h.zb i k hi
    zv := fun i k hi => by
      have hi : σ.ns ≤ i := hi
      show (undoE (σ.kd (σ.nj - 1)) (σ.ja (σ.nj - 1)) (σ.jn (σ.nj - 1)) (σ.jw (σ.nj - 1)) (cur σ)).2.1 i k = 0
      unfold undoE
      split
      · exact h.zv i k hi
      · split
        · rename_i e
          have := h.ps (σ.nj - 1) (by omega) (by unfold slotK; omega)
          show upF σ.val _ _ i k = 0
          unfold upF; rw [if_neg (by omega)]; exact h.zv i k hi
        · split <;> exact h.zv i k hi
    pa := fun i hi hk => h.pa i (by have : i < σ.nj - 1 := hi; omega) hk
    ps := fun i hi hk => h.ps i (by have : i < σ.nj - 1 := hi; omega) hk
    pt := fun i hi hk => h.pt i (by have : i < σ.nj - 1 := hi; omega) hk
    jr := fun i hi => h.jr i (by have : i < σ.nj - 1 := hi; omega)
    logs := by
      show σ.nl - (if σ.kd (σ.nj - 1) = 7 then 1 else 0) = cntL σ.kd (σ.nj - 1)
      omega }
theorem at_popd {σ : VS} {al : Option Addr} {cl lo : Nat} (h0 : 0 < σ.nj) (hlo : lo ≤ σ.nj - 1) : at_ (popd σ al cl) lo = at_ σ lo := by
  unfold at_
  show U (popd σ al cl) lo (σ.nj - 1 - lo) (cur (popd σ al cl)) = _
  rw [show σ.nj - lo = (σ.nj - 1 - lo) + 1 by omega]
  simp only [U]
  rw [show lo + (σ.nj - 1 - lo) = σ.nj - 1 by omega]
  exact U_congr _ _ fun i _ => ⟨rfl, rfl, rfl, rfl⟩
theorem booldec {p : Prop} [Decidable p] {G : Bool → Prop} (h1 : p → G true) (h2 : ¬ p → G false) : G (decide p) := by
  by_cases h : p
  · rw [decide_eq_true h]; exact h1 h
  · rw [decide_eq_false h]; exact h2 h
theorem undoOne_ok {B s : Nat} {σ : VS} {w : World} (hT : WT B w) (hV : V B w s σ) (hI : VI σ) : Ret Samg.prog 68 #[.pointer (some ⟨s, 0, none⟩)] w (Mt B s w fun v σ' => (v = .bool false ∧ σ' = σ ∧ (0 < σ.nm → σ.nj ≤ σ.mks (σ.nm - 1)) ∧ (σ.nm = 0 → σ.nj = 0)) ∨ (v = .bool true ∧ 0 < σ.nj ∧ (∀ i, i < σ.nm → σ.mks i ≤ σ.nj - 1) ∧ ∃ al cl, σ' = popd σ al cl)) := by
  refine W_enter (l := [_]) Samg.func68 rfl rfl rfl ?_
  have hS := hV.start hT; have hMu := Mu.refl B w; have hna := hI.na; have hns := hI.ns; have hnt := hI.nt; have hnj := hI.nj; have hnm := hI.nm; have hnl := hI.nl
  have hlog : σ.kd (σ.nj - 1) = 7 → 0 < σ.nj → 0 < σ.nl := by
    intro h7 h0
    have := hI.logs
    rw [show σ.nj = (σ.nj - 1) + 1 by omega] at this
    simp only [cntL, h7, if_true] at this
    omega
  repeat' (first
    | (refine L_cons ?_)
    | (refine R_cons rfl ?_)
    | (refine W_seq ?_)
    | (refine W_region (by kernel_rfl) ?_)
    | (refine L_nil ?_)
    | (refine R_nil ?_)
    | (refine W_block ?_)
    | (refine W_skip ?_)
    | (refine W_exit ?_)
    | (refine W_ret ?_)
    | (guard_target =~ thenQ _ _ _ _ _; first | (refine T_next ?_) | (refine T_exit ?_) | (refine T_ret ?_))
    | (guard_target =~ blockQ _ _ _ _ _; first | (refine B_next ?_) | (refine B_same ?_) | (refine B_other (by kernel_rfl) ?_) | (refine B_ret ?_))
    | (refine W_true rfl rfl ?_)
    | (refine W_false rfl rfl ?_)
    | (guard_target =~ WO _ _ (Oper.mk _ (Op.call (Call.mk (Callee.value (Operand.func 88)) _ _)) _ _ _ none) _ _ _ _; first | (refine O_rd (l := [.pointer (some ⟨s, 0, none⟩), .int .i32 _]) (by assumption) cl88 rfl (live_ok (TS.t (by assumption)) (hV.ext (TS.e (by assumption))) hI) ?_; rintro _ _ rfl _ _; refine booldec (p := 0 ≤ (σ.nm : Int) - 1 ∧ (σ.nm : Int) - 1 < σ.nm) (G := fun b => WR _ _ _ _ _ (put _ _ (.bool b)) _) (fun hlv => ?_) (fun hlv => ?_)))
    | (guard_target =~ WO _ _ (Oper.mk _ (Op.indexAddr 82 _ _) _ _ _ none) _ _ _ _; first | (refine O_ixa ar82 rfl rfl (by omega) (by omega) ?_; rintro p hp) | (refine O_ixa ar82 rfl rfl (by omega) (by omega) ?_; rintro _ _))
    | (guard_target =~ WO _ _ (Oper.mk _ (Op.load 21 _) _ _ _ none) _ _ _ _; first | (refine O_ldI (by assumption) on21 rfl (hV.mrk p (by omega)) (by have := hI.mle p (by omega); constructor <;> omega) hV.lt ?_; intro _ _) | (refine O_ldV (by assumption) on21 rfl hV.nmk hV.lt ?_) | (refine O_ld32 (by assumption) (by repeat (first | exact List.Mem.head _ | refine List.Mem.tail _ ?_)) on21 rfl (by first | omega | (simp only [csz]; omega)) (by first | rfl | exact layMod rfl rfl) ?_; intro _ _ _))
    | (guard_target =~ WO _ _ (Oper.mk _ (Op.indexAddr 81 _ _) _ _ _ none) _ _ _ _; first | (refine O_ixN (by assumption) (by repeat (first | exact List.Mem.head _ | refine List.Mem.tail _ ?_)) sl81 rfl rfl (by omega) (by omega) ?_; rintro b6 m6 hm6 hcap6 hb6 _; obtain rfl : m6 = σ.nj - 1 := by omega) | (refine O_ixK (by assumption) (by repeat (first | exact List.Mem.head _ | refine List.Mem.tail _ ?_)) sl81 rfl rfl (by omega) (by omega) ?_; rintro _ _ _) | (refine O_ixN (by assumption) (by repeat (first | exact List.Mem.head _ | refine List.Mem.tail _ ?_)) sl81 rfl rfl (by omega) (by omega) ?_; rintro _ _ _ _ _ _))
    | (guard_target =~ WO _ _ (Oper.mk _ (Op.load 78 _) _ _ _ none) _ _ _ _; first | (refine O_ldV (by assumption) on78 rfl hV.acc hV.lt ?_))
    | (guard_target =~ WO _ _ (Oper.mk _ (Op.load 79 _) _ _ _ none) _ _ _ _; first | (refine O_ldV (by assumption) on79 rfl hV.slo hV.lt ?_))
    | (guard_target =~ WO _ _ (Oper.mk _ (Op.load 81 _) _ _ _ none) _ _ _ _; first | (refine O_ldV (by assumption) on81 rfl hV.jou hV.lt ?_) | (refine O_lds (t' := 178) (by assumption) (by repeat (first | exact List.Mem.head _ | refine List.Mem.tail _ ?_)) on81 rfl (by first | omega | (simp only [csz]; omega)) (by first | rfl | exact layMod rfl rfl) ?_; intro _ _ _ _ _ _))
    | (guard_target =~ WO _ _ (Oper.mk _ (Op.load 46 _) _ _ _ none) _ _ _ _; first | (refine O_ldV (by assumption) on46 rfl hV.log hV.lt ?_))
    | (guard_target =~ WO _ _ (Oper.mk _ (Op.load 83 _) _ _ _ none) _ _ _ _; first | (refine O_ldV (by assumption) on83 rfl hV.tem hV.lt ?_))
    | (guard_target =~ WO _ _ (Oper.mk _ (Op.load 84 _) _ _ _ none) _ _ _ _; first | (refine O_ldV (by assumption) on84 rfl hV.tta hV.lt ?_))
    | (guard_target =~ WO _ _ (Oper.mk _ (Op.load 27 _) _ _ _ none) _ _ _ _; first | (refine O_ldV (by assumption) on27 rfl hV.rf hV.lt ?_))
    | (guard_target =~ WO _ _ (Oper.mk _ _ _ _ _ (some _)) _ _ _ _; first | (refine G_yes rfl ?_) | (refine G_no rfl ?_))
    | (guard_target =~ WC _ _ (Code.region 2 _ true) _ _ _; first | (refine W_drawnT (id := 2) [] [0, 1, 2, 3, 4, 5, 6, 7, 8, 9, 10, 11, 12, 13, 14, 15, 16, 17, 18, 19, 20, 21, 22, 23, 24, 25] mixed (by kernel_rfl) (by kernel_rfl) (by assumption) ?_; intro _ _ _))
    | (guard_target =~ WO _ _ (Oper.mk _ (Op.assign _) _ _ _ none) _ _ _ _; first | (refine O_assign (v := (.int _ _)) rfl ?_) | (refine O_assign (v := (.bool _)) rfl ?_) | (refine O_assign (v := (.pointer _)) rfl ?_) | (refine O_assign (v := (.slice _ _ _)) rfl ?_) | (refine O_assign (v := (.agg _)) rfl ?_) | (refine O_assign (v := (.tuple _)) rfl ?_))
    | (guard_target =~ WO _ _ (Oper.mk _ (Op.move _) _ _ _ none) _ _ _ _; first | (refine O_move (v := (.int _ _)) rfl ?_) | (refine O_move (v := (.bool _)) rfl ?_) | (refine O_move (v := (.pointer _)) rfl ?_) | (refine O_move (v := (.slice _ _ _)) rfl ?_) | (refine O_move (v := (.agg _)) rfl ?_) | (refine O_move (v := (.tuple _)) rfl ?_))
    | (guard_target =~ WO _ _ (Oper.mk _ (Op.nilCheck _) _ _ _ none) _ _ _ _; first | (refine O_nil rfl ?_))
    | (guard_target =~ WO _ _ (Oper.mk _ (Op.fieldAddr 86 _ 4) _ _ _ none) _ _ _ _; first | (refine O_fdT fd86_4 (by decide) rfl ?_) | (refine O_field fd86_4 (by decide) rfl ?_))
    | (guard_target =~ WO _ _ (Oper.mk _ (Op.call _) _ _ _ none) _ _ _ _; first | (refine O_len Samg.underlying81 rfl rfl ?_))
    | (guard_target =~ WO _ _ (Oper.mk _ (Op.binOp BinOp.eql 3 _ _ _) _ _ _ none) _ _ _ _; first | (first | (refine O_eqlS rfl rfl (fun h => absurd h (by omega)) ?_; intro _) | (refine O_eqlS rfl rfl ?_ (fun h => absurd h (by omega)); intro _) | (refine O_eqlS rfl rfl ?_ ?_ <;> intro _)))
    | (guard_target =~ WO _ _ (Oper.mk _ (Op.fieldAddr 86 _ 6) _ _ _ none) _ _ _ _; first | (refine O_fdT fd86_6 (by decide) rfl ?_) | (refine O_field fd86_6 (by decide) rfl ?_))
    | (guard_target =~ WO _ _ (Oper.mk _ (Op.binOp BinOp.sub 21 _ _ _) _ _ _ none) _ _ _ _; first | (refine O_subZ rfl rfl (by simp only [rngZ]; omega) ?_))
    | (guard_target =~ WO _ _ (Oper.mk _ (Op.fieldAddr 86 _ 5) _ _ _ none) _ _ _ _; first | (refine O_fdT fd86_5 (by decide) rfl ?_) | (refine O_field fd86_5 (by decide) rfl ?_))
    | (guard_target =~ WO _ _ (Oper.mk _ (Op.convert 21 2 _) _ _ _ none) _ _ _ _; first | (refine O_convZ Samg.underlying21 Samg.underlying2 rfl (by simp only [rngZ]; omega) ?_) | (refine O_convA Samg.underlying21 Samg.underlying2 rfl rfl ?_; intro _ hr; simp only [rngZ] at hr))
    | (guard_target =~ WO _ _ (Oper.mk _ (Op.binOp BinOp.leq 2 _ _ _) _ _ _ none) _ _ _ _; first | (first | (refine O_leqS rfl rfl (fun h => absurd h (by omega)) ?_; intro _) | (refine O_leqS rfl rfl ?_ (fun h => absurd h (by omega)); intro _) | (refine O_leqS rfl rfl ?_ ?_ <;> intro _)))
    | (guard_target =~ WO _ _ (Oper.mk _ (Op.pick _ _ _) _ _ _ none) _ _ _ _; first | (refine O_pick_t (v := (.bool _)) rfl rfl ?_) | (refine O_pick_f (v := (.bool _)) rfl rfl ?_))
    | (guard_target =~ WO _ _ (Oper.mk _ (Op.binOp BinOp.sub 3 _ _ _) _ _ _ none) _ _ _ _; first | (refine O_subZ rfl rfl (by simp only [rngZ]; omega) ?_))
    | (guard_target =~ WO _ _ (Oper.mk _ (Op.unOp _ _ _) _ _ _ none) _ _ _ _; first | (refine O_not rfl ?_))
    | (guard_target =~ WO _ _ (Oper.mk _ (Op.store 81 _ _) _ _ _ none) _ _ _ _; first | (refine O_st (by assumption) (by repeat (first | exact List.Mem.head _ | refine List.Mem.tail _ ?_)) (by omega) on81 rfl rfl (by first | omega | (simp only [csz]; omega)) (okp (c' := 100 + 178) (by first | rfl | exact layMod rfl rfl) (okS (by first | exact Sl.nil _ | exact TS.slN (by assumption) (by repeat (first | exact List.Mem.head _ | refine List.Mem.tail _ ?_))))) rfl ?_; intro _ _)))
  · exact E_ret rfl rfl rfl ⟨hMu.trans (TS.mu (by assumption) hV.B0), TS.t (by assumption), σ, hV.ext (TS.e (by assumption)), hI, .inl ⟨rfl, rfl, fun _ => by omega, fun _ => by omega⟩⟩
  · refine E_ret rfl rfl rfl ⟨hMu.trans (TS.mu (by assumption) hV.B0), TS.t (by assumption), σ, hV.ext (TS.e (by assumption)), hI, .inl ⟨rfl, rfl, fun _ => ?_, fun _ => by omega⟩⟩
    rw [show σ.nm - 1 = p by omega]; omega
  all_goals
    have hmall : ∀ i, i < σ.nm → σ.mks i ≤ σ.nj - 1 := by
      intro i hi
      first
        | (have h1 := hI.mono i p (by omega) (by omega)
           omega)
        | omega
    refine O_call (l := [.pointer (some ⟨s, 0, none⟩), .pointer (some ⟨b6, (σ.nj - 1) * 9 + 0, none⟩)]) cl99 rfl (Ret.mono (undo_ok (i := σ.nj - 1) (TS.t (by assumption)) (hV.ext (TS.e (by assumption))) hI hb6 (by omega) (fun h7 => hlog h7 (by omega))) ?_)
    rintro _ w1 ⟨rfl, hMu1, hT1, al, cl, hV1⟩
    refine ⟨nof, ?_⟩
    have hMu := (hMu.trans (TS.mu (by assumption) hV.B0)).trans hMu1
    have hS1 := (TS.start hT1).withV hV1
    have hV := hV1
    repeat' (first
      | (refine L_cons ?_)
      | (refine R_cons rfl ?_)
      | (refine W_seq ?_)
      | (refine W_region (by kernel_rfl) ?_)
      | (refine L_nil ?_)
      | (refine R_nil ?_)
      | (refine W_block ?_)
      | (refine W_skip ?_)
      | (refine W_exit ?_)
      | (refine W_ret ?_)
      | (guard_target =~ thenQ _ _ _ _ _; first | (refine T_next ?_) | (refine T_exit ?_) | (refine T_ret ?_))
      | (guard_target =~ blockQ _ _ _ _ _; first | (refine B_next ?_) | (refine B_same ?_) | (refine B_other (by kernel_rfl) ?_) | (refine B_ret ?_))
      | (refine W_true rfl rfl ?_)
      | (refine W_false rfl rfl ?_)
      | (guard_target =~ WO _ _ (Oper.mk _ (Op.load 81 _) _ _ _ none) _ _ _ _; first | (refine O_ldV (v := .slice σ.aJ σ.nj σ.cJ) (by assumption) on81 rfl hV.jou hV.lt ?_) | (refine O_ldV (by assumption) on81 rfl hV.jou hV.lt ?_) | (refine O_lds (t' := 178) (by assumption) (by repeat (first | exact List.Mem.head _ | refine List.Mem.tail _ ?_)) on81 rfl (by first | omega | (simp only [csz]; omega)) (by first | rfl | exact layMod rfl rfl) ?_; intro _ _ _ _ _ _))
      | (guard_target =~ WO _ _ (Oper.mk _ (Op.slice 81 _ none (some _) none) _ _ _ none) _ _ _ _; first | (refine O_sls (hi := σ.nj - 1) (by assumption) (by repeat (first | exact List.Mem.head _ | refine List.Mem.tail _ ?_)) sl81 rfl (by exact congrArg (Value.int IntKind.i64) (by omega)) (by omega) (by omega) ?_; intro _))
      | (guard_target =~ WO _ _ (Oper.mk _ (Op.store 81 _ _) _ _ _ none) _ _ _ _; first | (refine O_stM (by assumption) hV hMu (T := 86) (by repeat (first | exact List.Mem.head _ | refine List.Mem.tail _ ?_)) rfl on81 rfl rfl (by simp only [csz]; omega) (okp (c' := 100 + 178) rfl (okS (TS.slN (by assumption) (by repeat (first | exact List.Mem.head _ | refine List.Mem.tail _ ?_))))) rfl ?_; intro w7 hS7 hMu he7 hV hW7; have hV7 := hV.setJou hnm (n := σ.nj - 1) (kd := σ.kd) (ja := σ.ja) (jn := σ.jn) (jw := σ.jw) (TS.slN (by assumption) (by repeat (first | exact List.Mem.head _ | refine List.Mem.tail _ ?_))) (fun b hb i hi => hV.jk b hb i (show i < σ.nj by omega)) (fun b hb i hi => hV.jat b hb i (show i < σ.nj by omega)) (fun b hb i hi => hV.jnn b hb i (show i < σ.nj by omega)) (fun b hb i k hi hk => hV.jww b hb i k (show i < σ.nj by omega) hk) he7 hW7) | (refine O_st (by assumption) (by repeat (first | exact List.Mem.head _ | refine List.Mem.tail _ ?_)) (by omega) on81 rfl rfl (by first | omega | (simp only [csz]; omega)) (okp (c' := 100 + 178) (by first | rfl | exact layMod rfl rfl) (okS (by first | exact Sl.nil _ | exact TS.slN (by assumption) (by repeat (first | exact List.Mem.head _ | refine List.Mem.tail _ ?_))))) rfl ?_; intro _ _))
      | (guard_target =~ WO _ _ (Oper.mk _ (Op.load 78 _) _ _ _ none) _ _ _ _; first | (refine O_ldV (by assumption) on78 rfl hV.acc hV.lt ?_))
      | (guard_target =~ WO _ _ (Oper.mk _ (Op.load 79 _) _ _ _ none) _ _ _ _; first | (refine O_ldV (by assumption) on79 rfl hV.slo hV.lt ?_))
      | (guard_target =~ WO _ _ (Oper.mk _ (Op.load 46 _) _ _ _ none) _ _ _ _; first | (refine O_ldV (by assumption) on46 rfl hV.log hV.lt ?_))
      | (guard_target =~ WO _ _ (Oper.mk _ (Op.load 83 _) _ _ _ none) _ _ _ _; first | (refine O_ldV (by assumption) on83 rfl hV.tem hV.lt ?_))
      | (guard_target =~ WO _ _ (Oper.mk _ (Op.load 84 _) _ _ _ none) _ _ _ _; first | (refine O_ldV (by assumption) on84 rfl hV.tta hV.lt ?_))
      | (guard_target =~ WO _ _ (Oper.mk _ (Op.load 21 _) _ _ _ none) _ _ _ _; first | (refine O_ldV (by assumption) on21 rfl hV.nmk hV.lt ?_) | (refine O_ld32 (by assumption) (by repeat (first | exact List.Mem.head _ | refine List.Mem.tail _ ?_)) on21 rfl (by first | omega | (simp only [csz]; omega)) (by first | rfl | exact layMod rfl rfl) ?_; intro _ _ _))
      | (guard_target =~ WO _ _ (Oper.mk _ (Op.load 27 _) _ _ _ none) _ _ _ _; first | (refine O_ldV (by assumption) on27 rfl hV.rf hV.lt ?_))
      | (guard_target =~ WO _ _ (Oper.mk _ _ _ _ _ (some _)) _ _ _ _; first | (refine G_yes rfl ?_) | (refine G_no rfl ?_))
      | (guard_target =~ WC _ _ (Code.region 2 _ true) _ _ _; first | (refine W_drawnT (id := 2) [] [0, 1, 2, 3, 4, 5, 6, 7, 8, 9, 10, 11, 12, 13, 14, 15, 16, 17, 18, 19, 20, 21, 22, 23, 24, 25] mixed (by kernel_rfl) (by kernel_rfl) (by assumption) ?_; intro _ _ _))
      | (guard_target =~ WO _ _ (Oper.mk _ (Op.assign _) _ _ _ none) _ _ _ _; first | (refine O_assign (v := (.int _ _)) rfl ?_) | (refine O_assign (v := (.bool _)) rfl ?_) | (refine O_assign (v := (.pointer _)) rfl ?_) | (refine O_assign (v := (.slice _ _ _)) rfl ?_) | (refine O_assign (v := (.agg _)) rfl ?_) | (refine O_assign (v := (.tuple _)) rfl ?_))
      | (guard_target =~ WO _ _ (Oper.mk _ (Op.move _) _ _ _ none) _ _ _ _; first | (refine O_move (v := (.int _ _)) rfl ?_) | (refine O_move (v := (.bool _)) rfl ?_) | (refine O_move (v := (.pointer _)) rfl ?_) | (refine O_move (v := (.slice _ _ _)) rfl ?_) | (refine O_move (v := (.agg _)) rfl ?_) | (refine O_move (v := (.tuple _)) rfl ?_))
      | (guard_target =~ WO _ _ (Oper.mk _ (Op.nilCheck _) _ _ _ none) _ _ _ _; first | (refine O_nil rfl ?_))
      | (guard_target =~ WO _ _ (Oper.mk _ (Op.fieldAddr 86 _ 4) _ _ _ none) _ _ _ _; first | (refine O_fdT fd86_4 (by decide) rfl ?_) | (refine O_field fd86_4 (by decide) rfl ?_))
      | (guard_target =~ WO _ _ (Oper.mk _ (Op.call _) _ _ _ none) _ _ _ _; first | (refine O_len Samg.underlying81 rfl rfl ?_))
      | (guard_target =~ WO _ _ (Oper.mk _ (Op.binOp BinOp.eql 3 _ _ _) _ _ _ none) _ _ _ _; first | (first | (refine O_eqlS rfl rfl (fun h => absurd h (by omega)) ?_; intro _) | (refine O_eqlS rfl rfl ?_ (fun h => absurd h (by omega)); intro _) | (refine O_eqlS rfl rfl ?_ ?_ <;> intro _)))
      | (guard_target =~ WO _ _ (Oper.mk _ (Op.fieldAddr 86 _ 6) _ _ _ none) _ _ _ _; first | (refine O_fdT fd86_6 (by decide) rfl ?_) | (refine O_field fd86_6 (by decide) rfl ?_))
      | (guard_target =~ WO _ _ (Oper.mk _ (Op.binOp BinOp.sub 21 _ _ _) _ _ _ none) _ _ _ _; first | (refine O_subZ rfl rfl (by simp only [rngZ]; omega) ?_))
      | (guard_target =~ WO _ _ (Oper.mk _ (Op.fieldAddr 86 _ 5) _ _ _ none) _ _ _ _; first | (refine O_fdT fd86_5 (by decide) rfl ?_) | (refine O_field fd86_5 (by decide) rfl ?_))
      | (guard_target =~ WO _ _ (Oper.mk _ (Op.indexAddr 82 _ _) _ _ _ none) _ _ _ _; first | (refine O_ixa ar82 rfl rfl (by omega) (by omega) ?_; rintro _ _))
      | (guard_target =~ WO _ _ (Oper.mk _ (Op.convert 21 2 _) _ _ _ none) _ _ _ _; first | (refine O_convZ Samg.underlying21 Samg.underlying2 rfl (by simp only [rngZ]; omega) ?_) | (refine O_convA Samg.underlying21 Samg.underlying2 rfl rfl ?_; intro _ hr; simp only [rngZ] at hr))
      | (guard_target =~ WO _ _ (Oper.mk _ (Op.binOp BinOp.leq 2 _ _ _) _ _ _ none) _ _ _ _; first | (first | (refine O_leqS rfl rfl (fun h => absurd h (by omega)) ?_; intro _) | (refine O_leqS rfl rfl ?_ (fun h => absurd h (by omega)); intro _) | (refine O_leqS rfl rfl ?_ ?_ <;> intro _)))
      | (guard_target =~ WO _ _ (Oper.mk _ (Op.pick _ _ _) _ _ _ none) _ _ _ _; first | (refine O_pick_t (v := (.bool _)) rfl rfl ?_) | (refine O_pick_f (v := (.bool _)) rfl rfl ?_))
      | (guard_target =~ WO _ _ (Oper.mk _ (Op.binOp BinOp.sub 3 _ _ _) _ _ _ none) _ _ _ _; first | (refine O_subZ rfl rfl (by simp only [rngZ]; omega) ?_))
      | (guard_target =~ WO _ _ (Oper.mk _ (Op.indexAddr 81 _ _) _ _ _ none) _ _ _ _; first | (refine O_ixK (by assumption) (by repeat (first | exact List.Mem.head _ | refine List.Mem.tail _ ?_)) sl81 rfl rfl (by omega) (by omega) ?_; rintro _ _ _) | (refine O_ixN (by assumption) (by repeat (first | exact List.Mem.head _ | refine List.Mem.tail _ ?_)) sl81 rfl rfl (by omega) (by omega) ?_; rintro _ _ _ _ _ _))
      | (guard_target =~ WO _ _ (Oper.mk _ (Op.unOp _ _ _) _ _ _ none) _ _ _ _; first | (refine O_not rfl ?_)))
    exact E_ret rfl rfl rfl ⟨hMu, TS.t (by assumption), popd σ al cl, hV7, hI.popd (by omega) hmall, .inr ⟨rfl, by omega, hmall, al, cl, rfl⟩⟩
theorem Steady.popd {σ : VS} {al : Option Addr} {cl : Nat} (h0 : 0 < σ.nj) (hm : ∀ i, i < σ.nm → σ.mks i ≤ σ.nj - 1) : Steady σ (popd σ al cl) :=
  ⟨rfl, fun _ _ => rfl, rfl, fun i hi => at_popd h0 (hm i hi)⟩
theorem VI.setNm {σ : VS} (h : VI σ) {m : Nat} (hm : m ≤ σ.nm) : VI { σ with nm := m } :=
  { h with
    nm := Nat.le_trans hm h.nm
    mle := fun i hi => h.mle i (Nat.lt_of_lt_of_le hi hm)
    mono := fun i j hij hj => h.mono i j hij (Nat.lt_of_lt_of_le hj hm) }
theorem at_nm {σ : VS} {m lo : Nat} : at_ { σ with nm := m } lo = at_ σ lo := U_congr _ _ fun i _ => ⟨rfl, rfl, rfl, rfl⟩
theorem revertTo_ok {B s : Nat} {σ : VS} {w : World} (hT : WT B w) (hV : V B w s σ) (hI : VI σ) {z : Int} : Ret Samg.prog 67 #[.pointer (some ⟨s, 0, none⟩), .int .i32 z] w (Mt B s w fun v σ' => (v = .bool false ∧ σ' = σ) ∨ (v = .bool true ∧ ∃ q : Nat, z = q ∧ q < σ.nm ∧ σ'.nm = q ∧ (∀ i, i < q → σ'.mks i = σ.mks i) ∧ σ'.orig = σ.orig ∧ cur σ' = at_ σ (σ.mks q) ∧ ∀ i, i < q → at_ σ' (σ.mks i) = at_ σ (σ.mks i))) := by
  refine W_enter (l := [_, _]) Samg.func67 rfl rfl rfl ?_
  have hS := hV.start hT; have hMu := Mu.refl B w; have hna := hI.na; have hns := hI.ns; have hnt := hI.nt; have hnj := hI.nj; have hnm := hI.nm; have hnl := hI.nl
  repeat' (first
    | (refine L_cons ?_)
    | (refine R_cons rfl ?_)
    | (refine W_seq ?_)
    | (refine W_region (by kernel_rfl) ?_)
    | (refine L_nil ?_)
    | (refine R_nil ?_)
    | (refine W_block ?_)
    | (refine W_skip ?_)
    | (refine W_exit ?_)
    | (refine W_ret ?_)
    | (guard_target =~ thenQ _ _ _ _ _; first | (refine T_next ?_) | (refine T_exit ?_) | (refine T_ret ?_))
    | (guard_target =~ blockQ _ _ _ _ _; first | (refine B_next ?_) | (refine B_same ?_) | (refine B_other (by kernel_rfl) ?_) | (refine B_ret ?_))
    | (refine W_true rfl rfl ?_)
    | (refine W_false rfl rfl ?_)
    | (guard_target =~ WO _ _ (Oper.mk _ (Op.call (Call.mk (Callee.value (Operand.func 88)) _ _)) _ _ _ none) _ _ _ _; first | (refine O_rd (l := [.pointer (some ⟨s, 0, none⟩), .int .i32 _]) (by assumption) cl88 rfl (live_ok (TS.t (by assumption)) (hV.ext (TS.e (by assumption))) hI) ?_; rintro _ _ rfl _ _; refine booldec (p := 0 ≤ z ∧ z < σ.nm) (G := fun b => WL _ _ _ _ (put _ _ (.bool b)) _) (fun hlv => ?_) (fun hlv => ?_)))
    | (guard_target =~ WO _ _ (Oper.mk _ (Op.load 78 _) _ _ _ none) _ _ _ _; first | (refine O_ldV (by assumption) on78 rfl hV.acc hV.lt ?_))
    | (guard_target =~ WO _ _ (Oper.mk _ (Op.load 79 _) _ _ _ none) _ _ _ _; first | (refine O_ldV (by assumption) on79 rfl hV.slo hV.lt ?_))
    | (guard_target =~ WO _ _ (Oper.mk _ (Op.load 81 _) _ _ _ none) _ _ _ _; first | (refine O_ldV (by assumption) on81 rfl hV.jou hV.lt ?_))
    | (guard_target =~ WO _ _ (Oper.mk _ (Op.load 46 _) _ _ _ none) _ _ _ _; first | (refine O_ldV (by assumption) on46 rfl hV.log hV.lt ?_))
    | (guard_target =~ WO _ _ (Oper.mk _ (Op.load 83 _) _ _ _ none) _ _ _ _; first | (refine O_ldV (by assumption) on83 rfl hV.tem hV.lt ?_))
    | (guard_target =~ WO _ _ (Oper.mk _ (Op.load 84 _) _ _ _ none) _ _ _ _; first | (refine O_ldV (by assumption) on84 rfl hV.tta hV.lt ?_))
    | (guard_target =~ WO _ _ (Oper.mk _ (Op.load 21 _) _ _ _ none) _ _ _ _; first | (refine O_ldV (by assumption) on21 rfl hV.nmk hV.lt ?_))
    | (guard_target =~ WO _ _ (Oper.mk _ (Op.load 27 _) _ _ _ none) _ _ _ _; first | (refine O_ldV (by assumption) on27 rfl hV.rf hV.lt ?_))
    | (guard_target =~ WO _ _ (Oper.mk _ (Op.assign _) _ _ _ none) _ _ _ _; first | (refine O_assign (v := (.int _ _)) rfl ?_) | (refine O_assign (v := (.bool _)) rfl ?_) | (refine O_assign (v := (.pointer _)) rfl ?_) | (refine O_assign (v := (.slice _ _ _)) rfl ?_) | (refine O_assign (v := (.agg _)) rfl ?_) | (refine O_assign (v := (.tuple _)) rfl ?_))
    | (guard_target =~ WO _ _ (Oper.mk _ (Op.move _) _ _ _ none) _ _ _ _; first | (refine O_move (v := (.int _ _)) rfl ?_) | (refine O_move (v := (.bool _)) rfl ?_) | (refine O_move (v := (.pointer _)) rfl ?_) | (refine O_move (v := (.slice _ _ _)) rfl ?_) | (refine O_move (v := (.agg _)) rfl ?_) | (refine O_move (v := (.tuple _)) rfl ?_))
    | (guard_target =~ WO _ _ (Oper.mk _ (Op.unOp _ _ _) _ _ _ none) _ _ _ _; first | (refine O_not rfl ?_))
    | (guard_target =~ WO _ _ (Oper.mk _ (Op.binOp BinOp.add 21 _ _ _) _ _ _ none) _ _ _ _; first | (refine O_addZ rfl rfl (by simp only [rngZ]; omega) ?_))
    | (guard_target =~ WO _ _ (Oper.mk _ (Op.nilCheck _) _ _ _ none) _ _ _ _; first | (refine O_nil rfl ?_))
    | (guard_target =~ WO _ _ (Oper.mk _ (Op.fieldAddr 86 _ 6) _ _ _ none) _ _ _ _; first | (refine O_fdT fd86_6 (by decide) rfl ?_) | (refine O_field fd86_6 (by decide) rfl ?_)))
  · obtain ⟨q, rfl⟩ := Int.eq_ofNat_of_zero_le hlv.1
    have hq : q < σ.nm := by omega
    refine O_stM (by assumption) hV hMu (T := 86) (by repeat (first | exact List.Mem.head _ | refine List.Mem.tail _ ?_)) rfl on21 rfl rfl (by simp only [csz]; omega) (okp (c' := 3) rfl (ok32 (by omega) (by omega))) rfl ?_
    intro w1 hS1 hMu he1 hV1 hW1
    have hV := hV1.setNm hnm (m := q + 1) (by omega) he1 hW1
    have hI := hI.setNm (m := q + 1) (by omega)
    repeat' (first
      | (refine L_cons ?_)
      | (refine R_cons rfl ?_)
      | (refine W_seq ?_)
      | (refine W_region (by kernel_rfl) ?_)
      | (refine L_nil ?_)
      | (refine R_nil ?_)
      | (refine W_block ?_)
      | (refine W_skip ?_)
      | (refine W_exit ?_)
      | (refine W_ret ?_)
      | (guard_target =~ thenQ _ _ _ _ _; first | (refine T_next ?_) | (refine T_exit ?_) | (refine T_ret ?_))
      | (guard_target =~ blockQ _ _ _ _ _; first | (refine B_next ?_) | (refine B_same ?_) | (refine B_other (by kernel_rfl) ?_) | (refine B_ret ?_))
      | (refine W_true rfl rfl ?_)
      | (refine W_false rfl rfl ?_)
      | (guard_target =~ WO _ _ (Oper.mk _ (Op.load 78 _) _ _ _ none) _ _ _ _; first | (refine O_ldV (by assumption) on78 rfl hV.acc hV.lt ?_))
      | (guard_target =~ WO _ _ (Oper.mk _ (Op.load 79 _) _ _ _ none) _ _ _ _; first | (refine O_ldV (by assumption) on79 rfl hV.slo hV.lt ?_))
      | (guard_target =~ WO _ _ (Oper.mk _ (Op.load 81 _) _ _ _ none) _ _ _ _; first | (refine O_ldV (by assumption) on81 rfl hV.jou hV.lt ?_))
      | (guard_target =~ WO _ _ (Oper.mk _ (Op.load 46 _) _ _ _ none) _ _ _ _; first | (refine O_ldV (by assumption) on46 rfl hV.log hV.lt ?_))
      | (guard_target =~ WO _ _ (Oper.mk _ (Op.load 83 _) _ _ _ none) _ _ _ _; first | (refine O_ldV (by assumption) on83 rfl hV.tem hV.lt ?_))
      | (guard_target =~ WO _ _ (Oper.mk _ (Op.load 84 _) _ _ _ none) _ _ _ _; first | (refine O_ldV (by assumption) on84 rfl hV.tta hV.lt ?_))
      | (guard_target =~ WO _ _ (Oper.mk _ (Op.load 21 _) _ _ _ none) _ _ _ _; first | (refine O_ldV (by assumption) on21 rfl hV.nmk hV.lt ?_))
      | (guard_target =~ WO _ _ (Oper.mk _ (Op.load 27 _) _ _ _ none) _ _ _ _; first | (refine O_ldV (by assumption) on27 rfl hV.rf hV.lt ?_))
      | (guard_target =~ WO _ _ (Oper.mk _ (Op.assign _) _ _ _ none) _ _ _ _; first | (refine O_assign (v := (.int _ _)) rfl ?_) | (refine O_assign (v := (.bool _)) rfl ?_) | (refine O_assign (v := (.pointer _)) rfl ?_) | (refine O_assign (v := (.slice _ _ _)) rfl ?_) | (refine O_assign (v := (.agg _)) rfl ?_) | (refine O_assign (v := (.tuple _)) rfl ?_))
      | (guard_target =~ WO _ _ (Oper.mk _ (Op.move _) _ _ _ none) _ _ _ _; first | (refine O_move (v := (.int _ _)) rfl ?_) | (refine O_move (v := (.bool _)) rfl ?_) | (refine O_move (v := (.pointer _)) rfl ?_) | (refine O_move (v := (.slice _ _ _)) rfl ?_) | (refine O_move (v := (.agg _)) rfl ?_) | (refine O_move (v := (.tuple _)) rfl ?_))
      | (guard_target =~ WO _ _ (Oper.mk _ (Op.unOp _ _ _) _ _ _ none) _ _ _ _; first | (refine O_not rfl ?_))
      | (guard_target =~ WO _ _ (Oper.mk _ (Op.binOp BinOp.add 21 _ _ _) _ _ _ none) _ _ _ _; first | (refine O_addZ rfl rfl (by simp only [rngZ]; omega) ?_))
      | (guard_target =~ WO _ _ (Oper.mk _ (Op.nilCheck _) _ _ _ none) _ _ _ _; first | (refine O_nil rfl ?_))
      | (guard_target =~ WO _ _ (Oper.mk _ (Op.fieldAddr 86 _ 6) _ _ _ none) _ _ _ _; first | (refine O_fdT fd86_6 (by decide) rfl ?_) | (refine O_field fd86_6 (by decide) rfl ?_))
      | (guard_target =~ WO _ _ (Oper.mk _ (Op.store 21 _ _) _ _ _ none) _ _ _ _; first | (refine O_st (by assumption) (by repeat (first | exact List.Mem.head _ | refine List.Mem.tail _ ?_)) (by omega) on21 rfl rfl (by first | omega | (simp only [csz]; omega)) (by first | exact okp (c' := 2) (by first | rfl | exact layMod rfl rfl) (ok64 (by omega)) | exact okp (c' := 1) (by first | rfl | exact layMod rfl rfl) (ok8 (by omega)) | exact okp (c' := 3) (by first | rfl | exact layMod rfl rfl) (ok32 (by omega) (by omega)) | exact okp (c' := 4) (by first | rfl | exact layMod rfl rfl) okB_) rfl ?_; intro _ _)))
    refine W_loop (fun m ρ w' => ∃ σ', m = σ'.nj ∧ V B w' s σ' ∧ VI σ' ∧ Mu B w w' ∧ WT B w' ∧ σ'.nm = q + 1 ∧ (∀ i, i ≤ q → σ'.mks i = σ.mks i) ∧ σ'.orig = σ.orig ∧ (∀ i, i ≤ q → at_ σ' (σ.mks i) = at_ σ (σ.mks i)) ∧ Has ρ [(0, .pointer (some ⟨s, 0, none⟩)), (1, .int .i32 ((q : Nat) : Int))]) σ.nj ⟨_, rfl, hV, hI, hMu, TS.t (by assumption), rfl, fun _ _ => rfl, rfl, fun _ _ => at_nm, Has.mk ⟨rfl, rfl, trivial⟩⟩ ?_
    rintro m ρ w2 ⟨σ2, rfl, hV, hI2, hMu, hT2, hnm2, hmk2, ho2, hat2, σ', rfl⟩
    have hS2 := hV.start hT2
    have hnm22 := hI2.nm
    repeat' (first
      | (refine L_cons ?_)
      | (refine R_cons rfl ?_)
      | (refine W_seq ?_)
      | (refine W_region (by kernel_rfl) ?_)
      | (refine L_nil ?_)
      | (refine R_nil ?_)
      | (refine W_block ?_)
      | (refine W_skip ?_)
      | (refine W_exit ?_)
      | (refine W_ret ?_)
      | (guard_target =~ thenQ _ _ _ _ _; first | (refine T_next ?_) | (refine T_exit ?_) | (refine T_ret ?_))
      | (guard_target =~ blockQ _ _ _ _ _; first | (refine B_next ?_) | (refine B_same ?_) | (refine B_other (by kernel_rfl) ?_) | (refine B_ret ?_))
      | (refine W_true rfl rfl ?_)
      | (refine W_false rfl rfl ?_)
      | (guard_target =~ WO _ _ (Oper.mk _ (Op.call (Call.mk (Callee.value (Operand.func 68)) _ _)) _ _ _ none) _ _ _ _; first | (refine O_mt (l := [.pointer (some ⟨s, 0, none⟩)]) (by assumption) hV hMu cl68 rfl rfl (undoOne_ok (TS.t (by assumption)) (hV.ext (TS.e (by assumption))) hI2) ?_; rintro v3 w3 σ3 (⟨rfl, rfl, hx1, hx2⟩ | ⟨rfl, h0, hall, al, cl, rfl⟩) hV hI3 hMu hS3))
      | (guard_target =~ WO _ _ (Oper.mk _ (Op.load 78 _) _ _ _ none) _ _ _ _; first | (refine O_ldV (by assumption) on78 rfl hV.acc hV.lt ?_))
      | (guard_target =~ WO _ _ (Oper.mk _ (Op.load 79 _) _ _ _ none) _ _ _ _; first | (refine O_ldV (by assumption) on79 rfl hV.slo hV.lt ?_))
      | (guard_target =~ WO _ _ (Oper.mk _ (Op.load 81 _) _ _ _ none) _ _ _ _; first | (refine O_ldV (by assumption) on81 rfl hV.jou hV.lt ?_))
      | (guard_target =~ WO _ _ (Oper.mk _ (Op.load 46 _) _ _ _ none) _ _ _ _; first | (refine O_ldV (by assumption) on46 rfl hV.log hV.lt ?_))
      | (guard_target =~ WO _ _ (Oper.mk _ (Op.load 83 _) _ _ _ none) _ _ _ _; first | (refine O_ldV (by assumption) on83 rfl hV.tem hV.lt ?_))
      | (guard_target =~ WO _ _ (Oper.mk _ (Op.load 84 _) _ _ _ none) _ _ _ _; first | (refine O_ldV (by assumption) on84 rfl hV.tta hV.lt ?_))
      | (guard_target =~ WO _ _ (Oper.mk _ (Op.load 21 _) _ _ _ none) _ _ _ _; first | (refine O_ldV (by assumption) on21 rfl hV.nmk hV.lt ?_))
      | (guard_target =~ WO _ _ (Oper.mk _ (Op.load 27 _) _ _ _ none) _ _ _ _; first | (refine O_ldV (by assumption) on27 rfl hV.rf hV.lt ?_))
      | (guard_target =~ WO _ _ (Oper.mk _ (Op.assign _) _ _ _ none) _ _ _ _; first | (refine O_assign (v := (.int _ _)) rfl ?_) | (refine O_assign (v := (.bool _)) rfl ?_) | (refine O_assign (v := (.pointer _)) rfl ?_) | (refine O_assign (v := (.slice _ _ _)) rfl ?_) | (refine O_assign (v := (.agg _)) rfl ?_) | (refine O_assign (v := (.tuple _)) rfl ?_))
      | (guard_target =~ WO _ _ (Oper.mk _ (Op.move _) _ _ _ none) _ _ _ _; first | (refine O_move (v := (.int _ _)) rfl ?_) | (refine O_move (v := (.bool _)) rfl ?_) | (refine O_move (v := (.pointer _)) rfl ?_) | (refine O_move (v := (.slice _ _ _)) rfl ?_) | (refine O_move (v := (.agg _)) rfl ?_) | (refine O_move (v := (.tuple _)) rfl ?_))
      | (guard_target =~ WO _ _ (Oper.mk _ (Op.unOp _ _ _) _ _ _ none) _ _ _ _; first | (refine O_not rfl ?_))
      | (guard_target =~ WO _ _ (Oper.mk _ (Op.binOp BinOp.add 21 _ _ _) _ _ _ none) _ _ _ _; first | (refine O_addZ rfl rfl (by simp only [rngZ]; omega) ?_))
      | (guard_target =~ WO _ _ (Oper.mk _ (Op.nilCheck _) _ _ _ none) _ _ _ _; first | (refine O_nil rfl ?_))
      | (guard_target =~ WO _ _ (Oper.mk _ (Op.fieldAddr 86 _ 6) _ _ _ none) _ _ _ _; first | (refine O_fdT fd86_6 (by decide) rfl ?_) | (refine O_field fd86_6 (by decide) rfl ?_)))
    · refine O_stM (by assumption) hV hMu (T := 86) (by repeat (first | exact List.Mem.head _ | refine List.Mem.tail _ ?_)) rfl on21 rfl rfl (by simp only [csz]; omega) (okp (c' := 3) rfl (ok32 (by omega) (by omega))) rfl ?_
      intro w4 hS4 hMu he4 hV4 hW4
      have hV := hV4.setNm hnm22 (m := q) (by omega) he4 hW4
      repeat' (first
        | (refine L_cons ?_)
        | (refine R_cons rfl ?_)
        | (refine W_seq ?_)
        | (refine W_region (by kernel_rfl) ?_)
        | (refine L_nil ?_)
        | (refine R_nil ?_)
        | (refine W_block ?_)
        | (refine W_skip ?_)
        | (refine W_exit ?_)
        | (refine W_ret ?_)
        | (guard_target =~ thenQ _ _ _ _ _; first | (refine T_next ?_) | (refine T_exit ?_) | (refine T_ret ?_))
        | (guard_target =~ blockQ _ _ _ _ _; first | (refine B_next ?_) | (refine B_same ?_) | (refine B_other (by kernel_rfl) ?_) | (refine B_ret ?_))
        | (refine W_true rfl rfl ?_)
        | (refine W_false rfl rfl ?_)
        | (guard_target =~ WO _ _ (Oper.mk _ (Op.load 78 _) _ _ _ none) _ _ _ _; first | (refine O_ldV (by assumption) on78 rfl hV.acc hV.lt ?_))
        | (guard_target =~ WO _ _ (Oper.mk _ (Op.load 79 _) _ _ _ none) _ _ _ _; first | (refine O_ldV (by assumption) on79 rfl hV.slo hV.lt ?_))
        | (guard_target =~ WO _ _ (Oper.mk _ (Op.load 81 _) _ _ _ none) _ _ _ _; first | (refine O_ldV (by assumption) on81 rfl hV.jou hV.lt ?_))
        | (guard_target =~ WO _ _ (Oper.mk _ (Op.load 46 _) _ _ _ none) _ _ _ _; first | (refine O_ldV (by assumption) on46 rfl hV.log hV.lt ?_))
        | (guard_target =~ WO _ _ (Oper.mk _ (Op.load 83 _) _ _ _ none) _ _ _ _; first | (refine O_ldV (by assumption) on83 rfl hV.tem hV.lt ?_))
        | (guard_target =~ WO _ _ (Oper.mk _ (Op.load 84 _) _ _ _ none) _ _ _ _; first | (refine O_ldV (by assumption) on84 rfl hV.tta hV.lt ?_))
        | (guard_target =~ WO _ _ (Oper.mk _ (Op.load 21 _) _ _ _ none) _ _ _ _; first | (refine O_ldV (by assumption) on21 rfl hV.nmk hV.lt ?_))
        | (guard_target =~ WO _ _ (Oper.mk _ (Op.load 27 _) _ _ _ none) _ _ _ _; first | (refine O_ldV (by assumption) on27 rfl hV.rf hV.lt ?_))
        | (guard_target =~ WO _ _ (Oper.mk _ (Op.assign _) _ _ _ none) _ _ _ _; first | (refine O_assign (v := (.int _ _)) rfl ?_) | (refine O_assign (v := (.bool _)) rfl ?_) | (refine O_assign (v := (.pointer _)) rfl ?_) | (refine O_assign (v := (.slice _ _ _)) rfl ?_) | (refine O_assign (v := (.agg _)) rfl ?_) | (refine O_assign (v := (.tuple _)) rfl ?_))
        | (guard_target =~ WO _ _ (Oper.mk _ (Op.move _) _ _ _ none) _ _ _ _; first | (refine O_move (v := (.int _ _)) rfl ?_) | (refine O_move (v := (.bool _)) rfl ?_) | (refine O_move (v := (.pointer _)) rfl ?_) | (refine O_move (v := (.slice _ _ _)) rfl ?_) | (refine O_move (v := (.agg _)) rfl ?_) | (refine O_move (v := (.tuple _)) rfl ?_))
        | (guard_target =~ WO _ _ (Oper.mk _ (Op.unOp _ _ _) _ _ _ none) _ _ _ _; first | (refine O_not rfl ?_))
        | (guard_target =~ WO _ _ (Oper.mk _ (Op.binOp BinOp.add 21 _ _ _) _ _ _ none) _ _ _ _; first | (refine O_addZ rfl rfl (by simp only [rngZ]; omega) ?_))
        | (guard_target =~ WO _ _ (Oper.mk _ (Op.nilCheck _) _ _ _ none) _ _ _ _; first | (refine O_nil rfl ?_))
        | (guard_target =~ WO _ _ (Oper.mk _ (Op.fieldAddr 86 _ 6) _ _ _ none) _ _ _ _; first | (refine O_fdT fd86_6 (by decide) rfl ?_) | (refine O_field fd86_6 (by decide) rfl ?_))
        | (guard_target =~ WO _ _ (Oper.mk _ (Op.store 21 _ _) _ _ _ none) _ _ _ _; first | (refine O_st (by assumption) (by repeat (first | exact List.Mem.head _ | refine List.Mem.tail _ ?_)) (by omega) on21 rfl rfl (by first | omega | (simp only [csz]; omega)) (by first | exact okp (c' := 2) (by first | rfl | exact layMod rfl rfl) (ok64 (by omega)) | exact okp (c' := 1) (by first | rfl | exact layMod rfl rfl) (ok8 (by omega)) | exact okp (c' := 3) (by first | rfl | exact layMod rfl rfl) (ok32 (by omega) (by omega)) | exact okp (c' := 4) (by first | rfl | exact layMod rfl rfl) okB_) rfl ?_; intro _ _)))
      have e1 : σ3.nj = σ.mks q := by
        have h1 := hx1 (by omega)
        rw [hnm2, Nat.add_sub_cancel, hmk2 q (Nat.le_refl _)] at h1
        have h2 := hI3.mle q (by omega)
        rw [hmk2 q (Nat.le_refl _)] at h2
        omega
      refine E_ret rfl rfl rfl ⟨hMu, TS.t (by assumption), _, hV, hI3.setNm (by omega), .inr ⟨rfl, q, rfl, hq, rfl, fun i hi => hmk2 i (by omega), ho2, ?_, fun i hi => at_nm.trans (hat2 i (by omega))⟩⟩
      rw [← hat2 q (Nat.le_refl _)]
      unfold at_
      rw [← e1, Nat.sub_self]
      rfl
    · refine ⟨σ2.nj - 1, by omega, popd σ2 al cl, rfl, hV, hI3, hMu, hS3.t, hnm2, hmk2, ho2, fun i hi => ?_, Has.mk ⟨rfl, rfl, trivial⟩⟩
      rw [at_popd h0 (by rw [← hmk2 i hi]; exact hall i (by omega))]
      exact hat2 i hi
  · exact E_ret rfl rfl rfl ⟨hMu.trans (TS.mu (by assumption) hV.B0), TS.t (by assumption), σ, hV.ext (TS.e (by assumption)), hI, .inl ⟨rfl, rfl⟩⟩
end Go.Proofs.Ygcsam
