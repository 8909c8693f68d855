/-
  ACCT AND SLOT, TOLD BY HOW MUCH THE ARENAS GROW. Own work.
-/
import Derived.Test.YgcsamU7
namespace Go.Proofs.Ygcsam
set_option linter.unusedVariables false
set_option linter.unusedSimpArgs false
set_option maxRecDepth 4000
theorem acctN_ok {B s : Nat} {σ : VS} {w : World} (hT : WT B w) (hV : V B w s σ) (hI : VI σ) {f : Nat → Nat} (hf : ∀ i, f i < 256) : Ret Samg.prog 78 #[.pointer (some ⟨s, 0, none⟩), .agg (ns .u8 20 f)] w (Mt B s w fun v σ' => ∃ (a : Int) (p : Bool), v = .tuple #[.int .i32 a, .bool p] ∧ Sm σ σ' ∧ -1 ≤ a ∧ (p = true → 0 ≤ a ∧ a < σ'.na) ∧ (σ.na < 2560 → p = true) ∧ σ'.na ≤ σ.na + 1 ∧ σ'.ns = σ.ns) := by
  refine W_enter (l := [_, _]) Samg.func78 rfl rfl rfl ?_
  have hS := hV.start hT; have hna := hI.na; have hns := hI.ns; have hnt := hI.nt; have hnj := hI.nj; have hnm := hI.nm; have hnl := hI.nl; have hMu := Mu.refl B w
  repeat' (first
    | (refine L_cons ?_)
    | (refine R_cons rfl ?_)
    | (refine W_seq ?_)
    | (refine W_region (by kernel_rfl) ?_)
    | (refine L_nil ?_)
    | (refine R_nil ?_)
    | (refine W_block ?_)
    | (refine W_skip ?_)
    | (refine W_exit ?_)
    | (refine W_ret ?_)
    | (guard_target =~ thenQ _ _ _ _ _; first | (refine T_next ?_) | (refine T_exit ?_) | (refine T_ret ?_))
    | (guard_target =~ blockQ _ _ _ _ _; first | (refine B_next ?_) | (refine B_same ?_) | (refine B_other (by kernel_rfl) ?_) | (refine B_ret ?_))
    | (refine W_true rfl rfl ?_)
    | (refine W_false rfl rfl ?_)
    | (guard_target =~ WO _ _ (Oper.mk _ (Op.build 148 _) _ _ _ none) _ _ _ _; first | (refine O_bdE (l := [(0, .agg (ns .u8 20 _))]) (by assumption) st148 zc148 rfl ⟨_, _, rfl, rfl, rfl, rfl⟩ ⟨run8_ok (by assumption) rfl, trivial⟩ ?_; intro cs z hcs hz hzz hfl hSb; change cs = fl z [(0, ns .u8 20 _)] at hfl))
    | (guard_target =~ WO _ _ (Oper.mk _ (Op.buildSlice 78 1 _) _ _ _ none) _ _ _ _; first | (refine O_one (v := .agg _) (by assumption) sl78 zc148 (by decide) rfl rfl (TS.okA (t := 148) (by assumption) (by repeat (first | exact List.Mem.head _ | refine List.Mem.tail _ ?_))).1 (TS.okA (t := 148) (by assumption) (by repeat (first | exact List.Mem.head _ | refine List.Mem.tail _ ?_))).2 ?_; intro w2 b2 hE2 hn2 _ hB2 hS2) | (refine O_one (v := .agg _) (by assumption) sl78 zc148 (by decide) rfl rfl (TS.okA (t := 148) (by assumption) (by repeat (first | exact List.Mem.head _ | refine List.Mem.tail _ ?_))).1 (TS.okA (t := 148) (by assumption) (by repeat (first | exact List.Mem.head _ | refine List.Mem.tail _ ?_))).2 ?_; intro _ _ _ _ _ _ _))
    | (guard_target =~ WO _ _ (Oper.mk _ (Op.call (Call.mk (Callee.value (Operand.func 83)) _ _)) _ _ _ none) _ _ _ _; first | (refine O_rd (l := [.pointer (some ⟨s, 0, none⟩), .agg (ns .u8 20 _)]) (by assumption) cl83 rfl (findAcct_ok (TS.t (by assumption)) (hV.ext (TS.e (by assumption))) hI (by assumption)) ?_; rintro _ _ ⟨at_, fr, rfl, hat⟩ _ _))
    | (guard_target =~ WO _ _ (Oper.mk _ (Op.load 78 _) _ _ _ none) _ _ _ _; first | (refine O_ldV (by assumption) on78 rfl hV.acc hV.lt ?_) | (refine O_lds (t' := 148) (by assumption) (by repeat (first | exact List.Mem.head _ | refine List.Mem.tail _ ?_)) on78 rfl (by first | omega | (simp only [csz]; omega)) (by first | rfl | exact layMod rfl rfl) ?_; intro _ _ _ _ _ _))
    | (guard_target =~ WO _ _ (Oper.mk _ (Op.load 79 _) _ _ _ none) _ _ _ _; first | (refine O_ldV (by assumption) on79 rfl hV.slo hV.lt ?_))
    | (guard_target =~ WO _ _ (Oper.mk _ (Op.load 81 _) _ _ _ none) _ _ _ _; first | (refine O_ldV (by assumption) on81 rfl hV.jou hV.lt ?_))
    | (guard_target =~ WO _ _ (Oper.mk _ (Op.load 46 _) _ _ _ none) _ _ _ _; first | (refine O_ldV (by assumption) on46 rfl hV.log hV.lt ?_))
    | (guard_target =~ WO _ _ (Oper.mk _ (Op.load 83 _) _ _ _ none) _ _ _ _; first | (refine O_ldV (by assumption) on83 rfl hV.tem hV.lt ?_))
    | (guard_target =~ WO _ _ (Oper.mk _ (Op.load 84 _) _ _ _ none) _ _ _ _; first | (refine O_ldV (by assumption) on84 rfl hV.tta hV.lt ?_))
    | (guard_target =~ WO _ _ (Oper.mk _ (Op.load 21 _) _ _ _ none) _ _ _ _; first | (refine O_ldV (by assumption) on21 rfl hV.nmk hV.lt ?_))
    | (guard_target =~ WO _ _ (Oper.mk _ (Op.load 27 _) _ _ _ none) _ _ _ _; first | (refine O_ldV (by assumption) on27 rfl hV.rf hV.lt ?_))
    | (guard_target =~ WO _ _ (Oper.mk _ _ _ _ _ (some _)) _ _ _ _; first | (refine G_yes rfl ?_) | (refine G_no rfl ?_))
    | (guard_target =~ WC _ _ (Code.region 7 _ true) _ _ _; first | (refine W_drawnT (id := 7) [7] [0, 1, 2, 3, 4, 5, 6, 7, 8, 9, 10, 11] mixed (by kernel_rfl) (by kernel_rfl) (by assumption) ?_; intro _ _ _))
    | (guard_target =~ WO _ _ (Oper.mk _ (Op.box 24 _) _ _ _ none) _ _ _ _; first | (refine O_bx8 (by assumption) rfl (by assumption) rfl rfl ?_; intro _ _ _ _))
    | (guard_target =~ WO _ _ (Oper.mk _ (Op.assign _) _ _ _ none) _ _ _ _; first | (refine O_assign (v := (.int _ _)) rfl ?_) | (refine O_assign (v := (.bool _)) rfl ?_) | (refine O_assign (v := (.pointer _)) rfl ?_) | (refine O_assign (v := (.slice _ _ _)) rfl ?_) | (refine O_assign (v := (.agg _)) rfl ?_) | (refine O_assign (v := (.tuple _)) rfl ?_))
    | (guard_target =~ WO _ _ (Oper.mk _ (Op.move _) _ _ _ none) _ _ _ _; first | (refine O_move (v := (.int _ _)) rfl ?_) | (refine O_move (v := (.bool _)) rfl ?_) | (refine O_move (v := (.pointer _)) rfl ?_) | (refine O_move (v := (.slice _ _ _)) rfl ?_) | (refine O_move (v := (.agg _)) rfl ?_) | (refine O_move (v := (.tuple _)) rfl ?_))
    | (guard_target =~ WO _ _ (Oper.mk _ (Op.load 24 _) _ _ _ none) _ _ _ _; first | (refine O_ldn8 (by assumption) (by repeat (first | exact List.Mem.head _ | refine List.Mem.tail _ ?_)) ag24 rfl (by first | omega | (simp only [csz]; omega)) (by first | exact layRun0 rfl rfl | exact layRun rfl rfl rfl) ?_; intro _ _))
    | (guard_target =~ WO _ _ (Oper.mk _ (Op.extract _ _) _ _ _ none) _ _ _ _; first | (refine O_extract rfl rfl ?_))
    | (guard_target =~ WO _ _ (Oper.mk _ (Op.binOp BinOp.geq 21 _ _ _) _ _ _ none) _ _ _ _; first | (first | (refine O_geqS rfl rfl (fun h => absurd h (by omega)) ?_; intro _) | (refine O_geqS rfl rfl ?_ (fun h => absurd h (by omega)); intro _) | (refine O_geqS rfl rfl ?_ ?_ <;> intro _)))
    | (guard_target =~ WO _ _ (Oper.mk _ (Op.binOp BinOp.lss 21 _ _ _) _ _ _ none) _ _ _ _; first | (first | (refine O_lssS rfl rfl (fun h => absurd h (by omega)) ?_; intro _) | (refine O_lssS rfl rfl ?_ (fun h => absurd h (by omega)); intro _) | (refine O_lssS rfl rfl ?_ ?_ <;> intro _)))
    | (guard_target =~ WO _ _ (Oper.mk _ (Op.nilCheck _) _ _ _ none) _ _ _ _; first | (refine O_nil rfl ?_))
    | (guard_target =~ WO _ _ (Oper.mk _ (Op.fieldAddr 86 _ 0) _ _ _ none) _ _ _ _; first | (refine O_fdT fd86_0 (by decide) rfl ?_) | (refine O_field fd86_0 (by decide) rfl ?_))
    | (guard_target =~ WO _ _ (Oper.mk _ (Op.call _) _ _ _ none) _ _ _ _; first | (refine O_len Samg.underlying78 rfl rfl ?_))
    | (guard_target =~ WO _ _ (Oper.mk _ (Op.binOp BinOp.geq 3 _ _ _) _ _ _ none) _ _ _ _; first | (first | (refine O_geqS rfl rfl (fun h => absurd h (by omega)) ?_; intro _) | (refine O_geqS rfl rfl ?_ (fun h => absurd h (by omega)); intro _) | (refine O_geqS rfl rfl ?_ ?_ <;> intro _)))
    | (guard_target =~ WO _ _ (Oper.mk _ (Op.pick _ _ _) _ _ _ none) _ _ _ _; first | (refine O_pick_t (v := (.bool _)) rfl rfl ?_) | (refine O_pick_f (v := (.bool _)) rfl rfl ?_))
    | (guard_target =~ WO _ _ (Oper.mk _ (Op.convert 3 21 _) _ _ _ none) _ _ _ _; first | (refine O_convZ Samg.underlying3 Samg.underlying21 rfl (by simp only [rngZ]; omega) ?_) | (refine O_convA Samg.underlying3 Samg.underlying21 rfl rfl ?_; intro _ hr; simp only [rngZ] at hr))
    | (guard_target =~ WO _ _ (Oper.mk _ (Op.build 148 #[(0, _)]) _ _ _ none) _ _ _ _; first | (refine O_bd (l := [(0, .agg (ns .u8 20 _))]) (by assumption) st148 zc148 rfl ⟨_, _, rfl, rfl, rfl, rfl⟩ ⟨run8_ok (by assumption) rfl, trivial⟩ ?_; intro _ _ _))
    | (guard_target =~ WO _ _ (Oper.mk _ (Op.store 78 _ _) _ _ _ none) _ _ _ _; first | (refine O_st (by assumption) (by repeat (first | exact List.Mem.head _ | refine List.Mem.tail _ ?_)) (by omega) on78 rfl rfl (by first | omega | (simp only [csz]; omega)) (okp (c' := 100 + 148) (by first | rfl | exact layMod rfl rfl) (okS (by first | exact Sl.nil _ | exact TS.slN (by assumption) (by repeat (first | exact List.Mem.head _ | refine List.Mem.tail _ ?_))))) rfl ?_; intro _ _))
    | (guard_target =~ WO _ _ (Oper.mk _ (Op.fieldAddr 86 _ 2) _ _ _ none) _ _ _ _; first | (refine O_fdT fd86_2 (by decide) rfl ?_) | (refine O_field fd86_2 (by decide) rfl ?_))
    | (guard_target =~ WO _ _ (Oper.mk _ (Op.indexAddr 80 _ _) _ _ _ none) _ _ _ _; first | (refine O_ixa ar80 rfl rfl (by omega) (by omega) ?_; rintro _ _))
    | (guard_target =~ WO _ _ (Oper.mk _ (Op.store 21 _ _) _ _ _ none) _ _ _ _; first | (refine O_st (by assumption) (by repeat (first | exact List.Mem.head _ | refine List.Mem.tail _ ?_)) (by omega) on21 rfl rfl (by first | omega | (simp only [csz]; omega)) (by first | exact okp (c' := 2) (by first | rfl | exact layMod rfl rfl) (ok64 (by omega)) | exact okp (c' := 1) (by first | rfl | exact layMod rfl rfl) (ok8 (by omega)) | exact okp (c' := 3) (by first | rfl | exact layMod rfl rfl) (ok32 (by omega) (by omega)) | exact okp (c' := 4) (by first | rfl | exact layMod rfl rfl) okB_) rfl ?_; intro _ _)))
  · exact E_ret2 rfl rfl rfl rfl rfl ⟨TS.mu (by assumption) hV.B0, TS.t (by assumption), σ, hV.ext (TS.e (by assumption)), hI, _, _, rfl, Sm.refl σ, by omega, fun _ => (by omega), fun _ => rfl, Nat.le_succ _, rfl⟩
  · exact E_ret2 rfl rfl rfl rfl rfl ⟨TS.mu (by assumption) hV.B0, TS.t (by assumption), σ, hV.ext (TS.e (by assumption)), hI, _, _, rfl, Sm.refl σ, by omega, fun h => (by cases h), fun _ => (by omega), Nat.le_succ _, rfl⟩
  · refine O_appM (by assumption) hV hMu (by repeat (first | exact List.Mem.head _ | refine List.Mem.tail _ ?_)) (by repeat (first | exact List.Mem.head _ | refine List.Mem.tail _ ?_)) rfl rfl rfl sl78 by148 (by decide) zc148 (by decide) rfl rfl (by omega) (by omega) hB2 hcs rfl ?_
    intro w3 b3 cap3 hS3 hMu3 hA3 hV2
    have hV3 := hV2.app hA3 (by decide) (fun _ => ⟨rfl, rfl⟩) (fun h => by cases h) (fun h => by cases h)
    have hnew : ∀ k, k < 4 → cs[21 + k]? = some (.int .u64 0) := by
      intro k hk
      rw [hfl]
      simp only [fl]
      rw [spl_get _ _ _ _ (by rw [hz, Array.length_toList, ns_size]; simp only [csz]; omega), if_neg (by rw [Array.length_toList, ns_size]; omega)]
      obtain ⟨u, e1, e2⟩ := hzz (21 + k) (by simp only [csz]; omega)
      rw [e1]
      have : lay 148 (21 + k) = 2 := by simp only [lay]; rw [if_neg (by omega), if_pos (by omega)]
      rw [this] at e2
      rw [okZ_2 e2]
    have htold : ∀ b, some (⟨b3, 0, none⟩ : Addr) = some ⟨b, 0, none⟩ → ∀ i k, i < σ.na + 1 → k < 4 → w3.cell? ⟨b, i * 29 + (21 + k), none⟩ = some (.int .u64 (σ.bal i k : Int)) := by
      intro b hb i k hi hk
      cases hb
      by_cases hin : i < σ.na
      · exact hA3.told hV2.sA (by simp only [csz]; omega) (fun b0 e => hV2.ba b0 e i k hin hk)
      · have : i = σ.na := by omega
        subst this
        have e1 := hA3.new (21 + k) (by simp only [csz]; omega)
        rw [show csz 148 = 29 from rfl] at e1
        rw [e1]
        show cs[21 + k]? = _
        rw [hnew k hk, hI.zb _ k (Nat.le_refl _)]
        rfl
    repeat' (first
      | (refine L_cons ?_)
      | (refine R_cons rfl ?_)
      | (refine W_seq ?_)
      | (refine W_region (by kernel_rfl) ?_)
      | (refine L_nil ?_)
      | (refine R_nil ?_)
      | (refine W_block ?_)
      | (refine W_skip ?_)
      | (refine W_exit ?_)
      | (refine W_ret ?_)
      | (guard_target =~ thenQ _ _ _ _ _; first | (refine T_next ?_) | (refine T_exit ?_) | (refine T_ret ?_))
      | (guard_target =~ blockQ _ _ _ _ _; first | (refine B_next ?_) | (refine B_same ?_) | (refine B_other (by kernel_rfl) ?_) | (refine B_ret ?_))
      | (refine W_true rfl rfl ?_)
      | (refine W_false rfl rfl ?_)
      | (guard_target =~ WO _ _ (Oper.mk _ (Op.store 78 _ _) _ _ _ none) _ _ _ _; first | (refine O_stM (by assumption) hV3 hMu3 (by repeat (first | exact List.Mem.head _ | refine List.Mem.tail _ ?_)) rfl on78 rfl rfl (by simp only [csz]; omega) (okp (c' := 100 + 148) rfl (okS (TS.slN (by assumption) (by repeat (first | exact List.Mem.head _ | refine List.Mem.tail _ ?_))))) rfl ?_; intro w4 hS4 hMu4 he4 _ hW4; have hV4 := hV3.setAcc hnm hA3.sl htold he4 hW4) | (refine O_st (by assumption) (by repeat (first | exact List.Mem.head _ | refine List.Mem.tail _ ?_)) (by omega) on78 rfl rfl (by first | omega | (simp only [csz]; omega)) (okp (c' := 100 + 148) (by first | rfl | exact layMod rfl rfl) (okS (by first | exact Sl.nil _ | exact TS.slN (by assumption) (by repeat (first | exact List.Mem.head _ | refine List.Mem.tail _ ?_))))) rfl ?_; intro _ _))
      | (guard_target =~ WO _ _ (Oper.mk _ (Op.indexAddr 80 _ _) _ _ _ none) _ _ _ _; first | (refine O_ixa ar80 rfl rfl (by omega) (by omega) ?_; rintro p hp) | (refine O_ixa ar80 rfl rfl (by omega) (by omega) ?_; rintro _ _))
      | (guard_target =~ WO _ _ (Oper.mk _ (Op.store 21 _ _) _ _ _ none) _ _ _ _; first | (refine O_stM (by assumption) hV4 hMu4 (by repeat (first | exact List.Mem.head _ | refine List.Mem.tail _ ?_)) rfl on21 rfl rfl (by simp only [csz]; omega) (okp (c' := 3) (lay86 (by omega) (by omega)) (ok32 (by omega) (by omega))) rfl ?_; intro w5 hS5 hMu5 he5 _ hW5; have hV5 := hV4.setAta hnm (by omega) he5 hW5) | (refine O_st (by assumption) (by repeat (first | exact List.Mem.head _ | refine List.Mem.tail _ ?_)) (by omega) on21 rfl rfl (by first | omega | (simp only [csz]; omega)) (by first | exact okp (c' := 2) (by first | rfl | exact layMod rfl rfl) (ok64 (by omega)) | exact okp (c' := 1) (by first | rfl | exact layMod rfl rfl) (ok8 (by omega)) | exact okp (c' := 3) (by first | rfl | exact layMod rfl rfl) (ok32 (by omega) (by omega)) | exact okp (c' := 4) (by first | rfl | exact layMod rfl rfl) okB_) rfl ?_; intro _ _))
      | (guard_target =~ WO _ _ (Oper.mk _ (Op.load 78 _) _ _ _ none) _ _ _ _; first | (refine O_ldV (by assumption) on78 rfl hV.acc hV.lt ?_) | (refine O_lds (t' := 148) (by assumption) (by repeat (first | exact List.Mem.head _ | refine List.Mem.tail _ ?_)) on78 rfl (by first | omega | (simp only [csz]; omega)) (by first | rfl | exact layMod rfl rfl) ?_; intro _ _ _ _ _ _))
      | (guard_target =~ WO _ _ (Oper.mk _ (Op.load 79 _) _ _ _ none) _ _ _ _; first | (refine O_ldV (by assumption) on79 rfl hV.slo hV.lt ?_))
      | (guard_target =~ WO _ _ (Oper.mk _ (Op.load 81 _) _ _ _ none) _ _ _ _; first | (refine O_ldV (by assumption) on81 rfl hV.jou hV.lt ?_))
      | (guard_target =~ WO _ _ (Oper.mk _ (Op.load 46 _) _ _ _ none) _ _ _ _; first | (refine O_ldV (by assumption) on46 rfl hV.log hV.lt ?_))
      | (guard_target =~ WO _ _ (Oper.mk _ (Op.load 83 _) _ _ _ none) _ _ _ _; first | (refine O_ldV (by assumption) on83 rfl hV.tem hV.lt ?_))
      | (guard_target =~ WO _ _ (Oper.mk _ (Op.load 84 _) _ _ _ none) _ _ _ _; first | (refine O_ldV (by assumption) on84 rfl hV.tta hV.lt ?_))
      | (guard_target =~ WO _ _ (Oper.mk _ (Op.load 21 _) _ _ _ none) _ _ _ _; first | (refine O_ldV (by assumption) on21 rfl hV.nmk hV.lt ?_))
      | (guard_target =~ WO _ _ (Oper.mk _ (Op.load 27 _) _ _ _ none) _ _ _ _; first | (refine O_ldV (by assumption) on27 rfl hV.rf hV.lt ?_))
      | (guard_target =~ WO _ _ (Oper.mk _ _ _ _ _ (some _)) _ _ _ _; first | (refine G_yes rfl ?_) | (refine G_no rfl ?_))
      | (guard_target =~ WC _ _ (Code.region 7 _ true) _ _ _; first | (refine W_drawnT (id := 7) [7] [0, 1, 2, 3, 4, 5, 6, 7, 8, 9, 10, 11] mixed (by kernel_rfl) (by kernel_rfl) (by assumption) ?_; intro _ _ _))
      | (guard_target =~ WO _ _ (Oper.mk _ (Op.box 24 _) _ _ _ none) _ _ _ _; first | (refine O_bx8 (by assumption) rfl (by assumption) rfl rfl ?_; intro _ _ _ _))
      | (guard_target =~ WO _ _ (Oper.mk _ (Op.assign _) _ _ _ none) _ _ _ _; first | (refine O_assign (v := (.int _ _)) rfl ?_) | (refine O_assign (v := (.bool _)) rfl ?_) | (refine O_assign (v := (.pointer _)) rfl ?_) | (refine O_assign (v := (.slice _ _ _)) rfl ?_) | (refine O_assign (v := (.agg _)) rfl ?_) | (refine O_assign (v := (.tuple _)) rfl ?_))
      | (guard_target =~ WO _ _ (Oper.mk _ (Op.move _) _ _ _ none) _ _ _ _; first | (refine O_move (v := (.int _ _)) rfl ?_) | (refine O_move (v := (.bool _)) rfl ?_) | (refine O_move (v := (.pointer _)) rfl ?_) | (refine O_move (v := (.slice _ _ _)) rfl ?_) | (refine O_move (v := (.agg _)) rfl ?_) | (refine O_move (v := (.tuple _)) rfl ?_))
      | (guard_target =~ WO _ _ (Oper.mk _ (Op.load 24 _) _ _ _ none) _ _ _ _; first | (refine O_ldn8 (by assumption) (by repeat (first | exact List.Mem.head _ | refine List.Mem.tail _ ?_)) ag24 rfl (by first | omega | (simp only [csz]; omega)) (by first | exact layRun0 rfl rfl | exact layRun rfl rfl rfl) ?_; intro _ _))
      | (guard_target =~ WO _ _ (Oper.mk _ (Op.extract _ _) _ _ _ none) _ _ _ _; first | (refine O_extract rfl rfl ?_))
      | (guard_target =~ WO _ _ (Oper.mk _ (Op.binOp BinOp.geq 21 _ _ _) _ _ _ none) _ _ _ _; first | (first | (refine O_geqS rfl rfl (fun h => absurd h (by omega)) ?_; intro _) | (refine O_geqS rfl rfl ?_ (fun h => absurd h (by omega)); intro _) | (refine O_geqS rfl rfl ?_ ?_ <;> intro _)))
      | (guard_target =~ WO _ _ (Oper.mk _ (Op.binOp BinOp.lss 21 _ _ _) _ _ _ none) _ _ _ _; first | (first | (refine O_lssS rfl rfl (fun h => absurd h (by omega)) ?_; intro _) | (refine O_lssS rfl rfl ?_ (fun h => absurd h (by omega)); intro _) | (refine O_lssS rfl rfl ?_ ?_ <;> intro _)))
      | (guard_target =~ WO _ _ (Oper.mk _ (Op.nilCheck _) _ _ _ none) _ _ _ _; first | (refine O_nil rfl ?_))
      | (guard_target =~ WO _ _ (Oper.mk _ (Op.fieldAddr 86 _ 0) _ _ _ none) _ _ _ _; first | (refine O_fdT fd86_0 (by decide) rfl ?_) | (refine O_field fd86_0 (by decide) rfl ?_))
      | (guard_target =~ WO _ _ (Oper.mk _ (Op.call _) _ _ _ none) _ _ _ _; first | (refine O_len Samg.underlying78 rfl rfl ?_))
      | (guard_target =~ WO _ _ (Oper.mk _ (Op.binOp BinOp.geq 3 _ _ _) _ _ _ none) _ _ _ _; first | (first | (refine O_geqS rfl rfl (fun h => absurd h (by omega)) ?_; intro _) | (refine O_geqS rfl rfl ?_ (fun h => absurd h (by omega)); intro _) | (refine O_geqS rfl rfl ?_ ?_ <;> intro _)))
      | (guard_target =~ WO _ _ (Oper.mk _ (Op.pick _ _ _) _ _ _ none) _ _ _ _; first | (refine O_pick_t (v := (.bool _)) rfl rfl ?_) | (refine O_pick_f (v := (.bool _)) rfl rfl ?_))
      | (guard_target =~ WO _ _ (Oper.mk _ (Op.convert 3 21 _) _ _ _ none) _ _ _ _; first | (refine O_convZ Samg.underlying3 Samg.underlying21 rfl (by simp only [rngZ]; omega) ?_) | (refine O_convA Samg.underlying3 Samg.underlying21 rfl rfl ?_; intro _ hr; simp only [rngZ] at hr))
      | (guard_target =~ WO _ _ (Oper.mk _ (Op.build 148 #[(0, _)]) _ _ _ none) _ _ _ _; first | (refine O_bd (l := [(0, .agg (ns .u8 20 _))]) (by assumption) st148 zc148 rfl ⟨_, _, rfl, rfl, rfl, rfl⟩ ⟨run8_ok (by assumption) rfl, trivial⟩ ?_; intro _ _ _))
      | (guard_target =~ WO _ _ (Oper.mk _ (Op.buildSlice 78 1 _) _ _ _ none) _ _ _ _; first | (refine O_one (v := .agg _) (by assumption) sl78 zc148 (by decide) rfl rfl (TS.okA (t := 148) (by assumption) (by repeat (first | exact List.Mem.head _ | refine List.Mem.tail _ ?_))).1 (TS.okA (t := 148) (by assumption) (by repeat (first | exact List.Mem.head _ | refine List.Mem.tail _ ?_))).2 ?_; intro _ _ _ _ _ _ _))
      | (guard_target =~ WO _ _ (Oper.mk _ (Op.fieldAddr 86 _ 2) _ _ _ none) _ _ _ _; first | (refine O_fdT fd86_2 (by decide) rfl ?_) | (refine O_field fd86_2 (by decide) rfl ?_)))
    have hp2 : fr.toNat = p := by omega
    rw [hp2] at hat
    exact E_ret2 rfl rfl rfl rfl rfl ⟨hMu5, hS5.t, _, hV5, hI.growA (by omega) (by omega), _, _, rfl, ⟨Nat.le_succ _, Nat.le_refl _, Nat.le_refl _, rfl, rfl, rfl, rfl, rfl, rfl, rfl, rfl, rfl, rfl, rfl, rfl⟩, by omega, fun _ => ⟨by omega, by show (σ.na : Int) < ((σ.na + 1 : Nat) : Int); omega⟩, fun _ => rfl, Nat.le_refl _, rfl⟩
theorem slotN_ok {B s : Nat} {σ : VS} {w : World} (hT : WT B w) (hV : V B w s σ) (hI : VI σ) {z0 : Int} {f : Nat → Nat} (hz0 : -2147483648 ≤ z0 ∧ z0 < 2147483648) (hf : ∀ i, f i < 18446744073709551616) : Ret Samg.prog 80 #[.pointer (some ⟨s, 0, none⟩), .int .i32 z0, .agg (ns .u64 4 f)] w (Mt B s w fun v σ' => ∃ (a : Int) (p : Bool), v = .tuple #[.int .i32 a, .bool p] ∧ Sm σ σ' ∧ -1 ≤ a ∧ (p = true → 0 ≤ a ∧ a < σ'.ns) ∧ (σ.ns < 2560 → p = true) ∧ σ'.ns ≤ σ.ns + 1 ∧ σ'.na = σ.na) := by
  refine W_enter (l := [_, _, _]) Samg.func80 rfl rfl rfl ?_
  have hS := hV.start hT; have hna := hI.na; have hns := hI.ns; have hnt := hI.nt; have hnj := hI.nj; have hnm := hI.nm; have hnl := hI.nl; have hMu := Mu.refl B w
  repeat' (first
    | (refine L_cons ?_)
    | (refine R_cons rfl ?_)
    | (refine W_seq ?_)
    | (refine W_region (by kernel_rfl) ?_)
    | (refine L_nil ?_)
    | (refine R_nil ?_)
    | (refine W_block ?_)
    | (refine W_skip ?_)
    | (refine W_exit ?_)
    | (refine W_ret ?_)
    | (guard_target =~ thenQ _ _ _ _ _; first | (refine T_next ?_) | (refine T_exit ?_) | (refine T_ret ?_))
    | (guard_target =~ blockQ _ _ _ _ _; first | (refine B_next ?_) | (refine B_same ?_) | (refine B_other (by kernel_rfl) ?_) | (refine B_ret ?_))
    | (refine W_true rfl rfl ?_)
    | (refine W_false rfl rfl ?_)
    | (guard_target =~ WO _ _ (Oper.mk _ (Op.build 153 _) _ _ _ none) _ _ _ _; first | (refine O_bdE (l := [(0, .int .i32 _), (1, .agg (ns .u64 4 _))]) (by assumption) st153 zc153 rfl ⟨_, _, rfl, rfl, rfl, ⟨_, _, rfl, rfl, rfl, rfl⟩⟩ ⟨one_ok (c' := 3) rfl (ok32 (by omega) (by omega)), ⟨run64_ok (by assumption) rfl, trivial⟩⟩ ?_; intro cs z hcs hz hzz hfl hSb; change cs = fl z [(0, #[.int .i32 _]), (1, ns .u64 4 _)] at hfl))
    | (guard_target =~ WO _ _ (Oper.mk _ (Op.buildSlice 79 1 _) _ _ _ none) _ _ _ _; first | (refine O_one (v := .agg _) (by assumption) sl79 zc153 (by decide) rfl rfl (TS.okA (t := 153) (by assumption) (by repeat (first | exact List.Mem.head _ | refine List.Mem.tail _ ?_))).1 (TS.okA (t := 153) (by assumption) (by repeat (first | exact List.Mem.head _ | refine List.Mem.tail _ ?_))).2 ?_; intro w2 b2 hE2 hn2 _ hB2 hS2) | (refine O_one (v := .agg _) (by assumption) sl79 zc153 (by decide) rfl rfl (TS.okA (t := 153) (by assumption) (by repeat (first | exact List.Mem.head _ | refine List.Mem.tail _ ?_))).1 (TS.okA (t := 153) (by assumption) (by repeat (first | exact List.Mem.head _ | refine List.Mem.tail _ ?_))).2 ?_; intro _ _ _ _ _ _ _))
    | (guard_target =~ WO _ _ (Oper.mk _ (Op.call (Call.mk (Callee.value (Operand.func 114)) _ _)) _ _ _ none) _ _ _ _; first | (refine O_rd (l := [.pointer (some ⟨s, 0, none⟩), .int .i32 _, .agg (ns .u64 4 _)]) (by assumption) cl114 rfl (findSlot_ok (TS.t (by assumption)) (hV.ext (TS.e (by assumption))) hI (by assumption)) ?_; rintro _ _ ⟨at_, fr, rfl, hat⟩ _ _))
    | (guard_target =~ WO _ _ (Oper.mk _ (Op.load 78 _) _ _ _ none) _ _ _ _; first | (refine O_ldV (by assumption) on78 rfl hV.acc hV.lt ?_))
    | (guard_target =~ WO _ _ (Oper.mk _ (Op.load 79 _) _ _ _ none) _ _ _ _; first | (refine O_ldV (by assumption) on79 rfl hV.slo hV.lt ?_) | (refine O_lds (t' := 153) (by assumption) (by repeat (first | exact List.Mem.head _ | refine List.Mem.tail _ ?_)) on79 rfl (by first | omega | (simp only [csz]; omega)) (by first | rfl | exact layMod rfl rfl) ?_; intro _ _ _ _ _ _))
    | (guard_target =~ WO _ _ (Oper.mk _ (Op.load 81 _) _ _ _ none) _ _ _ _; first | (refine O_ldV (by assumption) on81 rfl hV.jou hV.lt ?_))
    | (guard_target =~ WO _ _ (Oper.mk _ (Op.load 46 _) _ _ _ none) _ _ _ _; first | (refine O_ldV (by assumption) on46 rfl hV.log hV.lt ?_))
    | (guard_target =~ WO _ _ (Oper.mk _ (Op.load 83 _) _ _ _ none) _ _ _ _; first | (refine O_ldV (by assumption) on83 rfl hV.tem hV.lt ?_))
    | (guard_target =~ WO _ _ (Oper.mk _ (Op.load 84 _) _ _ _ none) _ _ _ _; first | (refine O_ldV (by assumption) on84 rfl hV.tta hV.lt ?_))
    | (guard_target =~ WO _ _ (Oper.mk _ (Op.load 21 _) _ _ _ none) _ _ _ _; first | (refine O_ldV (by assumption) on21 rfl hV.nmk hV.lt ?_))
    | (guard_target =~ WO _ _ (Oper.mk _ (Op.load 27 _) _ _ _ none) _ _ _ _; first | (refine O_ldV (by assumption) on27 rfl hV.rf hV.lt ?_))
    | (guard_target =~ WO _ _ (Oper.mk _ _ _ _ _ (some _)) _ _ _ _; first | (refine G_yes rfl ?_) | (refine G_no rfl ?_))
    | (guard_target =~ WC _ _ (Code.region 7 _ true) _ _ _; first | (refine W_drawnT (id := 7) [8] [0, 1, 2, 3, 4, 5, 6, 7, 8, 9, 10, 11, 12] mixed (by kernel_rfl) (by kernel_rfl) (by assumption) ?_; intro _ _ _))
    | (guard_target =~ WO _ _ (Oper.mk _ (Op.box 45 _) _ _ _ none) _ _ _ _; first | (refine O_bx64 (by assumption) rfl (by assumption) rfl rfl ?_; intro _ _ _ _))
    | (guard_target =~ WO _ _ (Oper.mk _ (Op.assign _) _ _ _ none) _ _ _ _; first | (refine O_assign (v := (.int _ _)) rfl ?_) | (refine O_assign (v := (.bool _)) rfl ?_) | (refine O_assign (v := (.pointer _)) rfl ?_) | (refine O_assign (v := (.slice _ _ _)) rfl ?_) | (refine O_assign (v := (.agg _)) rfl ?_) | (refine O_assign (v := (.tuple _)) rfl ?_))
    | (guard_target =~ WO _ _ (Oper.mk _ (Op.move _) _ _ _ none) _ _ _ _; first | (refine O_move (v := (.int _ _)) rfl ?_) | (refine O_move (v := (.bool _)) rfl ?_) | (refine O_move (v := (.pointer _)) rfl ?_) | (refine O_move (v := (.slice _ _ _)) rfl ?_) | (refine O_move (v := (.agg _)) rfl ?_) | (refine O_move (v := (.tuple _)) rfl ?_))
    | (guard_target =~ WO _ _ (Oper.mk _ (Op.load 45 _) _ _ _ none) _ _ _ _; first | (refine O_ldn64 (by assumption) (by repeat (first | exact List.Mem.head _ | refine List.Mem.tail _ ?_)) ag45 rfl (by first | omega | (simp only [csz]; omega)) (by first | exact layRun0 rfl rfl | exact layRun rfl rfl rfl) ?_; intro _ _))
    | (guard_target =~ WO _ _ (Oper.mk _ (Op.extract _ _) _ _ _ none) _ _ _ _; first | (refine O_extract rfl rfl ?_))
    | (guard_target =~ WO _ _ (Oper.mk _ (Op.binOp BinOp.geq 21 _ _ _) _ _ _ none) _ _ _ _; first | (first | (refine O_geqS rfl rfl (fun h => absurd h (by omega)) ?_; intro _) | (refine O_geqS rfl rfl ?_ (fun h => absurd h (by omega)); intro _) | (refine O_geqS rfl rfl ?_ ?_ <;> intro _)))
    | (guard_target =~ WO _ _ (Oper.mk _ (Op.binOp BinOp.lss 21 _ _ _) _ _ _ none) _ _ _ _; first | (first | (refine O_lssS rfl rfl (fun h => absurd h (by omega)) ?_; intro _) | (refine O_lssS rfl rfl ?_ (fun h => absurd h (by omega)); intro _) | (refine O_lssS rfl rfl ?_ ?_ <;> intro _)))
    | (guard_target =~ WO _ _ (Oper.mk _ (Op.nilCheck _) _ _ _ none) _ _ _ _; first | (refine O_nil rfl ?_))
    | (guard_target =~ WO _ _ (Oper.mk _ (Op.fieldAddr 86 _ 1) _ _ _ none) _ _ _ _; first | (refine O_fdT fd86_1 (by decide) rfl ?_) | (refine O_field fd86_1 (by decide) rfl ?_))
    | (guard_target =~ WO _ _ (Oper.mk _ (Op.call _) _ _ _ none) _ _ _ _; first | (refine O_len Samg.underlying79 rfl rfl ?_))
    | (guard_target =~ WO _ _ (Oper.mk _ (Op.binOp BinOp.geq 3 _ _ _) _ _ _ none) _ _ _ _; first | (first | (refine O_geqS rfl rfl (fun h => absurd h (by omega)) ?_; intro _) | (refine O_geqS rfl rfl ?_ (fun h => absurd h (by omega)); intro _) | (refine O_geqS rfl rfl ?_ ?_ <;> intro _)))
    | (guard_target =~ WO _ _ (Oper.mk _ (Op.pick _ _ _) _ _ _ none) _ _ _ _; first | (refine O_pick_t (v := (.bool _)) rfl rfl ?_) | (refine O_pick_f (v := (.bool _)) rfl rfl ?_))
    | (guard_target =~ WO _ _ (Oper.mk _ (Op.convert 3 21 _) _ _ _ none) _ _ _ _; first | (refine O_convZ Samg.underlying3 Samg.underlying21 rfl (by simp only [rngZ]; omega) ?_) | (refine O_convA Samg.underlying3 Samg.underlying21 rfl rfl ?_; intro _ hr; simp only [rngZ] at hr))
    | (guard_target =~ WO _ _ (Oper.mk _ (Op.build 153 #[(0, _), (1, _)]) _ _ _ none) _ _ _ _; first | (refine O_bd (l := [(0, .int .i32 _), (1, .agg (ns .u64 4 _))]) (by assumption) st153 zc153 rfl ⟨_, _, rfl, rfl, rfl, ⟨_, _, rfl, rfl, rfl, rfl⟩⟩ ⟨one_ok (c' := 3) rfl (ok32 (by omega) (by omega)), ⟨run64_ok (by assumption) rfl, trivial⟩⟩ ?_; intro _ _ _))
    | (guard_target =~ WO _ _ (Oper.mk _ (Op.store 79 _ _) _ _ _ none) _ _ _ _; first | (refine O_st (by assumption) (by repeat (first | exact List.Mem.head _ | refine List.Mem.tail _ ?_)) (by omega) on79 rfl rfl (by first | omega | (simp only [csz]; omega)) (okp (c' := 100 + 153) (by first | rfl | exact layMod rfl rfl) (okS (by first | exact Sl.nil _ | exact TS.slN (by assumption) (by repeat (first | exact List.Mem.head _ | refine List.Mem.tail _ ?_))))) rfl ?_; intro _ _))
    | (guard_target =~ WO _ _ (Oper.mk _ (Op.fieldAddr 86 _ 3) _ _ _ none) _ _ _ _; first | (refine O_fdT fd86_3 (by decide) rfl ?_) | (refine O_field fd86_3 (by decide) rfl ?_))
    | (guard_target =~ WO _ _ (Oper.mk _ (Op.indexAddr 80 _ _) _ _ _ none) _ _ _ _; first | (refine O_ixa ar80 rfl rfl (by omega) (by omega) ?_; rintro _ _))
    | (guard_target =~ WO _ _ (Oper.mk _ (Op.store 21 _ _) _ _ _ none) _ _ _ _; first | (refine O_st (by assumption) (by repeat (first | exact List.Mem.head _ | refine List.Mem.tail _ ?_)) (by omega) on21 rfl rfl (by first | omega | (simp only [csz]; omega)) (by first | exact okp (c' := 2) (by first | rfl | exact layMod rfl rfl) (ok64 (by omega)) | exact okp (c' := 1) (by first | rfl | exact layMod rfl rfl) (ok8 (by omega)) | exact okp (c' := 3) (by first | rfl | exact layMod rfl rfl) (ok32 (by omega) (by omega)) | exact okp (c' := 4) (by first | rfl | exact layMod rfl rfl) okB_) rfl ?_; intro _ _)))
  · exact E_ret2 rfl rfl rfl rfl rfl ⟨TS.mu (by assumption) hV.B0, TS.t (by assumption), σ, hV.ext (TS.e (by assumption)), hI, _, _, rfl, Sm.refl σ, by omega, fun _ => (by omega), fun _ => rfl, Nat.le_succ _, rfl⟩
  · exact E_ret2 rfl rfl rfl rfl rfl ⟨TS.mu (by assumption) hV.B0, TS.t (by assumption), σ, hV.ext (TS.e (by assumption)), hI, _, _, rfl, Sm.refl σ, by omega, fun h => (by cases h), fun _ => (by omega), Nat.le_succ _, rfl⟩
  · refine O_appM (by assumption) hV hMu (by repeat (first | exact List.Mem.head _ | refine List.Mem.tail _ ?_)) (by repeat (first | exact List.Mem.head _ | refine List.Mem.tail _ ?_)) rfl rfl rfl sl79 by153 (by decide) zc153 (by decide) rfl rfl (by omega) (by omega) hB2 hcs rfl ?_
    intro w3 b3 cap3 hS3 hMu3 hA3 hV2
    have hV3 := hV2.app hA3 (by decide) (fun h => by cases h) (fun _ => ⟨rfl, rfl⟩) (fun h => by cases h)
    have hnew : ∀ k, k < 8 → cs[5 + k]? = some (.int .u64 0) := by
      intro k hk
      rw [hfl]
      simp only [fl]
      rw [spl_get _ _ _ _ (by rw [spl_size, hz, Array.length_toList, ns_size]; simp only [csz]; omega), if_neg (by rw [Array.length_toList, ns_size]; omega), spl_get _ _ _ _ (by rw [hz]; simp only [csz]; simp), if_neg (by simp)]
      obtain ⟨u, e1, e2⟩ := hzz (5 + k) (by simp only [csz]; omega)
      rw [e1]
      have : lay 153 (5 + k) = 2 := by simp only [lay]; rw [if_neg (by omega), if_pos (by omega)]
      rw [this] at e2
      rw [okZ_2 e2]
    have ht1 : ∀ b, some (⟨b3, 0, none⟩ : Addr) = some ⟨b, 0, none⟩ → ∀ i k, i < σ.ns + 1 → k < 4 → w3.cell? ⟨b, i * 14 + (5 + k), none⟩ = some (.int .u64 (σ.val i k : Int)) := by
      intro b hb i k hi hk
      cases hb
      by_cases hin : i < σ.ns
      · exact hA3.told hV2.sS (by simp only [csz]; omega) (fun b0 e => hV2.va b0 e i k hin hk)
      · have : i = σ.ns := by omega
        subst this
        have e1 := hA3.new (5 + k) (by simp only [csz]; omega)
        rw [show csz 153 = 14 from rfl] at e1
        rw [e1]
        show cs[5 + k]? = _
        rw [hnew k (by omega), hI.zv _ k (Nat.le_refl _)]
        rfl
    have ht2 : ∀ b, some (⟨b3, 0, none⟩ : Addr) = some ⟨b, 0, none⟩ → ∀ i k, i < σ.ns + 1 → k < 4 → w3.cell? ⟨b, i * 14 + (9 + k), none⟩ = some (.int .u64 (σ.orig i k : Int)) := by
      intro b hb i k hi hk
      cases hb
      by_cases hin : i < σ.ns
      · exact hA3.told hV2.sS (by simp only [csz]; omega) (fun b0 e => hV2.og b0 e i k hin hk)
      · have : i = σ.ns := by omega
        subst this
        have e1 := hA3.new (9 + k) (by simp only [csz]; omega)
        rw [show csz 153 = 14 from rfl] at e1
        rw [e1]
        show cs[9 + k]? = _
        rw [show 9 + k = 5 + (4 + k) by omega, hnew (4 + k) (by omega), hI.zo _ k (Nat.le_refl _)]
        rfl
    repeat' (first
      | (refine L_cons ?_)
      | (refine R_cons rfl ?_)
      | (refine W_seq ?_)
      | (refine W_region (by kernel_rfl) ?_)
      | (refine L_nil ?_)
      | (refine R_nil ?_)
      | (refine W_block ?_)
      | (refine W_skip ?_)
      | (refine W_exit ?_)
      | (refine W_ret ?_)
      | (guard_target =~ thenQ _ _ _ _ _; first | (refine T_next ?_) | (refine T_exit ?_) | (refine T_ret ?_))
      | (guard_target =~ blockQ _ _ _ _ _; first | (refine B_next ?_) | (refine B_same ?_) | (refine B_other (by kernel_rfl) ?_) | (refine B_ret ?_))
      | (refine W_true rfl rfl ?_)
      | (refine W_false rfl rfl ?_)
      | (guard_target =~ WO _ _ (Oper.mk _ (Op.store 79 _ _) _ _ _ none) _ _ _ _; first | (refine O_stM (by assumption) hV3 hMu3 (by repeat (first | exact List.Mem.head _ | refine List.Mem.tail _ ?_)) rfl on79 rfl rfl (by simp only [csz]; omega) (okp (c' := 100 + 153) rfl (okS (TS.slN (by assumption) (by repeat (first | exact List.Mem.head _ | refine List.Mem.tail _ ?_))))) rfl ?_; intro w4 hS4 hMu4 he4 _ hW4; have hV4 := hV3.setSlo hnm hA3.sl ht1 ht2 he4 hW4) | (refine O_st (by assumption) (by repeat (first | exact List.Mem.head _ | refine List.Mem.tail _ ?_)) (by omega) on79 rfl rfl (by first | omega | (simp only [csz]; omega)) (okp (c' := 100 + 153) (by first | rfl | exact layMod rfl rfl) (okS (by first | exact Sl.nil _ | exact TS.slN (by assumption) (by repeat (first | exact List.Mem.head _ | refine List.Mem.tail _ ?_))))) rfl ?_; intro _ _))
      | (guard_target =~ WO _ _ (Oper.mk _ (Op.indexAddr 80 _ _) _ _ _ none) _ _ _ _; first | (refine O_ixa ar80 rfl rfl (by omega) (by omega) ?_; rintro p hp) | (refine O_ixa ar80 rfl rfl (by omega) (by omega) ?_; rintro _ _))
      | (guard_target =~ WO _ _ (Oper.mk _ (Op.store 21 _ _) _ _ _ none) _ _ _ _; first | (refine O_stM (by assumption) hV4 hMu4 (by repeat (first | exact List.Mem.head _ | refine List.Mem.tail _ ?_)) rfl on21 rfl rfl (by simp only [csz]; omega) (okp (c' := 3) (lay86 (by omega) (by omega)) (ok32 (by omega) (by omega))) rfl ?_; intro w5 hS5 hMu5 he5 _ hW5; have hV5 := hV4.setSta hnm (by omega) he5 hW5) | (refine O_st (by assumption) (by repeat (first | exact List.Mem.head _ | refine List.Mem.tail _ ?_)) (by omega) on21 rfl rfl (by first | omega | (simp only [csz]; omega)) (by first | exact okp (c' := 2) (by first | rfl | exact layMod rfl rfl) (ok64 (by omega)) | exact okp (c' := 1) (by first | rfl | exact layMod rfl rfl) (ok8 (by omega)) | exact okp (c' := 3) (by first | rfl | exact layMod rfl rfl) (ok32 (by omega) (by omega)) | exact okp (c' := 4) (by first | rfl | exact layMod rfl rfl) okB_) rfl ?_; intro _ _))
      | (guard_target =~ WO _ _ (Oper.mk _ (Op.load 78 _) _ _ _ none) _ _ _ _; first | (refine O_ldV (by assumption) on78 rfl hV.acc hV.lt ?_))
      | (guard_target =~ WO _ _ (Oper.mk _ (Op.load 79 _) _ _ _ none) _ _ _ _; first | (refine O_ldV (by assumption) on79 rfl hV.slo hV.lt ?_) | (refine O_lds (t' := 153) (by assumption) (by repeat (first | exact List.Mem.head _ | refine List.Mem.tail _ ?_)) on79 rfl (by first | omega | (simp only [csz]; omega)) (by first | rfl | exact layMod rfl rfl) ?_; intro _ _ _ _ _ _))
      | (guard_target =~ WO _ _ (Oper.mk _ (Op.load 81 _) _ _ _ none) _ _ _ _; first | (refine O_ldV (by assumption) on81 rfl hV.jou hV.lt ?_))
      | (guard_target =~ WO _ _ (Oper.mk _ (Op.load 46 _) _ _ _ none) _ _ _ _; first | (refine O_ldV (by assumption) on46 rfl hV.log hV.lt ?_))
      | (guard_target =~ WO _ _ (Oper.mk _ (Op.load 83 _) _ _ _ none) _ _ _ _; first | (refine O_ldV (by assumption) on83 rfl hV.tem hV.lt ?_))
      | (guard_target =~ WO _ _ (Oper.mk _ (Op.load 84 _) _ _ _ none) _ _ _ _; first | (refine O_ldV (by assumption) on84 rfl hV.tta hV.lt ?_))
      | (guard_target =~ WO _ _ (Oper.mk _ (Op.load 21 _) _ _ _ none) _ _ _ _; first | (refine O_ldV (by assumption) on21 rfl hV.nmk hV.lt ?_))
      | (guard_target =~ WO _ _ (Oper.mk _ (Op.load 27 _) _ _ _ none) _ _ _ _; first | (refine O_ldV (by assumption) on27 rfl hV.rf hV.lt ?_))
      | (guard_target =~ WO _ _ (Oper.mk _ _ _ _ _ (some _)) _ _ _ _; first | (refine G_yes rfl ?_) | (refine G_no rfl ?_))
      | (guard_target =~ WC _ _ (Code.region 7 _ true) _ _ _; first | (refine W_drawnT (id := 7) [8] [0, 1, 2, 3, 4, 5, 6, 7, 8, 9, 10, 11, 12] mixed (by kernel_rfl) (by kernel_rfl) (by assumption) ?_; intro _ _ _))
      | (guard_target =~ WO _ _ (Oper.mk _ (Op.box 45 _) _ _ _ none) _ _ _ _; first | (refine O_bx64 (by assumption) rfl (by assumption) rfl rfl ?_; intro _ _ _ _))
      | (guard_target =~ WO _ _ (Oper.mk _ (Op.assign _) _ _ _ none) _ _ _ _; first | (refine O_assign (v := (.int _ _)) rfl ?_) | (refine O_assign (v := (.bool _)) rfl ?_) | (refine O_assign (v := (.pointer _)) rfl ?_) | (refine O_assign (v := (.slice _ _ _)) rfl ?_) | (refine O_assign (v := (.agg _)) rfl ?_) | (refine O_assign (v := (.tuple _)) rfl ?_))
      | (guard_target =~ WO _ _ (Oper.mk _ (Op.move _) _ _ _ none) _ _ _ _; first | (refine O_move (v := (.int _ _)) rfl ?_) | (refine O_move (v := (.bool _)) rfl ?_) | (refine O_move (v := (.pointer _)) rfl ?_) | (refine O_move (v := (.slice _ _ _)) rfl ?_) | (refine O_move (v := (.agg _)) rfl ?_) | (refine O_move (v := (.tuple _)) rfl ?_))
      | (guard_target =~ WO _ _ (Oper.mk _ (Op.load 45 _) _ _ _ none) _ _ _ _; first | (refine O_ldn64 (by assumption) (by repeat (first | exact List.Mem.head _ | refine List.Mem.tail _ ?_)) ag45 rfl (by first | omega | (simp only [csz]; omega)) (by first | exact layRun0 rfl rfl | exact layRun rfl rfl rfl) ?_; intro _ _))
      | (guard_target =~ WO _ _ (Oper.mk _ (Op.extract _ _) _ _ _ none) _ _ _ _; first | (refine O_extract rfl rfl ?_))
      | (guard_target =~ WO _ _ (Oper.mk _ (Op.binOp BinOp.geq 21 _ _ _) _ _ _ none) _ _ _ _; first | (first | (refine O_geqS rfl rfl (fun h => absurd h (by omega)) ?_; intro _) | (refine O_geqS rfl rfl ?_ (fun h => absurd h (by omega)); intro _) | (refine O_geqS rfl rfl ?_ ?_ <;> intro _)))
      | (guard_target =~ WO _ _ (Oper.mk _ (Op.binOp BinOp.lss 21 _ _ _) _ _ _ none) _ _ _ _; first | (first | (refine O_lssS rfl rfl (fun h => absurd h (by omega)) ?_; intro _) | (refine O_lssS rfl rfl ?_ (fun h => absurd h (by omega)); intro _) | (refine O_lssS rfl rfl ?_ ?_ <;> intro _)))
      | (guard_target =~ WO _ _ (Oper.mk _ (Op.nilCheck _) _ _ _ none) _ _ _ _; first | (refine O_nil rfl ?_))
      | (guard_target =~ WO _ _ (Oper.mk _ (Op.fieldAddr 86 _ 1) _ _ _ none) _ _ _ _; first | (refine O_fdT fd86_1 (by decide) rfl ?_) | (refine O_field fd86_1 (by decide) rfl ?_))
      | (guard_target =~ WO _ _ (Oper.mk _ (Op.call _) _ _ _ none) _ _ _ _; first | (refine O_len Samg.underlying79 rfl rfl ?_))
      | (guard_target =~ WO _ _ (Oper.mk _ (Op.binOp BinOp.geq 3 _ _ _) _ _ _ none) _ _ _ _; first | (first | (refine O_geqS rfl rfl (fun h => absurd h (by omega)) ?_; intro _) | (refine O_geqS rfl rfl ?_ (fun h => absurd h (by omega)); intro _) | (refine O_geqS rfl rfl ?_ ?_ <;> intro _)))
      | (guard_target =~ WO _ _ (Oper.mk _ (Op.pick _ _ _) _ _ _ none) _ _ _ _; first | (refine O_pick_t (v := (.bool _)) rfl rfl ?_) | (refine O_pick_f (v := (.bool _)) rfl rfl ?_))
      | (guard_target =~ WO _ _ (Oper.mk _ (Op.convert 3 21 _) _ _ _ none) _ _ _ _; first | (refine O_convZ Samg.underlying3 Samg.underlying21 rfl (by simp only [rngZ]; omega) ?_) | (refine O_convA Samg.underlying3 Samg.underlying21 rfl rfl ?_; intro _ hr; simp only [rngZ] at hr))
      | (guard_target =~ WO _ _ (Oper.mk _ (Op.build 153 #[(0, _), (1, _)]) _ _ _ none) _ _ _ _; first | (refine O_bd (l := [(0, .int .i32 _), (1, .agg (ns .u64 4 _))]) (by assumption) st153 zc153 rfl ⟨_, _, rfl, rfl, rfl, ⟨_, _, rfl, rfl, rfl, rfl⟩⟩ ⟨one_ok (c' := 3) rfl (ok32 (by omega) (by omega)), ⟨run64_ok (by assumption) rfl, trivial⟩⟩ ?_; intro _ _ _))
      | (guard_target =~ WO _ _ (Oper.mk _ (Op.buildSlice 79 1 _) _ _ _ none) _ _ _ _; first | (refine O_one (v := .agg _) (by assumption) sl79 zc153 (by decide) rfl rfl (TS.okA (t := 153) (by assumption) (by repeat (first | exact List.Mem.head _ | refine List.Mem.tail _ ?_))).1 (TS.okA (t := 153) (by assumption) (by repeat (first | exact List.Mem.head _ | refine List.Mem.tail _ ?_))).2 ?_; intro _ _ _ _ _ _ _))
      | (guard_target =~ WO _ _ (Oper.mk _ (Op.fieldAddr 86 _ 3) _ _ _ none) _ _ _ _; first | (refine O_fdT fd86_3 (by decide) rfl ?_) | (refine O_field fd86_3 (by decide) rfl ?_)))
    have hp2 : fr.toNat = p := by omega
    rw [hp2] at hat
    exact E_ret2 rfl rfl rfl rfl rfl ⟨hMu5, hS5.t, _, hV5, hI.growS (by omega) (by omega), _, _, rfl, ⟨Nat.le_refl _, Nat.le_succ _, Nat.le_refl _, rfl, rfl, rfl, rfl, rfl, rfl, rfl, rfl, rfl, rfl, rfl, rfl⟩, by omega, fun _ => ⟨by omega, by show (σ.ns : Int) < ((σ.ns + 1 : Nat) : Int); omega⟩, fun _ => rfl, Nat.le_refl _, rfl⟩
end Go.Proofs.Ygcsam
