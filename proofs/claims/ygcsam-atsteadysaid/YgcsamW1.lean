/-
  THE SETTERS. Own work.
-/
import Derived.Test.YgcsamU9
namespace Go.Proofs.Ygcsam
set_option linter.unusedVariables false
set_option linter.unusedSimpArgs false
set_option maxRecDepth 4000
theorem room_ok {B s : Nat} {σ : VS} {w : World} (hT : WT B w) (hV : V B w s σ) (hI : VI σ) : Rd B Samg.prog 96 [.pointer (some ⟨s, 0, none⟩)] w fun v w' => v = .bool (decide (σ.nj < 65536)) := by
  refine W_enter (l := [_]) Samg.func96 rfl rfl rfl ?_
  have hS := hV.start hT; have hMu := Mu.refl B w; have hna := hI.na; have hns := hI.ns; have hnt := hI.nt; have hnj := hI.nj; have hnm := hI.nm; have hnl := hI.nl
  repeat' (first
    | (refine L_cons ?_)
    | (refine R_cons rfl ?_)
    | (refine W_seq ?_)
    | (refine W_region (by kernel_rfl) ?_)
    | (refine L_nil ?_)
    | (refine R_nil ?_)
    | (refine W_block ?_)
    | (refine W_skip ?_)
    | (refine W_exit ?_)
    | (refine W_ret ?_)
    | (guard_target =~ thenQ _ _ _ _ _; first | (refine T_next ?_) | (refine T_exit ?_) | (refine T_ret ?_))
    | (guard_target =~ blockQ _ _ _ _ _; first | (refine B_next ?_) | (refine B_same ?_) | (refine B_other (by kernel_rfl) ?_) | (refine B_ret ?_))
    | (refine W_true rfl rfl ?_)
    | (refine W_false rfl rfl ?_)
    | (guard_target =~ WO _ _ (Oper.mk _ (Op.load 78 _) _ _ _ none) _ _ _ _; first | (refine O_ldV (by assumption) on78 rfl hV.acc hV.lt ?_))
    | (guard_target =~ WO _ _ (Oper.mk _ (Op.load 79 _) _ _ _ none) _ _ _ _; first | (refine O_ldV (by assumption) on79 rfl hV.slo hV.lt ?_))
    | (guard_target =~ WO _ _ (Oper.mk _ (Op.load 81 _) _ _ _ none) _ _ _ _; first | (refine O_ldV (by assumption) on81 rfl hV.jou hV.lt ?_) | (refine O_lds (t' := 178) (by assumption) (by repeat (first | exact List.Mem.head _ | refine List.Mem.tail _ ?_)) on81 rfl (by first | omega | (simp only [csz]; omega)) (by first | rfl | exact layMod rfl rfl) ?_; intro _ _ _ _ _ _))
    | (guard_target =~ WO _ _ (Oper.mk _ (Op.load 46 _) _ _ _ none) _ _ _ _; first | (refine O_ldV (by assumption) on46 rfl hV.log hV.lt ?_))
    | (guard_target =~ WO _ _ (Oper.mk _ (Op.load 83 _) _ _ _ none) _ _ _ _; first | (refine O_ldV (by assumption) on83 rfl hV.tem hV.lt ?_))
    | (guard_target =~ WO _ _ (Oper.mk _ (Op.load 84 _) _ _ _ none) _ _ _ _; first | (refine O_ldV (by assumption) on84 rfl hV.tta hV.lt ?_))
    | (guard_target =~ WO _ _ (Oper.mk _ (Op.load 21 _) _ _ _ none) _ _ _ _; first | (refine O_ldV (by assumption) on21 rfl hV.nmk hV.lt ?_))
    | (guard_target =~ WO _ _ (Oper.mk _ (Op.load 27 _) _ _ _ none) _ _ _ _; first | (refine O_ldV (by assumption) on27 rfl hV.rf hV.lt ?_))
    | (guard_target =~ WO _ _ (Oper.mk _ (Op.assign _) _ _ _ none) _ _ _ _; first | (refine O_assign (v := (.int _ _)) rfl ?_) | (refine O_assign (v := (.bool _)) rfl ?_) | (refine O_assign (v := (.pointer _)) rfl ?_) | (refine O_assign (v := (.slice _ _ _)) rfl ?_) | (refine O_assign (v := (.agg _)) rfl ?_) | (refine O_assign (v := (.tuple _)) rfl ?_))
    | (guard_target =~ WO _ _ (Oper.mk _ (Op.move _) _ _ _ none) _ _ _ _; first | (refine O_move (v := (.int _ _)) rfl ?_) | (refine O_move (v := (.bool _)) rfl ?_) | (refine O_move (v := (.pointer _)) rfl ?_) | (refine O_move (v := (.slice _ _ _)) rfl ?_) | (refine O_move (v := (.agg _)) rfl ?_) | (refine O_move (v := (.tuple _)) rfl ?_))
    | (guard_target =~ WO _ _ (Oper.mk _ (Op.nilCheck _) _ _ _ none) _ _ _ _; first | (refine O_nil rfl ?_))
    | (guard_target =~ WO _ _ (Oper.mk _ (Op.fieldAddr 86 _ 4) _ _ _ none) _ _ _ _; first | (refine O_fdT fd86_4 (by decide) rfl ?_) | (refine O_field fd86_4 (by decide) rfl ?_))
    | (guard_target =~ WO _ _ (Oper.mk _ (Op.call _) _ _ _ none) _ _ _ _; first | (refine O_len Samg.underlying81 rfl rfl ?_))
    | (guard_target =~ WO _ _ (Oper.mk _ (Op.binOp BinOp.lss 3 _ _ _) _ _ _ none) _ _ _ _; first | (first | (refine O_lssS rfl rfl (fun h => absurd h (by omega)) ?_; intro _) | (refine O_lssS rfl rfl ?_ (fun h => absurd h (by omega)); intro _) | (refine O_lssS rfl rfl ?_ ?_ <;> intro _))))
  all_goals refine E_ret1T (by assumption) rfl rfl rfl ?_
  all_goals first
    | rw [decide_eq_true (by omega)]; rfl
    | rw [decide_eq_false (by omega)]; rfl
theorem undo_n {K a n : Nat} {g : Nat → Nat} {t : St} (h0 : K ≠ 0) (h3 : K ≠ 3) (h6 : K ≠ 6) : undoE K a n g t = t := by
  unfold undoE; rw [if_neg h0, if_neg h3, if_neg h6]
theorem VI.bals {σ : VS} (h : VI σ) {a : Nat} {g : Nat → Nat} (ha : a < σ.na) (hg : ∀ i, g i < 18446744073709551616) : VI { σ with bal := fun i k => if i = a then g k else σ.bal i k } :=
  { h with
    bal := fun i k => by show (if i = a then g k else σ.bal i k) < _; split; exact hg k; exact h.bal i k
    zb := fun i k hi => by
      have hi : σ.na ≤ i := hi
      show (if i = a then g k else σ.bal i k) = 0
      rw [if_neg (by omega)]; exact h.zb i k hi }
theorem VI.vals {σ : VS} (h : VI σ) {a : Nat} {g : Nat → Nat} (ha : a < σ.ns) (hg : ∀ i, g i < 18446744073709551616) : VI { σ with val := fun i k => if i = a then g k else σ.val i k } :=
  { h with
    val := fun i k => by show (if i = a then g k else σ.val i k) < _; split; exact hg k; exact h.val i k
    zv := fun i k hi => by
      have hi : σ.ns ≤ i := hi
      show (if i = a then g k else σ.val i k) = 0
      rw [if_neg (by omega)]; exact h.zv i k hi }
theorem upF_eq (f : Nat → Nat → Nat) (a : Nat) (g : Nat → Nat) : (fun i k => if i = a then g k else f i k) = upF f a g := by
  funext i k
  unfold upF
  split <;> rfl
theorem putBalance_ok {B s : Nat} {σ : VS} {w : World} (hT : WT B w) (hV : V B w s σ) (hI : VI σ) {f g : Nat → Nat} (hf : ∀ i, f i < 256) (hg : ∀ i, g i < 18446744073709551616) : Ret Samg.prog 52 #[.pointer (some ⟨s, 0, none⟩), .agg (ns .u8 20 f), .agg (ns .u64 4 g)] w (Mt B s w fun v σ' => ∃ (p : Bool), v = .bool p ∧ Steady σ σ') := by
  refine W_enter (l := [_, _, _]) Samg.func52 rfl rfl rfl ?_
  have hS := hV.start hT; have hMu := Mu.refl B w; have hna := hI.na; have hns := hI.ns; have hnt := hI.nt; have hnj := hI.nj; have hnm := hI.nm; have hnl := hI.nl
  repeat' (first
    | (refine L_cons ?_)
    | (refine R_cons rfl ?_)
    | (refine W_seq ?_)
    | (refine W_region (by kernel_rfl) ?_)
    | (refine L_nil ?_)
    | (refine R_nil ?_)
    | (refine W_block ?_)
    | (refine W_skip ?_)
    | (refine W_exit ?_)
    | (refine W_ret ?_)
    | (guard_target =~ thenQ _ _ _ _ _; first | (refine T_next ?_) | (refine T_exit ?_) | (refine T_ret ?_))
    | (guard_target =~ blockQ _ _ _ _ _; first | (refine B_next ?_) | (refine B_same ?_) | (refine B_other (by kernel_rfl) ?_) | (refine B_ret ?_))
    | (refine W_true rfl rfl ?_)
    | (refine W_false rfl rfl ?_)
    | (guard_target =~ WO _ _ (Oper.mk _ (Op.call (Call.mk (Callee.value (Operand.func 96)) _ _)) _ _ _ none) _ _ _ _; first | (refine O_rd (l := [.pointer (some ⟨s, 0, none⟩)]) (by assumption) cl96 rfl (room_ok (TS.t (by assumption)) (hV.ext (TS.e (by assumption))) hI) ?_; rintro _ _ rfl _ _; by_cases hroom : σ.nj < 65536; rw [decide_eq_true hroom]; rotate_left; rw [decide_eq_false hroom]; rotate_left))
    | (guard_target =~ WO _ _ (Oper.mk _ (Op.call (Call.mk (Callee.value (Operand.func 78)) _ _)) _ _ _ none) _ _ _ _; first | (refine O_mt (l := [.pointer (some ⟨s, 0, none⟩), .agg (ns .u8 20 _)]) (by assumption) hV hMu cl78 rfl rfl (acct_ok (TS.t (by assumption)) (hV.ext (TS.e (by assumption))) hI (by assumption)) ?_; rintro _ w1 σ1 ⟨at1, p1, rfl, hSm1, hat0, hat1, _, hnt1⟩ hV hI hMu hS1; have hna := hI.na; have hns := hI.ns; have hnt := hI.nt; have hnj := hI.nj; have hnm := hI.nm; have hnl := hI.nl; rcases boolcaseN hat1 with ⟨rfl, a1, rfl, ha1⟩ | rfl))
    | (guard_target =~ WO _ _ (Oper.mk _ (Op.indexAddr 78 _ _) _ _ _ none) _ _ _ _; first | (refine O_ixM (m := a1) (by assumption) (by repeat (first | exact List.Mem.head _ | refine List.Mem.tail _ ?_)) sl78 rfl rfl ha1 ?_; intro b6 hcap6 hb6 _) | (refine O_ixK (by assumption) (by repeat (first | exact List.Mem.head _ | refine List.Mem.tail _ ?_)) sl78 rfl rfl (by omega) (by omega) ?_; rintro _ _ _) | (refine O_ixN (by assumption) (by repeat (first | exact List.Mem.head _ | refine List.Mem.tail _ ?_)) sl78 rfl rfl (by omega) (by omega) ?_; rintro _ _ _ _ _ _))
    | (guard_target =~ WO _ _ (Oper.mk _ (Op.load 78 _) _ _ _ none) _ _ _ _; first | (refine O_ldV (v := .slice σ1.aA σ1.na σ1.cA) (by assumption) on78 rfl hV.acc hV.lt ?_) | (refine O_ldV (by assumption) on78 rfl hV.acc hV.lt ?_) | (refine O_lds (t' := 148) (by assumption) (by repeat (first | exact List.Mem.head _ | refine List.Mem.tail _ ?_)) on78 rfl (by first | omega | (simp only [csz]; omega)) (by first | rfl | exact layMod rfl rfl) ?_; intro _ _ _ _ _ _))
    | (guard_target =~ WO _ _ (Oper.mk _ (Op.load 79 _) _ _ _ none) _ _ _ _; first | (refine O_ldV (v := .slice σ1.aS σ1.ns σ1.cS) (by assumption) on79 rfl hV.slo hV.lt ?_) | (refine O_ldV (by assumption) on79 rfl hV.slo hV.lt ?_))
    | (guard_target =~ WO _ _ (Oper.mk _ (Op.load 83 _) _ _ _ none) _ _ _ _; first | (refine O_ldV (v := .slice σ1.aT σ1.nt σ1.cT) (by assumption) on83 rfl hV.tem hV.lt ?_) | (refine O_ldV (by assumption) on83 rfl hV.tem hV.lt ?_))
    | (guard_target =~ WO _ _ (Oper.mk _ (Op.load 45 _) _ _ _ none) _ _ _ _; first | (refine O_ldW (f := σ1.bal a1) (by assumption) ag45 rfl (fun k hk => hV.ba b6 hb6 a1 k ha1 hk) ?_) | (refine O_ldn64 (by assumption) (by repeat (first | exact List.Mem.head _ | refine List.Mem.tail _ ?_)) ag45 rfl (by first | omega | (simp only [csz]; omega)) (by first | exact layRun0 rfl rfl | exact layRun rfl rfl rfl) ?_; intro _ _))
    | (guard_target =~ WO _ _ (Oper.mk _ (Op.build 178 _) _ _ _ none) _ _ _ _; first | (refine O_bdE (l := [(0, .int .u8 ((0 : Nat) : Int)), (1, .int .i32 ((a1 : Nat) : Int)), (3, .agg (ns .u64 4 (σ1.bal a1)))]) (by assumption) st178 zc178 rfl ⟨_, _, rfl, rfl, rfl, ⟨_, _, rfl, rfl, rfl, ⟨_, _, rfl, rfl, rfl, rfl⟩⟩⟩ ⟨one_ok (c' := 1) rfl (ok8 (by omega)), ⟨one_ok (c' := 3) rfl (ok32 (by omega) (by omega)), ⟨run64_ok (hI.bal a1) rfl, trivial⟩⟩⟩ ?_; intro cs z hcs hz hzz hfl _; have hEnt : Ent cs 0 a1 0 (σ1.bal a1) := hfl ▸ entW hz hzz))
    | (guard_target =~ WO _ _ (Oper.mk _ (Op.buildSlice 81 1 _) _ _ _ none) _ _ _ _; first | (refine O_one (v := .agg _) (by assumption) sl81 zc178 (by decide) rfl rfl (TS.okA (t := 178) (by assumption) (by repeat (first | exact List.Mem.head _ | refine List.Mem.tail _ ?_))).1 (TS.okA (t := 178) (by assumption) (by repeat (first | exact List.Mem.head _ | refine List.Mem.tail _ ?_))).2 ?_; intro w3 b2 hE3 hn2 _ hB2 hS3) | (refine O_one (v := .agg _) (by assumption) sl81 zc178 (by decide) rfl rfl (TS.okA (t := 178) (by assumption) (by repeat (first | exact List.Mem.head _ | refine List.Mem.tail _ ?_))).1 (TS.okA (t := 178) (by assumption) (by repeat (first | exact List.Mem.head _ | refine List.Mem.tail _ ?_))).2 ?_; intro _ _ _ _ _ _ _))
    | (guard_target =~ WO _ _ (Oper.mk _ (Op.call (Call.mk (Callee.builtin Builtin.append) _ _)) _ _ _ none) _ _ _ _; first | (refine O_appM (by assumption) hV hMu (by repeat (first | exact List.Mem.head _ | refine List.Mem.tail _ ?_)) (by repeat (first | exact List.Mem.head _ | refine List.Mem.tail _ ?_)) rfl rfl rfl sl81 by178 (by decide) zc178 (by decide) rfl rfl (by omega) (by omega) hB2 hcs rfl ?_; intro w4 b4 cap4 hS4 hMu hA4 hV2; have hV := hV2.app hA4 (by decide) (fun h => by cases h) (fun h => by cases h) (fun _ => ⟨rfl, rfl⟩)))
    | (guard_target =~ WO _ _ (Oper.mk _ (Op.store 81 _ _) _ _ _ none) _ _ _ _; first | (refine O_stM (by assumption) hV hMu (by repeat (first | exact List.Mem.head _ | refine List.Mem.tail _ ?_)) rfl on81 rfl rfl (by simp only [csz]; omega) (okp (c' := 100 + 178) rfl (okS (TS.slN (by assumption) (by repeat (first | exact List.Mem.head _ | refine List.Mem.tail _ ?_))))) rfl ?_; intro w5 hS5 hMu he5 _ hW5; have hV := hV2.push hA4 hEnt hnm he5 hW5) | (refine O_st (by assumption) (by repeat (first | exact List.Mem.head _ | refine List.Mem.tail _ ?_)) (by omega) on81 rfl rfl (by first | omega | (simp only [csz]; omega)) (okp (c' := 100 + 178) (by first | rfl | exact layMod rfl rfl) (okS (by first | exact Sl.nil _ | exact TS.slN (by assumption) (by repeat (first | exact List.Mem.head _ | refine List.Mem.tail _ ?_))))) rfl ?_; intro _ _))
    | (guard_target =~ WO _ _ (Oper.mk _ (Op.store 45 _ _) _ _ _ none) _ _ _ _; first | (refine O_stM64 (by assumption) hV hMu (by repeat (first | exact List.Mem.head _ | refine List.Mem.tail _ ?_)) rfl ag45 rfl rfl (by assumption) (by simp only [csz]; omega) (layRun rfl rfl rfl) rfl ?_; intro w7 hS7 hMu he7 hV hW7; have hV := hV.balSet he7 hb6 hW7) | (refine O_stn64 (by assumption) (by repeat (first | exact List.Mem.head _ | refine List.Mem.tail _ ?_)) (by omega) ag45 rfl rfl (by assumption) (by first | omega | (simp only [csz]; omega)) (by first | exact layRun0 rfl rfl | exact layRun rfl rfl rfl) rfl ?_; intro _ _))
    | (guard_target =~ WO _ _ (Oper.mk _ (Op.load 81 _) _ _ _ none) _ _ _ _; first | (refine O_ldV (by assumption) on81 rfl hV.jou hV.lt ?_) | (refine O_lds (t' := 178) (by assumption) (by repeat (first | exact List.Mem.head _ | refine List.Mem.tail _ ?_)) on81 rfl (by first | omega | (simp only [csz]; omega)) (by first | rfl | exact layMod rfl rfl) ?_; intro _ _ _ _ _ _))
    | (guard_target =~ WO _ _ (Oper.mk _ (Op.load 46 _) _ _ _ none) _ _ _ _; first | (refine O_ldV (by assumption) on46 rfl hV.log hV.lt ?_))
    | (guard_target =~ WO _ _ (Oper.mk _ (Op.load 84 _) _ _ _ none) _ _ _ _; first | (refine O_ldV (by assumption) on84 rfl hV.tta hV.lt ?_))
    | (guard_target =~ WO _ _ (Oper.mk _ (Op.load 21 _) _ _ _ none) _ _ _ _; first | (refine O_ldV (by assumption) on21 rfl hV.nmk hV.lt ?_))
    | (guard_target =~ WO _ _ (Oper.mk _ (Op.load 27 _) _ _ _ none) _ _ _ _; first | (refine O_ldV (by assumption) on27 rfl hV.rf hV.lt ?_))
    | (guard_target =~ WC _ _ (Code.region 6 _ true) _ _ _; first | (refine W_drawnT (id := 6) [15] [0, 1, 2, 3, 4, 5, 6, 7, 8, 9, 10, 11, 12, 13, 14, 15, 16, 17, 18, 19] mixed (by kernel_rfl) (by kernel_rfl) (by assumption) ?_; intro _ _ _))
    | (guard_target =~ WC _ _ (Code.region 7 _ true) _ _ _; first | (refine W_drawnT (id := 7) [] [0, 1, 2, 3, 4, 5, 6, 7, 8] mixed (by kernel_rfl) (by kernel_rfl) (by assumption) ?_; intro _ _ _))
    | (guard_target =~ WO _ _ (Oper.mk _ (Op.box 24 _) _ _ _ none) _ _ _ _; first | (refine O_bx8 (by assumption) rfl (by assumption) rfl rfl ?_; intro _ _ _ _))
    | (guard_target =~ WO _ _ (Oper.mk _ (Op.box 45 _) _ _ _ none) _ _ _ _; first | (refine O_bx64 (by assumption) rfl (by assumption) rfl rfl ?_; intro _ _ _ _))
    | (guard_target =~ WO _ _ (Oper.mk _ (Op.assign _) _ _ _ none) _ _ _ _; first | (refine O_assign (v := (.int _ _)) rfl ?_) | (refine O_assign (v := (.bool _)) rfl ?_) | (refine O_assign (v := (.pointer _)) rfl ?_) | (refine O_assign (v := (.slice _ _ _)) rfl ?_) | (refine O_assign (v := (.agg _)) rfl ?_) | (refine O_assign (v := (.tuple _)) rfl ?_))
    | (guard_target =~ WO _ _ (Oper.mk _ (Op.move _) _ _ _ none) _ _ _ _; first | (refine O_move (v := (.int _ _)) rfl ?_) | (refine O_move (v := (.bool _)) rfl ?_) | (refine O_move (v := (.pointer _)) rfl ?_) | (refine O_move (v := (.slice _ _ _)) rfl ?_) | (refine O_move (v := (.agg _)) rfl ?_) | (refine O_move (v := (.tuple _)) rfl ?_))
    | (guard_target =~ WO _ _ (Oper.mk _ (Op.unOp _ _ _) _ _ _ none) _ _ _ _; first | (refine O_not rfl ?_))
    | (guard_target =~ WO _ _ (Oper.mk _ (Op.load 24 _) _ _ _ none) _ _ _ _; first | (refine O_ldn8 (by assumption) (by repeat (first | exact List.Mem.head _ | refine List.Mem.tail _ ?_)) ag24 rfl (by first | omega | (simp only [csz]; omega)) (by first | exact layRun0 rfl rfl | exact layRun rfl rfl rfl) ?_; intro _ _))
    | (guard_target =~ WO _ _ (Oper.mk _ (Op.extract _ _) _ _ _ none) _ _ _ _; first | (refine O_extract rfl rfl ?_))
    | (guard_target =~ WO _ _ (Oper.mk _ (Op.nilCheck _) _ _ _ none) _ _ _ _; first | (refine O_nil rfl ?_))
    | (guard_target =~ WO _ _ (Oper.mk _ (Op.fieldAddr 86 _ 4) _ _ _ none) _ _ _ _; first | (refine O_fdT fd86_4 (by decide) rfl ?_) | (refine O_field fd86_4 (by decide) rfl ?_))
    | (guard_target =~ WO _ _ (Oper.mk _ (Op.fieldAddr 86 _ 0) _ _ _ none) _ _ _ _; first | (refine O_fdT fd86_0 (by decide) rfl ?_) | (refine O_field fd86_0 (by decide) rfl ?_))
    | (guard_target =~ WO _ _ (Oper.mk _ (Op.fieldAddr 148 _ 2) _ _ _ none) _ _ _ _; first | (refine O_fdT fd148_2 (by decide) rfl ?_) | (refine O_field fd148_2 (by decide) rfl ?_))
    | (guard_target =~ WO _ _ (Oper.mk _ (Op.build 178 #[(0, _), (1, _), (3, _)]) _ _ _ none) _ _ _ _; first | (refine O_bd (l := [(0, .int .u8 (Nat.cast _)), (1, .int .i32 _), (3, .agg (ns .u64 4 _))]) (by assumption) st178 zc178 rfl ⟨_, _, rfl, rfl, rfl, ⟨_, _, rfl, rfl, rfl, ⟨_, _, rfl, rfl, rfl, rfl⟩⟩⟩ ⟨one_ok (c' := 1) rfl (ok8 (by omega)), ⟨one_ok (c' := 3) rfl (ok32 (by omega) (by omega)), ⟨run64_ok (by assumption) rfl, trivial⟩⟩⟩ ?_; intro _ _ _)))
  · refine E_ret rfl rfl rfl ⟨hMu, hS7.t, _, hV, (VI.push hI (by have := hSm1.nj; omega) (by omega) (by decide) (by omega) (hI.bal a1) (by omega) (fun _ => ha1) (fun h => by rcases h with h | h <;> cases h) (fun h => by cases h)).bals ha1 (by assumption), _, rfl, hSm1.steady.trans ?_⟩
    refine Steady.push (K := 0) (a := a1) (n := 0) (g := σ1.bal a1) hI rfl rfl rfl rfl rfl rfl rfl rfl ?_
    show (upF (fun i k => if i = a1 then _ else σ1.bal i k) a1 (σ1.bal a1), σ1.val, σ1.ref) = (σ1.bal, σ1.val, σ1.ref)
    rw [upF_eq, upF_back]
  all_goals first   | exact E_ret rfl rfl rfl ⟨hMu, hS1.t, _, hV, hI, _, rfl, hSm1.steady⟩   | exact E_ret rfl rfl rfl ⟨hMu.trans (TS.mu (by assumption) hV.B0), TS.t (by assumption), σ, hV.ext (TS.e (by assumption)), hI, _, rfl, Steady.refl σ⟩
end Go.Proofs.Ygcsam
