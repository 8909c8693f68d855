/-
  UNDOING: undo, UndoOne, Snap, RevertTo. Own work.
-/
import Derived.Test.YgcsamW1
namespace Go.Proofs.Ygcsam
set_option linter.unusedVariables false
set_option linter.unusedSimpArgs false
set_option maxRecDepth 4000
section
variable {P : Program} {ops : Array Oper} {e : Bool} {K : Env → World → Prop} {ρ : Env} {w w0 : World} {d : Nat} {ty : TypeId} {pos : String} {af : Array Edge} {B : Nat} {L : List Fact} {M : List (Nat × Array Value)}
theorem O_sls {t el s n cap hi : Nat} {k1 : IntKind} {a : Option Addr} {x x2 : Operand} (h : TS B w0 w L M) (hm : (el, a, n, cap) ∈ L) (ht : slcT P t el s) (hx : ev ρ x = .slice a n cap) (hhi : ev ρ x2 = .int k1 ((hi : Nat) : Int)) (h1 : hi ≤ n) (h0 : 0 < n)
    (k : TS B w0 w ((el, a, hi, cap) :: L) M → K (put ρ d (.slice a hi cap)) w) : WO P ops ⟨some d, .slice t x none (some x2) none, ty, pos, af, none⟩ e K ρ w := by
  obtain ⟨s1, s2, s3⟩ := h.slN hm
  have hT := k (h.addL ⟨by omega, by omega, s3⟩)
  rcases s3 with ⟨_, s3⟩ | ⟨b, s3, s4⟩
  · omega
  · subst s3
    refine O_slice_s (l := 0) (h := hi) (m := cap) ht hx rfl ⟨_, hhi⟩ rfl (fun h => by cases h) (Nat.zero_le _) (by omega) (Nat.le_refl _) ?_
    rw [if_neg (by omega), Nat.zero_mul, Nat.sub_zero, Nat.sub_zero]
    exact hT
end
set_option maxHeartbeats 8000000 in
theorem undo_ok {B s : Nat} {σ : VS} {w : World} (hT : WT B w) (hV : V B w s σ) (hI : VI σ) {b i : Nat} (hb : σ.aJ = some ⟨b, 0, none⟩) (hi : i < σ.nj) (hlog : σ.kd i = 7 → 0 < σ.nl) : Ret Samg.prog 99 #[.pointer (some ⟨s, 0, none⟩), .pointer (some ⟨b, i * 9 + 0, none⟩)] w fun v w' => v = .bool true ∧ Mu B w w' ∧ WT B w' ∧ ∃ al cl, V B w' s { σ with bal := (undoE (σ.kd i) (σ.ja i) (σ.jn i) (σ.jw i) (cur σ)).1, val := (undoE (σ.kd i) (σ.ja i) (σ.jn i) (σ.jw i) (cur σ)).2.1, ref := (undoE (σ.kd i) (σ.ja i) (σ.jn i) (σ.jw i) (cur σ)).2.2, aL := al, nl := σ.nl - (if σ.kd i = 7 then 1 else 0), cL := cl } := by
  refine W_enter (l := [_, _]) Samg.func99 rfl rfl rfl ?_
  have hS := hV.start hT; have hMu := Mu.refl B w; have hna := hI.na; have hns := hI.ns; have hnt := hI.nt; have hnj := hI.nj; have hnm := hI.nm; have hnl := hI.nl
  have hS := hS.addL (by have := hV.sJ; rw [hb] at this; exact this)
  have hk10 := hI.kd i hi
  have hjr := hI.jr i hi
  have hcJ := hV.sJ.1
  have hpa := hI.pa i hi
  have hps := hI.ps i hi
  have hpt := hI.pt i hi
  unfold acctK at hpa
  unfold slotK at hps
  repeat' (first
    | (refine L_cons ?_)
    | (refine R_cons rfl ?_)
    | (refine W_seq ?_)
    | (refine W_region (by kernel_rfl) ?_)
    | (refine L_nil ?_)
    | (refine R_nil ?_)
    | (refine W_block ?_)
    | (refine W_skip ?_)
    | (refine W_exit ?_)
    | (refine W_ret ?_)
    | (guard_target =~ thenQ _ _ _ _ _; first | (refine T_next ?_) | (refine T_exit ?_) | (refine T_ret ?_))
    | (guard_target =~ blockQ _ _ _ _ _; first | (refine B_next ?_) | (refine B_same ?_) | (refine B_other (by kernel_rfl) ?_) | (refine B_ret ?_))
    | (refine W_true rfl rfl ?_)
    | (refine W_false rfl rfl ?_)
    | (guard_target =~ WO _ _ (Oper.mk _ (Op.load 5 _) _ _ _ none) _ _ _ _; first | (refine O_ldV (by assumption) on5 rfl (hV.jk b hb i hi) (cell_lt (hV.jk b hb i hi)) ?_) | (refine O_ld8 (by assumption) (by repeat (first | exact List.Mem.head _ | refine List.Mem.tail _ ?_)) on5 rfl (by first | omega | (simp only [csz]; omega)) (by first | rfl | exact layMod rfl rfl) ?_; intro _ _))
    | (guard_target =~ WO _ _ (Oper.mk _ (Op.load 21 _) _ _ _ none) _ _ _ _; first | (refine O_ldV (by assumption) on21 rfl (hV.jat b hb i hi) (cell_lt (hV.jat b hb i hi)) ?_) | (refine O_ldV (by assumption) on21 rfl hV.nmk hV.lt ?_) | (refine O_ld32 (by assumption) (by repeat (first | exact List.Mem.head _ | refine List.Mem.tail _ ?_)) on21 rfl (by first | omega | (simp only [csz]; omega)) (by first | rfl | exact layMod rfl rfl) ?_; intro _ _ _))
    | (guard_target =~ WO _ _ (Oper.mk _ (Op.load 27 _) _ _ _ none) _ _ _ _; first | (refine O_ldV (by assumption) on27 rfl (hV.jnn b hb i hi) (cell_lt (hV.jnn b hb i hi)) ?_) | (refine O_ldV (by assumption) on27 rfl hV.rf hV.lt ?_) | (refine O_ld64 (by assumption) (by repeat (first | exact List.Mem.head _ | refine List.Mem.tail _ ?_)) on27 rfl (by first | omega | (simp only [csz]; omega)) (by first | rfl | exact layMod rfl rfl) ?_; intro _ _))
    | (guard_target =~ WO _ _ (Oper.mk _ (Op.load 45 _) _ _ _ none) _ _ _ _; first | (refine O_ldW (f := σ.jw i) (by assumption) ag45 rfl (fun k hk => hV.jww b hb i k hi hk) ?_) | (refine O_ldn64 (by assumption) (by repeat (first | exact List.Mem.head _ | refine List.Mem.tail _ ?_)) ag45 rfl (by first | omega | (simp only [csz]; omega)) (by first | exact layRun0 rfl rfl | exact layRun rfl rfl rfl) ?_; intro _ _))
    | (guard_target =~ WO _ _ (Oper.mk _ (Op.indexAddr 78 _ _) _ _ _ none) _ _ _ _; first | (refine O_ixM (m := σ.ja i) (by assumption) (by repeat (first | exact List.Mem.head _ | refine List.Mem.tail _ ?_)) sl78 rfl rfl (by omega) ?_; intro b6 hcap6 hb6 _) | (refine O_ixK (by assumption) (by repeat (first | exact List.Mem.head _ | refine List.Mem.tail _ ?_)) sl78 rfl rfl (by omega) (by omega) ?_; rintro _ _ _) | (refine O_ixN (by assumption) (by repeat (first | exact List.Mem.head _ | refine List.Mem.tail _ ?_)) sl78 rfl rfl (by omega) (by omega) ?_; rintro _ _ _ _ _ _))
    | (guard_target =~ WO _ _ (Oper.mk _ (Op.indexAddr 79 _ _) _ _ _ none) _ _ _ _; first | (refine O_ixM (m := σ.ja i) (by assumption) (by repeat (first | exact List.Mem.head _ | refine List.Mem.tail _ ?_)) sl79 rfl rfl (by omega) ?_; intro b6 hcap6 hb6 _) | (refine O_ixK (by assumption) (by repeat (first | exact List.Mem.head _ | refine List.Mem.tail _ ?_)) sl79 rfl rfl (by omega) (by omega) ?_; rintro _ _ _) | (refine O_ixN (by assumption) (by repeat (first | exact List.Mem.head _ | refine List.Mem.tail _ ?_)) sl79 rfl rfl (by omega) (by omega) ?_; rintro _ _ _ _ _ _))
    | (guard_target =~ WO _ _ (Oper.mk _ (Op.indexAddr 83 _ _) _ _ _ none) _ _ _ _; first | (refine O_ixM (m := σ.ja i) (by assumption) (by repeat (first | exact List.Mem.head _ | refine List.Mem.tail _ ?_)) sl83 rfl rfl (by omega) ?_; intro b6 hcap6 hb6 _) | (refine O_ixK (by assumption) (by repeat (first | exact List.Mem.head _ | refine List.Mem.tail _ ?_)) sl83 rfl rfl (by omega) (by omega) ?_; rintro _ _ _) | (refine O_ixN (by assumption) (by repeat (first | exact List.Mem.head _ | refine List.Mem.tail _ ?_)) sl83 rfl rfl (by omega) (by omega) ?_; rintro _ _ _ _ _ _))
    | (guard_target =~ WO _ _ (Oper.mk _ (Op.store 45 _ _) _ _ _ none) _ _ _ _; first | (first | (refine O_stM64 (by assumption) hV hMu (T := 148) (by repeat (first | exact List.Mem.head _ | refine List.Mem.tail _ ?_)) rfl ag45 rfl rfl (hI.jw i) (by simp only [csz]; omega) (layRun rfl rfl rfl) rfl ?_; intro w7 hS7 hMu he7 hV hW7; have hV7 := hV.balSet he7 hb6 hW7) | (refine O_stM64 (by assumption) hV hMu (T := 153) (by repeat (first | exact List.Mem.head _ | refine List.Mem.tail _ ?_)) rfl ag45 rfl rfl (hI.jw i) (by simp only [csz]; omega) (layRun rfl rfl rfl) rfl ?_; intro w7 hS7 hMu he7 hV hW7; have hV7 := hV.valSet he7 hb6 hW7) | (refine O_stM64 (by assumption) hV hMu (T := 172) (by repeat (first | exact List.Mem.head _ | refine List.Mem.tail _ ?_)) rfl ag45 rfl rfl (hI.jw i) (by simp only [csz]; omega) (layRun rfl rfl rfl) rfl ?_; intro w7 hS7 hMu he7 hV hW7; have hV7 := hV.freeSet he7 (TS.slN (by assumption) (by repeat (first | exact List.Mem.head _ | refine List.Mem.tail _ ?_))) hW7 (by decide) (by decide) (by decide) (by decide))) | (refine O_stn64 (by assumption) (by repeat (first | exact List.Mem.head _ | refine List.Mem.tail _ ?_)) (by omega) ag45 rfl rfl (by assumption) (by first | omega | (simp only [csz]; omega)) (by first | exact layRun0 rfl rfl | exact layRun rfl rfl rfl) rfl ?_; intro _ _))
    | (guard_target =~ WO _ _ (Oper.mk _ (Op.store 27 _ _) _ _ _ none) _ _ _ _; first | (first | (refine O_stM (by assumption) hV hMu (T := 148) (by repeat (first | exact List.Mem.head _ | refine List.Mem.tail _ ?_)) rfl on27 rfl rfl (by simp only [csz]; omega) (okp (c' := 2) (layMod rfl rfl) (ok64 (hI.jn i))) rfl ?_; intro w7 hS7 hMu he7 hV hW7; have hV7 := hV.acctSet he7 hb6 hW7 (fun i k hk => by simp; omega)) | (refine O_stM (by assumption) hV hMu (T := 86) (by repeat (first | exact List.Mem.head _ | refine List.Mem.tail _ ?_)) rfl on27 rfl rfl (by simp only [csz]; omega) (okp (c' := 2) rfl (ok64 (hI.jn i))) rfl ?_; intro w7 hS7 hMu he7 hV hW7; have hV7 := hV.setRef hnm (r := σ.jn i) he7 hW7)) | (refine O_st (by assumption) (by repeat (first | exact List.Mem.head _ | refine List.Mem.tail _ ?_)) (by omega) on27 rfl rfl (by first | omega | (simp only [csz]; omega)) (by first | exact okp (c' := 2) (by first | rfl | exact layMod rfl rfl) (ok64 (by omega)) | exact okp (c' := 1) (by first | rfl | exact layMod rfl rfl) (ok8 (by omega)) | exact okp (c' := 3) (by first | rfl | exact layMod rfl rfl) (ok32 (by omega) (by omega)) | exact okp (c' := 4) (by first | rfl | exact layMod rfl rfl) okB_) rfl ?_; intro _ _))
    | (guard_target =~ WO _ _ (Oper.mk _ (Op.store 31 _ _) _ _ _ none) _ _ _ _; first | (refine O_stM (by assumption) hV hMu (T := 148) (by repeat (first | exact List.Mem.head _ | refine List.Mem.tail _ ?_)) rfl on31 rfl rfl (by simp only [csz]; omega) (okp (c' := 100 + 5) (layMod rfl rfl) (okS (TS.slN (by assumption) (by repeat (first | exact List.Mem.head _ | refine List.Mem.tail _ ?_))))) rfl ?_; intro w7 hS7 hMu he7 hV hW7; have hV7 := hV.acctSet he7 hb6 hW7 (fun i k hk => by simp; omega)) | (refine O_st (by assumption) (by repeat (first | exact List.Mem.head _ | refine List.Mem.tail _ ?_)) (by omega) on31 rfl rfl (by first | omega | (simp only [csz]; omega)) (okp (c' := 100 + 5) (by first | rfl | exact layMod rfl rfl) (okS (by first | exact Sl.nil _ | exact TS.slN (by assumption) (by repeat (first | exact List.Mem.head _ | refine List.Mem.tail _ ?_))))) rfl ?_; intro _ _))
    | (guard_target =~ WO _ _ (Oper.mk _ (Op.store 4 _ _) _ _ _ none) _ _ _ _; first | (first | (refine O_stM (by assumption) hV hMu (T := 148) (by repeat (first | exact List.Mem.head _ | refine List.Mem.tail _ ?_)) rfl on4 rfl rfl (by simp only [csz]; omega) (okp (c' := 4) (layMod rfl rfl) okB_) rfl ?_; intro w7 hS7 hMu he7 hV hW7; have hV7 := hV.acctSet he7 hb6 hW7 (fun i k hk => by simp; omega)) | (refine O_stM (by assumption) hV hMu (T := 153) (by repeat (first | exact List.Mem.head _ | refine List.Mem.tail _ ?_)) rfl on4 rfl rfl (by simp only [csz]; omega) (okp (c' := 4) (layMod rfl rfl) okB_) rfl ?_; intro w7 hS7 hMu he7 hV hW7; have hV7 := hV.slotSet he7 hb6 hW7 (fun i k hk => by simp; omega))) | (refine O_st (by assumption) (by repeat (first | exact List.Mem.head _ | refine List.Mem.tail _ ?_)) (by omega) on4 rfl rfl (by first | omega | (simp only [csz]; omega)) (by first | exact okp (c' := 2) (by first | rfl | exact layMod rfl rfl) (ok64 (by omega)) | exact okp (c' := 1) (by first | rfl | exact layMod rfl rfl) (ok8 (by omega)) | exact okp (c' := 3) (by first | rfl | exact layMod rfl rfl) (ok32 (by omega) (by omega)) | exact okp (c' := 4) (by first | rfl | exact layMod rfl rfl) okB_) rfl ?_; intro _ _))
    | (guard_target =~ WO _ _ (Oper.mk _ (Op.slice 46 _ none (some _) none) _ _ _ none) _ _ _ _; first | (refine O_sls (hi := σ.nl - 1) (by assumption) (by repeat (first | exact List.Mem.head _ | refine List.Mem.tail _ ?_)) sl46 rfl (by exact congrArg (Value.int IntKind.i64) (by omega)) (by omega) (by omega) ?_; intro _))
    | (guard_target =~ WO _ _ (Oper.mk _ (Op.store 46 _ _) _ _ _ none) _ _ _ _; first | (refine O_stM (by assumption) hV hMu (T := 86) (by repeat (first | exact List.Mem.head _ | refine List.Mem.tail _ ?_)) rfl on46 rfl rfl (by simp only [csz]; omega) (okp (c' := 100 + 126) rfl (okS (TS.slN (by assumption) (by repeat (first | exact List.Mem.head _ | refine List.Mem.tail _ ?_))))) rfl ?_; intro w7 hS7 hMu he7 hV hW7; have hV7 := hV.setLog hnm (TS.slN (by assumption) (by repeat (first | exact List.Mem.head _ | refine List.Mem.tail _ ?_))) he7 hW7) | (refine O_st (by assumption) (by repeat (first | exact List.Mem.head _ | refine List.Mem.tail _ ?_)) (by omega) on46 rfl rfl (by first | omega | (simp only [csz]; omega)) (okp (c' := 100 + 126) (by first | rfl | exact layMod rfl rfl) (okS (by first | exact Sl.nil _ | exact TS.slN (by assumption) (by repeat (first | exact List.Mem.head _ | refine List.Mem.tail _ ?_))))) rfl ?_; intro _ _))
    | (guard_target =~ WO _ _ (Oper.mk _ (Op.load 78 _) _ _ _ none) _ _ _ _; first | (refine O_ldV (by assumption) on78 rfl hV.acc hV.lt ?_) | (refine O_lds (t' := 148) (by assumption) (by repeat (first | exact List.Mem.head _ | refine List.Mem.tail _ ?_)) on78 rfl (by first | omega | (simp only [csz]; omega)) (by first | rfl | exact layMod rfl rfl) ?_; intro _ _ _ _ _ _))
    | (guard_target =~ WO _ _ (Oper.mk _ (Op.load 79 _) _ _ _ none) _ _ _ _; first | (refine O_ldV (by assumption) on79 rfl hV.slo hV.lt ?_) | (refine O_lds (t' := 153) (by assumption) (by repeat (first | exact List.Mem.head _ | refine List.Mem.tail _ ?_)) on79 rfl (by first | omega | (simp only [csz]; omega)) (by first | rfl | exact layMod rfl rfl) ?_; intro _ _ _ _ _ _))
    | (guard_target =~ WO _ _ (Oper.mk _ (Op.load 81 _) _ _ _ none) _ _ _ _; first | (refine O_ldV (by assumption) on81 rfl hV.jou hV.lt ?_))
    | (guard_target =~ WO _ _ (Oper.mk _ (Op.load 46 _) _ _ _ none) _ _ _ _; first | (refine O_ldV (by assumption) on46 rfl hV.log hV.lt ?_) | (refine O_lds (t' := 126) (by assumption) (by repeat (first | exact List.Mem.head _ | refine List.Mem.tail _ ?_)) on46 rfl (by first | omega | (simp only [csz]; omega)) (by first | rfl | exact layMod rfl rfl) ?_; intro _ _ _ _ _ _))
    | (guard_target =~ WO _ _ (Oper.mk _ (Op.load 83 _) _ _ _ none) _ _ _ _; first | (refine O_ldV (by assumption) on83 rfl hV.tem hV.lt ?_) | (refine O_lds (t' := 172) (by assumption) (by repeat (first | exact List.Mem.head _ | refine List.Mem.tail _ ?_)) on83 rfl (by first | omega | (simp only [csz]; omega)) (by first | rfl | exact layMod rfl rfl) ?_; intro _ _ _ _ _ _))
    | (guard_target =~ WO _ _ (Oper.mk _ (Op.load 84 _) _ _ _ none) _ _ _ _; first | (refine O_ldV (by assumption) on84 rfl hV.tta hV.lt ?_))
    | (guard_target =~ WO _ _ (Oper.mk _ _ _ _ _ (some _)) _ _ _ _; first | (refine G_yes rfl ?_) | (refine G_no rfl ?_))
    | (guard_target =~ WC _ _ (Code.region 9 _ true) _ _ _; first | (refine W_drawnT (id := 9) [] [0, 1, 2, 3, 4, 5, 6, 7, 8, 9, 10, 11, 12, 13, 14, 15, 16, 17] mixed (by kernel_rfl) (by kernel_rfl) (by assumption) ?_; intro _ _ _))
    | (guard_target =~ WC _ _ (Code.region 11 _ true) _ _ _; first | (refine W_drawnT (id := 11) [] [0, 1, 2, 3, 4, 5, 6, 7, 8, 9] mixed (by kernel_rfl) (by kernel_rfl) (by assumption) ?_; intro _ _ _))
    | (guard_target =~ WC _ _ (Code.region 27 _ true) _ _ _; first | (refine W_drawnT (id := 27) [] [0, 1, 2, 3, 4, 5, 6, 7, 8, 9, 10, 11, 12, 13, 14, 15, 16, 17] mixed (by kernel_rfl) (by kernel_rfl) (by assumption) ?_; intro _ _ _))
    | (guard_target =~ WC _ _ (Code.region 30 _ true) _ _ _; first | (refine W_drawnT (id := 30) [] [0, 1, 2, 3, 4, 5, 6, 7, 8, 9, 10, 11, 12, 13, 14] mixed (by kernel_rfl) (by kernel_rfl) (by assumption) ?_; intro _ _ _))
    | (guard_target =~ WC _ _ (Code.region 31 _ true) _ _ _; first | (refine W_drawnT (id := 31) [] [0, 1, 2, 3, 4, 5, 6, 7, 8, 9, 10, 11, 12, 13, 14] mixed (by kernel_rfl) (by kernel_rfl) (by assumption) ?_; intro _ _ _))
    | (guard_target =~ WC _ _ (Code.region 33 _ true) _ _ _; first | (refine W_drawnT (id := 33) [] [0, 1, 2, 3, 4, 5, 6, 7, 8, 9, 10, 11, 12, 13, 14, 15, 16, 17] mixed (by kernel_rfl) (by kernel_rfl) (by assumption) ?_; intro _ _ _))
    | (guard_target =~ WC _ _ (Code.region 35 _ true) _ _ _; first | (refine W_drawnT (id := 35) [] [0, 1, 2, 3, 4, 5, 6, 7, 8, 9, 10, 11, 12, 13, 14] mixed (by kernel_rfl) (by kernel_rfl) (by assumption) ?_; intro _ _ _))
    | (guard_target =~ WC _ _ (Code.region 41 _ true) _ _ _; first | (refine W_drawnT (id := 41) [] [0, 1, 2, 3, 4, 5, 6, 7, 8, 9, 10, 11, 12, 13, 14] mixed (by kernel_rfl) (by kernel_rfl) (by assumption) ?_; intro _ _ _))
    | (guard_target =~ WO _ _ (Oper.mk _ (Op.assign _) _ _ _ none) _ _ _ _; first | (refine O_assign (v := (.int _ _)) rfl ?_) | (refine O_assign (v := (.bool _)) rfl ?_) | (refine O_assign (v := (.pointer _)) rfl ?_) | (refine O_assign (v := (.slice _ _ _)) rfl ?_) | (refine O_assign (v := (.agg _)) rfl ?_) | (refine O_assign (v := (.tuple _)) rfl ?_))
    | (guard_target =~ WO _ _ (Oper.mk _ (Op.move _) _ _ _ none) _ _ _ _; first | (refine O_move (v := (.int _ _)) rfl ?_) | (refine O_move (v := (.bool _)) rfl ?_) | (refine O_move (v := (.pointer _)) rfl ?_) | (refine O_move (v := (.slice _ _ _)) rfl ?_) | (refine O_move (v := (.agg _)) rfl ?_) | (refine O_move (v := (.tuple _)) rfl ?_))
    | (guard_target =~ WO _ _ (Oper.mk _ (Op.nilCheck _) _ _ _ none) _ _ _ _; first | (refine O_nil rfl ?_))
    | (guard_target =~ WO _ _ (Oper.mk _ (Op.fieldAddr 178 _ 0) _ _ _ none) _ _ _ _; first | (refine O_fdT fd178_0 (by decide) rfl ?_) | (refine O_field fd178_0 (by decide) rfl ?_))
    | (guard_target =~ WO _ _ (Oper.mk _ (Op.binOp BinOp.eql 5 _ _ _) _ _ _ none) _ _ _ _; first | (first | (refine O_eqlS rfl rfl (fun h => absurd h (by omega)) ?_; intro _) | (refine O_eqlS rfl rfl ?_ (fun h => absurd h (by omega)); intro _) | (refine O_eqlS rfl rfl ?_ ?_ <;> intro _)))
    | (guard_target =~ WO _ _ (Oper.mk _ (Op.fieldAddr 178 _ 1) _ _ _ none) _ _ _ _; first | (refine O_fdT fd178_1 (by decide) rfl ?_) | (refine O_field fd178_1 (by decide) rfl ?_))
    | (guard_target =~ WO _ _ (Oper.mk _ (Op.binOp BinOp.lss 21 _ _ _) _ _ _ none) _ _ _ _; first | (first | (refine O_lssS rfl rfl (fun h => absurd h (by omega)) ?_; intro _) | (refine O_lssS rfl rfl ?_ (fun h => absurd h (by omega)); intro _) | (refine O_lssS rfl rfl ?_ ?_ <;> intro _)))
    | (guard_target =~ WO _ _ (Oper.mk _ (Op.convert 21 3 _) _ _ _ none) _ _ _ _; first | (refine O_convZ Samg.underlying21 Samg.underlying3 rfl (by simp only [rngZ]; omega) ?_) | (refine O_convA Samg.underlying21 Samg.underlying3 rfl rfl ?_; intro _ hr; simp only [rngZ] at hr))
    | (guard_target =~ WO _ _ (Oper.mk _ (Op.fieldAddr 86 _ 0) _ _ _ none) _ _ _ _; first | (refine O_fdT fd86_0 (by decide) rfl ?_) | (refine O_field fd86_0 (by decide) rfl ?_))
    | (guard_target =~ WO _ _ (Oper.mk _ (Op.call _) _ _ _ none) _ _ _ _; first | (refine O_len Samg.underlying78 rfl rfl ?_) | (refine O_len Samg.underlying79 rfl rfl ?_) | (refine O_len Samg.underlying83 rfl rfl ?_) | (refine O_len Samg.underlying46 rfl rfl ?_))
    | (guard_target =~ WO _ _ (Oper.mk _ (Op.binOp BinOp.geq 3 _ _ _) _ _ _ none) _ _ _ _; first | (first | (refine O_geqS rfl rfl (fun h => absurd h (by omega)) ?_; intro _) | (refine O_geqS rfl rfl ?_ (fun h => absurd h (by omega)); intro _) | (refine O_geqS rfl rfl ?_ ?_ <;> intro _)))
    | (guard_target =~ WO _ _ (Oper.mk _ (Op.pick _ _ _) _ _ _ none) _ _ _ _; first | (refine O_pick_t (v := (.bool _)) rfl rfl ?_) | (refine O_pick_f (v := (.bool _)) rfl rfl ?_))
    | (guard_target =~ WO _ _ (Oper.mk _ (Op.fieldAddr 178 _ 3) _ _ _ none) _ _ _ _; first | (refine O_fdT fd178_3 (by decide) rfl ?_) | (refine O_field fd178_3 (by decide) rfl ?_))
    | (guard_target =~ WO _ _ (Oper.mk _ (Op.fieldAddr 148 _ 2) _ _ _ none) _ _ _ _; first | (refine O_fdT fd148_2 (by decide) rfl ?_) | (refine O_field fd148_2 (by decide) rfl ?_))
    | (guard_target =~ WO _ _ (Oper.mk _ (Op.fieldAddr 178 _ 2) _ _ _ none) _ _ _ _; first | (refine O_fdT fd178_2 (by decide) rfl ?_) | (refine O_field fd178_2 (by decide) rfl ?_))
    | (guard_target =~ WO _ _ (Oper.mk _ (Op.fieldAddr 148 _ 1) _ _ _ none) _ _ _ _; first | (refine O_fdT fd148_1 (by decide) rfl ?_) | (refine O_field fd148_1 (by decide) rfl ?_))
    | (guard_target =~ WO _ _ (Oper.mk _ (Op.fieldAddr 178 _ 4) _ _ _ none) _ _ _ _; first | (refine O_fdT fd178_4 (by decide) rfl ?_) | (refine O_field fd178_4 (by decide) rfl ?_))
    | (guard_target =~ WO _ _ (Oper.mk _ (Op.load 31 _) _ _ _ none) _ _ _ _; first | (refine O_lds (t' := 5) (by assumption) (by repeat (first | exact List.Mem.head _ | refine List.Mem.tail _ ?_)) on31 rfl (by first | omega | (simp only [csz]; omega)) (by first | rfl | exact layMod rfl rfl) ?_; intro _ _ _ _ _ _))
    | (guard_target =~ WO _ _ (Oper.mk _ (Op.fieldAddr 148 _ 3) _ _ _ none) _ _ _ _; first | (refine O_fdT fd148_3 (by decide) rfl ?_) | (refine O_field fd148_3 (by decide) rfl ?_))
    | (guard_target =~ WO _ _ (Oper.mk _ (Op.fieldAddr 178 _ 5) _ _ _ none) _ _ _ _; first | (refine O_fdT fd178_5 (by decide) rfl ?_) | (refine O_field fd178_5 (by decide) rfl ?_))
    | (guard_target =~ WO _ _ (Oper.mk _ (Op.load 4 _) _ _ _ none) _ _ _ _; first | (refine O_ldb (by assumption) (by repeat (first | exact List.Mem.head _ | refine List.Mem.tail _ ?_)) on4 rfl (by first | omega | (simp only [csz]; omega)) (by first | rfl | exact layMod rfl rfl) ?_ ?_))
    | (guard_target =~ WO _ _ (Oper.mk _ (Op.fieldAddr 148 _ 4) _ _ _ none) _ _ _ _; first | (refine O_fdT fd148_4 (by decide) rfl ?_) | (refine O_field fd148_4 (by decide) rfl ?_))
    | (guard_target =~ WO _ _ (Oper.mk _ (Op.fieldAddr 148 _ 5) _ _ _ none) _ _ _ _; first | (refine O_fdT fd148_5 (by decide) rfl ?_) | (refine O_field fd148_5 (by decide) rfl ?_))
    | (guard_target =~ WO _ _ (Oper.mk _ (Op.fieldAddr 148 _ 6) _ _ _ none) _ _ _ _; first | (refine O_fdT fd148_6 (by decide) rfl ?_) | (refine O_field fd148_6 (by decide) rfl ?_))
    | (guard_target =~ WO _ _ (Oper.mk _ (Op.fieldAddr 86 _ 1) _ _ _ none) _ _ _ _; first | (refine O_fdT fd86_1 (by decide) rfl ?_) | (refine O_field fd86_1 (by decide) rfl ?_))
    | (guard_target =~ WO _ _ (Oper.mk _ (Op.fieldAddr 153 _ 2) _ _ _ none) _ _ _ _; first | (refine O_fdT fd153_2 (by decide) rfl ?_) | (refine O_field fd153_2 (by decide) rfl ?_))
    | (guard_target =~ WO _ _ (Oper.mk _ (Op.fieldAddr 153 _ 4) _ _ _ none) _ _ _ _; first | (refine O_fdT fd153_4 (by decide) rfl ?_) | (refine O_field fd153_4 (by decide) rfl ?_))
    | (guard_target =~ WO _ _ (Oper.mk _ (Op.fieldAddr 86 _ 9) _ _ _ none) _ _ _ _; first | (refine O_fdT fd86_9 (by decide) rfl ?_) | (refine O_field fd86_9 (by decide) rfl ?_))
    | (guard_target =~ WO _ _ (Oper.mk _ (Op.fieldAddr 172 _ 2) _ _ _ none) _ _ _ _; first | (refine O_fdT fd172_2 (by decide) rfl ?_) | (refine O_field fd172_2 (by decide) rfl ?_))
    | (guard_target =~ WO _ _ (Oper.mk _ (Op.fieldAddr 86 _ 7) _ _ _ none) _ _ _ _; first | (refine O_fdT fd86_7 (by decide) rfl ?_) | (refine O_field fd86_7 (by decide) rfl ?_))
    | (guard_target =~ WO _ _ (Oper.mk _ (Op.fieldAddr 86 _ 8) _ _ _ none) _ _ _ _; first | (refine O_fdT fd86_8 (by decide) rfl ?_) | (refine O_field fd86_8 (by decide) rfl ?_))
    | (guard_target =~ WO _ _ (Oper.mk _ (Op.binOp BinOp.eql 3 _ _ _) _ _ _ none) _ _ _ _; first | (first | (refine O_eqlS rfl rfl (fun h => absurd h (by omega)) ?_; intro _) | (refine O_eqlS rfl rfl ?_ (fun h => absurd h (by omega)); intro _) | (refine O_eqlS rfl rfl ?_ ?_ <;> intro _)))
    | (guard_target =~ WO _ _ (Oper.mk _ (Op.binOp BinOp.sub 3 _ _ _) _ _ _ none) _ _ _ _; first | (refine O_subZ rfl rfl (by simp only [rngZ]; omega) ?_)))
  all_goals refine E_ret rfl rfl rfl ⟨rfl, hMu, hS7.t, σ.aL, σ.cL, ?_⟩
  all_goals first
    | (have e : σ.kd i = 0 := by omega
       have hT : undoE (σ.kd i) (σ.ja i) (σ.jn i) (σ.jw i) (cur σ) = (fun j k => if j = σ.ja i then σ.jw i k else σ.bal j k, σ.val, σ.ref) := by unfold undoE; rw [if_pos e, upF_eq]; rfl
       rw [hT, if_neg (by omega)]; exact hV7)
    | (have e : σ.kd i = 3 := by omega
       have hT : undoE (σ.kd i) (σ.ja i) (σ.jn i) (σ.jw i) (cur σ) = (σ.bal, fun j k => if j = σ.ja i then σ.jw i k else σ.val j k, σ.ref) := by unfold undoE; rw [if_neg (by omega), if_pos e, upF_eq]; rfl
       rw [hT, if_neg (by omega)]; exact hV7)
    | (have e : σ.kd i = 6 := by omega
       have hT : undoE (σ.kd i) (σ.ja i) (σ.jn i) (σ.jw i) (cur σ) = (σ.bal, σ.val, σ.jn i) := by unfold undoE; rw [if_neg (by omega), if_neg (by omega), if_pos e]; rfl
       rw [hT, if_neg (by omega)]; exact hV7)
    | (have e : σ.kd i = 7 := by omega
       rw [undo_n (by omega) (by omega) (by omega), if_pos e]; exact hV7)
    | (rw [undo_n (by omega) (by omega) (by omega), if_neg (by omega)]; exact hV7)
end Go.Proofs.Ygcsam
