/-
  slotOf, tempOf. Own work.
-/
import Derived.Test.YgcsamU4
import Derived.Test.YgcsamU7
namespace Go.Proofs.Ygcsam
set_option linter.unusedVariables false
set_option linter.unusedSimpArgs false
set_option maxRecDepth 4000
section
variable {P : Program} {ops : Array Oper} {e : Bool} {K : Env → World → Prop} {ρ : Env} {w w0 wS : World} {d : Nat} {ty : TypeId} {pos : String} {af : Array Edge} {n B : Nat} {L : List Fact} {M : List (Nat × Array Value)}
theorem O_mt {s : Nat} {σ : VS} {f : FuncId} {args : Array Operand} {ats : Array TypeId} {l : List Value} {R : Value → VS → Prop} (h : TS B w0 w L M) (hV : V B w0 s σ) (hM : Mu B wS w0) (hf : callable P f) (ha : args.toList.map (ev ρ) = l) (he : e = false) (hR : Ret P f l.toArray w (Mt B s w R))
    (k : ∀ v w' σ', R v σ' → V B w' s σ' → VI σ' → Mu B wS w' → TS B w' w' ((86, some ⟨s, 0, none⟩, 1, 1) :: (148, σ'.aA, σ'.na, σ'.cA) :: (153, σ'.aS, σ'.ns, σ'.cS) :: (178, σ'.aJ, σ'.nj, σ'.cJ) :: (126, σ'.aL, σ'.nl, σ'.cL) :: (172, σ'.aT, σ'.nt, σ'.cT) :: (21, σ'.aH, σ'.nh, σ'.cH) :: L) M → K (put ρ d v) w') : WO P ops ⟨some d, .call ⟨.value (.func f), args, ats⟩, ty, pos, af, none⟩ e K ρ w :=
  O_call hf ha (Ret.mono hR fun v w' ⟨h1, h2, σ', h3, h4, h5⟩ => ⟨fun h => (by rw [he] at h; cases h), k v w' σ' h5 h3 h4 ((hM.trans (h.e.mu hV.B0)).trans h1) ((((((((h.renew h2 h1.shp).addL h3.sH).addL h3.sT).addL h3.sL).addL h3.sJ).addL h3.sS).addL h3.sA).addL h3.sV)⟩)
end
section
variable {P : Program} {Q : Exit → Env → World → Prop} {n : Nat} {ρ : Env} {w : World}
theorem W_cut2 {a b c : Code} (M : Env → World → Prop) (h : WC P n a (thenQ (WC P n b (thenQ M Q)) Q) ρ w) (hc : ∀ ρ w, M ρ w → WC P n c Q ρ w) : WC P n (.seq a (.seq b c)) Q ρ w :=
  W_seq (W_mid h fun e ρ w h => by cases e <;> first | exact W_cut M h hc | exact h)
theorem W_cut3 {a b c d : Code} (M : Env → World → Prop) (h : WC P n a (thenQ (WC P n b (thenQ (WC P n c (thenQ M Q)) Q)) Q) ρ w) (hc : ∀ ρ w, M ρ w → WC P n d Q ρ w) : WC P n (.seq a (.seq b (.seq c d))) Q ρ w :=
  W_seq (W_mid h fun e ρ w h => by cases e <;> first | exact W_cut2 M h hc | exact h)
theorem W_cut4 {a b c d e : Code} (M : Env → World → Prop) (h : WC P n a (thenQ (WC P n b (thenQ (WC P n c (thenQ (WC P n d (thenQ M Q)) Q)) Q)) Q) ρ w) (hc : ∀ ρ w, M ρ w → WC P n e Q ρ w) : WC P n (.seq a (.seq b (.seq c (.seq d e)))) Q ρ w :=
  W_seq (W_mid h fun e ρ w h => by cases e <;> first | exact W_cut3 M h hc | exact h)
theorem W_cut5 {a b c d e f : Code} (M : Env → World → Prop) (h : WC P n a (thenQ (WC P n b (thenQ (WC P n c (thenQ (WC P n d (thenQ (WC P n e (thenQ M Q)) Q)) Q)) Q)) Q) ρ w) (hc : ∀ ρ w, M ρ w → WC P n f Q ρ w) : WC P n (.seq a (.seq b (.seq c (.seq d (.seq e f))))) Q ρ w :=
  W_seq (W_mid h fun e ρ w h => by cases e <;> first | exact W_cut4 M h hc | exact h)
end
theorem TS.withV {B s : Nat} {σ : VS} {w : World} {L : List Fact} {M : List (Nat × Array Value)} (h : TS B w w L M) (h3 : V B w s σ) : TS B w w ((86, some ⟨s, 0, none⟩, 1, 1) :: (148, σ.aA, σ.na, σ.cA) :: (153, σ.aS, σ.ns, σ.cS) :: (178, σ.aJ, σ.nj, σ.cJ) :: (126, σ.aL, σ.nl, σ.cL) :: (172, σ.aT, σ.nt, σ.cT) :: (21, σ.aH, σ.nh, σ.cH) :: L) M := (((((((h.addL h3.sH).addL h3.sT).addL h3.sL).addL h3.sJ).addL h3.sS).addL h3.sA).addL h3.sV)
theorem boolcase {p : Bool} {X : Prop} (h : p = true → X) : (p = true ∧ X) ∨ p = false := by
  cases p
  · exact .inr rfl
  · exact .inl ⟨rfl, h rfl⟩
theorem boolcaseN {p : Bool} {a : Int} {n : Nat} (h : p = true → 0 ≤ a ∧ a < n) : (p = true ∧ ∃ m : Nat, a = m ∧ m < n) ∨ p = false := by
  cases p
  · exact .inr rfl
  · obtain ⟨h1, h2⟩ := h rfl
    obtain ⟨m, rfl⟩ := Int.eq_ofNat_of_zero_le h1
    exact .inl ⟨rfl, m, rfl, by omega⟩
section
variable {P : Program} {ops : Array Oper} {e : Bool} {K : Env → World → Prop} {ρ : Env} {w w0 : World} {d : Nat} {ty : TypeId} {pos : String} {af : Array Edge} {B : Nat} {L : List Fact} {M : List (Nat × Array Value)}
theorem O_ixM {t el s l cap m : Nat} {k : IntKind} {x i : Operand} {a : Option Addr} (h : TS B w0 w L M) (hm : (el, a, l, cap) ∈ L) (ht : slcT P t el s) (hx : ev ρ x = .slice a l cap) (hi : ev ρ i = .int k ((m : Nat) : Int)) (hlt : m < l)
    (kk : ∀ b : Nat, l ≤ cap → a = some ⟨b, 0, none⟩ → TS B w0 w ((el, some ⟨b, 0, none⟩, l, cap) :: L) M → K (put ρ d (.pointer (some ⟨b, m * s + 0, none⟩))) w) : WO P ops ⟨some d, .indexAddr t x i, ty, pos, af, none⟩ e K ρ w :=
  O_ixN h hm ht hx hi (by omega) (by omega) fun b m' e1 e2 e3 e4 => by
    have : m' = m := by omega
    subst this
    exact kk b e2 e3 e4
end
theorem slotOf_ok {B s : Nat} {σ : VS} {w : World} (hT : WT B w) (hV : V B w s σ) (hI : VI σ) {f g : Nat → Nat} (hf : ∀ i, f i < 256) (hg : ∀ i, g i < 18446744073709551616) : Ret Samg.prog 97 #[.pointer (some ⟨s, 0, none⟩), .agg (ns .u8 20 f), .agg (ns .u64 4 g)] w (Mt B s w fun v σ' => ∃ (a : Int) (p : Bool), v = .tuple #[.int .i32 a, .bool p] ∧ Sm σ σ' ∧ -1 ≤ a ∧ (p = true → 0 ≤ a ∧ a < σ'.ns)) := by
  refine W_enter (l := [_, _, _]) Samg.func97 rfl rfl rfl ?_
  have hS := hV.start hT; have hMu := Mu.refl B w; have hna := hI.na; have hns := hI.ns; have hnt := hI.nt; have hnj := hI.nj; have hnm := hI.nm; have hnl := hI.nl
  repeat' (first
    | (refine L_cons ?_)
    | (refine R_cons rfl ?_)
    | (refine W_seq ?_)
    | (refine W_region (by kernel_rfl) ?_)
    | (refine L_nil ?_)
    | (refine R_nil ?_)
    | (refine W_block ?_)
    | (refine W_skip ?_)
    | (refine W_exit ?_)
    | (refine W_ret ?_)
    | (guard_target =~ thenQ _ _ _ _ _; first | (refine T_next ?_) | (refine T_exit ?_) | (refine T_ret ?_))
    | (guard_target =~ blockQ _ _ _ _ _; first | (refine B_next ?_) | (refine B_same ?_) | (refine B_other (by kernel_rfl) ?_) | (refine B_ret ?_))
    | (refine W_true rfl rfl ?_)
    | (refine W_false rfl rfl ?_)
    | (guard_target =~ WO _ _ (Oper.mk _ (Op.call (Call.mk (Callee.value (Operand.func 80)) _ _)) _ _ _ none) _ _ _ _; first | (refine O_mt (l := [.pointer (some ⟨s, 0, none⟩), .int .i32 _, .agg (ns .u64 4 _)]) (by assumption) hV hMu cl80 rfl rfl (slot_ok (TS.t (by assumption)) (hV.ext (TS.e (by assumption))) hI (by omega) (by assumption)) ?_; rintro _ w2 σ2 ⟨at3, p2, rfl, hSm2, hat3, hat4, _⟩ hV hI hMu hS2))
    | (guard_target =~ WO _ _ (Oper.mk _ (Op.call (Call.mk (Callee.value (Operand.func 83)) _ _)) _ _ _ none) _ _ _ _; first | (refine O_rd (l := [.pointer (some ⟨s, 0, none⟩), .agg (ns .u8 20 _)]) (by assumption) cl83 rfl (findAcct_ok (TS.t (by assumption)) (hV.ext (TS.e (by assumption))) hI (by assumption)) ?_; rintro _ _ ⟨at_, fr, rfl, hat⟩ _ _))
    | (guard_target =~ WO _ _ (Oper.mk _ (Op.call (Call.mk (Callee.value (Operand.func 78)) _ _)) _ _ _ none) _ _ _ _; first | (refine O_mt (l := [.pointer (some ⟨s, 0, none⟩), .agg (ns .u8 20 _)]) (by assumption) hV hMu cl78 rfl rfl (acct_ok (TS.t (by assumption)) (hV.ext (TS.e (by assumption))) hI (by assumption)) ?_; rintro _ w1 σ1 ⟨at1, p1, rfl, hSm1, hat0, hat1, _, hnt1⟩ hV hI hMu hS1; have hna := hI.na; have hns := hI.ns; have hnt := hI.nt; have hnj := hI.nj; have hnm := hI.nm; have hnl := hI.nl; rcases boolcase hat1 with ⟨rfl, hat1⟩ | rfl))
    | (guard_target =~ WO _ _ (Oper.mk _ (Op.load 78 _) _ _ _ none) _ _ _ _; first | (refine O_ldV (by assumption) on78 rfl hV.acc hV.lt ?_))
    | (guard_target =~ WO _ _ (Oper.mk _ (Op.load 79 _) _ _ _ none) _ _ _ _; first | (refine O_ldV (by assumption) on79 rfl hV.slo hV.lt ?_) | (refine O_lds (t' := 153) (by assumption) (by repeat (first | exact List.Mem.head _ | refine List.Mem.tail _ ?_)) on79 rfl (by first | omega | (simp only [csz]; omega)) (by first | rfl | exact layMod rfl rfl) ?_; intro _ _ _ _ _ _))
    | (guard_target =~ WO _ _ (Oper.mk _ (Op.load 81 _) _ _ _ none) _ _ _ _; first | (refine O_ldV (by assumption) on81 rfl hV.jou hV.lt ?_))
    | (guard_target =~ WO _ _ (Oper.mk _ (Op.load 46 _) _ _ _ none) _ _ _ _; first | (refine O_ldV (by assumption) on46 rfl hV.log hV.lt ?_))
    | (guard_target =~ WO _ _ (Oper.mk _ (Op.load 83 _) _ _ _ none) _ _ _ _; first | (refine O_ldV (by assumption) on83 rfl hV.tem hV.lt ?_))
    | (guard_target =~ WO _ _ (Oper.mk _ (Op.load 84 _) _ _ _ none) _ _ _ _; first | (refine O_ldV (by assumption) on84 rfl hV.tta hV.lt ?_))
    | (guard_target =~ WO _ _ (Oper.mk _ (Op.load 21 _) _ _ _ none) _ _ _ _; first | (refine O_ldV (by assumption) on21 rfl hV.nmk hV.lt ?_))
    | (guard_target =~ WO _ _ (Oper.mk _ (Op.load 27 _) _ _ _ none) _ _ _ _; first | (refine O_ldV (by assumption) on27 rfl hV.rf hV.lt ?_))
    | (guard_target =~ WO _ _ (Oper.mk _ _ _ _ _ (some _)) _ _ _ _; first | (refine G_yes rfl ?_) | (refine G_no rfl ?_))
    | (guard_target =~ WO _ _ (Oper.mk _ (Op.box 24 _) _ _ _ none) _ _ _ _; first | (refine O_bx8 (by assumption) rfl (by assumption) rfl rfl ?_; intro _ _ _ _))
    | (guard_target =~ WO _ _ (Oper.mk _ (Op.box 45 _) _ _ _ none) _ _ _ _; first | (refine O_bx64 (by assumption) rfl (by assumption) rfl rfl ?_; intro _ _ _ _))
    | (guard_target =~ WO _ _ (Oper.mk _ (Op.assign _) _ _ _ none) _ _ _ _; first | (refine O_assign (v := (.int _ _)) rfl ?_) | (refine O_assign (v := (.bool _)) rfl ?_) | (refine O_assign (v := (.pointer _)) rfl ?_) | (refine O_assign (v := (.slice _ _ _)) rfl ?_) | (refine O_assign (v := (.agg _)) rfl ?_) | (refine O_assign (v := (.tuple _)) rfl ?_))
    | (guard_target =~ WO _ _ (Oper.mk _ (Op.move _) _ _ _ none) _ _ _ _; first | (refine O_move (v := (.int _ _)) rfl ?_) | (refine O_move (v := (.bool _)) rfl ?_) | (refine O_move (v := (.pointer _)) rfl ?_) | (refine O_move (v := (.slice _ _ _)) rfl ?_) | (refine O_move (v := (.agg _)) rfl ?_) | (refine O_move (v := (.tuple _)) rfl ?_))
    | (guard_target =~ WO _ _ (Oper.mk _ (Op.load 24 _) _ _ _ none) _ _ _ _; first | (refine O_ldn8 (by assumption) (by repeat (first | exact List.Mem.head _ | refine List.Mem.tail _ ?_)) ag24 rfl (by first | omega | (simp only [csz]; omega)) (by first | exact layRun0 rfl rfl | exact layRun rfl rfl rfl) ?_; intro _ _))
    | (guard_target =~ WO _ _ (Oper.mk _ (Op.extract _ _) _ _ _ none) _ _ _ _; first | (refine O_extract rfl rfl ?_))
    | (guard_target =~ WO _ _ (Oper.mk _ (Op.binOp BinOp.lss 21 _ _ _) _ _ _ none) _ _ _ _; first | (first | (refine O_lssS rfl rfl (fun h => absurd h (by omega)) ?_; intro _) | (refine O_lssS rfl rfl ?_ (fun h => absurd h (by omega)); intro _) | (refine O_lssS rfl rfl ?_ ?_ <;> intro _)))
    | (guard_target =~ WO _ _ (Oper.mk _ (Op.nilCheck _) _ _ _ none) _ _ _ _; first | (refine O_nil rfl ?_))
    | (guard_target =~ WO _ _ (Oper.mk _ (Op.fieldAddr 86 _ 1) _ _ _ none) _ _ _ _; first | (refine O_fdT fd86_1 (by decide) rfl ?_) | (refine O_field fd86_1 (by decide) rfl ?_))
    | (guard_target =~ WO _ _ (Oper.mk _ (Op.call _) _ _ _ none) _ _ _ _; first | (refine O_len Samg.underlying79 rfl rfl ?_))
    | (guard_target =~ WO _ _ (Oper.mk _ (Op.binOp BinOp.geq 3 _ _ _) _ _ _ none) _ _ _ _; first | (first | (refine O_geqS rfl rfl (fun h => absurd h (by omega)) ?_; intro _) | (refine O_geqS rfl rfl ?_ (fun h => absurd h (by omega)); intro _) | (refine O_geqS rfl rfl ?_ ?_ <;> intro _)))
    | (guard_target =~ WO _ _ (Oper.mk _ (Op.pick _ _ _) _ _ _ none) _ _ _ _; first | (refine O_pick_t (v := (.bool _)) rfl rfl ?_) | (refine O_pick_f (v := (.bool _)) rfl rfl ?_))
    | (guard_target =~ WO _ _ (Oper.mk _ (Op.unOp _ _ _) _ _ _ none) _ _ _ _; first | (refine O_not rfl ?_))
    | (guard_target =~ WO _ _ (Oper.mk _ (Op.load 45 _) _ _ _ none) _ _ _ _; first | (refine O_ldn64 (by assumption) (by repeat (first | exact List.Mem.head _ | refine List.Mem.tail _ ?_)) ag45 rfl (by first | omega | (simp only [csz]; omega)) (by first | exact layRun0 rfl rfl | exact layRun rfl rfl rfl) ?_; intro _ _)))
  all_goals first
    | exact E_ret2 rfl rfl rfl rfl rfl ⟨hMu, hS2.t, σ2, hV, hI, _, _, rfl, hSm1.trans hSm2, by omega, hat4⟩
    | exact E_ret2 rfl rfl rfl rfl rfl ⟨hMu, hS1.t, σ1, hV, hI, _, _, rfl, hSm1, by omega, fun h => (by cases h)⟩
    | exact E_ret2 rfl rfl rfl rfl rfl ⟨TS.mu (by assumption) hV.B0, TS.t (by assumption), σ, hV.ext (TS.e (by assumption)), hI, _, _, rfl, Sm.refl σ, by omega, fun h => (by cases h)⟩
theorem VI.temps {σ : VS} (h : VI σ) {a : Option Addr} {n c : Nat} (hn : n ≤ 12288) (hle : σ.nt ≤ n) : VI { σ with aT := a, nt := n, cT := c } :=
  { h with
    nt := hn
    pt := fun i hi hk => Nat.lt_of_lt_of_le (h.pt i hi hk) hle }
theorem VI.ttab {σ : VS} (h : VI σ) {a : Option Addr} {n c : Nat} : VI { σ with aH := a, nh := n, cH := c } := { h with }
theorem Sm.ttab (σ : VS) {a : Option Addr} {n c : Nat} : Sm σ { σ with aH := a, nh := n, cH := c } := ⟨Nat.le_refl _, Nat.le_refl _, Nat.le_refl _, rfl, rfl, rfl, rfl, rfl, rfl, rfl, rfl, rfl, rfl, rfl, rfl⟩
theorem Sm.temps (σ : VS) {a : Option Addr} {n c : Nat} (hle : σ.nt ≤ n) : Sm σ { σ with aT := a, nt := n, cT := c } := ⟨Nat.le_refl _, Nat.le_refl _, hle, rfl, rfl, rfl, rfl, rfl, rfl, rfl, rfl, rfl, rfl, rfl, rfl⟩
theorem tempOf_ok {B s : Nat} {σ : VS} {w : World} (hT : WT B w) (hV : V B w s σ) (hI : VI σ) {f g : Nat → Nat} (hf : ∀ i, f i < 256) (hg : ∀ i, g i < 18446744073709551616) : Ret Samg.prog 98 #[.pointer (some ⟨s, 0, none⟩), .agg (ns .u8 20 f), .agg (ns .u64 4 g)] w (Mt B s w fun v σ' => ∃ (a : Int) (p : Bool), v = .tuple #[.int .i32 a, .bool p] ∧ Sm σ σ' ∧ -1 ≤ a ∧ (p = true → 0 ≤ a ∧ a < σ'.nt)) := by
  refine W_enter (l := [_, _, _]) Samg.func98 rfl rfl rfl ?_
  have hS := hV.start hT; have hMu := Mu.refl B w; have hna := hI.na; have hns := hI.ns; have hnt := hI.nt; have hnj := hI.nj; have hnm := hI.nm; have hnl := hI.nl
  refine W_cut4 (fun ρ w' => ∃ (a : Int) (b4 b5 : Nat), -1 ≤ a ∧ a < σ.nt ∧ TS B w w' ((24, some ⟨b4, 0, none⟩, 1, 1) :: (45, some ⟨b5, 0, none⟩, 1, 1) :: [(86, some ⟨s, 0, none⟩, 1, 1), (148, σ.aA, σ.na, σ.cA), (153, σ.aS, σ.ns, σ.cS), (178, σ.aJ, σ.nj, σ.cJ), (126, σ.aL, σ.nl, σ.cL), (172, σ.aT, σ.nt, σ.cT), (21, σ.aH, σ.nh, σ.cH)]) [] ∧ Has ρ [(0, .pointer (some ⟨s, 0, none⟩)), (4, .pointer (some ⟨b4, 0, none⟩)), (5, .pointer (some ⟨b5, 0, none⟩)), (10, .int .i32 a)]) ?_ ?_
  · repeat' (first
      | (refine L_cons ?_)
      | (refine R_cons rfl ?_)
      | (refine W_seq ?_)
      | (refine W_region (by kernel_rfl) ?_)
      | (refine L_nil ?_)
      | (refine R_nil ?_)
      | (refine W_block ?_)
      | (refine W_skip ?_)
      | (refine W_exit ?_)
      | (refine W_ret ?_)
      | (guard_target =~ thenQ _ _ _ _ _; first | (refine T_next ?_) | (refine T_exit ?_) | (refine T_ret ?_))
      | (guard_target =~ blockQ _ _ _ _ _; first | (refine B_next ?_) | (refine B_same ?_) | (refine B_other (by kernel_rfl) ?_) | (refine B_ret ?_))
      | (refine W_true rfl rfl ?_)
      | (refine W_false rfl rfl ?_)
      | (guard_target =~ WO _ _ (Oper.mk _ (Op.call (Call.mk (Callee.value (Operand.func 83)) _ _)) _ _ _ none) _ _ _ _; first | (refine O_rd (l := [.pointer (some ⟨s, 0, none⟩), .agg (ns .u8 20 _)]) (by assumption) cl83 rfl (findAcct_ok (TS.t (by assumption)) (hV.ext (TS.e (by assumption))) hI (by assumption)) ?_; rintro _ _ ⟨at_, fr, rfl, hat⟩ _ _))
      | (guard_target =~ WO _ _ (Oper.mk _ (Op.call (Call.mk (Callee.value (Operand.func 86)) _ _)) _ _ _ none) _ _ _ _; first | (refine O_rd (l := [.pointer (some ⟨s, 0, none⟩), .int .i32 _, .agg (ns .u64 4 _)]) (by assumption) cl86 rfl (findTemp_ok (TS.t (by assumption)) (hV.ext (TS.e (by assumption))) hI (by assumption)) ?_; rintro _ _ ⟨at2, fr2, rfl, hat2, hfr2⟩ _ _))
      | (guard_target =~ WO _ _ (Oper.mk _ (Op.load 78 _) _ _ _ none) _ _ _ _; first | (refine O_ldV (by assumption) on78 rfl hV.acc hV.lt ?_))
      | (guard_target =~ WO _ _ (Oper.mk _ (Op.load 79 _) _ _ _ none) _ _ _ _; first | (refine O_ldV (by assumption) on79 rfl hV.slo hV.lt ?_))
      | (guard_target =~ WO _ _ (Oper.mk _ (Op.load 81 _) _ _ _ none) _ _ _ _; first | (refine O_ldV (by assumption) on81 rfl hV.jou hV.lt ?_))
      | (guard_target =~ WO _ _ (Oper.mk _ (Op.load 46 _) _ _ _ none) _ _ _ _; first | (refine O_ldV (by assumption) on46 rfl hV.log hV.lt ?_))
      | (guard_target =~ WO _ _ (Oper.mk _ (Op.load 83 _) _ _ _ none) _ _ _ _; first | (refine O_ldV (by assumption) on83 rfl hV.tem hV.lt ?_) | (refine O_lds (t' := 172) (by assumption) (by repeat (first | exact List.Mem.head _ | refine List.Mem.tail _ ?_)) on83 rfl (by first | omega | (simp only [csz]; omega)) (by first | rfl | exact layMod rfl rfl) ?_; intro _ _ _ _ _ _))
      | (guard_target =~ WO _ _ (Oper.mk _ (Op.load 84 _) _ _ _ none) _ _ _ _; first | (refine O_ldV (by assumption) on84 rfl hV.tta hV.lt ?_) | (refine O_lds (t' := 21) (by assumption) (by repeat (first | exact List.Mem.head _ | refine List.Mem.tail _ ?_)) on84 rfl (by first | omega | (simp only [csz]; omega)) (by first | rfl | exact layMod rfl rfl) ?_; intro _ _ _ _ _ _))
      | (guard_target =~ WO _ _ (Oper.mk _ (Op.load 21 _) _ _ _ none) _ _ _ _; first | (refine O_ldV (by assumption) on21 rfl hV.nmk hV.lt ?_))
      | (guard_target =~ WO _ _ (Oper.mk _ (Op.load 27 _) _ _ _ none) _ _ _ _; first | (refine O_ldV (by assumption) on27 rfl hV.rf hV.lt ?_))
      | (guard_target =~ WC _ _ (Code.region 23 _ true) _ _ _; first | (refine W_drawnT (id := 23) [8] [0, 1, 2, 3, 4, 5, 6, 7, 8, 9, 10, 11, 12] mixed (by kernel_rfl) (by kernel_rfl) (by assumption) ?_; intro _ _ _))
      | (guard_target =~ WO _ _ (Oper.mk _ (Op.box 24 _) _ _ _ none) _ _ _ _; first | (refine O_bx8 (by assumption) rfl (by assumption) rfl rfl ?_; intro _ _ _ _))
      | (guard_target =~ WO _ _ (Oper.mk _ (Op.box 45 _) _ _ _ none) _ _ _ _; first | (refine O_bx64 (by assumption) rfl (by assumption) rfl rfl ?_; intro _ _ _ _))
      | (guard_target =~ WO _ _ (Oper.mk _ (Op.assign _) _ _ _ none) _ _ _ _; first | (refine O_assign (v := (.int _ _)) rfl ?_) | (refine O_assign (v := (.bool _)) rfl ?_) | (refine O_assign (v := (.pointer _)) rfl ?_) | (refine O_assign (v := (.slice _ _ _)) rfl ?_) | (refine O_assign (v := (.agg _)) rfl ?_) | (refine O_assign (v := (.tuple _)) rfl ?_))
      | (guard_target =~ WO _ _ (Oper.mk _ (Op.move _) _ _ _ none) _ _ _ _; first | (refine O_move (v := (.int _ _)) rfl ?_) | (refine O_move (v := (.bool _)) rfl ?_) | (refine O_move (v := (.pointer _)) rfl ?_) | (refine O_move (v := (.slice _ _ _)) rfl ?_) | (refine O_move (v := (.agg _)) rfl ?_) | (refine O_move (v := (.tuple _)) rfl ?_))
      | (guard_target =~ WO _ _ (Oper.mk _ (Op.load 24 _) _ _ _ none) _ _ _ _; first | (refine O_ldn8 (by assumption) (by repeat (first | exact List.Mem.head _ | refine List.Mem.tail _ ?_)) ag24 rfl (by first | omega | (simp only [csz]; omega)) (by first | exact layRun0 rfl rfl | exact layRun rfl rfl rfl) ?_; intro _ _))
      | (guard_target =~ WO _ _ (Oper.mk _ (Op.extract _ _) _ _ _ none) _ _ _ _; first | (refine O_extract rfl rfl ?_))
      | (guard_target =~ WO _ _ (Oper.mk _ (Op.binOp BinOp.geq 21 _ _ _) _ _ _ none) _ _ _ _; first | (first | (refine O_geqS rfl rfl (fun h => absurd h (by omega)) ?_; intro _) | (refine O_geqS rfl rfl ?_ (fun h => absurd h (by omega)); intro _) | (refine O_geqS rfl rfl ?_ ?_ <;> intro _)))
      | (guard_target =~ WO _ _ (Oper.mk _ (Op.load 45 _) _ _ _ none) _ _ _ _; first | (refine O_ldn64 (by assumption) (by repeat (first | exact List.Mem.head _ | refine List.Mem.tail _ ?_)) ag45 rfl (by first | omega | (simp only [csz]; omega)) (by first | exact layRun0 rfl rfl | exact layRun rfl rfl rfl) ?_; intro _ _))
      | (guard_target =~ WO _ _ (Oper.mk _ (Op.nilCheck _) _ _ _ none) _ _ _ _; first | (refine O_nil rfl ?_))
      | (guard_target =~ WO _ _ (Oper.mk _ (Op.fieldAddr 86 _ 9) _ _ _ none) _ _ _ _; first | (refine O_fdT fd86_9 (by decide) rfl ?_) | (refine O_field fd86_9 (by decide) rfl ?_))
      | (guard_target =~ WO _ _ (Oper.mk _ (Op.call _) _ _ _ none) _ _ _ _; first | (refine O_len Samg.underlying83 rfl rfl ?_) | (refine O_len Samg.underlying84 rfl rfl ?_))
      | (guard_target =~ WO _ _ (Oper.mk _ (Op.binOp BinOp.geq 3 _ _ _) _ _ _ none) _ _ _ _; first | (first | (refine O_geqS rfl rfl (fun h => absurd h (by omega)) ?_; intro _) | (refine O_geqS rfl rfl ?_ (fun h => absurd h (by omega)); intro _) | (refine O_geqS rfl rfl ?_ ?_ <;> intro _)))
      | (guard_target =~ WO _ _ (Oper.mk _ (Op.unOp _ _ _) _ _ _ none) _ _ _ _; first | (refine O_not rfl ?_))
      | (guard_target =~ WO _ _ (Oper.mk _ (Op.fieldAddr 86 _ 10) _ _ _ none) _ _ _ _; first | (refine O_fdT fd86_10 (by decide) rfl ?_) | (refine O_field fd86_10 (by decide) rfl ?_))
      | (guard_target =~ WO _ _ (Oper.mk _ (Op.binOp BinOp.neq 3 _ _ _) _ _ _ none) _ _ _ _; first | (first | (refine O_neqS rfl rfl (fun h => absurd h (by omega)) ?_; intro _) | (refine O_neqS rfl rfl ?_ (fun h => absurd h (by omega)); intro _) | (refine O_neqS rfl rfl ?_ ?_ <;> intro _)))
      | (guard_target =~ WO _ _ (Oper.mk _ (Op.makeSlice 84 _ _) _ _ _ none) _ _ _ _; first | (refine O_mk (by assumption) sl84 by21 zc21 (by decide) rfl rfl (by omega) (by omega) ?_; intro _ _ _ _))
      | (guard_target =~ WO _ _ (Oper.mk _ (Op.store 84 _ _) _ _ _ none) _ _ _ _; first | (refine O_st (by assumption) (by repeat (first | exact List.Mem.head _ | refine List.Mem.tail _ ?_)) (by omega) on84 rfl rfl (by first | omega | (simp only [csz]; omega)) (okp (c' := 100 + 21) (by first | rfl | exact layMod rfl rfl) (okS (by first | exact Sl.nil _ | exact TS.slN (by assumption) (by repeat (first | exact List.Mem.head _ | refine List.Mem.tail _ ?_))))) rfl ?_; intro _ _))
      | (guard_target =~ WO _ _ (Oper.mk _ (Op.binOp BinOp.lss 3 _ _ _) _ _ _ none) _ _ _ _; first | (first | (refine O_lssS rfl rfl (fun h => absurd h (by omega)) ?_; intro _) | (refine O_lssS rfl rfl ?_ (fun h => absurd h (by omega)); intro _) | (refine O_lssS rfl rfl ?_ ?_ <;> intro _)))
      | (guard_target =~ WO _ _ (Oper.mk _ (Op.indexAddr 84 _ _) _ _ _ none) _ _ _ _; first | (refine O_ixK (by assumption) (by repeat (first | exact List.Mem.head _ | refine List.Mem.tail _ ?_)) sl84 rfl rfl (by omega) (by omega) ?_; rintro _ _ _) | (refine O_ixN (by assumption) (by repeat (first | exact List.Mem.head _ | refine List.Mem.tail _ ?_)) sl84 rfl rfl (by omega) (by omega) ?_; rintro _ _ _ _ _ _))
      | (guard_target =~ WO _ _ (Oper.mk _ (Op.store 21 _ _) _ _ _ none) _ _ _ _; first | (refine O_st (by assumption) (by repeat (first | exact List.Mem.head _ | refine List.Mem.tail _ ?_)) (by omega) on21 rfl rfl (by first | omega | (simp only [csz]; omega)) (by first | exact okp (c' := 2) (by first | rfl | exact layMod rfl rfl) (ok64 (by omega)) | exact okp (c' := 1) (by first | rfl | exact layMod rfl rfl) (ok8 (by omega)) | exact okp (c' := 3) (by first | rfl | exact layMod rfl rfl) (ok32 (by omega) (by omega)) | exact okp (c' := 4) (by first | rfl | exact layMod rfl rfl) okB_) rfl ?_; intro _ _))
      | (guard_target =~ WO _ _ (Oper.mk _ (Op.binOp BinOp.add 3 _ _ _) _ _ _ none) _ _ _ _; first | (refine O_addZ rfl rfl (by simp only [rngZ]; omega) ?_))
      | (guard_target =~ WO _ _ (Oper.mk _ (Op.binOp BinOp.lss 21 _ _ _) _ _ _ none) _ _ _ _; first | (first | (refine O_lssS rfl rfl (fun h => absurd h (by omega)) ?_; intro _) | (refine O_lssS rfl rfl ?_ (fun h => absurd h (by omega)); intro _) | (refine O_lssS rfl rfl ?_ ?_ <;> intro _)))
      | (guard_target =~ WO _ _ (Oper.mk _ (Op.convert 3 21 _) _ _ _ none) _ _ _ _; first | (refine O_convZ Samg.underlying3 Samg.underlying21 rfl (by simp only [rngZ]; omega) ?_) | (refine O_convA Samg.underlying3 Samg.underlying21 rfl rfl ?_; intro _ hr; simp only [rngZ] at hr))
      | (guard_target =~ WO _ _ (Oper.mk _ (Op.build 172 #[(0, _), (1, _)]) _ _ _ none) _ _ _ _; first | (refine O_bd (l := [(0, .int .i32 _), (1, .agg (ns .u64 4 _))]) (by assumption) st172 zc172 rfl ⟨_, _, rfl, rfl, rfl, ⟨_, _, rfl, rfl, rfl, rfl⟩⟩ ⟨one_ok (c' := 3) rfl (ok32 (by omega) (by omega)), ⟨run64_ok (by assumption) rfl, trivial⟩⟩ ?_; intro _ _ _))
      | (guard_target =~ WO _ _ (Oper.mk _ (Op.buildSlice 83 1 _) _ _ _ none) _ _ _ _; first | (refine O_one (v := .agg _) (by assumption) sl83 zc172 (by decide) rfl rfl (TS.okA (t := 172) (by assumption) (by repeat (first | exact List.Mem.head _ | refine List.Mem.tail _ ?_))).1 (TS.okA (t := 172) (by assumption) (by repeat (first | exact List.Mem.head _ | refine List.Mem.tail _ ?_))).2 ?_; intro _ _ _ _ _ _ _))
      | (guard_target =~ WO _ _ (Oper.mk _ (Op.store 83 _ _) _ _ _ none) _ _ _ _; first | (refine O_st (by assumption) (by repeat (first | exact List.Mem.head _ | refine List.Mem.tail _ ?_)) (by omega) on83 rfl rfl (by first | omega | (simp only [csz]; omega)) (okp (c' := 100 + 172) (by first | rfl | exact layMod rfl rfl) (okS (by first | exact Sl.nil _ | exact TS.slN (by assumption) (by repeat (first | exact List.Mem.head _ | refine List.Mem.tail _ ?_))))) rfl ?_; intro _ _)))
    all_goals refine ⟨_, _, _, ?_, ?_, TS.pick (by assumption) (by repeat (first | exact List.Mem.head _ | refine List.Mem.tail _ ?_)) (TS.pick (by assumption) (by repeat (first | exact List.Mem.head _ | refine List.Mem.tail _ ?_)) (hV.at (by assumption))), Has.mk ⟨rfl, rfl, rfl, rfl, trivial⟩⟩ <;> omega
  rintro ρ w' ⟨a, b4, b5, ha0, ha1, hS', σ', rfl⟩
  refine W_cut5 (fun ρ w2 => ∃ (σ1 : VS) (z : Int), Sm σ σ1 ∧ σ1.nt < 12288 ∧ V B w2 s σ1 ∧ VI σ1 ∧ Mu B w w2 ∧ -2147483648 ≤ z ∧ z < 2147483648 ∧ TS B w2 w2 [(45, some ⟨b5, 0, none⟩, 1, 1)] [] ∧ Has ρ [(0, .pointer (some ⟨s, 0, none⟩)), (5, .pointer (some ⟨b5, 0, none⟩)), (8, .int .i32 z)]) ?_ ?_
  · repeat' (first
      | (refine L_cons ?_)
      | (refine R_cons rfl ?_)
      | (refine W_seq ?_)
      | (refine W_region (by kernel_rfl) ?_)
      | (refine L_nil ?_)
      | (refine R_nil ?_)
      | (refine W_block ?_)
      | (refine W_skip ?_)
      | (refine W_exit ?_)
      | (refine W_ret ?_)
      | (guard_target =~ thenQ _ _ _ _ _; first | (refine T_next ?_) | (refine T_exit ?_) | (refine T_ret ?_))
      | (guard_target =~ blockQ _ _ _ _ _; first | (refine B_next ?_) | (refine B_same ?_) | (refine B_other (by kernel_rfl) ?_) | (refine B_ret ?_))
      | (refine W_true rfl rfl ?_)
      | (refine W_false rfl rfl ?_)
      | (guard_target =~ WO _ _ (Oper.mk _ (Op.makeSlice 84 _ _) _ _ _ none) _ _ _ _; first | (refine O_mk (l := 16384) (by assumption) sl84 by21 zc21 (by decide) rfl rfl (by omega) (by omega) ?_; intro w3 b3 hn3 hS3) | (refine O_mk (by assumption) sl84 by21 zc21 (by decide) rfl rfl (by omega) (by omega) ?_; intro _ _ _ _))
      | (guard_target =~ WO _ _ (Oper.mk _ (Op.store 84 _ _) _ _ _ none) _ _ _ _; first | (refine O_stM (by assumption) hV hMu (by repeat (first | exact List.Mem.head _ | refine List.Mem.tail _ ?_)) rfl on84 rfl rfl (by simp only [csz]; omega) (okp (c' := 100 + 21) rfl (okS (TS.slN (by assumption) (by repeat (first | exact List.Mem.head _ | refine List.Mem.tail _ ?_))))) rfl ?_; intro w4 hS4 hMu he4 hV3 hW4; have hV := hV3.setTta hI.nm (TS.slN hS3 (by repeat (first | exact List.Mem.head _ | refine List.Mem.tail _ ?_))) he4 hW4; have hI := hI.ttab (a := some ⟨b3, 0, none⟩) (n := 16384) (c := 16384)) | (refine O_st (by assumption) (by repeat (first | exact List.Mem.head _ | refine List.Mem.tail _ ?_)) (by omega) on84 rfl rfl (by first | omega | (simp only [csz]; omega)) (okp (c' := 100 + 21) (by first | rfl | exact layMod rfl rfl) (okS (by first | exact Sl.nil _ | exact TS.slN (by assumption) (by repeat (first | exact List.Mem.head _ | refine List.Mem.tail _ ?_))))) rfl ?_; intro _ _))
      | (guard_target =~ WO _ _ (Oper.mk _ (Op.call (Call.mk (Callee.value (Operand.func 78)) _ _)) _ _ _ none) _ _ _ _; first | (refine O_mt (l := [.pointer (some ⟨s, 0, none⟩), .agg (ns .u8 20 _)]) (by assumption) hV hMu cl78 rfl rfl (acct_ok (TS.t (by assumption)) (hV.ext (TS.e (by assumption))) hI (by assumption)) ?_; rintro _ w1 σ1 ⟨at1, p1, rfl, hSm1, hat0, hat1, _, hnt1⟩ hV hI hMu hS1; have hna := hI.na; have hns := hI.ns; have hnt := hI.nt; have hnj := hI.nj; have hnm := hI.nm; have hnl := hI.nl; rcases boolcase hat1 with ⟨rfl, hat1⟩ | rfl))
      | (guard_target =~ WO _ _ (Oper.mk _ (Op.load 78 _) _ _ _ none) _ _ _ _; first | (refine O_ldV (by assumption) on78 rfl hV.acc hV.lt ?_))
      | (guard_target =~ WO _ _ (Oper.mk _ (Op.load 79 _) _ _ _ none) _ _ _ _; first | (refine O_ldV (by assumption) on79 rfl hV.slo hV.lt ?_))
      | (guard_target =~ WO _ _ (Oper.mk _ (Op.load 81 _) _ _ _ none) _ _ _ _; first | (refine O_ldV (by assumption) on81 rfl hV.jou hV.lt ?_))
      | (guard_target =~ WO _ _ (Oper.mk _ (Op.load 46 _) _ _ _ none) _ _ _ _; first | (refine O_ldV (by assumption) on46 rfl hV.log hV.lt ?_))
      | (guard_target =~ WO _ _ (Oper.mk _ (Op.load 83 _) _ _ _ none) _ _ _ _; first | (refine O_ldV (by assumption) on83 rfl hV.tem hV.lt ?_) | (refine O_lds (t' := 172) (by assumption) (by repeat (first | exact List.Mem.head _ | refine List.Mem.tail _ ?_)) on83 rfl (by first | omega | (simp only [csz]; omega)) (by first | rfl | exact layMod rfl rfl) ?_; intro _ _ _ _ _ _))
      | (guard_target =~ WO _ _ (Oper.mk _ (Op.load 84 _) _ _ _ none) _ _ _ _; first | (refine O_ldV (by assumption) on84 rfl hV.tta hV.lt ?_) | (refine O_lds (t' := 21) (by assumption) (by repeat (first | exact List.Mem.head _ | refine List.Mem.tail _ ?_)) on84 rfl (by first | omega | (simp only [csz]; omega)) (by first | rfl | exact layMod rfl rfl) ?_; intro _ _ _ _ _ _))
      | (guard_target =~ WO _ _ (Oper.mk _ (Op.load 21 _) _ _ _ none) _ _ _ _; first | (refine O_ldV (by assumption) on21 rfl hV.nmk hV.lt ?_))
      | (guard_target =~ WO _ _ (Oper.mk _ (Op.load 27 _) _ _ _ none) _ _ _ _; first | (refine O_ldV (by assumption) on27 rfl hV.rf hV.lt ?_))
      | (guard_target =~ WC _ _ (Code.region 23 _ true) _ _ _; first | (refine W_drawnT (id := 23) [8] [0, 1, 2, 3, 4, 5, 6, 7, 8, 9, 10, 11, 12] mixed (by kernel_rfl) (by kernel_rfl) (by assumption) ?_; intro _ _ _))
      | (guard_target =~ WO _ _ (Oper.mk _ (Op.box 24 _) _ _ _ none) _ _ _ _; first | (refine O_bx8 (by assumption) rfl (by assumption) rfl rfl ?_; intro _ _ _ _))
      | (guard_target =~ WO _ _ (Oper.mk _ (Op.box 45 _) _ _ _ none) _ _ _ _; first | (refine O_bx64 (by assumption) rfl (by assumption) rfl rfl ?_; intro _ _ _ _))
      | (guard_target =~ WO _ _ (Oper.mk _ (Op.assign _) _ _ _ none) _ _ _ _; first | (refine O_assign (v := (.int _ _)) rfl ?_) | (refine O_assign (v := (.bool _)) rfl ?_) | (refine O_assign (v := (.pointer _)) rfl ?_) | (refine O_assign (v := (.slice _ _ _)) rfl ?_) | (refine O_assign (v := (.agg _)) rfl ?_) | (refine O_assign (v := (.tuple _)) rfl ?_))
      | (guard_target =~ WO _ _ (Oper.mk _ (Op.move _) _ _ _ none) _ _ _ _; first | (refine O_move (v := (.int _ _)) rfl ?_) | (refine O_move (v := (.bool _)) rfl ?_) | (refine O_move (v := (.pointer _)) rfl ?_) | (refine O_move (v := (.slice _ _ _)) rfl ?_) | (refine O_move (v := (.agg _)) rfl ?_) | (refine O_move (v := (.tuple _)) rfl ?_))
      | (guard_target =~ WO _ _ (Oper.mk _ (Op.load 24 _) _ _ _ none) _ _ _ _; first | (refine O_ldn8 (by assumption) (by repeat (first | exact List.Mem.head _ | refine List.Mem.tail _ ?_)) ag24 rfl (by first | omega | (simp only [csz]; omega)) (by first | exact layRun0 rfl rfl | exact layRun rfl rfl rfl) ?_; intro _ _))
      | (guard_target =~ WO _ _ (Oper.mk _ (Op.extract _ _) _ _ _ none) _ _ _ _; first | (refine O_extract rfl rfl ?_))
      | (guard_target =~ WO _ _ (Oper.mk _ (Op.binOp BinOp.geq 21 _ _ _) _ _ _ none) _ _ _ _; first | (first | (refine O_geqS rfl rfl (fun h => absurd h (by omega)) ?_; intro _) | (refine O_geqS rfl rfl ?_ (fun h => absurd h (by omega)); intro _) | (refine O_geqS rfl rfl ?_ ?_ <;> intro _)))
      | (guard_target =~ WO _ _ (Oper.mk _ (Op.load 45 _) _ _ _ none) _ _ _ _; first | (refine O_ldn64 (by assumption) (by repeat (first | exact List.Mem.head _ | refine List.Mem.tail _ ?_)) ag45 rfl (by first | omega | (simp only [csz]; omega)) (by first | exact layRun0 rfl rfl | exact layRun rfl rfl rfl) ?_; intro _ _))
      | (guard_target =~ WO _ _ (Oper.mk _ (Op.nilCheck _) _ _ _ none) _ _ _ _; first | (refine O_nil rfl ?_))
      | (guard_target =~ WO _ _ (Oper.mk _ (Op.fieldAddr 86 _ 9) _ _ _ none) _ _ _ _; first | (refine O_fdT fd86_9 (by decide) rfl ?_) | (refine O_field fd86_9 (by decide) rfl ?_))
      | (guard_target =~ WO _ _ (Oper.mk _ (Op.call _) _ _ _ none) _ _ _ _; first | (refine O_len Samg.underlying83 rfl rfl ?_) | (refine O_len Samg.underlying84 rfl rfl ?_))
      | (guard_target =~ WO _ _ (Oper.mk _ (Op.binOp BinOp.geq 3 _ _ _) _ _ _ none) _ _ _ _; first | (first | (refine O_geqS rfl rfl (fun h => absurd h (by omega)) ?_; intro _) | (refine O_geqS rfl rfl ?_ (fun h => absurd h (by omega)); intro _) | (refine O_geqS rfl rfl ?_ ?_ <;> intro _)))
      | (guard_target =~ WO _ _ (Oper.mk _ (Op.unOp _ _ _) _ _ _ none) _ _ _ _; first | (refine O_not rfl ?_))
      | (guard_target =~ WO _ _ (Oper.mk _ (Op.fieldAddr 86 _ 10) _ _ _ none) _ _ _ _; first | (refine O_fdT fd86_10 (by decide) rfl ?_) | (refine O_field fd86_10 (by decide) rfl ?_))
      | (guard_target =~ WO _ _ (Oper.mk _ (Op.binOp BinOp.neq 3 _ _ _) _ _ _ none) _ _ _ _; first | (first | (refine O_neqS rfl rfl (fun h => absurd h (by omega)) ?_; intro _) | (refine O_neqS rfl rfl ?_ (fun h => absurd h (by omega)); intro _) | (refine O_neqS rfl rfl ?_ ?_ <;> intro _)))
      | (guard_target =~ WO _ _ (Oper.mk _ (Op.binOp BinOp.lss 3 _ _ _) _ _ _ none) _ _ _ _; first | (first | (refine O_lssS rfl rfl (fun h => absurd h (by omega)) ?_; intro _) | (refine O_lssS rfl rfl ?_ (fun h => absurd h (by omega)); intro _) | (refine O_lssS rfl rfl ?_ ?_ <;> intro _)))
      | (guard_target =~ WO _ _ (Oper.mk _ (Op.indexAddr 84 _ _) _ _ _ none) _ _ _ _; first | (refine O_ixK (by assumption) (by repeat (first | exact List.Mem.head _ | refine List.Mem.tail _ ?_)) sl84 rfl rfl (by omega) (by omega) ?_; rintro _ _ _) | (refine O_ixN (by assumption) (by repeat (first | exact List.Mem.head _ | refine List.Mem.tail _ ?_)) sl84 rfl rfl (by omega) (by omega) ?_; rintro _ _ _ _ _ _))
      | (guard_target =~ WO _ _ (Oper.mk _ (Op.store 21 _ _) _ _ _ none) _ _ _ _; first | (refine O_st (by assumption) (by repeat (first | exact List.Mem.head _ | refine List.Mem.tail _ ?_)) (by omega) on21 rfl rfl (by first | omega | (simp only [csz]; omega)) (by first | exact okp (c' := 2) (by first | rfl | exact layMod rfl rfl) (ok64 (by omega)) | exact okp (c' := 1) (by first | rfl | exact layMod rfl rfl) (ok8 (by omega)) | exact okp (c' := 3) (by first | rfl | exact layMod rfl rfl) (ok32 (by omega) (by omega)) | exact okp (c' := 4) (by first | rfl | exact layMod rfl rfl) okB_) rfl ?_; intro _ _))
      | (guard_target =~ WO _ _ (Oper.mk _ (Op.binOp BinOp.add 3 _ _ _) _ _ _ none) _ _ _ _; first | (refine O_addZ rfl rfl (by simp only [rngZ]; omega) ?_))
      | (guard_target =~ WO _ _ (Oper.mk _ (Op.binOp BinOp.lss 21 _ _ _) _ _ _ none) _ _ _ _; first | (first | (refine O_lssS rfl rfl (fun h => absurd h (by omega)) ?_; intro _) | (refine O_lssS rfl rfl ?_ (fun h => absurd h (by omega)); intro _) | (refine O_lssS rfl rfl ?_ ?_ <;> intro _)))
      | (guard_target =~ WO _ _ (Oper.mk _ (Op.convert 3 21 _) _ _ _ none) _ _ _ _; first | (refine O_convZ Samg.underlying3 Samg.underlying21 rfl (by simp only [rngZ]; omega) ?_) | (refine O_convA Samg.underlying3 Samg.underlying21 rfl rfl ?_; intro _ hr; simp only [rngZ] at hr))
      | (guard_target =~ WO _ _ (Oper.mk _ (Op.build 172 #[(0, _), (1, _)]) _ _ _ none) _ _ _ _; first | (refine O_bd (l := [(0, .int .i32 _), (1, .agg (ns .u64 4 _))]) (by assumption) st172 zc172 rfl ⟨_, _, rfl, rfl, rfl, ⟨_, _, rfl, rfl, rfl, rfl⟩⟩ ⟨one_ok (c' := 3) rfl (ok32 (by omega) (by omega)), ⟨run64_ok (by assumption) rfl, trivial⟩⟩ ?_; intro _ _ _))
      | (guard_target =~ WO _ _ (Oper.mk _ (Op.buildSlice 83 1 _) _ _ _ none) _ _ _ _; first | (refine O_one (v := .agg _) (by assumption) sl83 zc172 (by decide) rfl rfl (TS.okA (t := 172) (by assumption) (by repeat (first | exact List.Mem.head _ | refine List.Mem.tail _ ?_))).1 (TS.okA (t := 172) (by assumption) (by repeat (first | exact List.Mem.head _ | refine List.Mem.tail _ ?_))).2 ?_; intro _ _ _ _ _ _ _))
      | (guard_target =~ WO _ _ (Oper.mk _ (Op.store 83 _ _) _ _ _ none) _ _ _ _; first | (refine O_st (by assumption) (by repeat (first | exact List.Mem.head _ | refine List.Mem.tail _ ?_)) (by omega) on83 rfl rfl (by first | omega | (simp only [csz]; omega)) (okp (c' := 100 + 172) (by first | rfl | exact layMod rfl rfl) (okS (by first | exact Sl.nil _ | exact TS.slN (by assumption) (by repeat (first | exact List.Mem.head _ | refine List.Mem.tail _ ?_))))) rfl ?_; intro _ _)))
    all_goals try exact E_ret2 rfl rfl rfl rfl rfl ⟨TS.mu (by assumption) hV.B0, TS.t (by assumption), σ, hV.ext (TS.e (by assumption)), hI, _, _, rfl, Sm.refl σ, by omega, fun h => (by first | omega | cases h)⟩
    all_goals try exact E_ret2 rfl rfl rfl rfl rfl ⟨hMu, hS1.t, σ1, hV, hI, _, _, rfl, hSm1, by omega, fun h => (by cases h)⟩
    all_goals try exact ⟨σ1, _, hSm1, by omega, hV, hI, hMu, by omega, by omega, TS.pick (by assumption) (by repeat (first | exact List.Mem.head _ | refine List.Mem.tail _ ?_)) (TS.clear (by assumption)), Has.mk ⟨rfl, rfl, rfl, trivial⟩⟩
    refine W_loop (fun m ρ w' => ∃ i : Nat, m = 16384 - i ∧ i ≤ 16384 ∧ Mu B w w' ∧ V B w' s { σ1 with aH := some ⟨b3, 0, none⟩, nh := 16384, cH := 16384 } ∧ TS B w' w' [(45, some ⟨b5, 0, none⟩, 1, 1), (21, some ⟨b3, 0, none⟩, 16384, 16384)] [] ∧ Has ρ [(0, .pointer (some ⟨s, 0, none⟩)), (5, .pointer (some ⟨b5, 0, none⟩)), (8, .int .i32 at1), (61, .int .i64 ((16384 : Nat) : Int)), (62, .int .i64 ((i : Nat) : Int))]) 16384 ⟨0, rfl, by omega, hMu, hV, TS.pick (by assumption) (by repeat (first | exact List.Mem.head _ | refine List.Mem.tail _ ?_)) (TS.pick (by assumption) (by repeat (first | exact List.Mem.head _ | refine List.Mem.tail _ ?_)) (TS.clear (by assumption))), Has.mk ⟨rfl, rfl, rfl, rfl, rfl, trivial⟩⟩ ?_
    rintro m ρ w5 ⟨i, rfl, hi, hMu, hV, hS5, σ5, rfl⟩
    repeat' (first
      | (refine L_cons ?_)
      | (refine R_cons rfl ?_)
      | (refine W_seq ?_)
      | (refine W_region (by kernel_rfl) ?_)
      | (refine L_nil ?_)
      | (refine R_nil ?_)
      | (refine W_block ?_)
      | (refine W_skip ?_)
      | (refine W_exit ?_)
      | (refine W_ret ?_)
      | (guard_target =~ thenQ _ _ _ _ _; first | (refine T_next ?_) | (refine T_exit ?_) | (refine T_ret ?_))
      | (guard_target =~ blockQ _ _ _ _ _; first | (refine B_next ?_) | (refine B_same ?_) | (refine B_other (by kernel_rfl) ?_) | (refine B_ret ?_))
      | (refine W_true rfl rfl ?_)
      | (refine W_false rfl rfl ?_)
      | (guard_target =~ WO _ _ (Oper.mk _ (Op.store 21 _ _) _ _ _ none) _ _ _ _; first | (refine O_stM (by assumption) hV hMu (by repeat (first | exact List.Mem.head _ | refine List.Mem.tail _ ?_)) rfl on21 rfl rfl (by simp only [csz]; omega) (okp (c' := 3) rfl (ok32 (by omega) (by omega))) rfl ?_; intro w6 hS6 hMu he6 hV5 hW6; have hV6 := hV5.freeSet he6 hV5.sH hW6 (by decide) (by decide) (by decide) (by decide)) | (refine O_st (by assumption) (by repeat (first | exact List.Mem.head _ | refine List.Mem.tail _ ?_)) (by omega) on21 rfl rfl (by first | omega | (simp only [csz]; omega)) (by first | exact okp (c' := 2) (by first | rfl | exact layMod rfl rfl) (ok64 (by omega)) | exact okp (c' := 1) (by first | rfl | exact layMod rfl rfl) (ok8 (by omega)) | exact okp (c' := 3) (by first | rfl | exact layMod rfl rfl) (ok32 (by omega) (by omega)) | exact okp (c' := 4) (by first | rfl | exact layMod rfl rfl) okB_) rfl ?_; intro _ _))
      | (guard_target =~ WO _ _ (Oper.mk _ (Op.load 78 _) _ _ _ none) _ _ _ _; first | (refine O_ldV (by assumption) on78 rfl hV.acc hV.lt ?_))
      | (guard_target =~ WO _ _ (Oper.mk _ (Op.load 79 _) _ _ _ none) _ _ _ _; first | (refine O_ldV (by assumption) on79 rfl hV.slo hV.lt ?_))
      | (guard_target =~ WO _ _ (Oper.mk _ (Op.load 81 _) _ _ _ none) _ _ _ _; first | (refine O_ldV (by assumption) on81 rfl hV.jou hV.lt ?_))
      | (guard_target =~ WO _ _ (Oper.mk _ (Op.load 46 _) _ _ _ none) _ _ _ _; first | (refine O_ldV (by assumption) on46 rfl hV.log hV.lt ?_))
      | (guard_target =~ WO _ _ (Oper.mk _ (Op.load 83 _) _ _ _ none) _ _ _ _; first | (refine O_ldV (by assumption) on83 rfl hV.tem hV.lt ?_) | (refine O_lds (t' := 172) (by assumption) (by repeat (first | exact List.Mem.head _ | refine List.Mem.tail _ ?_)) on83 rfl (by first | omega | (simp only [csz]; omega)) (by first | rfl | exact layMod rfl rfl) ?_; intro _ _ _ _ _ _))
      | (guard_target =~ WO _ _ (Oper.mk _ (Op.load 84 _) _ _ _ none) _ _ _ _; first | (refine O_ldV (by assumption) on84 rfl hV.tta hV.lt ?_) | (refine O_lds (t' := 21) (by assumption) (by repeat (first | exact List.Mem.head _ | refine List.Mem.tail _ ?_)) on84 rfl (by first | omega | (simp only [csz]; omega)) (by first | rfl | exact layMod rfl rfl) ?_; intro _ _ _ _ _ _))
      | (guard_target =~ WO _ _ (Oper.mk _ (Op.load 21 _) _ _ _ none) _ _ _ _; first | (refine O_ldV (by assumption) on21 rfl hV.nmk hV.lt ?_))
      | (guard_target =~ WO _ _ (Oper.mk _ (Op.load 27 _) _ _ _ none) _ _ _ _; first | (refine O_ldV (by assumption) on27 rfl hV.rf hV.lt ?_))
      | (guard_target =~ WC _ _ (Code.region 23 _ true) _ _ _; first | (refine W_drawnT (id := 23) [8] [0, 1, 2, 3, 4, 5, 6, 7, 8, 9, 10, 11, 12] mixed (by kernel_rfl) (by kernel_rfl) (by assumption) ?_; intro _ _ _))
      | (guard_target =~ WO _ _ (Oper.mk _ (Op.box 24 _) _ _ _ none) _ _ _ _; first | (refine O_bx8 (by assumption) rfl (by assumption) rfl rfl ?_; intro _ _ _ _))
      | (guard_target =~ WO _ _ (Oper.mk _ (Op.box 45 _) _ _ _ none) _ _ _ _; first | (refine O_bx64 (by assumption) rfl (by assumption) rfl rfl ?_; intro _ _ _ _))
      | (guard_target =~ WO _ _ (Oper.mk _ (Op.assign _) _ _ _ none) _ _ _ _; first | (refine O_assign (v := (.int _ _)) rfl ?_) | (refine O_assign (v := (.bool _)) rfl ?_) | (refine O_assign (v := (.pointer _)) rfl ?_) | (refine O_assign (v := (.slice _ _ _)) rfl ?_) | (refine O_assign (v := (.agg _)) rfl ?_) | (refine O_assign (v := (.tuple _)) rfl ?_))
      | (guard_target =~ WO _ _ (Oper.mk _ (Op.move _) _ _ _ none) _ _ _ _; first | (refine O_move (v := (.int _ _)) rfl ?_) | (refine O_move (v := (.bool _)) rfl ?_) | (refine O_move (v := (.pointer _)) rfl ?_) | (refine O_move (v := (.slice _ _ _)) rfl ?_) | (refine O_move (v := (.agg _)) rfl ?_) | (refine O_move (v := (.tuple _)) rfl ?_))
      | (guard_target =~ WO _ _ (Oper.mk _ (Op.load 24 _) _ _ _ none) _ _ _ _; first | (refine O_ldn8 (by assumption) (by repeat (first | exact List.Mem.head _ | refine List.Mem.tail _ ?_)) ag24 rfl (by first | omega | (simp only [csz]; omega)) (by first | exact layRun0 rfl rfl | exact layRun rfl rfl rfl) ?_; intro _ _))
      | (guard_target =~ WO _ _ (Oper.mk _ (Op.extract _ _) _ _ _ none) _ _ _ _; first | (refine O_extract rfl rfl ?_))
      | (guard_target =~ WO _ _ (Oper.mk _ (Op.binOp BinOp.geq 21 _ _ _) _ _ _ none) _ _ _ _; first | (first | (refine O_geqS rfl rfl (fun h => absurd h (by omega)) ?_; intro _) | (refine O_geqS rfl rfl ?_ (fun h => absurd h (by omega)); intro _) | (refine O_geqS rfl rfl ?_ ?_ <;> intro _)))
      | (guard_target =~ WO _ _ (Oper.mk _ (Op.load 45 _) _ _ _ none) _ _ _ _; first | (refine O_ldn64 (by assumption) (by repeat (first | exact List.Mem.head _ | refine List.Mem.tail _ ?_)) ag45 rfl (by first | omega | (simp only [csz]; omega)) (by first | exact layRun0 rfl rfl | exact layRun rfl rfl rfl) ?_; intro _ _))
      | (guard_target =~ WO _ _ (Oper.mk _ (Op.nilCheck _) _ _ _ none) _ _ _ _; first | (refine O_nil rfl ?_))
      | (guard_target =~ WO _ _ (Oper.mk _ (Op.fieldAddr 86 _ 9) _ _ _ none) _ _ _ _; first | (refine O_fdT fd86_9 (by decide) rfl ?_) | (refine O_field fd86_9 (by decide) rfl ?_))
      | (guard_target =~ WO _ _ (Oper.mk _ (Op.call _) _ _ _ none) _ _ _ _; first | (refine O_len Samg.underlying83 rfl rfl ?_) | (refine O_len Samg.underlying84 rfl rfl ?_))
      | (guard_target =~ WO _ _ (Oper.mk _ (Op.binOp BinOp.geq 3 _ _ _) _ _ _ none) _ _ _ _; first | (first | (refine O_geqS rfl rfl (fun h => absurd h (by omega)) ?_; intro _) | (refine O_geqS rfl rfl ?_ (fun h => absurd h (by omega)); intro _) | (refine O_geqS rfl rfl ?_ ?_ <;> intro _)))
      | (guard_target =~ WO _ _ (Oper.mk _ (Op.unOp _ _ _) _ _ _ none) _ _ _ _; first | (refine O_not rfl ?_))
      | (guard_target =~ WO _ _ (Oper.mk _ (Op.fieldAddr 86 _ 10) _ _ _ none) _ _ _ _; first | (refine O_fdT fd86_10 (by decide) rfl ?_) | (refine O_field fd86_10 (by decide) rfl ?_))
      | (guard_target =~ WO _ _ (Oper.mk _ (Op.binOp BinOp.neq 3 _ _ _) _ _ _ none) _ _ _ _; first | (first | (refine O_neqS rfl rfl (fun h => absurd h (by omega)) ?_; intro _) | (refine O_neqS rfl rfl ?_ (fun h => absurd h (by omega)); intro _) | (refine O_neqS rfl rfl ?_ ?_ <;> intro _)))
      | (guard_target =~ WO _ _ (Oper.mk _ (Op.makeSlice 84 _ _) _ _ _ none) _ _ _ _; first | (refine O_mk (by assumption) sl84 by21 zc21 (by decide) rfl rfl (by omega) (by omega) ?_; intro _ _ _ _))
      | (guard_target =~ WO _ _ (Oper.mk _ (Op.store 84 _ _) _ _ _ none) _ _ _ _; first | (refine O_st (by assumption) (by repeat (first | exact List.Mem.head _ | refine List.Mem.tail _ ?_)) (by omega) on84 rfl rfl (by first | omega | (simp only [csz]; omega)) (okp (c' := 100 + 21) (by first | rfl | exact layMod rfl rfl) (okS (by first | exact Sl.nil _ | exact TS.slN (by assumption) (by repeat (first | exact List.Mem.head _ | refine List.Mem.tail _ ?_))))) rfl ?_; intro _ _))
      | (guard_target =~ WO _ _ (Oper.mk _ (Op.binOp BinOp.lss 3 _ _ _) _ _ _ none) _ _ _ _; first | (first | (refine O_lssS rfl rfl (fun h => absurd h (by omega)) ?_; intro _) | (refine O_lssS rfl rfl ?_ (fun h => absurd h (by omega)); intro _) | (refine O_lssS rfl rfl ?_ ?_ <;> intro _)))
      | (guard_target =~ WO _ _ (Oper.mk _ (Op.indexAddr 84 _ _) _ _ _ none) _ _ _ _; first | (refine O_ixK (by assumption) (by repeat (first | exact List.Mem.head _ | refine List.Mem.tail _ ?_)) sl84 rfl rfl (by omega) (by omega) ?_; rintro _ _ _) | (refine O_ixN (by assumption) (by repeat (first | exact List.Mem.head _ | refine List.Mem.tail _ ?_)) sl84 rfl rfl (by omega) (by omega) ?_; rintro _ _ _ _ _ _))
      | (guard_target =~ WO _ _ (Oper.mk _ (Op.binOp BinOp.add 3 _ _ _) _ _ _ none) _ _ _ _; first | (refine O_addZ rfl rfl (by simp only [rngZ]; omega) ?_))
      | (guard_target =~ WO _ _ (Oper.mk _ (Op.binOp BinOp.lss 21 _ _ _) _ _ _ none) _ _ _ _; first | (first | (refine O_lssS rfl rfl (fun h => absurd h (by omega)) ?_; intro _) | (refine O_lssS rfl rfl ?_ (fun h => absurd h (by omega)); intro _) | (refine O_lssS rfl rfl ?_ ?_ <;> intro _)))
      | (guard_target =~ WO _ _ (Oper.mk _ (Op.convert 3 21 _) _ _ _ none) _ _ _ _; first | (refine O_convZ Samg.underlying3 Samg.underlying21 rfl (by simp only [rngZ]; omega) ?_) | (refine O_convA Samg.underlying3 Samg.underlying21 rfl rfl ?_; intro _ hr; simp only [rngZ] at hr))
      | (guard_target =~ WO _ _ (Oper.mk _ (Op.build 172 #[(0, _), (1, _)]) _ _ _ none) _ _ _ _; first | (refine O_bd (l := [(0, .int .i32 _), (1, .agg (ns .u64 4 _))]) (by assumption) st172 zc172 rfl ⟨_, _, rfl, rfl, rfl, ⟨_, _, rfl, rfl, rfl, rfl⟩⟩ ⟨one_ok (c' := 3) rfl (ok32 (by omega) (by omega)), ⟨run64_ok (by assumption) rfl, trivial⟩⟩ ?_; intro _ _ _))
      | (guard_target =~ WO _ _ (Oper.mk _ (Op.buildSlice 83 1 _) _ _ _ none) _ _ _ _; first | (refine O_one (v := .agg _) (by assumption) sl83 zc172 (by decide) rfl rfl (TS.okA (t := 172) (by assumption) (by repeat (first | exact List.Mem.head _ | refine List.Mem.tail _ ?_))).1 (TS.okA (t := 172) (by assumption) (by repeat (first | exact List.Mem.head _ | refine List.Mem.tail _ ?_))).2 ?_; intro _ _ _ _ _ _ _))
      | (guard_target =~ WO _ _ (Oper.mk _ (Op.store 83 _ _) _ _ _ none) _ _ _ _; first | (refine O_st (by assumption) (by repeat (first | exact List.Mem.head _ | refine List.Mem.tail _ ?_)) (by omega) on83 rfl rfl (by first | omega | (simp only [csz]; omega)) (okp (c' := 100 + 172) (by first | rfl | exact layMod rfl rfl) (okS (by first | exact Sl.nil _ | exact TS.slN (by assumption) (by repeat (first | exact List.Mem.head _ | refine List.Mem.tail _ ?_))))) rfl ?_; intro _ _)))
    · exact ⟨16384 - (i + 1), by omega, i + 1, rfl, by omega, hMu, hV6, TS.pick (by assumption) (by repeat (first | exact List.Mem.head _ | refine List.Mem.tail _ ?_)) (TS.pick (by assumption) (by repeat (first | exact List.Mem.head _ | refine List.Mem.tail _ ?_)) (TS.clear (by assumption))), Has.mk ⟨rfl, rfl, rfl, rfl, rfl, trivial⟩⟩
    · exact ⟨_, _, hSm1.trans (Sm.ttab σ1), by show σ1.nt < 12288; omega, hV, hI, hMu, by omega, by omega, TS.pick (by assumption) (by repeat (first | exact List.Mem.head _ | refine List.Mem.tail _ ?_)) (TS.clear (by assumption)), Has.mk ⟨rfl, rfl, rfl, trivial⟩⟩
  rintro ρ w2 ⟨σ1, z, hSm1, hnt1, hV, hI, hMu, hz0, hz1, hS2, σ', rfl⟩
  have hS2 := hS2.withV hV
  have hna := hI.na; have hns := hI.ns; have hnt := hI.nt; have hnj := hI.nj; have hnm := hI.nm; have hnl := hI.nl
  repeat' (first
    | (refine L_cons ?_)
    | (refine R_cons rfl ?_)
    | (refine W_seq ?_)
    | (refine W_region (by kernel_rfl) ?_)
    | (refine L_nil ?_)
    | (refine R_nil ?_)
    | (refine W_block ?_)
    | (refine W_skip ?_)
    | (refine W_exit ?_)
    | (refine W_ret ?_)
    | (guard_target =~ thenQ _ _ _ _ _; first | (refine T_next ?_) | (refine T_exit ?_) | (refine T_ret ?_))
    | (guard_target =~ blockQ _ _ _ _ _; first | (refine B_next ?_) | (refine B_same ?_) | (refine B_other (by kernel_rfl) ?_) | (refine B_ret ?_))
    | (refine W_true rfl rfl ?_)
    | (refine W_false rfl rfl ?_)
    | (guard_target =~ WO _ _ (Oper.mk _ (Op.load 84 _) _ _ _ none) _ _ _ _; first | (refine O_ldV (v := .slice σ1.aH σ1.nh σ1.cH) (by assumption) on84 rfl hV.tta hV.lt ?_) | (refine O_ldV (by assumption) on84 rfl hV.tta hV.lt ?_) | (refine O_lds (t' := 21) (by assumption) (by repeat (first | exact List.Mem.head _ | refine List.Mem.tail _ ?_)) on84 rfl (by first | omega | (simp only [csz]; omega)) (by first | rfl | exact layMod rfl rfl) ?_; intro _ _ _ _ _ _))
    | (guard_target =~ WO _ _ (Oper.mk _ (Op.build 172 _) _ _ _ none) _ _ _ _; first | (refine O_bd (l := [(0, .int .i32 _), (1, .agg (ns .u64 4 _))]) (by assumption) st172 zc172 rfl ⟨_, _, rfl, rfl, rfl, ⟨_, _, rfl, rfl, rfl, rfl⟩⟩ ⟨one_ok (c' := 3) rfl (ok32 (by omega) (by omega)), ⟨run64_ok (by assumption) rfl, trivial⟩⟩ ?_; intro cs hcs _))
    | (guard_target =~ WO _ _ (Oper.mk _ (Op.buildSlice 83 1 _) _ _ _ none) _ _ _ _; first | (refine O_one (v := .agg _) (by assumption) sl83 zc172 (by decide) rfl rfl (TS.okA (t := 172) (by assumption) (by repeat (first | exact List.Mem.head _ | refine List.Mem.tail _ ?_))).1 (TS.okA (t := 172) (by assumption) (by repeat (first | exact List.Mem.head _ | refine List.Mem.tail _ ?_))).2 ?_; intro w3 b2 hE3 hn2 _ hB2 hS3) | (refine O_one (v := .agg _) (by assumption) sl83 zc172 (by decide) rfl rfl (TS.okA (t := 172) (by assumption) (by repeat (first | exact List.Mem.head _ | refine List.Mem.tail _ ?_))).1 (TS.okA (t := 172) (by assumption) (by repeat (first | exact List.Mem.head _ | refine List.Mem.tail _ ?_))).2 ?_; intro _ _ _ _ _ _ _))
    | (guard_target =~ WO _ _ (Oper.mk _ (Op.call (Call.mk (Callee.builtin Builtin.append) _ _)) _ _ _ none) _ _ _ _; first | (refine O_appM (by assumption) hV hMu (by repeat (first | exact List.Mem.head _ | refine List.Mem.tail _ ?_)) (by repeat (first | exact List.Mem.head _ | refine List.Mem.tail _ ?_)) rfl rfl rfl sl83 by172 (by decide) zc172 (by decide) rfl rfl (by omega) (by omega) hB2 hcs rfl ?_; intro w4 b4 cap4 hS4 hMu hA4 hV2; have hV := hV2.app hA4 (by decide) (fun h => by cases h) (fun h => by cases h) (fun h => by cases h)))
    | (guard_target =~ WO _ _ (Oper.mk _ (Op.store 83 _ _) _ _ _ none) _ _ _ _; first | (refine O_stM (by assumption) hV hMu (by repeat (first | exact List.Mem.head _ | refine List.Mem.tail _ ?_)) rfl on83 rfl rfl (by simp only [csz]; omega) (okp (c' := 100 + 172) rfl (okS (TS.slN (by assumption) (by repeat (first | exact List.Mem.head _ | refine List.Mem.tail _ ?_))))) rfl ?_; intro w5 hS5 hMu he5 _ hW5; have hV := hV.setTem hnm hA4.sl he5 hW5) | (refine O_st (by assumption) (by repeat (first | exact List.Mem.head _ | refine List.Mem.tail _ ?_)) (by omega) on83 rfl rfl (by first | omega | (simp only [csz]; omega)) (okp (c' := 100 + 172) (by first | rfl | exact layMod rfl rfl) (okS (by first | exact Sl.nil _ | exact TS.slN (by assumption) (by repeat (first | exact List.Mem.head _ | refine List.Mem.tail _ ?_))))) rfl ?_; intro _ _))
    | (guard_target =~ WO _ _ (Oper.mk _ (Op.store 21 _ _) _ _ _ none) _ _ _ _; first | (refine O_stM (by assumption) hV hMu (by repeat (first | exact List.Mem.head _ | refine List.Mem.tail _ ?_)) rfl on21 rfl rfl (by simp only [csz]; omega) (okp (c' := 3) rfl (ok32 (by omega) (by omega))) rfl ?_; intro w6 hS6 hMu he6 hV5 hW6; have hV := hV5.freeSet he6 (TS.slN (by assumption) (by repeat (first | exact List.Mem.head _ | refine List.Mem.tail _ ?_))) hW6 (by decide) (by decide) (by decide) (by decide)) | (refine O_st (by assumption) (by repeat (first | exact List.Mem.head _ | refine List.Mem.tail _ ?_)) (by omega) on21 rfl rfl (by first | omega | (simp only [csz]; omega)) (by first | exact okp (c' := 2) (by first | rfl | exact layMod rfl rfl) (ok64 (by omega)) | exact okp (c' := 1) (by first | rfl | exact layMod rfl rfl) (ok8 (by omega)) | exact okp (c' := 3) (by first | rfl | exact layMod rfl rfl) (ok32 (by omega) (by omega)) | exact okp (c' := 4) (by first | rfl | exact layMod rfl rfl) okB_) rfl ?_; intro _ _))
    | (guard_target =~ WO _ _ (Oper.mk _ (Op.call (Call.mk (Callee.value (Operand.func 86)) _ _)) _ _ _ none) _ _ _ _; first | (refine O_rd (l := [.pointer (some ⟨s, 0, none⟩), .int .i32 _, .agg (ns .u64 4 _)]) (by assumption) cl86 rfl (findTemp_ok (TS.t (by assumption)) (hV.ext (TS.e (by assumption))) hI (by assumption)) ?_; rintro _ _ ⟨at2, fr2, rfl, hat2, hfr2⟩ _ _))
    | (guard_target =~ WO _ _ (Oper.mk _ (Op.load 78 _) _ _ _ none) _ _ _ _; first | (refine O_ldV (by assumption) on78 rfl hV.acc hV.lt ?_))
    | (guard_target =~ WO _ _ (Oper.mk _ (Op.load 79 _) _ _ _ none) _ _ _ _; first | (refine O_ldV (by assumption) on79 rfl hV.slo hV.lt ?_))
    | (guard_target =~ WO _ _ (Oper.mk _ (Op.load 81 _) _ _ _ none) _ _ _ _; first | (refine O_ldV (by assumption) on81 rfl hV.jou hV.lt ?_))
    | (guard_target =~ WO _ _ (Oper.mk _ (Op.load 46 _) _ _ _ none) _ _ _ _; first | (refine O_ldV (by assumption) on46 rfl hV.log hV.lt ?_))
    | (guard_target =~ WO _ _ (Oper.mk _ (Op.load 83 _) _ _ _ none) _ _ _ _; first | (refine O_ldV (by assumption) on83 rfl hV.tem hV.lt ?_) | (refine O_lds (t' := 172) (by assumption) (by repeat (first | exact List.Mem.head _ | refine List.Mem.tail _ ?_)) on83 rfl (by first | omega | (simp only [csz]; omega)) (by first | rfl | exact layMod rfl rfl) ?_; intro _ _ _ _ _ _))
    | (guard_target =~ WO _ _ (Oper.mk _ (Op.load 21 _) _ _ _ none) _ _ _ _; first | (refine O_ldV (by assumption) on21 rfl hV.nmk hV.lt ?_))
    | (guard_target =~ WO _ _ (Oper.mk _ (Op.load 27 _) _ _ _ none) _ _ _ _; first | (refine O_ldV (by assumption) on27 rfl hV.rf hV.lt ?_))
    | (guard_target =~ WC _ _ (Code.region 23 _ true) _ _ _; first | (refine W_drawnT (id := 23) [8] [0, 1, 2, 3, 4, 5, 6, 7, 8, 9, 10, 11, 12] mixed (by kernel_rfl) (by kernel_rfl) (by assumption) ?_; intro _ _ _))
    | (guard_target =~ WO _ _ (Oper.mk _ (Op.box 24 _) _ _ _ none) _ _ _ _; first | (refine O_bx8 (by assumption) rfl (by assumption) rfl rfl ?_; intro _ _ _ _))
    | (guard_target =~ WO _ _ (Oper.mk _ (Op.box 45 _) _ _ _ none) _ _ _ _; first | (refine O_bx64 (by assumption) rfl (by assumption) rfl rfl ?_; intro _ _ _ _))
    | (guard_target =~ WO _ _ (Oper.mk _ (Op.assign _) _ _ _ none) _ _ _ _; first | (refine O_assign (v := (.int _ _)) rfl ?_) | (refine O_assign (v := (.bool _)) rfl ?_) | (refine O_assign (v := (.pointer _)) rfl ?_) | (refine O_assign (v := (.slice _ _ _)) rfl ?_) | (refine O_assign (v := (.agg _)) rfl ?_) | (refine O_assign (v := (.tuple _)) rfl ?_))
    | (guard_target =~ WO _ _ (Oper.mk _ (Op.move _) _ _ _ none) _ _ _ _; first | (refine O_move (v := (.int _ _)) rfl ?_) | (refine O_move (v := (.bool _)) rfl ?_) | (refine O_move (v := (.pointer _)) rfl ?_) | (refine O_move (v := (.slice _ _ _)) rfl ?_) | (refine O_move (v := (.agg _)) rfl ?_) | (refine O_move (v := (.tuple _)) rfl ?_))
    | (guard_target =~ WO _ _ (Oper.mk _ (Op.load 24 _) _ _ _ none) _ _ _ _; first | (refine O_ldn8 (by assumption) (by repeat (first | exact List.Mem.head _ | refine List.Mem.tail _ ?_)) ag24 rfl (by first | omega | (simp only [csz]; omega)) (by first | exact layRun0 rfl rfl | exact layRun rfl rfl rfl) ?_; intro _ _))
    | (guard_target =~ WO _ _ (Oper.mk _ (Op.extract _ _) _ _ _ none) _ _ _ _; first | (refine O_extract rfl rfl ?_))
    | (guard_target =~ WO _ _ (Oper.mk _ (Op.binOp BinOp.geq 21 _ _ _) _ _ _ none) _ _ _ _; first | (first | (refine O_geqS rfl rfl (fun h => absurd h (by omega)) ?_; intro _) | (refine O_geqS rfl rfl ?_ (fun h => absurd h (by omega)); intro _) | (refine O_geqS rfl rfl ?_ ?_ <;> intro _)))
    | (guard_target =~ WO _ _ (Oper.mk _ (Op.load 45 _) _ _ _ none) _ _ _ _; first | (refine O_ldn64 (by assumption) (by repeat (first | exact List.Mem.head _ | refine List.Mem.tail _ ?_)) ag45 rfl (by first | omega | (simp only [csz]; omega)) (by first | exact layRun0 rfl rfl | exact layRun rfl rfl rfl) ?_; intro _ _))
    | (guard_target =~ WO _ _ (Oper.mk _ (Op.nilCheck _) _ _ _ none) _ _ _ _; first | (refine O_nil rfl ?_))
    | (guard_target =~ WO _ _ (Oper.mk _ (Op.fieldAddr 86 _ 9) _ _ _ none) _ _ _ _; first | (refine O_fdT fd86_9 (by decide) rfl ?_) | (refine O_field fd86_9 (by decide) rfl ?_))
    | (guard_target =~ WO _ _ (Oper.mk _ (Op.call _) _ _ _ none) _ _ _ _; first | (refine O_len Samg.underlying83 rfl rfl ?_) | (refine O_len Samg.underlying84 rfl rfl ?_))
    | (guard_target =~ WO _ _ (Oper.mk _ (Op.binOp BinOp.geq 3 _ _ _) _ _ _ none) _ _ _ _; first | (first | (refine O_geqS rfl rfl (fun h => absurd h (by omega)) ?_; intro _) | (refine O_geqS rfl rfl ?_ (fun h => absurd h (by omega)); intro _) | (refine O_geqS rfl rfl ?_ ?_ <;> intro _)))
    | (guard_target =~ WO _ _ (Oper.mk _ (Op.unOp _ _ _) _ _ _ none) _ _ _ _; first | (refine O_not rfl ?_))
    | (guard_target =~ WO _ _ (Oper.mk _ (Op.fieldAddr 86 _ 10) _ _ _ none) _ _ _ _; first | (refine O_fdT fd86_10 (by decide) rfl ?_) | (refine O_field fd86_10 (by decide) rfl ?_))
    | (guard_target =~ WO _ _ (Oper.mk _ (Op.binOp BinOp.neq 3 _ _ _) _ _ _ none) _ _ _ _; first | (first | (refine O_neqS rfl rfl (fun h => absurd h (by omega)) ?_; intro _) | (refine O_neqS rfl rfl ?_ (fun h => absurd h (by omega)); intro _) | (refine O_neqS rfl rfl ?_ ?_ <;> intro _)))
    | (guard_target =~ WO _ _ (Oper.mk _ (Op.makeSlice 84 _ _) _ _ _ none) _ _ _ _; first | (refine O_mk (by assumption) sl84 by21 zc21 (by decide) rfl rfl (by omega) (by omega) ?_; intro _ _ _ _))
    | (guard_target =~ WO _ _ (Oper.mk _ (Op.store 84 _ _) _ _ _ none) _ _ _ _; first | (refine O_st (by assumption) (by repeat (first | exact List.Mem.head _ | refine List.Mem.tail _ ?_)) (by omega) on84 rfl rfl (by first | omega | (simp only [csz]; omega)) (okp (c' := 100 + 21) (by first | rfl | exact layMod rfl rfl) (okS (by first | exact Sl.nil _ | exact TS.slN (by assumption) (by repeat (first | exact List.Mem.head _ | refine List.Mem.tail _ ?_))))) rfl ?_; intro _ _))
    | (guard_target =~ WO _ _ (Oper.mk _ (Op.binOp BinOp.lss 3 _ _ _) _ _ _ none) _ _ _ _; first | (first | (refine O_lssS rfl rfl (fun h => absurd h (by omega)) ?_; intro _) | (refine O_lssS rfl rfl ?_ (fun h => absurd h (by omega)); intro _) | (refine O_lssS rfl rfl ?_ ?_ <;> intro _)))
    | (guard_target =~ WO _ _ (Oper.mk _ (Op.indexAddr 84 _ _) _ _ _ none) _ _ _ _; first | (refine O_ixK (by assumption) (by repeat (first | exact List.Mem.head _ | refine List.Mem.tail _ ?_)) sl84 rfl rfl (by omega) (by omega) ?_; rintro _ _ _) | (refine O_ixN (by assumption) (by repeat (first | exact List.Mem.head _ | refine List.Mem.tail _ ?_)) sl84 rfl rfl (by omega) (by omega) ?_; rintro _ _ _ _ _ _))
    | (guard_target =~ WO _ _ (Oper.mk _ (Op.binOp BinOp.add 3 _ _ _) _ _ _ none) _ _ _ _; first | (refine O_addZ rfl rfl (by simp only [rngZ]; omega) ?_))
    | (guard_target =~ WO _ _ (Oper.mk _ (Op.binOp BinOp.lss 21 _ _ _) _ _ _ none) _ _ _ _; first | (first | (refine O_lssS rfl rfl (fun h => absurd h (by omega)) ?_; intro _) | (refine O_lssS rfl rfl ?_ (fun h => absurd h (by omega)); intro _) | (refine O_lssS rfl rfl ?_ ?_ <;> intro _)))
    | (guard_target =~ WO _ _ (Oper.mk _ (Op.convert 3 21 _) _ _ _ none) _ _ _ _; first | (refine O_convZ Samg.underlying3 Samg.underlying21 rfl (by simp only [rngZ]; omega) ?_) | (refine O_convA Samg.underlying3 Samg.underlying21 rfl rfl ?_; intro _ hr; simp only [rngZ] at hr))
    | (guard_target =~ WO _ _ (Oper.mk _ (Op.build 172 #[(0, _), (1, _)]) _ _ _ none) _ _ _ _; first | (refine O_bd (l := [(0, .int .i32 _), (1, .agg (ns .u64 4 _))]) (by assumption) st172 zc172 rfl ⟨_, _, rfl, rfl, rfl, ⟨_, _, rfl, rfl, rfl, rfl⟩⟩ ⟨one_ok (c' := 3) rfl (ok32 (by omega) (by omega)), ⟨run64_ok (by assumption) rfl, trivial⟩⟩ ?_; intro _ _ _)))
  · exact E_ret2 rfl rfl rfl rfl rfl ⟨hMu.trans (TS.mu (by assumption) hV.B0), TS.t (by assumption), σ1, hV.ext (TS.e (by assumption)), hI, _, _, rfl, hSm1, by omega, fun h => (by cases h)⟩
  · exact E_ret2 rfl rfl rfl rfl rfl ⟨hMu, TS.t (by assumption), _, hV, hI.temps (by omega) (by omega), _, _, rfl, hSm1.trans (Sm.temps σ1 (by omega)), by omega, fun _ => ⟨by omega, by show (σ1.nt : Int) < ((σ1.nt + 1 : Nat) : Int); omega⟩⟩
end Go.Proofs.Ygcsam
