/-
  READERS. Own work.
-/
import Derived.Test.YgcsamU2
namespace Go.Proofs.Ygcsam
set_option linter.unusedVariables false
set_option linter.unusedSimpArgs false
set_option maxRecDepth 4000
section
variable {P : Program} {ops : Array Oper} {e : Bool} {K : Env → World → Prop} {Q : Exit → Env → World → Prop} {ρ : Env} {w w0 : World} {d : Nat} {ty : TypeId} {pos : String} {af : Array Edge} {n B : Nat} {L : List Fact} {M : List (Nat × Array Value)}
theorem O_ixK {t el s l cap b : Nat} {k : IntKind} {x i : Operand} {z : Int} (h : TS B w0 w L M) (hm : (el, some ⟨b, 0, none⟩, l, cap) ∈ L) (ht : slcT P t el s) (hx : ev ρ x = .slice (some ⟨b, 0, none⟩) l cap) (hi : ev ρ i = .int k z) (h0 : 0 ≤ z) (hlt : z < l)
    (kk : ∀ m : Nat, z = m → l ≤ cap → K (put ρ d (.pointer (some ⟨b, m * s + 0, none⟩))) w) : WO P ops ⟨some d, .indexAddr t x i, ty, pos, af, none⟩ e K ρ w :=
  O_ixN h hm ht hx hi h0 hlt fun b' m e1 e2 e3 _ => by cases e3; exact kk m e1 e2
/-- A copy into a new block. -/
theorem O_cpG {t el bd ld cd l2 c2 : Nat} {a : Option Addr} {x y : Operand} {ats : Array TypeId} (h : TS B w0 w L M) (hm : (el, some ⟨bd, 0, none⟩, ld, cd) ∈ L) (hm2 : (el, a, l2, c2) ∈ L) (hn : w0.heap.size ≤ bd) (hat : ats[0]? = some t) (ht : slcT P t el (csz el)) (hx : ev ρ x = .slice (some ⟨bd, 0, none⟩) ld cd) (hy : ev ρ y = .slice a l2 c2) (he : e = false)
    (k : ∀ w' (m : Nat), TS B w0 w' L M → K (put ρ d (.int .i64 (m : Nat))) w') : WO P ops ⟨some d, .call ⟨.builtin .copy, #[x, y], ats⟩, ty, pos, af, none⟩ e K ρ w := by
  obtain ⟨hB, cc, hb, hs⟩ := h.row hm
  obtain ⟨s1, s2, s3⟩ := h.slN hm2
  have hld := (h.slN hm).1
  rcases s3 with ⟨s3, s4⟩ | ⟨b2, s3, hB2, c, hb2, hs2⟩
  · subst s3
    have hl : l2 = 0 := by omega
    subst hl
    refine O_do (v := .int .i64 ((Nat.min 0 ld : Nat) : Int)) (w' := w) rfl ?_ (fun h => Ext.refl w) (k w _ h)
    have h0 : Nat.min 0 ld = 0 := Nat.zero_min ld
    simp only [execOp, resolve, List.map_toArray, List.map_cons, List.map_nil, invoke, builtin, Builtin.copy_, Sem.run_bind, Sem.run_pure, Result.andThen_ok, hat, hx, hy, List.getElem?_toArray, List.getElem?_cons_zero, List.getElem?_cons_succ, run_underlying' ht.1, Builtin.lenOf, run_sizeOf ht.2, Builtin.firstCells, goInt]
    simp [storeCells, h0]
  · subst s3
    have hm1 : Nat.min l2 ld ≤ l2 := Nat.min_le_left _ _
    have hm2 : Nat.min l2 ld ≤ ld := Nat.min_le_right _ _
    obtain ⟨m, em⟩ : ∃ m, m = Nat.min l2 ld := ⟨_, rfl⟩
    rw [← em] at hm1 hm2
    have hmul : m * csz el ≤ c2 * csz el := Nat.mul_le_mul_right _ (by omega)
    have hmul2 : m * csz el ≤ cd * csz el := Nat.mul_le_mul_right _ (by omega)
    refine O_copy (m := m) hat ht hx hy em hb2 (by omega) hb (by omega) (fun v hv => ?_) he fun w' hu => k w' m (h.upd hn hb hu (spl_size _ _ _) fun o v hv => ?_)
    · obtain ⟨j, hj⟩ := List.getElem?_of_mem hv
      rw [Array.getElem?_toList, Array.getElem?_extract] at hj
      split at hj
      · exact (h.t.ok b2 c el hB2 hb2 _ v hj).one
      · cases hj
    · rw [spl_get _ _ _ _ (by simp; omega)] at hv
      split at hv
      · rw [Array.getElem?_toList, Array.getElem?_extract] at hv
        split at hv
        · simp only [Nat.zero_add, Nat.sub_zero] at hv
          exact h.t.ok b2 c el hB2 hb2 _ v hv
        · cases hv
      · exact h.t.ok bd cc el hB hb o v hv
end

theorem balance_ok {B s : Nat} {σ : VS} {w : World} (hT : WT B w) (hV : V B w s σ) (hI : VI σ) {f : Nat → Nat} (hf : ∀ i, f i < 256) : Rd B Samg.prog 32 [.pointer (some ⟨s, 0, none⟩), .agg (ns .u8 20 f)] w fun v w' => ∃ g : Nat → Nat, (∀ i, g i < 18446744073709551616) ∧ v = .agg (ns .u64 4 g) := by
  refine W_enter (l := [_, _]) Samg.func32 rfl rfl rfl ?_
  have hS := hV.start hT; have hna := hI.na; have hns := hI.ns; have hnt := hI.nt; have hnj := hI.nj; have hnm := hI.nm; have hnl := hI.nl
  repeat' (first
    | (refine L_cons ?_)
    | (refine R_cons rfl ?_)
    | (refine W_seq ?_)
    | (refine W_region (by kernel_rfl) ?_)
    | (refine L_nil ?_)
    | (refine R_nil ?_)
    | (refine W_block ?_)
    | (refine W_skip ?_)
    | (refine W_exit ?_)
    | (refine W_ret ?_)
    | (guard_target =~ thenQ _ _ _ _ _; first | (refine T_next ?_) | (refine T_exit ?_) | (refine T_ret ?_))
    | (guard_target =~ blockQ _ _ _ _ _; first | (refine B_next ?_) | (refine B_same ?_) | (refine B_other (by kernel_rfl) ?_) | (refine B_ret ?_))
    | (refine W_true rfl rfl ?_)
    | (refine W_false rfl rfl ?_)
    | (guard_target =~ WO _ _ (Oper.mk _ (Op.call (Call.mk (Callee.value (Operand.func 83)) _ _)) _ _ _ none) _ _ _ _; first | (refine O_rd (l := [.pointer (some ⟨s, 0, none⟩), .agg (ns .u8 20 _)]) (by assumption) cl83 rfl (findAcct_ok (TS.t (by assumption)) (hV.ext (TS.e (by assumption))) hI (by assumption)) ?_; rintro _ _ ⟨at_, fr, rfl, hat⟩ _ _))
    | (guard_target =~ WO _ _ (Oper.mk _ (Op.load 78 _) _ _ _ none) _ _ _ _; first | (refine O_ldV (by assumption) on78 rfl hV.acc hV.lt ?_) | (refine O_lds (t' := 148) (by assumption) (by repeat (first | exact List.Mem.head _ | refine List.Mem.tail _ ?_)) on78 rfl (by first | omega | (simp only [csz]; omega)) (by first | rfl | exact layMod rfl rfl) ?_; intro _ _ _ _ _ _))
    | (guard_target =~ WO _ _ (Oper.mk _ (Op.load 79 _) _ _ _ none) _ _ _ _; first | (refine O_ldV (by assumption) on79 rfl hV.slo hV.lt ?_))
    | (guard_target =~ WO _ _ (Oper.mk _ (Op.load 81 _) _ _ _ none) _ _ _ _; first | (refine O_ldV (by assumption) on81 rfl hV.jou hV.lt ?_))
    | (guard_target =~ WO _ _ (Oper.mk _ (Op.load 46 _) _ _ _ none) _ _ _ _; first | (refine O_ldV (by assumption) on46 rfl hV.log hV.lt ?_))
    | (guard_target =~ WO _ _ (Oper.mk _ (Op.load 83 _) _ _ _ none) _ _ _ _; first | (refine O_ldV (by assumption) on83 rfl hV.tem hV.lt ?_))
    | (guard_target =~ WO _ _ (Oper.mk _ (Op.load 84 _) _ _ _ none) _ _ _ _; first | (refine O_ldV (by assumption) on84 rfl hV.tta hV.lt ?_))
    | (guard_target =~ WO _ _ (Oper.mk _ (Op.load 21 _) _ _ _ none) _ _ _ _; first | (refine O_ldV (by assumption) on21 rfl hV.nmk hV.lt ?_))
    | (guard_target =~ WO _ _ (Oper.mk _ (Op.load 27 _) _ _ _ none) _ _ _ _; first | (refine O_ldV (by assumption) on27 rfl hV.rf hV.lt ?_))
    | (guard_target =~ WO _ _ (Oper.mk _ (Op.box 24 _) _ _ _ none) _ _ _ _; first | (refine O_bx8 (by assumption) rfl (by assumption) rfl rfl ?_; intro _ _ _ _))
    | (guard_target =~ WO _ _ (Oper.mk _ (Op.alloc 45) _ _ _ none) _ _ _ _; first | (refine O_al (by assumption) zc45 (by decide) ?_; intro _ _ _ _))
    | (guard_target =~ WO _ _ (Oper.mk _ (Op.move _) _ _ _ none) _ _ _ _; first | (refine O_move (v := (.int _ _)) rfl ?_) | (refine O_move (v := (.bool _)) rfl ?_) | (refine O_move (v := (.pointer _)) rfl ?_) | (refine O_move (v := (.slice _ _ _)) rfl ?_) | (refine O_move (v := (.agg _)) rfl ?_) | (refine O_move (v := (.tuple _)) rfl ?_))
    | (guard_target =~ WO _ _ (Oper.mk _ (Op.load 24 _) _ _ _ none) _ _ _ _; first | (refine O_ldn8 (by assumption) (by repeat (first | exact List.Mem.head _ | refine List.Mem.tail _ ?_)) ag24 rfl (by first | omega | (simp only [csz]; omega)) (by first | exact layRun0 rfl rfl | exact layRun rfl rfl rfl) ?_; intro _ _))
    | (guard_target =~ WO _ _ (Oper.mk _ (Op.extract _ _) _ _ _ none) _ _ _ _; first | (refine O_extract rfl rfl ?_))
    | (guard_target =~ WO _ _ (Oper.mk _ (Op.assign _) _ _ _ none) _ _ _ _; first | (refine O_assign (v := (.int _ _)) rfl ?_) | (refine O_assign (v := (.bool _)) rfl ?_) | (refine O_assign (v := (.pointer _)) rfl ?_) | (refine O_assign (v := (.slice _ _ _)) rfl ?_) | (refine O_assign (v := (.agg _)) rfl ?_) | (refine O_assign (v := (.tuple _)) rfl ?_))
    | (guard_target =~ WO _ _ (Oper.mk _ (Op.binOp BinOp.geq 21 _ _ _) _ _ _ none) _ _ _ _; first | (first | (refine O_geqS rfl rfl (fun h => absurd h (by omega)) ?_; intro _) | (refine O_geqS rfl rfl ?_ (fun h => absurd h (by omega)); intro _) | (refine O_geqS rfl rfl ?_ ?_ <;> intro _)))
    | (guard_target =~ WO _ _ (Oper.mk _ (Op.nilCheck _) _ _ _ none) _ _ _ _; first | (refine O_nil rfl ?_))
    | (guard_target =~ WO _ _ (Oper.mk _ (Op.fieldAddr 86 _ 0) _ _ _ none) _ _ _ _; first | (refine O_fdT fd86_0 (by decide) rfl ?_) | (refine O_field fd86_0 (by decide) rfl ?_))
    | (guard_target =~ WO _ _ (Oper.mk _ (Op.indexAddr 78 _ _) _ _ _ none) _ _ _ _; first | (refine O_ixK (by assumption) (by repeat (first | exact List.Mem.head _ | refine List.Mem.tail _ ?_)) sl78 rfl rfl (by omega) (by omega) ?_; rintro _ _ _) | (refine O_ixN (by assumption) (by repeat (first | exact List.Mem.head _ | refine List.Mem.tail _ ?_)) sl78 rfl rfl (by omega) (by omega) ?_; rintro _ _ _ _ _ _))
    | (guard_target =~ WO _ _ (Oper.mk _ (Op.fieldAddr 148 _ 2) _ _ _ none) _ _ _ _; first | (refine O_fdT fd148_2 (by decide) rfl ?_) | (refine O_field fd148_2 (by decide) rfl ?_))
    | (guard_target =~ WO _ _ (Oper.mk _ (Op.load 45 _) _ _ _ none) _ _ _ _; first | (refine O_ldn64 (by assumption) (by repeat (first | exact List.Mem.head _ | refine List.Mem.tail _ ?_)) ag45 rfl (by first | omega | (simp only [csz]; omega)) (by first | exact layRun0 rfl rfl | exact layRun rfl rfl rfl) ?_; intro _ _))
    | (guard_target =~ WO _ _ (Oper.mk _ (Op.store 45 _ _) _ _ _ none) _ _ _ _; first | (refine O_stn64 (by assumption) (by repeat (first | exact List.Mem.head _ | refine List.Mem.tail _ ?_)) (by omega) ag45 rfl rfl (by assumption) (by first | omega | (simp only [csz]; omega)) (by first | exact layRun0 rfl rfl | exact layRun rfl rfl rfl) rfl ?_; intro _ _))
    | (guard_target =~ WO _ _ (Oper.mk _ (Op.build 45 #[]) _ _ _ none) _ _ _ _; first | (refine O_bdn64 (l := []) (by assumption) ar45 zc45 rfl rfl rfl rfl trivial ?_; intro _ _)))
  all_goals
    refine E_cell1T (by assumption) rfl rfl ag45 rfl (by repeat (first | exact List.Mem.head _ | refine List.Mem.tail _ ?_)) ?_
    intro cs hc
    obtain ⟨g, rfl, hg⟩ := hc.ns64 rfl rfl
    exact ⟨g, hg, rfl⟩
theorem nonce_ok {B s : Nat} {σ : VS} {w : World} (hT : WT B w) (hV : V B w s σ) (hI : VI σ) {f : Nat → Nat} (hf : ∀ i, f i < 256) : Rd B Samg.prog 33 [.pointer (some ⟨s, 0, none⟩), .agg (ns .u8 20 f)] w fun v w' => ∃ g : Nat, g < 18446744073709551616 ∧ v = .int .u64 ((g : Nat) : Int) := by
  refine W_enter (l := [_, _]) Samg.func33 rfl rfl rfl ?_
  have hS := hV.start hT; have hna := hI.na; have hns := hI.ns; have hnt := hI.nt; have hnj := hI.nj; have hnm := hI.nm; have hnl := hI.nl
  repeat' (first
    | (refine L_cons ?_)
    | (refine R_cons rfl ?_)
    | (refine W_seq ?_)
    | (refine W_region (by kernel_rfl) ?_)
    | (refine L_nil ?_)
    | (refine R_nil ?_)
    | (refine W_block ?_)
    | (refine W_skip ?_)
    | (refine W_exit ?_)
    | (refine W_ret ?_)
    | (guard_target =~ thenQ _ _ _ _ _; first | (refine T_next ?_) | (refine T_exit ?_) | (refine T_ret ?_))
    | (guard_target =~ blockQ _ _ _ _ _; first | (refine B_next ?_) | (refine B_same ?_) | (refine B_other (by kernel_rfl) ?_) | (refine B_ret ?_))
    | (refine W_true rfl rfl ?_)
    | (refine W_false rfl rfl ?_)
    | (guard_target =~ WO _ _ (Oper.mk _ (Op.load 27 _) _ _ _ none) _ _ _ _; first | (refine O_ld64 (by assumption) (by repeat (first | exact List.Mem.head _ | refine List.Mem.tail _ ?_)) on27 rfl (by first | omega | (simp only [csz]; omega)) (by first | rfl | exact layMod rfl rfl) ?_; intro _ _) | (refine O_ldV (by assumption) on27 rfl hV.rf hV.lt ?_))
    | (guard_target =~ WO _ _ (Oper.mk _ (Op.call (Call.mk (Callee.value (Operand.func 83)) _ _)) _ _ _ none) _ _ _ _; first | (refine O_rd (l := [.pointer (some ⟨s, 0, none⟩), .agg (ns .u8 20 _)]) (by assumption) cl83 rfl (findAcct_ok (TS.t (by assumption)) (hV.ext (TS.e (by assumption))) hI (by assumption)) ?_; rintro _ _ ⟨at_, fr, rfl, hat⟩ _ _))
    | (guard_target =~ WO _ _ (Oper.mk _ (Op.load 78 _) _ _ _ none) _ _ _ _; first | (refine O_ldV (by assumption) on78 rfl hV.acc hV.lt ?_) | (refine O_lds (t' := 148) (by assumption) (by repeat (first | exact List.Mem.head _ | refine List.Mem.tail _ ?_)) on78 rfl (by first | omega | (simp only [csz]; omega)) (by first | rfl | exact layMod rfl rfl) ?_; intro _ _ _ _ _ _))
    | (guard_target =~ WO _ _ (Oper.mk _ (Op.load 79 _) _ _ _ none) _ _ _ _; first | (refine O_ldV (by assumption) on79 rfl hV.slo hV.lt ?_))
    | (guard_target =~ WO _ _ (Oper.mk _ (Op.load 81 _) _ _ _ none) _ _ _ _; first | (refine O_ldV (by assumption) on81 rfl hV.jou hV.lt ?_))
    | (guard_target =~ WO _ _ (Oper.mk _ (Op.load 46 _) _ _ _ none) _ _ _ _; first | (refine O_ldV (by assumption) on46 rfl hV.log hV.lt ?_))
    | (guard_target =~ WO _ _ (Oper.mk _ (Op.load 83 _) _ _ _ none) _ _ _ _; first | (refine O_ldV (by assumption) on83 rfl hV.tem hV.lt ?_))
    | (guard_target =~ WO _ _ (Oper.mk _ (Op.load 84 _) _ _ _ none) _ _ _ _; first | (refine O_ldV (by assumption) on84 rfl hV.tta hV.lt ?_))
    | (guard_target =~ WO _ _ (Oper.mk _ (Op.load 21 _) _ _ _ none) _ _ _ _; first | (refine O_ldV (by assumption) on21 rfl hV.nmk hV.lt ?_))
    | (guard_target =~ WO _ _ (Oper.mk _ (Op.box 24 _) _ _ _ none) _ _ _ _; first | (refine O_bx8 (by assumption) rfl (by assumption) rfl rfl ?_; intro _ _ _ _))
    | (guard_target =~ WO _ _ (Oper.mk _ (Op.assign _) _ _ _ none) _ _ _ _; first | (refine O_assign (v := (.int _ _)) rfl ?_) | (refine O_assign (v := (.bool _)) rfl ?_) | (refine O_assign (v := (.pointer _)) rfl ?_) | (refine O_assign (v := (.slice _ _ _)) rfl ?_) | (refine O_assign (v := (.agg _)) rfl ?_) | (refine O_assign (v := (.tuple _)) rfl ?_))
    | (guard_target =~ WO _ _ (Oper.mk _ (Op.move _) _ _ _ none) _ _ _ _; first | (refine O_move (v := (.int _ _)) rfl ?_) | (refine O_move (v := (.bool _)) rfl ?_) | (refine O_move (v := (.pointer _)) rfl ?_) | (refine O_move (v := (.slice _ _ _)) rfl ?_) | (refine O_move (v := (.agg _)) rfl ?_) | (refine O_move (v := (.tuple _)) rfl ?_))
    | (guard_target =~ WO _ _ (Oper.mk _ (Op.load 24 _) _ _ _ none) _ _ _ _; first | (refine O_ldn8 (by assumption) (by repeat (first | exact List.Mem.head _ | refine List.Mem.tail _ ?_)) ag24 rfl (by first | omega | (simp only [csz]; omega)) (by first | exact layRun0 rfl rfl | exact layRun rfl rfl rfl) ?_; intro _ _))
    | (guard_target =~ WO _ _ (Oper.mk _ (Op.extract _ _) _ _ _ none) _ _ _ _; first | (refine O_extract rfl rfl ?_))
    | (guard_target =~ WO _ _ (Oper.mk _ (Op.binOp BinOp.geq 21 _ _ _) _ _ _ none) _ _ _ _; first | (first | (refine O_geqS rfl rfl (fun h => absurd h (by omega)) ?_; intro _) | (refine O_geqS rfl rfl ?_ (fun h => absurd h (by omega)); intro _) | (refine O_geqS rfl rfl ?_ ?_ <;> intro _)))
    | (guard_target =~ WO _ _ (Oper.mk _ (Op.nilCheck _) _ _ _ none) _ _ _ _; first | (refine O_nil rfl ?_))
    | (guard_target =~ WO _ _ (Oper.mk _ (Op.fieldAddr 86 _ 0) _ _ _ none) _ _ _ _; first | (refine O_fdT fd86_0 (by decide) rfl ?_) | (refine O_field fd86_0 (by decide) rfl ?_))
    | (guard_target =~ WO _ _ (Oper.mk _ (Op.indexAddr 78 _ _) _ _ _ none) _ _ _ _; first | (refine O_ixK (by assumption) (by repeat (first | exact List.Mem.head _ | refine List.Mem.tail _ ?_)) sl78 rfl rfl (by omega) (by omega) ?_; rintro _ _ _) | (refine O_ixN (by assumption) (by repeat (first | exact List.Mem.head _ | refine List.Mem.tail _ ?_)) sl78 rfl rfl (by omega) (by omega) ?_; rintro _ _ _ _ _ _))
    | (guard_target =~ WO _ _ (Oper.mk _ (Op.fieldAddr 148 _ 1) _ _ _ none) _ _ _ _; first | (refine O_fdT fd148_1 (by decide) rfl ?_) | (refine O_field fd148_1 (by decide) rfl ?_)))
  · exact E_ret1T (by assumption) rfl rfl rfl ⟨_, by assumption, rfl⟩
  · exact E_ret1T (by assumption) rfl rfl rfl ⟨0, by omega, rfl⟩
theorem copied_ok {B : Nat} {w : World} (hT : WT B w) {a : Option Addr} {n c : Nat} (hs : Sl B w 5 a n c) : Rd B Samg.prog 79 [.slice a n c] w fun v w' => ∃ a' n' c', v = .slice a' n' c' ∧ Sl B w' 5 a' n' c' := by
  refine W_enter (l := [_]) Samg.func79 rfl rfl rfl ?_
  have hS := (TS.start hT).addL hs
  have h1 := hs.1
  have h2 := hs.2.1
  repeat' (first
    | (refine L_cons ?_)
    | (refine R_cons rfl ?_)
    | (refine W_seq ?_)
    | (refine W_region (by kernel_rfl) ?_)
    | (refine L_nil ?_)
    | (refine R_nil ?_)
    | (refine W_block ?_)
    | (refine W_skip ?_)
    | (refine W_exit ?_)
    | (refine W_ret ?_)
    | (guard_target =~ thenQ _ _ _ _ _; first | (refine T_next ?_) | (refine T_exit ?_) | (refine T_ret ?_))
    | (guard_target =~ blockQ _ _ _ _ _; first | (refine B_next ?_) | (refine B_same ?_) | (refine B_other (by kernel_rfl) ?_) | (refine B_ret ?_))
    | (refine W_true rfl rfl ?_)
    | (refine W_false rfl rfl ?_)
    | (guard_target =~ WO _ _ (Oper.mk _ (Op.assign _) _ _ _ none) _ _ _ _; first | (refine O_assign (v := (.int _ _)) rfl ?_) | (refine O_assign (v := (.bool _)) rfl ?_) | (refine O_assign (v := (.pointer _)) rfl ?_) | (refine O_assign (v := (.slice _ _ _)) rfl ?_) | (refine O_assign (v := (.agg _)) rfl ?_) | (refine O_assign (v := (.tuple _)) rfl ?_))
    | (guard_target =~ WO _ _ (Oper.mk _ (Op.move _) _ _ _ none) _ _ _ _; first | (refine O_move (v := (.int _ _)) rfl ?_) | (refine O_move (v := (.bool _)) rfl ?_) | (refine O_move (v := (.pointer _)) rfl ?_) | (refine O_move (v := (.slice _ _ _)) rfl ?_) | (refine O_move (v := (.agg _)) rfl ?_) | (refine O_move (v := (.tuple _)) rfl ?_))
    | (guard_target =~ WO _ _ (Oper.mk _ (Op.call _) _ _ _ none) _ _ _ _; first | (refine O_len Samg.underlying31 rfl rfl ?_) | (refine O_cp (by assumption) (by repeat (first | exact List.Mem.head _ | refine List.Mem.tail _ ?_)) (by repeat (first | exact List.Mem.head _ | refine List.Mem.tail _ ?_)) (by omega) rfl sl31 rfl rfl rfl ?_; intro _ _))
    | (guard_target =~ WO _ _ (Oper.mk _ (Op.binOp BinOp.eql 3 _ _ _) _ _ _ none) _ _ _ _; first | (first | (refine O_eqlS rfl rfl (fun h => absurd h (by omega)) ?_; intro _) | (refine O_eqlS rfl rfl ?_ (fun h => absurd h (by omega)); intro _) | (refine O_eqlS rfl rfl ?_ ?_ <;> intro _)))
    | (guard_target =~ WO _ _ (Oper.mk _ (Op.makeSlice 31 _ _) _ _ _ none) _ _ _ _; first | (refine O_mk (by assumption) sl31 by5 zc5 (by decide) rfl rfl (by omega) (by omega) ?_; intro _ _ _ _)))
  · exact E_ret1T (by assumption) rfl rfl rfl ⟨_, _, _, rfl, Sl.nil _⟩
  · exact E_ret1T (by assumption) rfl rfl rfl ⟨_, _, _, rfl, TS.slN (by assumption) (by repeat (first | exact List.Mem.head _ | refine List.Mem.tail _ ?_))⟩
theorem twin_ok {B : Nat} {w : World} (hT : WT B w) {a : Option Addr} {n c : Nat} (hs : Sl B w 5 a n c) : Rd B Samg.prog 95 [.slice a n c] w fun v w' => ∃ a' n' c', v = .slice a' n' c' ∧ Sl B w' 5 a' n' c' := by
  refine W_enter (l := [_]) Samg.func95 rfl rfl rfl ?_
  have hS := (TS.start hT).addL hs
  have h1 := hs.1
  have h2 := hs.2.1
  repeat' (first
    | (refine L_cons ?_)
    | (refine R_cons rfl ?_)
    | (refine W_seq ?_)
    | (refine W_region (by kernel_rfl) ?_)
    | (refine L_nil ?_)
    | (refine R_nil ?_)
    | (refine W_block ?_)
    | (refine W_skip ?_)
    | (refine W_exit ?_)
    | (refine W_ret ?_)
    | (guard_target =~ thenQ _ _ _ _ _; first | (refine T_next ?_) | (refine T_exit ?_) | (refine T_ret ?_))
    | (guard_target =~ blockQ _ _ _ _ _; first | (refine B_next ?_) | (refine B_same ?_) | (refine B_other (by kernel_rfl) ?_) | (refine B_ret ?_))
    | (refine W_true rfl rfl ?_)
    | (refine W_false rfl rfl ?_)
    | (guard_target =~ WO _ _ (Oper.mk _ (Op.assign _) _ _ _ none) _ _ _ _; first | (refine O_assign (v := (.int _ _)) rfl ?_) | (refine O_assign (v := (.bool _)) rfl ?_) | (refine O_assign (v := (.pointer _)) rfl ?_) | (refine O_assign (v := (.slice _ _ _)) rfl ?_) | (refine O_assign (v := (.agg _)) rfl ?_) | (refine O_assign (v := (.tuple _)) rfl ?_))
    | (guard_target =~ WO _ _ (Oper.mk _ (Op.move _) _ _ _ none) _ _ _ _; first | (refine O_move (v := (.int _ _)) rfl ?_) | (refine O_move (v := (.bool _)) rfl ?_) | (refine O_move (v := (.pointer _)) rfl ?_) | (refine O_move (v := (.slice _ _ _)) rfl ?_) | (refine O_move (v := (.agg _)) rfl ?_) | (refine O_move (v := (.tuple _)) rfl ?_))
    | (guard_target =~ WO _ _ (Oper.mk _ (Op.binOp BinOp.eql 31 _ _ _) _ _ _ none) _ _ _ _; first | (refine O_snil Samg.underlying31 rfl rfl ?_ ?_ <;> (intros; try subst_eqs)))
    | (guard_target =~ WO _ _ (Oper.mk _ (Op.call _) _ _ _ none) _ _ _ _; first | (refine O_len Samg.underlying31 rfl rfl ?_) | (refine O_cp (by assumption) (by repeat (first | exact List.Mem.head _ | refine List.Mem.tail _ ?_)) (by repeat (first | exact List.Mem.head _ | refine List.Mem.tail _ ?_)) (by omega) rfl sl31 rfl rfl rfl ?_; intro _ _))
    | (guard_target =~ WO _ _ (Oper.mk _ (Op.makeSlice 31 _ _) _ _ _ none) _ _ _ _; first | (refine O_mk (by assumption) sl31 by5 zc5 (by decide) rfl rfl (by omega) (by omega) ?_; intro _ _ _ _)))
  · exact E_ret1T (by assumption) rfl rfl rfl ⟨_, _, _, rfl, Sl.nil _⟩
  · exact E_ret1T (by assumption) rfl rfl rfl ⟨_, _, _, rfl, TS.slN (by assumption) (by repeat (first | exact List.Mem.head _ | refine List.Mem.tail _ ?_))⟩
theorem copyBytes_ok {B : Nat} {w : World} (hT : WT B w) {a : Option Addr} {n c : Nat} (hs : Sl B w 5 a n c) : Rd B Samg.prog 55 [.slice a n c] w fun v w' => ∃ a' n' c', v = .slice a' n' c' ∧ Sl B w' 5 a' n' c' := by
  refine W_enter (l := [_]) Samg.func55 rfl rfl rfl ?_
  have hS := (TS.start hT).addL hs
  have h1 := hs.1
  have h2 := hs.2.1
  repeat' (first
    | (refine L_cons ?_)
    | (refine R_cons rfl ?_)
    | (refine W_seq ?_)
    | (refine W_region (by kernel_rfl) ?_)
    | (refine L_nil ?_)
    | (refine R_nil ?_)
    | (refine W_block ?_)
    | (refine W_skip ?_)
    | (refine W_exit ?_)
    | (refine W_ret ?_)
    | (guard_target =~ thenQ _ _ _ _ _; first | (refine T_next ?_) | (refine T_exit ?_) | (refine T_ret ?_))
    | (guard_target =~ blockQ _ _ _ _ _; first | (refine B_next ?_) | (refine B_same ?_) | (refine B_other (by kernel_rfl) ?_) | (refine B_ret ?_))
    | (refine W_true rfl rfl ?_)
    | (refine W_false rfl rfl ?_)
    | (guard_target =~ WO _ _ (Oper.mk _ (Op.assign _) _ _ _ none) _ _ _ _; first | (refine O_assign (v := (.int _ _)) rfl ?_) | (refine O_assign (v := (.bool _)) rfl ?_) | (refine O_assign (v := (.pointer _)) rfl ?_) | (refine O_assign (v := (.slice _ _ _)) rfl ?_) | (refine O_assign (v := (.agg _)) rfl ?_) | (refine O_assign (v := (.tuple _)) rfl ?_))
    | (guard_target =~ WO _ _ (Oper.mk _ (Op.move _) _ _ _ none) _ _ _ _; first | (refine O_move (v := (.int _ _)) rfl ?_) | (refine O_move (v := (.bool _)) rfl ?_) | (refine O_move (v := (.pointer _)) rfl ?_) | (refine O_move (v := (.slice _ _ _)) rfl ?_) | (refine O_move (v := (.agg _)) rfl ?_) | (refine O_move (v := (.tuple _)) rfl ?_))
    | (guard_target =~ WO _ _ (Oper.mk _ (Op.binOp BinOp.eql 31 _ _ _) _ _ _ none) _ _ _ _; first | (refine O_snil Samg.underlying31 rfl rfl ?_ ?_ <;> (intros; try subst_eqs)))
    | (guard_target =~ WO _ _ (Oper.mk _ (Op.call _) _ _ _ none) _ _ _ _; first | (refine O_len Samg.underlying31 rfl rfl ?_) | (refine O_cp (by assumption) (by repeat (first | exact List.Mem.head _ | refine List.Mem.tail _ ?_)) (by repeat (first | exact List.Mem.head _ | refine List.Mem.tail _ ?_)) (by omega) rfl sl31 rfl rfl rfl ?_; intro _ _))
    | (guard_target =~ WO _ _ (Oper.mk _ (Op.makeSlice 31 _ _) _ _ _ none) _ _ _ _; first | (refine O_mk (by assumption) sl31 by5 zc5 (by decide) rfl rfl (by omega) (by omega) ?_; intro _ _ _ _)))
  · exact E_ret1T (by assumption) rfl rfl rfl ⟨_, _, _, rfl, Sl.nil _⟩
  · exact E_ret1T (by assumption) rfl rfl rfl ⟨_, _, _, rfl, TS.slN (by assumption) (by repeat (first | exact List.Mem.head _ | refine List.Mem.tail _ ?_))⟩
theorem code_ok {B s : Nat} {σ : VS} {w : World} (hT : WT B w) (hV : V B w s σ) (hI : VI σ) {f : Nat → Nat} (hf : ∀ i, f i < 256) : Rd B Samg.prog 34 [.pointer (some ⟨s, 0, none⟩), .agg (ns .u8 20 f)] w fun v w' => ∃ a' n' c', v = .slice a' n' c' ∧ Sl B w' 5 a' n' c' := by
  refine W_enter (l := [_, _]) Samg.func34 rfl rfl rfl ?_
  have hS := hV.start hT; have hna := hI.na; have hns := hI.ns; have hnt := hI.nt; have hnj := hI.nj; have hnm := hI.nm; have hnl := hI.nl
  repeat' (first
    | (refine L_cons ?_)
    | (refine R_cons rfl ?_)
    | (refine W_seq ?_)
    | (refine W_region (by kernel_rfl) ?_)
    | (refine L_nil ?_)
    | (refine R_nil ?_)
    | (refine W_block ?_)
    | (refine W_skip ?_)
    | (refine W_exit ?_)
    | (refine W_ret ?_)
    | (guard_target =~ thenQ _ _ _ _ _; first | (refine T_next ?_) | (refine T_exit ?_) | (refine T_ret ?_))
    | (guard_target =~ blockQ _ _ _ _ _; first | (refine B_next ?_) | (refine B_same ?_) | (refine B_other (by kernel_rfl) ?_) | (refine B_ret ?_))
    | (refine W_true rfl rfl ?_)
    | (refine W_false rfl rfl ?_)
    | (guard_target =~ WO _ _ (Oper.mk _ (Op.call (Call.mk (Callee.value (Operand.func 83)) _ _)) _ _ _ none) _ _ _ _; first | (refine O_rd (l := [.pointer (some ⟨s, 0, none⟩), .agg (ns .u8 20 _)]) (by assumption) cl83 rfl (findAcct_ok (TS.t (by assumption)) (hV.ext (TS.e (by assumption))) hI (by assumption)) ?_; rintro _ _ ⟨at_, fr, rfl, hat⟩ _ _))
    | (guard_target =~ WO _ _ (Oper.mk _ (Op.call (Call.mk (Callee.value (Operand.func 79)) _ _)) _ _ _ none) _ _ _ _; first | (refine O_rd (l := [.slice _ _ _]) (by assumption) cl79 rfl (copied_ok (TS.t (by assumption)) (TS.slN (by assumption) (by repeat (first | exact List.Mem.head _ | refine List.Mem.tail _ ?_)))) ?_; rintro _ _ ⟨_, _, _, rfl, hs1⟩ hS1 _; replace hS1 := hS1.addL hs1))
    | (guard_target =~ WO _ _ (Oper.mk _ (Op.load 78 _) _ _ _ none) _ _ _ _; first | (refine O_ldV (by assumption) on78 rfl hV.acc hV.lt ?_) | (refine O_lds (t' := 148) (by assumption) (by repeat (first | exact List.Mem.head _ | refine List.Mem.tail _ ?_)) on78 rfl (by first | omega | (simp only [csz]; omega)) (by first | rfl | exact layMod rfl rfl) ?_; intro _ _ _ _ _ _))
    | (guard_target =~ WO _ _ (Oper.mk _ (Op.load 79 _) _ _ _ none) _ _ _ _; first | (refine O_ldV (by assumption) on79 rfl hV.slo hV.lt ?_))
    | (guard_target =~ WO _ _ (Oper.mk _ (Op.load 81 _) _ _ _ none) _ _ _ _; first | (refine O_ldV (by assumption) on81 rfl hV.jou hV.lt ?_))
    | (guard_target =~ WO _ _ (Oper.mk _ (Op.load 46 _) _ _ _ none) _ _ _ _; first | (refine O_ldV (by assumption) on46 rfl hV.log hV.lt ?_))
    | (guard_target =~ WO _ _ (Oper.mk _ (Op.load 83 _) _ _ _ none) _ _ _ _; first | (refine O_ldV (by assumption) on83 rfl hV.tem hV.lt ?_))
    | (guard_target =~ WO _ _ (Oper.mk _ (Op.load 84 _) _ _ _ none) _ _ _ _; first | (refine O_ldV (by assumption) on84 rfl hV.tta hV.lt ?_))
    | (guard_target =~ WO _ _ (Oper.mk _ (Op.load 21 _) _ _ _ none) _ _ _ _; first | (refine O_ldV (by assumption) on21 rfl hV.nmk hV.lt ?_))
    | (guard_target =~ WO _ _ (Oper.mk _ (Op.load 27 _) _ _ _ none) _ _ _ _; first | (refine O_ldV (by assumption) on27 rfl hV.rf hV.lt ?_))
    | (guard_target =~ WO _ _ (Oper.mk _ (Op.box 24 _) _ _ _ none) _ _ _ _; first | (refine O_bx8 (by assumption) rfl (by assumption) rfl rfl ?_; intro _ _ _ _))
    | (guard_target =~ WO _ _ (Oper.mk _ (Op.assign _) _ _ _ none) _ _ _ _; first | (refine O_assign (v := (.int _ _)) rfl ?_) | (refine O_assign (v := (.bool _)) rfl ?_) | (refine O_assign (v := (.pointer _)) rfl ?_) | (refine O_assign (v := (.slice _ _ _)) rfl ?_) | (refine O_assign (v := (.agg _)) rfl ?_) | (refine O_assign (v := (.tuple _)) rfl ?_))
    | (guard_target =~ WO _ _ (Oper.mk _ (Op.move _) _ _ _ none) _ _ _ _; first | (refine O_move (v := (.int _ _)) rfl ?_) | (refine O_move (v := (.bool _)) rfl ?_) | (refine O_move (v := (.pointer _)) rfl ?_) | (refine O_move (v := (.slice _ _ _)) rfl ?_) | (refine O_move (v := (.agg _)) rfl ?_) | (refine O_move (v := (.tuple _)) rfl ?_))
    | (guard_target =~ WO _ _ (Oper.mk _ (Op.load 24 _) _ _ _ none) _ _ _ _; first | (refine O_ldn8 (by assumption) (by repeat (first | exact List.Mem.head _ | refine List.Mem.tail _ ?_)) ag24 rfl (by first | omega | (simp only [csz]; omega)) (by first | exact layRun0 rfl rfl | exact layRun rfl rfl rfl) ?_; intro _ _))
    | (guard_target =~ WO _ _ (Oper.mk _ (Op.extract _ _) _ _ _ none) _ _ _ _; first | (refine O_extract rfl rfl ?_))
    | (guard_target =~ WO _ _ (Oper.mk _ (Op.binOp BinOp.geq 21 _ _ _) _ _ _ none) _ _ _ _; first | (first | (refine O_geqS rfl rfl (fun h => absurd h (by omega)) ?_; intro _) | (refine O_geqS rfl rfl ?_ (fun h => absurd h (by omega)); intro _) | (refine O_geqS rfl rfl ?_ ?_ <;> intro _)))
    | (guard_target =~ WO _ _ (Oper.mk _ (Op.nilCheck _) _ _ _ none) _ _ _ _; first | (refine O_nil rfl ?_))
    | (guard_target =~ WO _ _ (Oper.mk _ (Op.fieldAddr 86 _ 0) _ _ _ none) _ _ _ _; first | (refine O_fdT fd86_0 (by decide) rfl ?_) | (refine O_field fd86_0 (by decide) rfl ?_))
    | (guard_target =~ WO _ _ (Oper.mk _ (Op.indexAddr 78 _ _) _ _ _ none) _ _ _ _; first | (refine O_ixK (by assumption) (by repeat (first | exact List.Mem.head _ | refine List.Mem.tail _ ?_)) sl78 rfl rfl (by omega) (by omega) ?_; rintro _ _ _) | (refine O_ixN (by assumption) (by repeat (first | exact List.Mem.head _ | refine List.Mem.tail _ ?_)) sl78 rfl rfl (by omega) (by omega) ?_; rintro _ _ _ _ _ _))
    | (guard_target =~ WO _ _ (Oper.mk _ (Op.fieldAddr 148 _ 3) _ _ _ none) _ _ _ _; first | (refine O_fdT fd148_3 (by decide) rfl ?_) | (refine O_field fd148_3 (by decide) rfl ?_))
    | (guard_target =~ WO _ _ (Oper.mk _ (Op.load 31 _) _ _ _ none) _ _ _ _; first | (refine O_lds (t' := 5) (by assumption) (by repeat (first | exact List.Mem.head _ | refine List.Mem.tail _ ?_)) on31 rfl (by first | omega | (simp only [csz]; omega)) (by first | rfl | exact layMod rfl rfl) ?_; intro _ _ _ _ _ _)))
  · exact E_ret1T (by assumption) rfl rfl rfl ⟨_, _, _, rfl, TS.slN (by assumption) (by repeat (first | exact List.Mem.head _ | refine List.Mem.tail _ ?_))⟩
  · exact E_ret1T (by assumption) rfl rfl rfl ⟨_, _, _, rfl, Sl.nil _⟩
theorem isZeroT {B : Nat} {f : Nat → Nat} {w : World} (hT : WT B w) (hf : ∀ i, f i < 18446744073709551616) : Rd B Samg.prog 90 [.agg (ns .u64 4 f)] w fun v w' => ∃ p, v = .bool p := Ret.mono (isZero_ok hT hf) fun v w' ⟨h1, h2, h3⟩ => ⟨h1, h2, _, h3⟩
theorem empty_ok {B : Nat} {w : World} (hT : WT B w) {b n cap i : Nat} (hs : Sl B w 148 (some ⟨b, 0, none⟩) n cap) (hi : i < n) : Rd B Samg.prog 84 [.pointer (some ⟨b, i * 29 + 0, none⟩)] w fun v w' => ∃ p, v = .bool p := by
  refine W_enter (l := [_]) Samg.func84 rfl rfl rfl ?_
  have hS := (TS.start hT).addL hs
  have h1 := hs.1
  repeat' (first
    | (refine L_cons ?_)
    | (refine R_cons rfl ?_)
    | (refine W_seq ?_)
    | (refine W_region (by kernel_rfl) ?_)
    | (refine L_nil ?_)
    | (refine R_nil ?_)
    | (refine W_block ?_)
    | (refine W_skip ?_)
    | (refine W_exit ?_)
    | (refine W_ret ?_)
    | (guard_target =~ thenQ _ _ _ _ _; first | (refine T_next ?_) | (refine T_exit ?_) | (refine T_ret ?_))
    | (guard_target =~ blockQ _ _ _ _ _; first | (refine B_next ?_) | (refine B_same ?_) | (refine B_other (by kernel_rfl) ?_) | (refine B_ret ?_))
    | (refine W_true rfl rfl ?_)
    | (refine W_false rfl rfl ?_)
    | (guard_target =~ WO _ _ (Oper.mk _ (Op.call (Call.mk (Callee.value (Operand.func 90)) _ _)) _ _ _ none) _ _ _ _; first | (refine O_rd (l := [.agg (ns .u64 4 _)]) (by assumption) cl90 rfl (isZeroT (TS.t (by assumption)) (by assumption)) ?_; rintro _ _ ⟨pz, rfl⟩ _ _; cases pz))
    | (guard_target =~ WO _ _ (Oper.mk _ _ _ _ _ (some _)) _ _ _ _; first | (refine G_yes rfl ?_) | (refine G_no rfl ?_))
    | (guard_target =~ WO _ _ (Oper.mk _ (Op.assign _) _ _ _ none) _ _ _ _; first | (refine O_assign (v := (.int _ _)) rfl ?_) | (refine O_assign (v := (.bool _)) rfl ?_) | (refine O_assign (v := (.pointer _)) rfl ?_) | (refine O_assign (v := (.slice _ _ _)) rfl ?_) | (refine O_assign (v := (.agg _)) rfl ?_) | (refine O_assign (v := (.tuple _)) rfl ?_))
    | (guard_target =~ WO _ _ (Oper.mk _ (Op.move _) _ _ _ none) _ _ _ _; first | (refine O_move (v := (.int _ _)) rfl ?_) | (refine O_move (v := (.bool _)) rfl ?_) | (refine O_move (v := (.pointer _)) rfl ?_) | (refine O_move (v := (.slice _ _ _)) rfl ?_) | (refine O_move (v := (.agg _)) rfl ?_) | (refine O_move (v := (.tuple _)) rfl ?_))
    | (guard_target =~ WO _ _ (Oper.mk _ (Op.nilCheck _) _ _ _ none) _ _ _ _; first | (refine O_nil rfl ?_))
    | (guard_target =~ WO _ _ (Oper.mk _ (Op.fieldAddr 148 _ 1) _ _ _ none) _ _ _ _; first | (refine O_fdT fd148_1 (by decide) rfl ?_) | (refine O_field fd148_1 (by decide) rfl ?_))
    | (guard_target =~ WO _ _ (Oper.mk _ (Op.load 27 _) _ _ _ none) _ _ _ _; first | (refine O_ld64 (by assumption) (by repeat (first | exact List.Mem.head _ | refine List.Mem.tail _ ?_)) on27 rfl (by first | omega | (simp only [csz]; omega)) (by first | rfl | exact layMod rfl rfl) ?_; intro _ _))
    | (guard_target =~ WO _ _ (Oper.mk _ (Op.binOp BinOp.eql 27 _ _ _) _ _ _ none) _ _ _ _; first | (first | (refine O_eqlS rfl rfl (fun h => absurd h (by omega)) ?_; intro _) | (refine O_eqlS rfl rfl ?_ (fun h => absurd h (by omega)); intro _) | (refine O_eqlS rfl rfl ?_ ?_ <;> intro _)))
    | (guard_target =~ WO _ _ (Oper.mk _ (Op.fieldAddr 148 _ 2) _ _ _ none) _ _ _ _; first | (refine O_fdT fd148_2 (by decide) rfl ?_) | (refine O_field fd148_2 (by decide) rfl ?_))
    | (guard_target =~ WO _ _ (Oper.mk _ (Op.load 45 _) _ _ _ none) _ _ _ _; first | (refine O_ldn64 (by assumption) (by repeat (first | exact List.Mem.head _ | refine List.Mem.tail _ ?_)) ag45 rfl (by first | omega | (simp only [csz]; omega)) (by first | exact layRun0 rfl rfl | exact layRun rfl rfl rfl) ?_; intro _ _))
    | (guard_target =~ WO _ _ (Oper.mk _ (Op.pick _ _ _) _ _ _ none) _ _ _ _; first | (refine O_pick_t (v := (.bool _)) rfl rfl ?_) | (refine O_pick_f (v := (.bool _)) rfl rfl ?_))
    | (guard_target =~ WO _ _ (Oper.mk _ (Op.fieldAddr 148 _ 3) _ _ _ none) _ _ _ _; first | (refine O_fdT fd148_3 (by decide) rfl ?_) | (refine O_field fd148_3 (by decide) rfl ?_))
    | (guard_target =~ WO _ _ (Oper.mk _ (Op.load 31 _) _ _ _ none) _ _ _ _; first | (refine O_lds (t' := 5) (by assumption) (by repeat (first | exact List.Mem.head _ | refine List.Mem.tail _ ?_)) on31 rfl (by first | omega | (simp only [csz]; omega)) (by first | rfl | exact layMod rfl rfl) ?_; intro _ _ _ _ _ _))
    | (guard_target =~ WO _ _ (Oper.mk _ (Op.call _) _ _ _ none) _ _ _ _; first | (refine O_len Samg.underlying31 rfl rfl ?_))
    | (guard_target =~ WO _ _ (Oper.mk _ (Op.binOp BinOp.eql 3 _ _ _) _ _ _ none) _ _ _ _; first | (first | (refine O_eqlS rfl rfl (fun h => absurd h (by omega)) ?_; intro _) | (refine O_eqlS rfl rfl ?_ (fun h => absurd h (by omega)); intro _) | (refine O_eqlS rfl rfl ?_ ?_ <;> intro _))))
  all_goals exact E_ret1T (by assumption) rfl rfl rfl ⟨_, rfl⟩
theorem isEmpty_ok {B s : Nat} {σ : VS} {w : World} (hT : WT B w) (hV : V B w s σ) (hI : VI σ) {f : Nat → Nat} (hf : ∀ i, f i < 256) : Rd B Samg.prog 35 [.pointer (some ⟨s, 0, none⟩), .agg (ns .u8 20 f)] w fun v w' => ∃ p, v = .bool p := by
  refine W_enter (l := [_, _]) Samg.func35 rfl rfl rfl ?_
  have hS := hV.start hT; have hna := hI.na; have hns := hI.ns; have hnt := hI.nt; have hnj := hI.nj; have hnm := hI.nm; have hnl := hI.nl
  repeat' (first
    | (refine L_cons ?_)
    | (refine R_cons rfl ?_)
    | (refine W_seq ?_)
    | (refine W_region (by kernel_rfl) ?_)
    | (refine L_nil ?_)
    | (refine R_nil ?_)
    | (refine W_block ?_)
    | (refine W_skip ?_)
    | (refine W_exit ?_)
    | (refine W_ret ?_)
    | (guard_target =~ thenQ _ _ _ _ _; first | (refine T_next ?_) | (refine T_exit ?_) | (refine T_ret ?_))
    | (guard_target =~ blockQ _ _ _ _ _; first | (refine B_next ?_) | (refine B_same ?_) | (refine B_other (by kernel_rfl) ?_) | (refine B_ret ?_))
    | (refine W_true rfl rfl ?_)
    | (refine W_false rfl rfl ?_)
    | (guard_target =~ WO _ _ (Oper.mk _ (Op.call (Call.mk (Callee.value (Operand.func 83)) _ _)) _ _ _ none) _ _ _ _; first | (refine O_rd (l := [.pointer (some ⟨s, 0, none⟩), .agg (ns .u8 20 _)]) (by assumption) cl83 rfl (findAcct_ok (TS.t (by assumption)) (hV.ext (TS.e (by assumption))) hI (by assumption)) ?_; rintro _ _ ⟨at_, fr, rfl, hat⟩ _ _))
    | (guard_target =~ WO _ _ (Oper.mk _ (Op.call (Call.mk (Callee.value (Operand.func 84)) _ _)) _ _ _ none) _ _ _ _; first | (refine O_rd (l := [.pointer (some ⟨_, _ * 29 + 0, none⟩)]) (by assumption) cl84 rfl (empty_ok (TS.t (by assumption)) (TS.slN (by assumption) (by repeat (first | exact List.Mem.head _ | refine List.Mem.tail _ ?_))) (by omega)) ?_; rintro _ _ ⟨p, rfl⟩ _ _; cases p))
    | (guard_target =~ WO _ _ (Oper.mk _ (Op.load 78 _) _ _ _ none) _ _ _ _; first | (refine O_ldV (by assumption) on78 rfl hV.acc hV.lt ?_) | (refine O_lds (t' := 148) (by assumption) (by repeat (first | exact List.Mem.head _ | refine List.Mem.tail _ ?_)) on78 rfl (by first | omega | (simp only [csz]; omega)) (by first | rfl | exact layMod rfl rfl) ?_; intro _ _ _ _ _ _))
    | (guard_target =~ WO _ _ (Oper.mk _ (Op.load 79 _) _ _ _ none) _ _ _ _; first | (refine O_ldV (by assumption) on79 rfl hV.slo hV.lt ?_))
    | (guard_target =~ WO _ _ (Oper.mk _ (Op.load 81 _) _ _ _ none) _ _ _ _; first | (refine O_ldV (by assumption) on81 rfl hV.jou hV.lt ?_))
    | (guard_target =~ WO _ _ (Oper.mk _ (Op.load 46 _) _ _ _ none) _ _ _ _; first | (refine O_ldV (by assumption) on46 rfl hV.log hV.lt ?_))
    | (guard_target =~ WO _ _ (Oper.mk _ (Op.load 83 _) _ _ _ none) _ _ _ _; first | (refine O_ldV (by assumption) on83 rfl hV.tem hV.lt ?_))
    | (guard_target =~ WO _ _ (Oper.mk _ (Op.load 84 _) _ _ _ none) _ _ _ _; first | (refine O_ldV (by assumption) on84 rfl hV.tta hV.lt ?_))
    | (guard_target =~ WO _ _ (Oper.mk _ (Op.load 21 _) _ _ _ none) _ _ _ _; first | (refine O_ldV (by assumption) on21 rfl hV.nmk hV.lt ?_))
    | (guard_target =~ WO _ _ (Oper.mk _ (Op.load 27 _) _ _ _ none) _ _ _ _; first | (refine O_ldV (by assumption) on27 rfl hV.rf hV.lt ?_))
    | (guard_target =~ WO _ _ (Oper.mk _ _ _ _ _ (some _)) _ _ _ _; first | (refine G_yes rfl ?_) | (refine G_no rfl ?_))
    | (guard_target =~ WO _ _ (Oper.mk _ (Op.box 24 _) _ _ _ none) _ _ _ _; first | (refine O_bx8 (by assumption) rfl (by assumption) rfl rfl ?_; intro _ _ _ _))
    | (guard_target =~ WO _ _ (Oper.mk _ (Op.assign _) _ _ _ none) _ _ _ _; first | (refine O_assign (v := (.int _ _)) rfl ?_) | (refine O_assign (v := (.bool _)) rfl ?_) | (refine O_assign (v := (.pointer _)) rfl ?_) | (refine O_assign (v := (.slice _ _ _)) rfl ?_) | (refine O_assign (v := (.agg _)) rfl ?_) | (refine O_assign (v := (.tuple _)) rfl ?_))
    | (guard_target =~ WO _ _ (Oper.mk _ (Op.move _) _ _ _ none) _ _ _ _; first | (refine O_move (v := (.int _ _)) rfl ?_) | (refine O_move (v := (.bool _)) rfl ?_) | (refine O_move (v := (.pointer _)) rfl ?_) | (refine O_move (v := (.slice _ _ _)) rfl ?_) | (refine O_move (v := (.agg _)) rfl ?_) | (refine O_move (v := (.tuple _)) rfl ?_))
    | (guard_target =~ WO _ _ (Oper.mk _ (Op.load 24 _) _ _ _ none) _ _ _ _; first | (refine O_ldn8 (by assumption) (by repeat (first | exact List.Mem.head _ | refine List.Mem.tail _ ?_)) ag24 rfl (by first | omega | (simp only [csz]; omega)) (by first | exact layRun0 rfl rfl | exact layRun rfl rfl rfl) ?_; intro _ _))
    | (guard_target =~ WO _ _ (Oper.mk _ (Op.extract _ _) _ _ _ none) _ _ _ _; first | (refine O_extract rfl rfl ?_))
    | (guard_target =~ WO _ _ (Oper.mk _ (Op.binOp BinOp.lss 21 _ _ _) _ _ _ none) _ _ _ _; first | (first | (refine O_lssS rfl rfl (fun h => absurd h (by omega)) ?_; intro _) | (refine O_lssS rfl rfl ?_ (fun h => absurd h (by omega)); intro _) | (refine O_lssS rfl rfl ?_ ?_ <;> intro _)))
    | (guard_target =~ WO _ _ (Oper.mk _ (Op.nilCheck _) _ _ _ none) _ _ _ _; first | (refine O_nil rfl ?_))
    | (guard_target =~ WO _ _ (Oper.mk _ (Op.fieldAddr 86 _ 0) _ _ _ none) _ _ _ _; first | (refine O_fdT fd86_0 (by decide) rfl ?_) | (refine O_field fd86_0 (by decide) rfl ?_))
    | (guard_target =~ WO _ _ (Oper.mk _ (Op.indexAddr 78 _ _) _ _ _ none) _ _ _ _; first | (refine O_ixK (by assumption) (by repeat (first | exact List.Mem.head _ | refine List.Mem.tail _ ?_)) sl78 rfl rfl (by omega) (by omega) ?_; rintro _ _ _) | (refine O_ixN (by assumption) (by repeat (first | exact List.Mem.head _ | refine List.Mem.tail _ ?_)) sl78 rfl rfl (by omega) (by omega) ?_; rintro _ _ _ _ _ _))
    | (guard_target =~ WO _ _ (Oper.mk _ (Op.pick _ _ _) _ _ _ none) _ _ _ _; first | (refine O_pick_t (v := (.bool _)) rfl rfl ?_) | (refine O_pick_f (v := (.bool _)) rfl rfl ?_)))
  all_goals exact E_ret1T (by assumption) rfl rfl rfl ⟨_, rfl⟩
theorem peekSlot_ok {B s : Nat} {σ : VS} {w : World} (hT : WT B w) (hV : V B w s σ) (hI : VI σ) {f g : Nat → Nat} (hf : ∀ i, f i < 256) (hg : ∀ i, g i < 18446744073709551616) : Rd B Samg.prog 85 [.pointer (some ⟨s, 0, none⟩), .agg (ns .u8 20 f), .agg (ns .u64 4 g)] w fun v w' => ∃ a : Int, v = .int .i32 a ∧ (a = -1 ∨ 0 ≤ a ∧ a < σ.ns) := by
  refine W_enter (l := [_, _, _]) Samg.func85 rfl rfl rfl ?_
  have hS := hV.start hT; have hna := hI.na; have hns := hI.ns; have hnt := hI.nt; have hnj := hI.nj; have hnm := hI.nm; have hnl := hI.nl
  repeat' (first
    | (refine L_cons ?_)
    | (refine R_cons rfl ?_)
    | (refine W_seq ?_)
    | (refine W_region (by kernel_rfl) ?_)
    | (refine L_nil ?_)
    | (refine R_nil ?_)
    | (refine W_block ?_)
    | (refine W_skip ?_)
    | (refine W_exit ?_)
    | (refine W_ret ?_)
    | (guard_target =~ thenQ _ _ _ _ _; first | (refine T_next ?_) | (refine T_exit ?_) | (refine T_ret ?_))
    | (guard_target =~ blockQ _ _ _ _ _; first | (refine B_next ?_) | (refine B_same ?_) | (refine B_other (by kernel_rfl) ?_) | (refine B_ret ?_))
    | (refine W_true rfl rfl ?_)
    | (refine W_false rfl rfl ?_)
    | (guard_target =~ WO _ _ (Oper.mk _ (Op.call (Call.mk (Callee.value (Operand.func 83)) _ _)) _ _ _ none) _ _ _ _; first | (refine O_rd (l := [.pointer (some ⟨s, 0, none⟩), .agg (ns .u8 20 _)]) (by assumption) cl83 rfl (findAcct_ok (TS.t (by assumption)) (hV.ext (TS.e (by assumption))) hI (by assumption)) ?_; rintro _ _ ⟨at_, fr, rfl, hat⟩ _ _))
    | (guard_target =~ WO _ _ (Oper.mk _ (Op.call (Call.mk (Callee.value (Operand.func 114)) _ _)) _ _ _ none) _ _ _ _; first | (refine O_rd (l := [.pointer (some ⟨s, 0, none⟩), .int .i32 _, .agg (ns .u64 4 _)]) (by assumption) cl114 rfl (findSlot_ok (TS.t (by assumption)) (hV.ext (TS.e (by assumption))) hI (by assumption)) ?_; rintro _ _ ⟨at_, fr, rfl, hat⟩ _ _))
    | (guard_target =~ WO _ _ (Oper.mk _ (Op.load 78 _) _ _ _ none) _ _ _ _; first | (refine O_ldV (by assumption) on78 rfl hV.acc hV.lt ?_))
    | (guard_target =~ WO _ _ (Oper.mk _ (Op.load 79 _) _ _ _ none) _ _ _ _; first | (refine O_ldV (by assumption) on79 rfl hV.slo hV.lt ?_))
    | (guard_target =~ WO _ _ (Oper.mk _ (Op.load 81 _) _ _ _ none) _ _ _ _; first | (refine O_ldV (by assumption) on81 rfl hV.jou hV.lt ?_))
    | (guard_target =~ WO _ _ (Oper.mk _ (Op.load 46 _) _ _ _ none) _ _ _ _; first | (refine O_ldV (by assumption) on46 rfl hV.log hV.lt ?_))
    | (guard_target =~ WO _ _ (Oper.mk _ (Op.load 83 _) _ _ _ none) _ _ _ _; first | (refine O_ldV (by assumption) on83 rfl hV.tem hV.lt ?_))
    | (guard_target =~ WO _ _ (Oper.mk _ (Op.load 84 _) _ _ _ none) _ _ _ _; first | (refine O_ldV (by assumption) on84 rfl hV.tta hV.lt ?_))
    | (guard_target =~ WO _ _ (Oper.mk _ (Op.load 21 _) _ _ _ none) _ _ _ _; first | (refine O_ldV (by assumption) on21 rfl hV.nmk hV.lt ?_))
    | (guard_target =~ WO _ _ (Oper.mk _ (Op.load 27 _) _ _ _ none) _ _ _ _; first | (refine O_ldV (by assumption) on27 rfl hV.rf hV.lt ?_))
    | (guard_target =~ WO _ _ (Oper.mk _ (Op.box 24 _) _ _ _ none) _ _ _ _; first | (refine O_bx8 (by assumption) rfl (by assumption) rfl rfl ?_; intro _ _ _ _))
    | (guard_target =~ WO _ _ (Oper.mk _ (Op.box 45 _) _ _ _ none) _ _ _ _; first | (refine O_bx64 (by assumption) rfl (by assumption) rfl rfl ?_; intro _ _ _ _))
    | (guard_target =~ WO _ _ (Oper.mk _ (Op.assign _) _ _ _ none) _ _ _ _; first | (refine O_assign (v := (.int _ _)) rfl ?_) | (refine O_assign (v := (.bool _)) rfl ?_) | (refine O_assign (v := (.pointer _)) rfl ?_) | (refine O_assign (v := (.slice _ _ _)) rfl ?_) | (refine O_assign (v := (.agg _)) rfl ?_) | (refine O_assign (v := (.tuple _)) rfl ?_))
    | (guard_target =~ WO _ _ (Oper.mk _ (Op.move _) _ _ _ none) _ _ _ _; first | (refine O_move (v := (.int _ _)) rfl ?_) | (refine O_move (v := (.bool _)) rfl ?_) | (refine O_move (v := (.pointer _)) rfl ?_) | (refine O_move (v := (.slice _ _ _)) rfl ?_) | (refine O_move (v := (.agg _)) rfl ?_) | (refine O_move (v := (.tuple _)) rfl ?_))
    | (guard_target =~ WO _ _ (Oper.mk _ (Op.load 24 _) _ _ _ none) _ _ _ _; first | (refine O_ldn8 (by assumption) (by repeat (first | exact List.Mem.head _ | refine List.Mem.tail _ ?_)) ag24 rfl (by first | omega | (simp only [csz]; omega)) (by first | exact layRun0 rfl rfl | exact layRun rfl rfl rfl) ?_; intro _ _))
    | (guard_target =~ WO _ _ (Oper.mk _ (Op.extract _ _) _ _ _ none) _ _ _ _; first | (refine O_extract rfl rfl ?_))
    | (guard_target =~ WO _ _ (Oper.mk _ (Op.binOp BinOp.lss 21 _ _ _) _ _ _ none) _ _ _ _; first | (first | (refine O_lssS rfl rfl (fun h => absurd h (by omega)) ?_; intro _) | (refine O_lssS rfl rfl ?_ (fun h => absurd h (by omega)); intro _) | (refine O_lssS rfl rfl ?_ ?_ <;> intro _)))
    | (guard_target =~ WO _ _ (Oper.mk _ (Op.load 45 _) _ _ _ none) _ _ _ _; first | (refine O_ldn64 (by assumption) (by repeat (first | exact List.Mem.head _ | refine List.Mem.tail _ ?_)) ag45 rfl (by first | omega | (simp only [csz]; omega)) (by first | exact layRun0 rfl rfl | exact layRun rfl rfl rfl) ?_; intro _ _)))
  all_goals refine E_ret1T (by assumption) rfl rfl rfl ⟨_, rfl, ?_⟩
  all_goals omega
theorem isWarmAcct_ok {B s : Nat} {σ : VS} {w : World} (hT : WT B w) (hV : V B w s σ) (hI : VI σ) {f : Nat → Nat} (hf : ∀ i, f i < 256) : Rd B Samg.prog 37 [.pointer (some ⟨s, 0, none⟩), .agg (ns .u8 20 f)] w fun v w' => ∃ p, v = .bool p := by
  refine W_enter (l := [_, _]) Samg.func37 rfl rfl rfl ?_
  have hS := hV.start hT; have hna := hI.na; have hns := hI.ns; have hnt := hI.nt; have hnj := hI.nj; have hnm := hI.nm; have hnl := hI.nl
  repeat' (first
    | (refine L_cons ?_)
    | (refine R_cons rfl ?_)
    | (refine W_seq ?_)
    | (refine W_region (by kernel_rfl) ?_)
    | (refine L_nil ?_)
    | (refine R_nil ?_)
    | (refine W_block ?_)
    | (refine W_skip ?_)
    | (refine W_exit ?_)
    | (refine W_ret ?_)
    | (guard_target =~ thenQ _ _ _ _ _; first | (refine T_next ?_) | (refine T_exit ?_) | (refine T_ret ?_))
    | (guard_target =~ blockQ _ _ _ _ _; first | (refine B_next ?_) | (refine B_same ?_) | (refine B_other (by kernel_rfl) ?_) | (refine B_ret ?_))
    | (refine W_true rfl rfl ?_)
    | (refine W_false rfl rfl ?_)
    | (guard_target =~ WO _ _ (Oper.mk _ (Op.call (Call.mk (Callee.value (Operand.func 83)) _ _)) _ _ _ none) _ _ _ _; first | (refine O_rd (l := [.pointer (some ⟨s, 0, none⟩), .agg (ns .u8 20 _)]) (by assumption) cl83 rfl (findAcct_ok (TS.t (by assumption)) (hV.ext (TS.e (by assumption))) hI (by assumption)) ?_; rintro _ _ ⟨at_, fr, rfl, hat⟩ _ _))
    | (guard_target =~ WO _ _ (Oper.mk _ (Op.load 78 _) _ _ _ none) _ _ _ _; first | (refine O_ldV (by assumption) on78 rfl hV.acc hV.lt ?_) | (refine O_lds (t' := 148) (by assumption) (by repeat (first | exact List.Mem.head _ | refine List.Mem.tail _ ?_)) on78 rfl (by first | omega | (simp only [csz]; omega)) (by first | rfl | exact layMod rfl rfl) ?_; intro _ _ _ _ _ _))
    | (guard_target =~ WO _ _ (Oper.mk _ (Op.load 79 _) _ _ _ none) _ _ _ _; first | (refine O_ldV (by assumption) on79 rfl hV.slo hV.lt ?_))
    | (guard_target =~ WO _ _ (Oper.mk _ (Op.load 81 _) _ _ _ none) _ _ _ _; first | (refine O_ldV (by assumption) on81 rfl hV.jou hV.lt ?_))
    | (guard_target =~ WO _ _ (Oper.mk _ (Op.load 46 _) _ _ _ none) _ _ _ _; first | (refine O_ldV (by assumption) on46 rfl hV.log hV.lt ?_))
    | (guard_target =~ WO _ _ (Oper.mk _ (Op.load 83 _) _ _ _ none) _ _ _ _; first | (refine O_ldV (by assumption) on83 rfl hV.tem hV.lt ?_))
    | (guard_target =~ WO _ _ (Oper.mk _ (Op.load 84 _) _ _ _ none) _ _ _ _; first | (refine O_ldV (by assumption) on84 rfl hV.tta hV.lt ?_))
    | (guard_target =~ WO _ _ (Oper.mk _ (Op.load 21 _) _ _ _ none) _ _ _ _; first | (refine O_ldV (by assumption) on21 rfl hV.nmk hV.lt ?_))
    | (guard_target =~ WO _ _ (Oper.mk _ (Op.load 27 _) _ _ _ none) _ _ _ _; first | (refine O_ldV (by assumption) on27 rfl hV.rf hV.lt ?_))
    | (guard_target =~ WO _ _ (Oper.mk _ _ _ _ _ (some _)) _ _ _ _; first | (refine G_yes rfl ?_) | (refine G_no rfl ?_))
    | (guard_target =~ WO _ _ (Oper.mk _ (Op.box 24 _) _ _ _ none) _ _ _ _; first | (refine O_bx8 (by assumption) rfl (by assumption) rfl rfl ?_; intro _ _ _ _))
    | (guard_target =~ WO _ _ (Oper.mk _ (Op.assign _) _ _ _ none) _ _ _ _; first | (refine O_assign (v := (.int _ _)) rfl ?_) | (refine O_assign (v := (.bool _)) rfl ?_) | (refine O_assign (v := (.pointer _)) rfl ?_) | (refine O_assign (v := (.slice _ _ _)) rfl ?_) | (refine O_assign (v := (.agg _)) rfl ?_) | (refine O_assign (v := (.tuple _)) rfl ?_))
    | (guard_target =~ WO _ _ (Oper.mk _ (Op.move _) _ _ _ none) _ _ _ _; first | (refine O_move (v := (.int _ _)) rfl ?_) | (refine O_move (v := (.bool _)) rfl ?_) | (refine O_move (v := (.pointer _)) rfl ?_) | (refine O_move (v := (.slice _ _ _)) rfl ?_) | (refine O_move (v := (.agg _)) rfl ?_) | (refine O_move (v := (.tuple _)) rfl ?_))
    | (guard_target =~ WO _ _ (Oper.mk _ (Op.load 24 _) _ _ _ none) _ _ _ _; first | (refine O_ldn8 (by assumption) (by repeat (first | exact List.Mem.head _ | refine List.Mem.tail _ ?_)) ag24 rfl (by first | omega | (simp only [csz]; omega)) (by first | exact layRun0 rfl rfl | exact layRun rfl rfl rfl) ?_; intro _ _))
    | (guard_target =~ WO _ _ (Oper.mk _ (Op.extract _ _) _ _ _ none) _ _ _ _; first | (refine O_extract rfl rfl ?_))
    | (guard_target =~ WO _ _ (Oper.mk _ (Op.binOp BinOp.geq 21 _ _ _) _ _ _ none) _ _ _ _; first | (first | (refine O_geqS rfl rfl (fun h => absurd h (by omega)) ?_; intro _) | (refine O_geqS rfl rfl ?_ (fun h => absurd h (by omega)); intro _) | (refine O_geqS rfl rfl ?_ ?_ <;> intro _)))
    | (guard_target =~ WO _ _ (Oper.mk _ (Op.nilCheck _) _ _ _ none) _ _ _ _; first | (refine O_nil rfl ?_))
    | (guard_target =~ WO _ _ (Oper.mk _ (Op.fieldAddr 86 _ 0) _ _ _ none) _ _ _ _; first | (refine O_fdT fd86_0 (by decide) rfl ?_) | (refine O_field fd86_0 (by decide) rfl ?_))
    | (guard_target =~ WO _ _ (Oper.mk _ (Op.indexAddr 78 _ _) _ _ _ none) _ _ _ _; first | (refine O_ixK (by assumption) (by repeat (first | exact List.Mem.head _ | refine List.Mem.tail _ ?_)) sl78 rfl rfl (by omega) (by omega) ?_; rintro _ _ _) | (refine O_ixN (by assumption) (by repeat (first | exact List.Mem.head _ | refine List.Mem.tail _ ?_)) sl78 rfl rfl (by omega) (by omega) ?_; rintro _ _ _ _ _ _))
    | (guard_target =~ WO _ _ (Oper.mk _ (Op.fieldAddr 148 _ 4) _ _ _ none) _ _ _ _; first | (refine O_fdT fd148_4 (by decide) rfl ?_) | (refine O_field fd148_4 (by decide) rfl ?_))
    | (guard_target =~ WO _ _ (Oper.mk _ (Op.load 4 _) _ _ _ none) _ _ _ _; first | (refine O_ldb (by assumption) (by repeat (first | exact List.Mem.head _ | refine List.Mem.tail _ ?_)) on4 rfl (by first | omega | (simp only [csz]; omega)) (by first | rfl | exact layMod rfl rfl) ?_ ?_))
    | (guard_target =~ WO _ _ (Oper.mk _ (Op.pick _ _ _) _ _ _ none) _ _ _ _; first | (refine O_pick_t (v := (.bool _)) rfl rfl ?_) | (refine O_pick_f (v := (.bool _)) rfl rfl ?_)))
  all_goals exact E_ret1T (by assumption) rfl rfl rfl ⟨_, rfl⟩
theorem isMade_ok {B s : Nat} {σ : VS} {w : World} (hT : WT B w) (hV : V B w s σ) (hI : VI σ) {f : Nat → Nat} (hf : ∀ i, f i < 256) : Rd B Samg.prog 40 [.pointer (some ⟨s, 0, none⟩), .agg (ns .u8 20 f)] w fun v w' => ∃ p, v = .bool p := by
  refine W_enter (l := [_, _]) Samg.func40 rfl rfl rfl ?_
  have hS := hV.start hT; have hna := hI.na; have hns := hI.ns; have hnt := hI.nt; have hnj := hI.nj; have hnm := hI.nm; have hnl := hI.nl
  repeat' (first
    | (refine L_cons ?_)
    | (refine R_cons rfl ?_)
    | (refine W_seq ?_)
    | (refine W_region (by kernel_rfl) ?_)
    | (refine L_nil ?_)
    | (refine R_nil ?_)
    | (refine W_block ?_)
    | (refine W_skip ?_)
    | (refine W_exit ?_)
    | (refine W_ret ?_)
    | (guard_target =~ thenQ _ _ _ _ _; first | (refine T_next ?_) | (refine T_exit ?_) | (refine T_ret ?_))
    | (guard_target =~ blockQ _ _ _ _ _; first | (refine B_next ?_) | (refine B_same ?_) | (refine B_other (by kernel_rfl) ?_) | (refine B_ret ?_))
    | (refine W_true rfl rfl ?_)
    | (refine W_false rfl rfl ?_)
    | (guard_target =~ WO _ _ (Oper.mk _ (Op.call (Call.mk (Callee.value (Operand.func 83)) _ _)) _ _ _ none) _ _ _ _; first | (refine O_rd (l := [.pointer (some ⟨s, 0, none⟩), .agg (ns .u8 20 _)]) (by assumption) cl83 rfl (findAcct_ok (TS.t (by assumption)) (hV.ext (TS.e (by assumption))) hI (by assumption)) ?_; rintro _ _ ⟨at_, fr, rfl, hat⟩ _ _))
    | (guard_target =~ WO _ _ (Oper.mk _ (Op.load 78 _) _ _ _ none) _ _ _ _; first | (refine O_ldV (by assumption) on78 rfl hV.acc hV.lt ?_) | (refine O_lds (t' := 148) (by assumption) (by repeat (first | exact List.Mem.head _ | refine List.Mem.tail _ ?_)) on78 rfl (by first | omega | (simp only [csz]; omega)) (by first | rfl | exact layMod rfl rfl) ?_; intro _ _ _ _ _ _))
    | (guard_target =~ WO _ _ (Oper.mk _ (Op.load 79 _) _ _ _ none) _ _ _ _; first | (refine O_ldV (by assumption) on79 rfl hV.slo hV.lt ?_))
    | (guard_target =~ WO _ _ (Oper.mk _ (Op.load 81 _) _ _ _ none) _ _ _ _; first | (refine O_ldV (by assumption) on81 rfl hV.jou hV.lt ?_))
    | (guard_target =~ WO _ _ (Oper.mk _ (Op.load 46 _) _ _ _ none) _ _ _ _; first | (refine O_ldV (by assumption) on46 rfl hV.log hV.lt ?_))
    | (guard_target =~ WO _ _ (Oper.mk _ (Op.load 83 _) _ _ _ none) _ _ _ _; first | (refine O_ldV (by assumption) on83 rfl hV.tem hV.lt ?_))
    | (guard_target =~ WO _ _ (Oper.mk _ (Op.load 84 _) _ _ _ none) _ _ _ _; first | (refine O_ldV (by assumption) on84 rfl hV.tta hV.lt ?_))
    | (guard_target =~ WO _ _ (Oper.mk _ (Op.load 21 _) _ _ _ none) _ _ _ _; first | (refine O_ldV (by assumption) on21 rfl hV.nmk hV.lt ?_))
    | (guard_target =~ WO _ _ (Oper.mk _ (Op.load 27 _) _ _ _ none) _ _ _ _; first | (refine O_ldV (by assumption) on27 rfl hV.rf hV.lt ?_))
    | (guard_target =~ WO _ _ (Oper.mk _ _ _ _ _ (some _)) _ _ _ _; first | (refine G_yes rfl ?_) | (refine G_no rfl ?_))
    | (guard_target =~ WO _ _ (Oper.mk _ (Op.box 24 _) _ _ _ none) _ _ _ _; first | (refine O_bx8 (by assumption) rfl (by assumption) rfl rfl ?_; intro _ _ _ _))
    | (guard_target =~ WO _ _ (Oper.mk _ (Op.assign _) _ _ _ none) _ _ _ _; first | (refine O_assign (v := (.int _ _)) rfl ?_) | (refine O_assign (v := (.bool _)) rfl ?_) | (refine O_assign (v := (.pointer _)) rfl ?_) | (refine O_assign (v := (.slice _ _ _)) rfl ?_) | (refine O_assign (v := (.agg _)) rfl ?_) | (refine O_assign (v := (.tuple _)) rfl ?_))
    | (guard_target =~ WO _ _ (Oper.mk _ (Op.move _) _ _ _ none) _ _ _ _; first | (refine O_move (v := (.int _ _)) rfl ?_) | (refine O_move (v := (.bool _)) rfl ?_) | (refine O_move (v := (.pointer _)) rfl ?_) | (refine O_move (v := (.slice _ _ _)) rfl ?_) | (refine O_move (v := (.agg _)) rfl ?_) | (refine O_move (v := (.tuple _)) rfl ?_))
    | (guard_target =~ WO _ _ (Oper.mk _ (Op.load 24 _) _ _ _ none) _ _ _ _; first | (refine O_ldn8 (by assumption) (by repeat (first | exact List.Mem.head _ | refine List.Mem.tail _ ?_)) ag24 rfl (by first | omega | (simp only [csz]; omega)) (by first | exact layRun0 rfl rfl | exact layRun rfl rfl rfl) ?_; intro _ _))
    | (guard_target =~ WO _ _ (Oper.mk _ (Op.extract _ _) _ _ _ none) _ _ _ _; first | (refine O_extract rfl rfl ?_))
    | (guard_target =~ WO _ _ (Oper.mk _ (Op.binOp BinOp.geq 21 _ _ _) _ _ _ none) _ _ _ _; first | (first | (refine O_geqS rfl rfl (fun h => absurd h (by omega)) ?_; intro _) | (refine O_geqS rfl rfl ?_ (fun h => absurd h (by omega)); intro _) | (refine O_geqS rfl rfl ?_ ?_ <;> intro _)))
    | (guard_target =~ WO _ _ (Oper.mk _ (Op.nilCheck _) _ _ _ none) _ _ _ _; first | (refine O_nil rfl ?_))
    | (guard_target =~ WO _ _ (Oper.mk _ (Op.fieldAddr 86 _ 0) _ _ _ none) _ _ _ _; first | (refine O_fdT fd86_0 (by decide) rfl ?_) | (refine O_field fd86_0 (by decide) rfl ?_))
    | (guard_target =~ WO _ _ (Oper.mk _ (Op.indexAddr 78 _ _) _ _ _ none) _ _ _ _; first | (refine O_ixK (by assumption) (by repeat (first | exact List.Mem.head _ | refine List.Mem.tail _ ?_)) sl78 rfl rfl (by omega) (by omega) ?_; rintro _ _ _) | (refine O_ixN (by assumption) (by repeat (first | exact List.Mem.head _ | refine List.Mem.tail _ ?_)) sl78 rfl rfl (by omega) (by omega) ?_; rintro _ _ _ _ _ _))
    | (guard_target =~ WO _ _ (Oper.mk _ (Op.fieldAddr 148 _ 5) _ _ _ none) _ _ _ _; first | (refine O_fdT fd148_5 (by decide) rfl ?_) | (refine O_field fd148_5 (by decide) rfl ?_))
    | (guard_target =~ WO _ _ (Oper.mk _ (Op.load 4 _) _ _ _ none) _ _ _ _; first | (refine O_ldb (by assumption) (by repeat (first | exact List.Mem.head _ | refine List.Mem.tail _ ?_)) on4 rfl (by first | omega | (simp only [csz]; omega)) (by first | rfl | exact layMod rfl rfl) ?_ ?_))
    | (guard_target =~ WO _ _ (Oper.mk _ (Op.pick _ _ _) _ _ _ none) _ _ _ _; first | (refine O_pick_t (v := (.bool _)) rfl rfl ?_) | (refine O_pick_f (v := (.bool _)) rfl rfl ?_)))
  all_goals exact E_ret1T (by assumption) rfl rfl rfl ⟨_, rfl⟩
theorem isGone_ok {B s : Nat} {σ : VS} {w : World} (hT : WT B w) (hV : V B w s σ) (hI : VI σ) {f : Nat → Nat} (hf : ∀ i, f i < 256) : Rd B Samg.prog 41 [.pointer (some ⟨s, 0, none⟩), .agg (ns .u8 20 f)] w fun v w' => ∃ p, v = .bool p := by
  refine W_enter (l := [_, _]) Samg.func41 rfl rfl rfl ?_
  have hS := hV.start hT; have hna := hI.na; have hns := hI.ns; have hnt := hI.nt; have hnj := hI.nj; have hnm := hI.nm; have hnl := hI.nl
  repeat' (first
    | (refine L_cons ?_)
    | (refine R_cons rfl ?_)
    | (refine W_seq ?_)
    | (refine W_region (by kernel_rfl) ?_)
    | (refine L_nil ?_)
    | (refine R_nil ?_)
    | (refine W_block ?_)
    | (refine W_skip ?_)
    | (refine W_exit ?_)
    | (refine W_ret ?_)
    | (guard_target =~ thenQ _ _ _ _ _; first | (refine T_next ?_) | (refine T_exit ?_) | (refine T_ret ?_))
    | (guard_target =~ blockQ _ _ _ _ _; first | (refine B_next ?_) | (refine B_same ?_) | (refine B_other (by kernel_rfl) ?_) | (refine B_ret ?_))
    | (refine W_true rfl rfl ?_)
    | (refine W_false rfl rfl ?_)
    | (guard_target =~ WO _ _ (Oper.mk _ (Op.call (Call.mk (Callee.value (Operand.func 83)) _ _)) _ _ _ none) _ _ _ _; first | (refine O_rd (l := [.pointer (some ⟨s, 0, none⟩), .agg (ns .u8 20 _)]) (by assumption) cl83 rfl (findAcct_ok (TS.t (by assumption)) (hV.ext (TS.e (by assumption))) hI (by assumption)) ?_; rintro _ _ ⟨at_, fr, rfl, hat⟩ _ _))
    | (guard_target =~ WO _ _ (Oper.mk _ (Op.load 78 _) _ _ _ none) _ _ _ _; first | (refine O_ldV (by assumption) on78 rfl hV.acc hV.lt ?_) | (refine O_lds (t' := 148) (by assumption) (by repeat (first | exact List.Mem.head _ | refine List.Mem.tail _ ?_)) on78 rfl (by first | omega | (simp only [csz]; omega)) (by first | rfl | exact layMod rfl rfl) ?_; intro _ _ _ _ _ _))
    | (guard_target =~ WO _ _ (Oper.mk _ (Op.load 79 _) _ _ _ none) _ _ _ _; first | (refine O_ldV (by assumption) on79 rfl hV.slo hV.lt ?_))
    | (guard_target =~ WO _ _ (Oper.mk _ (Op.load 81 _) _ _ _ none) _ _ _ _; first | (refine O_ldV (by assumption) on81 rfl hV.jou hV.lt ?_))
    | (guard_target =~ WO _ _ (Oper.mk _ (Op.load 46 _) _ _ _ none) _ _ _ _; first | (refine O_ldV (by assumption) on46 rfl hV.log hV.lt ?_))
    | (guard_target =~ WO _ _ (Oper.mk _ (Op.load 83 _) _ _ _ none) _ _ _ _; first | (refine O_ldV (by assumption) on83 rfl hV.tem hV.lt ?_))
    | (guard_target =~ WO _ _ (Oper.mk _ (Op.load 84 _) _ _ _ none) _ _ _ _; first | (refine O_ldV (by assumption) on84 rfl hV.tta hV.lt ?_))
    | (guard_target =~ WO _ _ (Oper.mk _ (Op.load 21 _) _ _ _ none) _ _ _ _; first | (refine O_ldV (by assumption) on21 rfl hV.nmk hV.lt ?_))
    | (guard_target =~ WO _ _ (Oper.mk _ (Op.load 27 _) _ _ _ none) _ _ _ _; first | (refine O_ldV (by assumption) on27 rfl hV.rf hV.lt ?_))
    | (guard_target =~ WO _ _ (Oper.mk _ _ _ _ _ (some _)) _ _ _ _; first | (refine G_yes rfl ?_) | (refine G_no rfl ?_))
    | (guard_target =~ WO _ _ (Oper.mk _ (Op.box 24 _) _ _ _ none) _ _ _ _; first | (refine O_bx8 (by assumption) rfl (by assumption) rfl rfl ?_; intro _ _ _ _))
    | (guard_target =~ WO _ _ (Oper.mk _ (Op.assign _) _ _ _ none) _ _ _ _; first | (refine O_assign (v := (.int _ _)) rfl ?_) | (refine O_assign (v := (.bool _)) rfl ?_) | (refine O_assign (v := (.pointer _)) rfl ?_) | (refine O_assign (v := (.slice _ _ _)) rfl ?_) | (refine O_assign (v := (.agg _)) rfl ?_) | (refine O_assign (v := (.tuple _)) rfl ?_))
    | (guard_target =~ WO _ _ (Oper.mk _ (Op.move _) _ _ _ none) _ _ _ _; first | (refine O_move (v := (.int _ _)) rfl ?_) | (refine O_move (v := (.bool _)) rfl ?_) | (refine O_move (v := (.pointer _)) rfl ?_) | (refine O_move (v := (.slice _ _ _)) rfl ?_) | (refine O_move (v := (.agg _)) rfl ?_) | (refine O_move (v := (.tuple _)) rfl ?_))
    | (guard_target =~ WO _ _ (Oper.mk _ (Op.load 24 _) _ _ _ none) _ _ _ _; first | (refine O_ldn8 (by assumption) (by repeat (first | exact List.Mem.head _ | refine List.Mem.tail _ ?_)) ag24 rfl (by first | omega | (simp only [csz]; omega)) (by first | exact layRun0 rfl rfl | exact layRun rfl rfl rfl) ?_; intro _ _))
    | (guard_target =~ WO _ _ (Oper.mk _ (Op.extract _ _) _ _ _ none) _ _ _ _; first | (refine O_extract rfl rfl ?_))
    | (guard_target =~ WO _ _ (Oper.mk _ (Op.binOp BinOp.geq 21 _ _ _) _ _ _ none) _ _ _ _; first | (first | (refine O_geqS rfl rfl (fun h => absurd h (by omega)) ?_; intro _) | (refine O_geqS rfl rfl ?_ (fun h => absurd h (by omega)); intro _) | (refine O_geqS rfl rfl ?_ ?_ <;> intro _)))
    | (guard_target =~ WO _ _ (Oper.mk _ (Op.nilCheck _) _ _ _ none) _ _ _ _; first | (refine O_nil rfl ?_))
    | (guard_target =~ WO _ _ (Oper.mk _ (Op.fieldAddr 86 _ 0) _ _ _ none) _ _ _ _; first | (refine O_fdT fd86_0 (by decide) rfl ?_) | (refine O_field fd86_0 (by decide) rfl ?_))
    | (guard_target =~ WO _ _ (Oper.mk _ (Op.indexAddr 78 _ _) _ _ _ none) _ _ _ _; first | (refine O_ixK (by assumption) (by repeat (first | exact List.Mem.head _ | refine List.Mem.tail _ ?_)) sl78 rfl rfl (by omega) (by omega) ?_; rintro _ _ _) | (refine O_ixN (by assumption) (by repeat (first | exact List.Mem.head _ | refine List.Mem.tail _ ?_)) sl78 rfl rfl (by omega) (by omega) ?_; rintro _ _ _ _ _ _))
    | (guard_target =~ WO _ _ (Oper.mk _ (Op.fieldAddr 148 _ 6) _ _ _ none) _ _ _ _; first | (refine O_fdT fd148_6 (by decide) rfl ?_) | (refine O_field fd148_6 (by decide) rfl ?_))
    | (guard_target =~ WO _ _ (Oper.mk _ (Op.load 4 _) _ _ _ none) _ _ _ _; first | (refine O_ldb (by assumption) (by repeat (first | exact List.Mem.head _ | refine List.Mem.tail _ ?_)) on4 rfl (by first | omega | (simp only [csz]; omega)) (by first | rfl | exact layMod rfl rfl) ?_ ?_))
    | (guard_target =~ WO _ _ (Oper.mk _ (Op.pick _ _ _) _ _ _ none) _ _ _ _; first | (refine O_pick_t (v := (.bool _)) rfl rfl ?_) | (refine O_pick_f (v := (.bool _)) rfl rfl ?_)))
  all_goals exact E_ret1T (by assumption) rfl rfl rfl ⟨_, rfl⟩
theorem isWarmSlot_ok {B s : Nat} {σ : VS} {w : World} (hT : WT B w) (hV : V B w s σ) (hI : VI σ) {f g : Nat → Nat} (hf : ∀ i, f i < 256) (hg : ∀ i, g i < 18446744073709551616) : Rd B Samg.prog 38 [.pointer (some ⟨s, 0, none⟩), .agg (ns .u8 20 f), .agg (ns .u64 4 g)] w fun v w' => ∃ p, v = .bool p := by
  refine W_enter (l := [_, _, _]) Samg.func38 rfl rfl rfl ?_
  have hS := hV.start hT; have hna := hI.na; have hns := hI.ns; have hnt := hI.nt; have hnj := hI.nj; have hnm := hI.nm; have hnl := hI.nl
  repeat' (first
    | (refine L_cons ?_)
    | (refine R_cons rfl ?_)
    | (refine W_seq ?_)
    | (refine W_region (by kernel_rfl) ?_)
    | (refine L_nil ?_)
    | (refine R_nil ?_)
    | (refine W_block ?_)
    | (refine W_skip ?_)
    | (refine W_exit ?_)
    | (refine W_ret ?_)
    | (guard_target =~ thenQ _ _ _ _ _; first | (refine T_next ?_) | (refine T_exit ?_) | (refine T_ret ?_))
    | (guard_target =~ blockQ _ _ _ _ _; first | (refine B_next ?_) | (refine B_same ?_) | (refine B_other (by kernel_rfl) ?_) | (refine B_ret ?_))
    | (refine W_true rfl rfl ?_)
    | (refine W_false rfl rfl ?_)
    | (guard_target =~ WO _ _ (Oper.mk _ (Op.call (Call.mk (Callee.value (Operand.func 85)) _ _)) _ _ _ none) _ _ _ _; first | (refine O_rd (l := [.pointer (some ⟨s, 0, none⟩), .agg (ns .u8 20 _), .agg (ns .u64 4 _)]) (by assumption) cl85 rfl (peekSlot_ok (TS.t (by assumption)) (hV.ext (TS.e (by assumption))) hI (by assumption) (by assumption)) ?_; rintro _ _ ⟨at_, rfl, hat⟩ _ _))
    | (guard_target =~ WO _ _ (Oper.mk _ (Op.load 78 _) _ _ _ none) _ _ _ _; first | (refine O_ldV (by assumption) on78 rfl hV.acc hV.lt ?_))
    | (guard_target =~ WO _ _ (Oper.mk _ (Op.load 79 _) _ _ _ none) _ _ _ _; first | (refine O_ldV (by assumption) on79 rfl hV.slo hV.lt ?_) | (refine O_lds (t' := 153) (by assumption) (by repeat (first | exact List.Mem.head _ | refine List.Mem.tail _ ?_)) on79 rfl (by first | omega | (simp only [csz]; omega)) (by first | rfl | exact layMod rfl rfl) ?_; intro _ _ _ _ _ _))
    | (guard_target =~ WO _ _ (Oper.mk _ (Op.load 81 _) _ _ _ none) _ _ _ _; first | (refine O_ldV (by assumption) on81 rfl hV.jou hV.lt ?_))
    | (guard_target =~ WO _ _ (Oper.mk _ (Op.load 46 _) _ _ _ none) _ _ _ _; first | (refine O_ldV (by assumption) on46 rfl hV.log hV.lt ?_))
    | (guard_target =~ WO _ _ (Oper.mk _ (Op.load 83 _) _ _ _ none) _ _ _ _; first | (refine O_ldV (by assumption) on83 rfl hV.tem hV.lt ?_))
    | (guard_target =~ WO _ _ (Oper.mk _ (Op.load 84 _) _ _ _ none) _ _ _ _; first | (refine O_ldV (by assumption) on84 rfl hV.tta hV.lt ?_))
    | (guard_target =~ WO _ _ (Oper.mk _ (Op.load 21 _) _ _ _ none) _ _ _ _; first | (refine O_ldV (by assumption) on21 rfl hV.nmk hV.lt ?_))
    | (guard_target =~ WO _ _ (Oper.mk _ (Op.load 27 _) _ _ _ none) _ _ _ _; first | (refine O_ldV (by assumption) on27 rfl hV.rf hV.lt ?_))
    | (guard_target =~ WO _ _ (Oper.mk _ _ _ _ _ (some _)) _ _ _ _; first | (refine G_yes rfl ?_) | (refine G_no rfl ?_))
    | (guard_target =~ WO _ _ (Oper.mk _ (Op.box 24 _) _ _ _ none) _ _ _ _; first | (refine O_bx8 (by assumption) rfl (by assumption) rfl rfl ?_; intro _ _ _ _))
    | (guard_target =~ WO _ _ (Oper.mk _ (Op.box 45 _) _ _ _ none) _ _ _ _; first | (refine O_bx64 (by assumption) rfl (by assumption) rfl rfl ?_; intro _ _ _ _))
    | (guard_target =~ WO _ _ (Oper.mk _ (Op.assign _) _ _ _ none) _ _ _ _; first | (refine O_assign (v := (.int _ _)) rfl ?_) | (refine O_assign (v := (.bool _)) rfl ?_) | (refine O_assign (v := (.pointer _)) rfl ?_) | (refine O_assign (v := (.slice _ _ _)) rfl ?_) | (refine O_assign (v := (.agg _)) rfl ?_) | (refine O_assign (v := (.tuple _)) rfl ?_))
    | (guard_target =~ WO _ _ (Oper.mk _ (Op.move _) _ _ _ none) _ _ _ _; first | (refine O_move (v := (.int _ _)) rfl ?_) | (refine O_move (v := (.bool _)) rfl ?_) | (refine O_move (v := (.pointer _)) rfl ?_) | (refine O_move (v := (.slice _ _ _)) rfl ?_) | (refine O_move (v := (.agg _)) rfl ?_) | (refine O_move (v := (.tuple _)) rfl ?_))
    | (guard_target =~ WO _ _ (Oper.mk _ (Op.load 24 _) _ _ _ none) _ _ _ _; first | (refine O_ldn8 (by assumption) (by repeat (first | exact List.Mem.head _ | refine List.Mem.tail _ ?_)) ag24 rfl (by first | omega | (simp only [csz]; omega)) (by first | exact layRun0 rfl rfl | exact layRun rfl rfl rfl) ?_; intro _ _))
    | (guard_target =~ WO _ _ (Oper.mk _ (Op.load 45 _) _ _ _ none) _ _ _ _; first | (refine O_ldn64 (by assumption) (by repeat (first | exact List.Mem.head _ | refine List.Mem.tail _ ?_)) ag45 rfl (by first | omega | (simp only [csz]; omega)) (by first | exact layRun0 rfl rfl | exact layRun rfl rfl rfl) ?_; intro _ _))
    | (guard_target =~ WO _ _ (Oper.mk _ (Op.binOp BinOp.geq 21 _ _ _) _ _ _ none) _ _ _ _; first | (first | (refine O_geqS rfl rfl (fun h => absurd h (by omega)) ?_; intro _) | (refine O_geqS rfl rfl ?_ (fun h => absurd h (by omega)); intro _) | (refine O_geqS rfl rfl ?_ ?_ <;> intro _)))
    | (guard_target =~ WO _ _ (Oper.mk _ (Op.nilCheck _) _ _ _ none) _ _ _ _; first | (refine O_nil rfl ?_))
    | (guard_target =~ WO _ _ (Oper.mk _ (Op.fieldAddr 86 _ 1) _ _ _ none) _ _ _ _; first | (refine O_fdT fd86_1 (by decide) rfl ?_) | (refine O_field fd86_1 (by decide) rfl ?_))
    | (guard_target =~ WO _ _ (Oper.mk _ (Op.indexAddr 79 _ _) _ _ _ none) _ _ _ _; first | (refine O_ixK (by assumption) (by repeat (first | exact List.Mem.head _ | refine List.Mem.tail _ ?_)) sl79 rfl rfl (by omega) (by omega) ?_; rintro _ _ _) | (refine O_ixN (by assumption) (by repeat (first | exact List.Mem.head _ | refine List.Mem.tail _ ?_)) sl79 rfl rfl (by omega) (by omega) ?_; rintro _ _ _ _ _ _))
    | (guard_target =~ WO _ _ (Oper.mk _ (Op.fieldAddr 153 _ 4) _ _ _ none) _ _ _ _; first | (refine O_fdT fd153_4 (by decide) rfl ?_) | (refine O_field fd153_4 (by decide) rfl ?_))
    | (guard_target =~ WO _ _ (Oper.mk _ (Op.load 4 _) _ _ _ none) _ _ _ _; first | (refine O_ldb (by assumption) (by repeat (first | exact List.Mem.head _ | refine List.Mem.tail _ ?_)) on4 rfl (by first | omega | (simp only [csz]; omega)) (by first | rfl | exact layMod rfl rfl) ?_ ?_))
    | (guard_target =~ WO _ _ (Oper.mk _ (Op.pick _ _ _) _ _ _ none) _ _ _ _; first | (refine O_pick_t (v := (.bool _)) rfl rfl ?_) | (refine O_pick_f (v := (.bool _)) rfl rfl ?_)))
  all_goals exact E_ret1T (by assumption) rfl rfl rfl ⟨_, rfl⟩
theorem tload_ok {B s : Nat} {σ : VS} {w : World} (hT : WT B w) (hV : V B w s σ) (hI : VI σ) {f g : Nat → Nat} (hf : ∀ i, f i < 256) (hg : ∀ i, g i < 18446744073709551616) : Rd B Samg.prog 39 [.pointer (some ⟨s, 0, none⟩), .agg (ns .u8 20 f), .agg (ns .u64 4 g)] w fun v w' => ∃ g : Nat → Nat, (∀ i, g i < 18446744073709551616) ∧ v = .agg (ns .u64 4 g) := by
  refine W_enter (l := [_, _, _]) Samg.func39 rfl rfl rfl ?_
  have hS := hV.start hT; have hna := hI.na; have hns := hI.ns; have hnt := hI.nt; have hnj := hI.nj; have hnm := hI.nm; have hnl := hI.nl
  repeat' (first
    | (refine L_cons ?_)
    | (refine R_cons rfl ?_)
    | (refine W_seq ?_)
    | (refine W_region (by kernel_rfl) ?_)
    | (refine L_nil ?_)
    | (refine R_nil ?_)
    | (refine W_block ?_)
    | (refine W_skip ?_)
    | (refine W_exit ?_)
    | (refine W_ret ?_)
    | (guard_target =~ thenQ _ _ _ _ _; first | (refine T_next ?_) | (refine T_exit ?_) | (refine T_ret ?_))
    | (guard_target =~ blockQ _ _ _ _ _; first | (refine B_next ?_) | (refine B_same ?_) | (refine B_other (by kernel_rfl) ?_) | (refine B_ret ?_))
    | (refine W_true rfl rfl ?_)
    | (refine W_false rfl rfl ?_)
    | (guard_target =~ WO _ _ (Oper.mk _ (Op.call (Call.mk (Callee.value (Operand.func 83)) _ _)) _ _ _ none) _ _ _ _; first | (refine O_rd (l := [.pointer (some ⟨s, 0, none⟩), .agg (ns .u8 20 _)]) (by assumption) cl83 rfl (findAcct_ok (TS.t (by assumption)) (hV.ext (TS.e (by assumption))) hI (by assumption)) ?_; rintro _ _ ⟨at_, fr, rfl, hat⟩ _ _))
    | (guard_target =~ WO _ _ (Oper.mk _ (Op.call (Call.mk (Callee.value (Operand.func 86)) _ _)) _ _ _ none) _ _ _ _; first | (refine O_rd (l := [.pointer (some ⟨s, 0, none⟩), .int .i32 _, .agg (ns .u64 4 _)]) (by assumption) cl86 rfl (findTemp_ok (TS.t (by assumption)) (hV.ext (TS.e (by assumption))) hI (by assumption)) ?_; rintro _ _ ⟨at2, fr2, rfl, hat2, hfr2⟩ _ _))
    | (guard_target =~ WO _ _ (Oper.mk _ (Op.load 78 _) _ _ _ none) _ _ _ _; first | (refine O_ldV (by assumption) on78 rfl hV.acc hV.lt ?_))
    | (guard_target =~ WO _ _ (Oper.mk _ (Op.load 79 _) _ _ _ none) _ _ _ _; first | (refine O_ldV (by assumption) on79 rfl hV.slo hV.lt ?_))
    | (guard_target =~ WO _ _ (Oper.mk _ (Op.load 81 _) _ _ _ none) _ _ _ _; first | (refine O_ldV (by assumption) on81 rfl hV.jou hV.lt ?_))
    | (guard_target =~ WO _ _ (Oper.mk _ (Op.load 46 _) _ _ _ none) _ _ _ _; first | (refine O_ldV (by assumption) on46 rfl hV.log hV.lt ?_))
    | (guard_target =~ WO _ _ (Oper.mk _ (Op.load 83 _) _ _ _ none) _ _ _ _; first | (refine O_ldV (by assumption) on83 rfl hV.tem hV.lt ?_) | (refine O_lds (t' := 172) (by assumption) (by repeat (first | exact List.Mem.head _ | refine List.Mem.tail _ ?_)) on83 rfl (by first | omega | (simp only [csz]; omega)) (by first | rfl | exact layMod rfl rfl) ?_; intro _ _ _ _ _ _))
    | (guard_target =~ WO _ _ (Oper.mk _ (Op.load 84 _) _ _ _ none) _ _ _ _; first | (refine O_ldV (by assumption) on84 rfl hV.tta hV.lt ?_))
    | (guard_target =~ WO _ _ (Oper.mk _ (Op.load 21 _) _ _ _ none) _ _ _ _; first | (refine O_ldV (by assumption) on21 rfl hV.nmk hV.lt ?_))
    | (guard_target =~ WO _ _ (Oper.mk _ (Op.load 27 _) _ _ _ none) _ _ _ _; first | (refine O_ldV (by assumption) on27 rfl hV.rf hV.lt ?_))
    | (guard_target =~ WO _ _ (Oper.mk _ (Op.box 24 _) _ _ _ none) _ _ _ _; first | (refine O_bx8 (by assumption) rfl (by assumption) rfl rfl ?_; intro _ _ _ _))
    | (guard_target =~ WO _ _ (Oper.mk _ (Op.box 45 _) _ _ _ none) _ _ _ _; first | (refine O_bx64 (by assumption) rfl (by assumption) rfl rfl ?_; intro _ _ _ _))
    | (guard_target =~ WO _ _ (Oper.mk _ (Op.alloc 45) _ _ _ none) _ _ _ _; first | (refine O_al (by assumption) zc45 (by decide) ?_; intro _ _ _ _))
    | (guard_target =~ WO _ _ (Oper.mk _ (Op.move _) _ _ _ none) _ _ _ _; first | (refine O_move (v := (.int _ _)) rfl ?_) | (refine O_move (v := (.bool _)) rfl ?_) | (refine O_move (v := (.pointer _)) rfl ?_) | (refine O_move (v := (.slice _ _ _)) rfl ?_) | (refine O_move (v := (.agg _)) rfl ?_) | (refine O_move (v := (.tuple _)) rfl ?_))
    | (guard_target =~ WO _ _ (Oper.mk _ (Op.load 24 _) _ _ _ none) _ _ _ _; first | (refine O_ldn8 (by assumption) (by repeat (first | exact List.Mem.head _ | refine List.Mem.tail _ ?_)) ag24 rfl (by first | omega | (simp only [csz]; omega)) (by first | exact layRun0 rfl rfl | exact layRun rfl rfl rfl) ?_; intro _ _))
    | (guard_target =~ WO _ _ (Oper.mk _ (Op.extract _ _) _ _ _ none) _ _ _ _; first | (refine O_extract rfl rfl ?_))
    | (guard_target =~ WO _ _ (Oper.mk _ (Op.assign _) _ _ _ none) _ _ _ _; first | (refine O_assign (v := (.int _ _)) rfl ?_) | (refine O_assign (v := (.bool _)) rfl ?_) | (refine O_assign (v := (.pointer _)) rfl ?_) | (refine O_assign (v := (.slice _ _ _)) rfl ?_) | (refine O_assign (v := (.agg _)) rfl ?_) | (refine O_assign (v := (.tuple _)) rfl ?_))
    | (guard_target =~ WO _ _ (Oper.mk _ (Op.binOp BinOp.lss 21 _ _ _) _ _ _ none) _ _ _ _; first | (first | (refine O_lssS rfl rfl (fun h => absurd h (by omega)) ?_; intro _) | (refine O_lssS rfl rfl ?_ (fun h => absurd h (by omega)); intro _) | (refine O_lssS rfl rfl ?_ ?_ <;> intro _)))
    | (guard_target =~ WO _ _ (Oper.mk _ (Op.build 45 #[]) _ _ _ none) _ _ _ _; first | (refine O_bdn64 (l := []) (by assumption) ar45 zc45 rfl rfl rfl rfl trivial ?_; intro _ _))
    | (guard_target =~ WO _ _ (Oper.mk _ (Op.store 45 _ _) _ _ _ none) _ _ _ _; first | (refine O_stn64 (by assumption) (by repeat (first | exact List.Mem.head _ | refine List.Mem.tail _ ?_)) (by omega) ag45 rfl rfl (by assumption) (by first | omega | (simp only [csz]; omega)) (by first | exact layRun0 rfl rfl | exact layRun rfl rfl rfl) rfl ?_; intro _ _))
    | (guard_target =~ WO _ _ (Oper.mk _ (Op.load 45 _) _ _ _ none) _ _ _ _; first | (refine O_ldn64 (by assumption) (by repeat (first | exact List.Mem.head _ | refine List.Mem.tail _ ?_)) ag45 rfl (by first | omega | (simp only [csz]; omega)) (by first | exact layRun0 rfl rfl | exact layRun rfl rfl rfl) ?_; intro _ _))
    | (guard_target =~ WO _ _ (Oper.mk _ (Op.binOp BinOp.geq 21 _ _ _) _ _ _ none) _ _ _ _; first | (first | (refine O_geqS rfl rfl (fun h => absurd h (by omega)) ?_; intro _) | (refine O_geqS rfl rfl ?_ (fun h => absurd h (by omega)); intro _) | (refine O_geqS rfl rfl ?_ ?_ <;> intro _)))
    | (guard_target =~ WO _ _ (Oper.mk _ (Op.nilCheck _) _ _ _ none) _ _ _ _; first | (refine O_nil rfl ?_))
    | (guard_target =~ WO _ _ (Oper.mk _ (Op.fieldAddr 86 _ 9) _ _ _ none) _ _ _ _; first | (refine O_fdT fd86_9 (by decide) rfl ?_) | (refine O_field fd86_9 (by decide) rfl ?_))
    | (guard_target =~ WO _ _ (Oper.mk _ (Op.indexAddr 83 _ _) _ _ _ none) _ _ _ _; first | (refine O_ixK (by assumption) (by repeat (first | exact List.Mem.head _ | refine List.Mem.tail _ ?_)) sl83 rfl rfl (by omega) (by omega) ?_; rintro _ _ _) | (refine O_ixN (by assumption) (by repeat (first | exact List.Mem.head _ | refine List.Mem.tail _ ?_)) sl83 rfl rfl (by omega) (by omega) ?_; rintro _ _ _ _ _ _))
    | (guard_target =~ WO _ _ (Oper.mk _ (Op.fieldAddr 172 _ 2) _ _ _ none) _ _ _ _; first | (refine O_fdT fd172_2 (by decide) rfl ?_) | (refine O_field fd172_2 (by decide) rfl ?_)))
  all_goals
    refine E_cell1T (by assumption) rfl rfl ag45 rfl (by repeat (first | exact List.Mem.head _ | refine List.Mem.tail _ ?_)) ?_
    intro cs hc
    obtain ⟨g, rfl, hg⟩ := hc.ns64 rfl rfl
    exact ⟨g, hg, rfl⟩
theorem refund_ok {B s : Nat} {σ : VS} {w : World} (hT : WT B w) (hV : V B w s σ) (hI : VI σ) : Rd B Samg.prog 43 [.pointer (some ⟨s, 0, none⟩)] w fun v w' => v = .int .u64 ((σ.ref : Nat) : Int) := by
  refine W_enter (l := [_]) Samg.func43 rfl rfl rfl ?_
  have hS := hV.start hT; have hna := hI.na; have hns := hI.ns; have hnt := hI.nt; have hnj := hI.nj; have hnm := hI.nm; have hnl := hI.nl
  repeat' (first
    | (refine L_cons ?_)
    | (refine R_cons rfl ?_)
    | (refine W_seq ?_)
    | (refine W_region (by kernel_rfl) ?_)
    | (refine L_nil ?_)
    | (refine R_nil ?_)
    | (refine W_block ?_)
    | (refine W_skip ?_)
    | (refine W_exit ?_)
    | (refine W_ret ?_)
    | (guard_target =~ thenQ _ _ _ _ _; first | (refine T_next ?_) | (refine T_exit ?_) | (refine T_ret ?_))
    | (guard_target =~ blockQ _ _ _ _ _; first | (refine B_next ?_) | (refine B_same ?_) | (refine B_other (by kernel_rfl) ?_) | (refine B_ret ?_))
    | (refine W_true rfl rfl ?_)
    | (refine W_false rfl rfl ?_)
    | (guard_target =~ WO _ _ (Oper.mk _ (Op.load 78 _) _ _ _ none) _ _ _ _; first | (refine O_ldV (by assumption) on78 rfl hV.acc hV.lt ?_))
    | (guard_target =~ WO _ _ (Oper.mk _ (Op.load 79 _) _ _ _ none) _ _ _ _; first | (refine O_ldV (by assumption) on79 rfl hV.slo hV.lt ?_))
    | (guard_target =~ WO _ _ (Oper.mk _ (Op.load 81 _) _ _ _ none) _ _ _ _; first | (refine O_ldV (by assumption) on81 rfl hV.jou hV.lt ?_))
    | (guard_target =~ WO _ _ (Oper.mk _ (Op.load 46 _) _ _ _ none) _ _ _ _; first | (refine O_ldV (by assumption) on46 rfl hV.log hV.lt ?_))
    | (guard_target =~ WO _ _ (Oper.mk _ (Op.load 83 _) _ _ _ none) _ _ _ _; first | (refine O_ldV (by assumption) on83 rfl hV.tem hV.lt ?_))
    | (guard_target =~ WO _ _ (Oper.mk _ (Op.load 84 _) _ _ _ none) _ _ _ _; first | (refine O_ldV (by assumption) on84 rfl hV.tta hV.lt ?_))
    | (guard_target =~ WO _ _ (Oper.mk _ (Op.load 21 _) _ _ _ none) _ _ _ _; first | (refine O_ldV (by assumption) on21 rfl hV.nmk hV.lt ?_))
    | (guard_target =~ WO _ _ (Oper.mk _ (Op.load 27 _) _ _ _ none) _ _ _ _; first | (refine O_ldV (by assumption) on27 rfl hV.rf hV.lt ?_) | (refine O_ld64 (by assumption) (by repeat (first | exact List.Mem.head _ | refine List.Mem.tail _ ?_)) on27 rfl (by first | omega | (simp only [csz]; omega)) (by first | rfl | exact layMod rfl rfl) ?_; intro _ _))
    | (guard_target =~ WO _ _ (Oper.mk _ (Op.assign _) _ _ _ none) _ _ _ _; first | (refine O_assign (v := (.int _ _)) rfl ?_) | (refine O_assign (v := (.bool _)) rfl ?_) | (refine O_assign (v := (.pointer _)) rfl ?_) | (refine O_assign (v := (.slice _ _ _)) rfl ?_) | (refine O_assign (v := (.agg _)) rfl ?_) | (refine O_assign (v := (.tuple _)) rfl ?_))
    | (guard_target =~ WO _ _ (Oper.mk _ (Op.move _) _ _ _ none) _ _ _ _; first | (refine O_move (v := (.int _ _)) rfl ?_) | (refine O_move (v := (.bool _)) rfl ?_) | (refine O_move (v := (.pointer _)) rfl ?_) | (refine O_move (v := (.slice _ _ _)) rfl ?_) | (refine O_move (v := (.agg _)) rfl ?_) | (refine O_move (v := (.tuple _)) rfl ?_))
    | (guard_target =~ WO _ _ (Oper.mk _ (Op.nilCheck _) _ _ _ none) _ _ _ _; first | (refine O_nil rfl ?_))
    | (guard_target =~ WO _ _ (Oper.mk _ (Op.fieldAddr 86 _ 7) _ _ _ none) _ _ _ _; first | (refine O_fdT fd86_7 (by decide) rfl ?_) | (refine O_field fd86_7 (by decide) rfl ?_)))
  all_goals exact E_ret1T (by assumption) rfl rfl rfl rfl
theorem live_ok {B s : Nat} {σ : VS} {w : World} (hT : WT B w) (hV : V B w s σ) (hI : VI σ) {z : Int} : Rd B Samg.prog 88 [.pointer (some ⟨s, 0, none⟩), .int .i32 z] w fun v w' => v = .bool (decide (0 ≤ z ∧ z < σ.nm)) := by
  refine W_enter (l := [_, _]) Samg.func88 rfl rfl rfl ?_
  have hS := hV.start hT; have hna := hI.na; have hns := hI.ns; have hnt := hI.nt; have hnj := hI.nj; have hnm := hI.nm; have hnl := hI.nl
  repeat' (first
    | (refine L_cons ?_)
    | (refine R_cons rfl ?_)
    | (refine W_seq ?_)
    | (refine W_region (by kernel_rfl) ?_)
    | (refine L_nil ?_)
    | (refine R_nil ?_)
    | (refine W_block ?_)
    | (refine W_skip ?_)
    | (refine W_exit ?_)
    | (refine W_ret ?_)
    | (guard_target =~ thenQ _ _ _ _ _; first | (refine T_next ?_) | (refine T_exit ?_) | (refine T_ret ?_))
    | (guard_target =~ blockQ _ _ _ _ _; first | (refine B_next ?_) | (refine B_same ?_) | (refine B_other (by kernel_rfl) ?_) | (refine B_ret ?_))
    | (refine W_true rfl rfl ?_)
    | (refine W_false rfl rfl ?_)
    | (guard_target =~ WO _ _ (Oper.mk _ (Op.load 78 _) _ _ _ none) _ _ _ _; first | (refine O_ldV (by assumption) on78 rfl hV.acc hV.lt ?_))
    | (guard_target =~ WO _ _ (Oper.mk _ (Op.load 79 _) _ _ _ none) _ _ _ _; first | (refine O_ldV (by assumption) on79 rfl hV.slo hV.lt ?_))
    | (guard_target =~ WO _ _ (Oper.mk _ (Op.load 81 _) _ _ _ none) _ _ _ _; first | (refine O_ldV (by assumption) on81 rfl hV.jou hV.lt ?_))
    | (guard_target =~ WO _ _ (Oper.mk _ (Op.load 46 _) _ _ _ none) _ _ _ _; first | (refine O_ldV (by assumption) on46 rfl hV.log hV.lt ?_))
    | (guard_target =~ WO _ _ (Oper.mk _ (Op.load 83 _) _ _ _ none) _ _ _ _; first | (refine O_ldV (by assumption) on83 rfl hV.tem hV.lt ?_))
    | (guard_target =~ WO _ _ (Oper.mk _ (Op.load 84 _) _ _ _ none) _ _ _ _; first | (refine O_ldV (by assumption) on84 rfl hV.tta hV.lt ?_))
    | (guard_target =~ WO _ _ (Oper.mk _ (Op.load 21 _) _ _ _ none) _ _ _ _; first | (refine O_ldV (by assumption) on21 rfl hV.nmk hV.lt ?_) | (refine O_ld32 (by assumption) (by repeat (first | exact List.Mem.head _ | refine List.Mem.tail _ ?_)) on21 rfl (by first | omega | (simp only [csz]; omega)) (by first | rfl | exact layMod rfl rfl) ?_; intro _ _ _))
    | (guard_target =~ WO _ _ (Oper.mk _ (Op.load 27 _) _ _ _ none) _ _ _ _; first | (refine O_ldV (by assumption) on27 rfl hV.rf hV.lt ?_))
    | (guard_target =~ WO _ _ (Oper.mk _ _ _ _ _ (some _)) _ _ _ _; first | (refine G_yes rfl ?_) | (refine G_no rfl ?_))
    | (guard_target =~ WO _ _ (Oper.mk _ (Op.assign _) _ _ _ none) _ _ _ _; first | (refine O_assign (v := (.int _ _)) rfl ?_) | (refine O_assign (v := (.bool _)) rfl ?_) | (refine O_assign (v := (.pointer _)) rfl ?_) | (refine O_assign (v := (.slice _ _ _)) rfl ?_) | (refine O_assign (v := (.agg _)) rfl ?_) | (refine O_assign (v := (.tuple _)) rfl ?_))
    | (guard_target =~ WO _ _ (Oper.mk _ (Op.move _) _ _ _ none) _ _ _ _; first | (refine O_move (v := (.int _ _)) rfl ?_) | (refine O_move (v := (.bool _)) rfl ?_) | (refine O_move (v := (.pointer _)) rfl ?_) | (refine O_move (v := (.slice _ _ _)) rfl ?_) | (refine O_move (v := (.agg _)) rfl ?_) | (refine O_move (v := (.tuple _)) rfl ?_))
    | (guard_target =~ WO _ _ (Oper.mk _ (Op.binOp BinOp.geq 21 _ _ _) _ _ _ none) _ _ _ _; first | (first | (refine O_geqS rfl rfl (fun h => absurd h (by omega)) ?_; intro _) | (refine O_geqS rfl rfl ?_ (fun h => absurd h (by omega)); intro _) | (refine O_geqS rfl rfl ?_ ?_ <;> intro _)))
    | (guard_target =~ WO _ _ (Oper.mk _ (Op.nilCheck _) _ _ _ none) _ _ _ _; first | (refine O_nil rfl ?_))
    | (guard_target =~ WO _ _ (Oper.mk _ (Op.fieldAddr 86 _ 6) _ _ _ none) _ _ _ _; first | (refine O_fdT fd86_6 (by decide) rfl ?_) | (refine O_field fd86_6 (by decide) rfl ?_))
    | (guard_target =~ WO _ _ (Oper.mk _ (Op.binOp BinOp.lss 21 _ _ _) _ _ _ none) _ _ _ _; first | (first | (refine O_lssS rfl rfl (fun h => absurd h (by omega)) ?_; intro _) | (refine O_lssS rfl rfl ?_ (fun h => absurd h (by omega)); intro _) | (refine O_lssS rfl rfl ?_ ?_ <;> intro _)))
    | (guard_target =~ WO _ _ (Oper.mk _ (Op.pick _ _ _) _ _ _ none) _ _ _ _; first | (refine O_pick_t (v := (.bool _)) rfl rfl ?_) | (refine O_pick_f (v := (.bool _)) rfl rfl ?_)))
  all_goals refine E_ret1T (by assumption) rfl rfl rfl ?_
  all_goals first
    | rw [decide_eq_true (by omega)]; rfl
    | rw [decide_eq_false (by omega)]; rfl
end Go.Proofs.Ygcsam
