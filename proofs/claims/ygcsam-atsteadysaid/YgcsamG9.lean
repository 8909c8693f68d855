/-
  AtSteady. Own work.
-/
import Derived.Test.YgcsamG8
namespace Go.Proofs.Ygcsam
set_option linter.unusedVariables false
set_option linter.unusedSimpArgs false
set_option maxRecDepth 4000
section
variable {P : Program} {ops : Array Oper} {e : Bool} {K : Env → World → Prop} {ρ : Env} {w w0 : World} {d : Nat} {ty : TypeId} {pos : String} {af : Array Edge} {B : Nat} {L : List Fact} {M : List (Nat × Array Value)}
theorem O_bxBk {t : Nat} {cs : Array Value} {x : Operand} (h : TS B w0 w L M) (hM : (t, cs) ∈ M) (hx : ev ρ x = .agg cs) (k : ∀ w' b, Ext w w' → w.heap.size ≤ b → Blk w' b cs t → TS B w0 w' ((t, some ⟨b, 0, none⟩, 1, 1) :: L) M → K (put ρ d (.pointer (some ⟨b, 0, none⟩))) w') : WO P ops ⟨some d, .box t x, ty, pos, af, none⟩ e K ρ w := by
  have hA := h.m _ hM
  have hs : (Value.agg cs).cells.size = csz t := hA.1
  refine O_box hx fun w' hE hs' hb => k w' _ hE (Nat.le_refl _) hb ((h.next hE (h.t.grow hE hs' hb fun j u hj => ?_)).addL (Sl.new h.t.sz hb (by rw [hs, Nat.one_mul]) (Nat.le_refl _) (by omega)))
  have hj' : j < csz t := by have := get_lt hj; omega
  rw [Nat.mod_eq_of_lt hj']; exact hA.2 j u hj
end
/-- The script, told: n rows of 36 cells. -/
def SW (W : World) (a : Option Addr) (n cap : Nat) : Prop := n ≤ cap ∧ cap < 9223372036854775808 ∧ (n = 0 ∨ ∃ b o, a = some ⟨b, o, none⟩ ∧ ∀ i, i < n → ∃ cs : Array Value, (∀ B w, okA B w 38 cs) ∧ ∀ j, j < 36 → W.cell? ⟨b, o + i * 36 + j, none⟩ = cs[j]?)
theorem cutScript_ok {B n cap : Nat} {a : Option Addr} {w W : World} (hT : WT B w) (hS0 : SW W a n cap) : Rd B Samg.prog 14 [.slice a n cap] w fun v w' => ∃ m, v = .slice a m cap ∧ m ≤ n := by
  refine W_enter (l := [_]) Samg.func14 rfl rfl rfl ?_
  have hS := TS.start hT
  obtain ⟨h1, h2, h3⟩ := hS0
  by_cases h64 : 64 < n
  · obtain ⟨b, o, rfl, _⟩ := h3.resolve_left (by omega)
    repeat' (first
      | (refine L_cons ?_)
      | (refine R_cons rfl ?_)
      | (refine W_seq ?_)
      | (refine W_region (by kernel_rfl) ?_)
      | (refine L_nil ?_)
      | (refine R_nil ?_)
      | (refine W_block ?_)
      | (refine W_skip ?_)
      | (refine W_exit ?_)
      | (refine W_ret ?_)
      | (guard_target =~ thenQ _ _ _ _ _; first | (refine T_next ?_) | (refine T_exit ?_) | (refine T_ret ?_))
      | (guard_target =~ blockQ _ _ _ _ _; first | (refine B_next ?_) | (refine B_same ?_) | (refine B_other (by kernel_rfl) ?_) | (refine B_ret ?_))
      | (refine W_true rfl rfl ?_)
      | (refine W_false rfl rfl ?_)
      | (guard_target =~ WO _ _ (Oper.mk _ (Op.slice 36 _ _ _ _) _ _ _ none) _ _ _ _; first | (refine O_slice_s (l := 0) (h := 64) (m := cap) sl36 rfl rfl ⟨_, rfl⟩ rfl (fun h => (by cases h)) (by omega) (by omega) (Nat.le_refl _) ?_; rw [if_neg (show ¬ cap = 0 by omega)]))
      | (guard_target =~ WO _ _ (Oper.mk _ (Op.assign _) _ _ _ none) _ _ _ _; first | (refine O_assign (v := (.int _ _)) rfl ?_) | (refine O_assign (v := (.bool _)) rfl ?_) | (refine O_assign (v := (.pointer _)) rfl ?_) | (refine O_assign (v := (.slice _ _ _)) rfl ?_) | (refine O_assign (v := (.agg _)) rfl ?_) | (refine O_assign (v := (.tuple _)) rfl ?_))
      | (guard_target =~ WO _ _ (Oper.mk _ (Op.move _) _ _ _ none) _ _ _ _; first | (refine O_move (v := (.int _ _)) rfl ?_) | (refine O_move (v := (.bool _)) rfl ?_) | (refine O_move (v := (.pointer _)) rfl ?_) | (refine O_move (v := (.slice _ _ _)) rfl ?_) | (refine O_move (v := (.agg _)) rfl ?_) | (refine O_move (v := (.tuple _)) rfl ?_))
      | (guard_target =~ WO _ _ (Oper.mk _ (Op.call _) _ _ _ none) _ _ _ _; first | (refine O_len Samg.underlying36 rfl rfl ?_))
      | (guard_target =~ WO _ _ (Oper.mk _ (Op.binOp BinOp.gtr 3 _ _ _) _ _ _ none) _ _ _ _; first | (first | (refine O_gtrS rfl rfl (fun h => absurd h (by omega)) ?_; intro _) | (refine O_gtrS rfl rfl ?_ (fun h => absurd h (by omega)); intro _) | (refine O_gtrS rfl rfl ?_ ?_ <;> intro _))))
    exact E_ret1T hS rfl rfl rfl ⟨64, rfl, by omega⟩
  · repeat' (first
      | (refine L_cons ?_)
      | (refine R_cons rfl ?_)
      | (refine W_seq ?_)
      | (refine W_region (by kernel_rfl) ?_)
      | (refine L_nil ?_)
      | (refine R_nil ?_)
      | (refine W_block ?_)
      | (refine W_skip ?_)
      | (refine W_exit ?_)
      | (refine W_ret ?_)
      | (guard_target =~ thenQ _ _ _ _ _; first | (refine T_next ?_) | (refine T_exit ?_) | (refine T_ret ?_))
      | (guard_target =~ blockQ _ _ _ _ _; first | (refine B_next ?_) | (refine B_same ?_) | (refine B_other (by kernel_rfl) ?_) | (refine B_ret ?_))
      | (refine W_true rfl rfl ?_)
      | (refine W_false rfl rfl ?_)
      | (guard_target =~ WO _ _ (Oper.mk _ (Op.assign _) _ _ _ none) _ _ _ _; first | (refine O_assign (v := (.int _ _)) rfl ?_) | (refine O_assign (v := (.bool _)) rfl ?_) | (refine O_assign (v := (.pointer _)) rfl ?_) | (refine O_assign (v := (.slice _ _ _)) rfl ?_) | (refine O_assign (v := (.agg _)) rfl ?_) | (refine O_assign (v := (.tuple _)) rfl ?_))
      | (guard_target =~ WO _ _ (Oper.mk _ (Op.move _) _ _ _ none) _ _ _ _; first | (refine O_move (v := (.int _ _)) rfl ?_) | (refine O_move (v := (.bool _)) rfl ?_) | (refine O_move (v := (.pointer _)) rfl ?_) | (refine O_move (v := (.slice _ _ _)) rfl ?_) | (refine O_move (v := (.agg _)) rfl ?_) | (refine O_move (v := (.tuple _)) rfl ?_))
      | (guard_target =~ WO _ _ (Oper.mk _ (Op.call _) _ _ _ none) _ _ _ _; first | (refine O_len Samg.underlying36 rfl rfl ?_))
      | (guard_target =~ WO _ _ (Oper.mk _ (Op.binOp BinOp.gtr 3 _ _ _) _ _ _ none) _ _ _ _; first | (first | (refine O_gtrS rfl rfl (fun h => absurd h (by omega)) ?_; intro _) | (refine O_gtrS rfl rfl ?_ (fun h => absurd h (by omega)); intro _) | (refine O_gtrS rfl rfl ?_ ?_ <;> intro _))))
    exact E_ret1T hS rfl rfl rfl ⟨n, rfl, Nat.le_refl _⟩
theorem WideOf.same {cs c1 c2 : Array Value} (h1 : WideOf cs c1) (h2 : WideOf cs c2) : ∃ k z : Nat, c1[0]? = some (.int .u8 (k : Int)) ∧ c1[86]? = some (.int .i32 (z : Int)) ∧ c2[0]? = some (.int .u8 (k : Int)) ∧ c2[86]? = some (.int .i32 (z : Int)) := by
  obtain ⟨k, z, a1, a2, _, _, a3, a4⟩ := h1
  obtain ⟨k', z', b1, b2, _, _, b3, b4⟩ := h2
  rw [a1] at b1
  rw [a2] at b2
  cases b1; cases b2
  exact ⟨k, z, a3, a4, b3, b4⟩
theorem WideOf.tell {cs c1 c2 : Array Value} (h1 : WideOf cs c1) (h2 : WideOf cs c2) : c2[0]? = c1[0]? ∧ c2[86]? = c1[86]? := by
  obtain ⟨k, z, a1, a2, a3, a4⟩ := h1.same h2
  exact ⟨a3.trans a1.symm, a4.trans a2.symm⟩
theorem WideOf.get {cs c1 : Array Value} (h1 : WideOf cs c1) : ∃ k z : Nat, c1[0]? = some (.int .u8 (k : Int)) ∧ c1[86]? = some (.int .i32 (z : Int)) := by
  obtain ⟨k, z, a1, a2, _, _, a3, a4⟩ := h1
  exact ⟨k, z, a3, a4⟩
set_option maxHeartbeats 16000000 in
theorem atSteady_ok {a a2 : Option Addr} {cap n2 cap2 : Nat} {ω : WA} {W : World} (hA : AW W a cap ω) (hS2 : SW W a2 n2 cap2) {cso : Array Value} (hO : ∀ B w, okA B w 38 cso) :
    Ret Samg.prog 4 #[.slice a ω.n cap, .slice a2 n2 cap2, .agg cso] W fun v w' => Mu W.heap.size W w' ∧ v = .bool true := by
  refine W_enter (l := [_, _, _]) Samg.func4 rfl rfl rfl ?_
  have hT : WT W.heap.size W := ⟨Nat.le_refl _, fun b c t hb hk => absurd hk.lt (by omega)⟩
  have hS := (TS.start hT).addM (hO W.heap.size W)
  have hAB : AWB W.heap.size W a cap ω := ⟨W, Nat.le_refl _, fun _ _ => rfl, hA⟩
  generalize hB : W.heap.size = B at *
  repeat (first | (refine L_cons ?_) | (refine R_cons rfl ?_) | (refine W_seq ?_) | (refine W_region (by kernel_rfl) ?_) | (refine L_nil ?_) | (refine R_nil ?_) | (guard_target =~ thenQ _ _ _ _ _; refine T_next ?_))
  refine O_bxBk hS (List.mem_cons_self ..) rfl ?_
  intro w1 b5 hx1 hn5 hb5 hS1
  have hMu1 : Mu B W w1 := hx1.mu (by omega)
  have hAB1 := hAB.mu hMu1
  clear hS
  repeat' (first
    | (refine L_cons ?_)
    | (refine R_cons rfl ?_)
    | (refine W_seq ?_)
    | (refine W_region (by kernel_rfl) ?_)
    | (refine L_nil ?_)
    | (refine R_nil ?_)
    | (refine W_block ?_)
    | (refine W_skip ?_)
    | (refine W_exit ?_)
    | (refine W_ret ?_)
    | (guard_target =~ thenQ _ _ _ _ _; first | (refine T_next ?_) | (refine T_exit ?_) | (refine T_ret ?_))
    | (guard_target =~ blockQ _ _ _ _ _; first | (refine B_next ?_) | (refine B_same ?_) | (refine B_other (by kernel_rfl) ?_) | (refine B_ret ?_))
    | (refine W_true rfl rfl ?_)
    | (refine W_false rfl rfl ?_)
    | (guard_target =~ WO _ _ (Oper.mk _ (Op.call (Call.mk (Callee.value (Operand.func 11)) _ _)) _ _ _ none) _ _ _ _; first | (refine O_nw (l := [.slice a ω.n cap]) hS1 cl11 rfl rfl (new_ok hS1.t hAB1) ?_; rintro _ w2 (⟨hno, rfl⟩ | ⟨hyes, s, σ, rfl, hV, hI⟩) hMu2 hSn <;> (have hMu := hMu1.trans hMu2; have hAB2 := hAB1.mu hMu2; replace hb5 := hMu2.keep _ _ _ hb5 rfl; clear hS1)))
    | (guard_target =~ WO _ _ (Oper.mk _ (Op.call (Call.mk (Callee.value (Operand.func 12)) _ _)) _ _ _ none) _ _ _ _; first | (refine O_rd (l := [.slice a ω.n cap]) (by assumption) cl12 rfl (worldOK_ok (TS.t (by assumption)) hAB2.aw) ?_; rintro _ w3 ⟨pw, rfl, hpw⟩ hS3 hx3; cases pw <;> first | exact absurd (hpw.1 rfl) hno | exact absurd (hpw.2 hyes) Bool.false_ne_true | skip))
    | (guard_target =~ WO _ _ (Oper.mk _ (Op.call (Call.mk (Callee.value (Operand.func 13)) _ _)) _ _ _ none) _ _ _ _; first | (refine O_nw (l := [.slice a ω.n cap]) hS3 cl13 rfl rfl (refused_ok hS3.t (hAB2.mu (hS3.mu hSn.t.sz)) hno) ?_; rintro _ w4 rfl hMu4 hS4))
    | (guard_target =~ WO _ _ (Oper.mk _ (Op.call (Call.mk (Callee.value (Operand.func 14)) _ _)) _ _ _ none) _ _ _ _; first | (refine O_rd (l := [.slice a2 n2 cap2]) (by assumption) cl14 rfl (cutScript_ok (TS.t (by assumption)) hS2) ?_; rintro _ w4 ⟨m2, rfl, hm2⟩ hS4 hx4))
    | (guard_target =~ WC _ _ (Code.region 13 _ true) _ _ _; first | (refine W_drawnT (id := 13) [3] [0, 1, 2, 4, 3, 5, 6] mixed (by kernel_rfl) (by kernel_rfl) (by assumption) ?_; intro _ _ _))
    | (guard_target =~ WO _ _ (Oper.mk _ (Op.box 38 _) _ _ _ none) _ _ _ _; first | (refine O_bxs (by assumption) (by repeat (first | exact List.Mem.head _ | refine List.Mem.tail _ ?_)) rfl ?_; intro _ _ _ _))
    | (guard_target =~ WO _ _ (Oper.mk _ (Op.assign _) _ _ _ none) _ _ _ _; first | (refine O_assign (v := (.int _ _)) rfl ?_) | (refine O_assign (v := (.bool _)) rfl ?_) | (refine O_assign (v := (.pointer _)) rfl ?_) | (refine O_assign (v := (.slice _ _ _)) rfl ?_) | (refine O_assign (v := (.agg _)) rfl ?_) | (refine O_assign (v := (.tuple _)) rfl ?_))
    | (guard_target =~ WO _ _ (Oper.mk _ (Op.move _) _ _ _ none) _ _ _ _; first | (refine O_move (v := (.int _ _)) rfl ?_) | (refine O_move (v := (.bool _)) rfl ?_) | (refine O_move (v := (.pointer _)) rfl ?_) | (refine O_move (v := (.slice _ _ _)) rfl ?_) | (refine O_move (v := (.agg _)) rfl ?_) | (refine O_move (v := (.tuple _)) rfl ?_))
    | (guard_target =~ WO _ _ (Oper.mk _ (Op.extract _ _) _ _ _ none) _ _ _ _; first | (refine O_extract rfl rfl ?_))
    | (guard_target =~ WO _ _ (Oper.mk _ (Op.unOp _ _ _) _ _ _ none) _ _ _ _; first | (refine O_not rfl ?_))
    | (guard_target =~ WO _ _ (Oper.mk _ (Op.call _) _ _ _ none) _ _ _ _; first | (refine O_len Samg.underlying36 rfl rfl ?_))
    | (guard_target =~ WO _ _ (Oper.mk _ (Op.binOp BinOp.lss 3 _ _ _) _ _ _ none) _ _ _ _; first | (first | (refine O_lssS rfl rfl (fun h => absurd h (by omega)) ?_; intro _) | (refine O_lssS rfl rfl ?_ (fun h => absurd h (by omega)); intro _) | (refine O_lssS rfl rfl ?_ ?_ <;> intro _)))
    | (guard_target =~ WO _ _ (Oper.mk _ (Op.indexAddr 36 _ _) _ _ _ none) _ _ _ _; first | (refine O_ixK (by assumption) (by repeat (first | exact List.Mem.head _ | refine List.Mem.tail _ ?_)) sl36 rfl rfl (by omega) (by omega) ?_; rintro _ _ _) | (refine O_ixN (by assumption) (by repeat (first | exact List.Mem.head _ | refine List.Mem.tail _ ?_)) sl36 rfl rfl (by omega) (by omega) ?_; rintro _ _ _ _ _ _))
    | (guard_target =~ WO _ _ (Oper.mk _ (Op.load 38 _) _ _ _ none) _ _ _ _; first | (refine O_lda (by assumption) (by repeat (first | exact List.Mem.head _ | refine List.Mem.tail _ ?_)) ag38 rfl (by first | omega | (simp only [csz]; omega)) (by first | exact laySub0 rfl rfl | exact laySub rfl rfl rfl | exact laySame (by decide)) ?_; intro _ _ _))
    | (guard_target =~ WO _ _ (Oper.mk _ (Op.alloc 38) _ _ _ none) _ _ _ _; first | (refine O_al (by assumption) zc38 (by decide) ?_; intro _ _ _ _))
    | (guard_target =~ WO _ _ (Oper.mk _ (Op.store 38 _ _) _ _ _ none) _ _ _ _; first | (refine O_sts (by assumption) (by repeat (first | exact List.Mem.head _ | refine List.Mem.tail _ ?_)) (by omega) (by repeat (first | exact List.Mem.head _ | refine List.Mem.tail _ ?_)) ag38 rfl rfl (by first | omega | (simp only [csz]; omega)) (by first | exact laySub0 rfl rfl | exact laySub rfl rfl rfl | exact laySame (by decide)) rfl ?_; intro _ _))
    | (guard_target =~ WO _ _ (Oper.mk _ (Op.binOp BinOp.add 3 _ _ _) _ _ _ none) _ _ _ _; first | (refine O_addZ rfl rfl (by simp only [rngZ]; omega) ?_))
    | (guard_target =~ WO _ _ (Oper.mk _ (Op.alloc 51) _ _ _ none) _ _ _ _; first | (refine O_al (by assumption) zc51 (by decide) ?_; intro _ _ _ _))
    | (guard_target =~ WO _ _ (Oper.mk _ (Op.store 51 _ _) _ _ _ none) _ _ _ _; first | (refine O_sts (by assumption) (by repeat (first | exact List.Mem.head _ | refine List.Mem.tail _ ?_)) (by omega) (by repeat (first | exact List.Mem.head _ | refine List.Mem.tail _ ?_)) ag51 rfl rfl (by first | omega | (simp only [csz]; omega)) (by first | exact laySub0 rfl rfl | exact laySub rfl rfl rfl | exact laySame (by decide)) rfl ?_; intro _ _))
    | (guard_target =~ WO _ _ (Oper.mk _ (Op.load 51 _) _ _ _ none) _ _ _ _; first | (refine O_lda (by assumption) (by repeat (first | exact List.Mem.head _ | refine List.Mem.tail _ ?_)) ag51 rfl (by first | omega | (simp only [csz]; omega)) (by first | exact laySub0 rfl rfl | exact laySub rfl rfl rfl | exact laySame (by decide)) ?_; intro _ _ _)))
  · exact E_ret rfl rfl rfl ⟨(hMu.trans (hS3.mu hSn.t.sz)).trans hMu4, rfl⟩
  refine W_loop (fun m ρ w' => ∃ (i : Nat) (σ : VS), m = m2 - i ∧ i ≤ m2 ∧ V B w' s σ ∧ VI σ ∧ Mu B W w' ∧ Blk w' b5 cso 38 ∧ TS B w' w' [(38, some ⟨b5, 0, none⟩, 1, 1)] [(38, cso)] ∧ Has ρ [(5, .pointer (some ⟨b5, 0, none⟩)), (7, .pointer (some ⟨s, 0, none⟩)), (26, .slice a2 m2 cap2), (27, .int .i64 ((m2 : Nat) : Int)), (28, .int .i64 ((i : Nat) : Int))]) m2 ⟨0, σ, by omega, by omega, hV.ext hS4.e, hI, hMu.trans (hS4.mu hSn.t.sz), hb5.ext hS4.e, hS4.restart, Has.mk ⟨rfl, rfl, rfl, rfl, rfl, trivial⟩⟩ ?_
  clear hS4 hS3 hSn hV hI hMu hb5 hAB2 hAB1 hMu1 hMu2 hx3 hx4 hpw
  clear σ
  rintro m ρ w5 ⟨i, σ, rfl, hi, hV, hI, hMu, hb5, hS5, ρ', rfl⟩
  have hBw : B ≤ w5.heap.size := hS5.t.sz
  have h2a := hS2.1
  have h2b := hS2.2.1
  by_cases hin : i < m2
  · obtain ⟨bs, os, rfl, hrow⟩ := hS2.2.2.resolve_left (by omega)
    obtain ⟨csi, hok, hcell⟩ := hrow i (by omega)
    have hlt : bs < W.heap.size := by
      obtain ⟨u, hu, _⟩ := (hok B W).u8 (o := 0) (by decide) rfl
      exact cell_lt ((hcell 0 (by omega)).trans hu)
    have hcell5 : ∀ j, j < 36 → w5.cell? ⟨bs, os + i * 36 + j, none⟩ = csi[j]? := fun j hj => by
      rw [← hcell j hj]
      unfold World.cell?
      simp only [hMu.low bs (by omega)]
    replace hS5 := hS5.addM (hok B w5)
    repeat' (first
      | (refine L_cons ?_)
      | (refine R_cons rfl ?_)
      | (refine W_seq ?_)
      | (refine W_region (by kernel_rfl) ?_)
      | (refine L_nil ?_)
      | (refine R_nil ?_)
      | (refine W_block ?_)
      | (refine W_skip ?_)
      | (refine W_exit ?_)
      | (refine W_ret ?_)
      | (guard_target =~ thenQ _ _ _ _ _; first | (refine T_next ?_) | (refine T_exit ?_) | (refine T_ret ?_))
      | (guard_target =~ blockQ _ _ _ _ _; first | (refine B_next ?_) | (refine B_same ?_) | (refine B_other (by kernel_rfl) ?_) | (refine B_ret ?_))
      | (refine W_true rfl rfl ?_)
      | (refine W_false rfl rfl ?_)
      | (guard_target =~ WO _ _ (Oper.mk _ (Op.indexAddr 36 _ _) _ _ _ none) _ _ _ _; first | (refine O_index_s (m := i) sl36 rfl rfl (by omega) ?_) | (refine O_ixK (by assumption) (by repeat (first | exact List.Mem.head _ | refine List.Mem.tail _ ?_)) sl36 rfl rfl (by omega) (by omega) ?_; rintro _ _ _) | (refine O_ixN (by assumption) (by repeat (first | exact List.Mem.head _ | refine List.Mem.tail _ ?_)) sl36 rfl rfl (by omega) (by omega) ?_; rintro _ _ _ _ _ _))
      | (guard_target =~ WO _ _ (Oper.mk _ (Op.load 38 (Operand.tmp 30)) _ _ _ none) _ _ _ _; first | (refine O_ldA (cs := csi) ag38 rfl (hok B W).1 hcell5 ?_))
      | (guard_target =~ WO _ _ (Oper.mk _ (Op.call (Call.mk (Callee.value (Operand.func 16)) _ _)) _ _ _ none) _ _ _ _; first | (refine O_rd (l := [.agg _]) (by assumption) cl16 rfl (wideT_ok (TS.t (by assumption)) (TS.okA (by assumption) (by repeat (first | exact List.Mem.head _ | refine List.Mem.tail _ ?_)))) ?_; rintro _ w6 ⟨cs1, rfl, hs1, hw1⟩ hS6 hx6; obtain ⟨k1, z1, hk1, hz1⟩ := hw1.get))
      | (guard_target =~ WO _ _ (Oper.mk _ (Op.call (Call.mk (Callee.value (Operand.func 15)) _ _)) _ _ _ none) _ _ _ _; first | (refine O_nw (l := [.pointer (some ⟨s, 0, none⟩), .agg cs1]) hS6 cl15 rfl rfl (playVault_ok hS6.t (hV.ext hS6.e) hI hs1 hk1 hz1) ?_; rintro _ w7 ⟨σ7, rs, hV7, hI7, rfl, hrs, hP⟩ hMu7 hS7))
      | (guard_target =~ WC _ _ (Code.region 13 _ true) _ _ _; first | (refine W_drawnT (id := 13) [3] [0, 1, 2, 4, 3, 5, 6] mixed (by kernel_rfl) (by kernel_rfl) (by assumption) ?_; intro _ _ _))
      | (guard_target =~ WO _ _ (Oper.mk _ (Op.box 38 _) _ _ _ none) _ _ _ _; first | (refine O_bxs (by assumption) (by repeat (first | exact List.Mem.head _ | refine List.Mem.tail _ ?_)) rfl ?_; intro _ _ _ _))
      | (guard_target =~ WO _ _ (Oper.mk _ (Op.assign _) _ _ _ none) _ _ _ _; first | (refine O_assign (v := (.int _ _)) rfl ?_) | (refine O_assign (v := (.bool _)) rfl ?_) | (refine O_assign (v := (.pointer _)) rfl ?_) | (refine O_assign (v := (.slice _ _ _)) rfl ?_) | (refine O_assign (v := (.agg _)) rfl ?_) | (refine O_assign (v := (.tuple _)) rfl ?_))
      | (guard_target =~ WO _ _ (Oper.mk _ (Op.move _) _ _ _ none) _ _ _ _; first | (refine O_move (v := (.int _ _)) rfl ?_) | (refine O_move (v := (.bool _)) rfl ?_) | (refine O_move (v := (.pointer _)) rfl ?_) | (refine O_move (v := (.slice _ _ _)) rfl ?_) | (refine O_move (v := (.agg _)) rfl ?_) | (refine O_move (v := (.tuple _)) rfl ?_))
      | (guard_target =~ WO _ _ (Oper.mk _ (Op.extract _ _) _ _ _ none) _ _ _ _; first | (refine O_extract rfl rfl ?_))
      | (guard_target =~ WO _ _ (Oper.mk _ (Op.unOp _ _ _) _ _ _ none) _ _ _ _; first | (refine O_not rfl ?_))
      | (guard_target =~ WO _ _ (Oper.mk _ (Op.call _) _ _ _ none) _ _ _ _; first | (refine O_len Samg.underlying36 rfl rfl ?_))
      | (guard_target =~ WO _ _ (Oper.mk _ (Op.binOp BinOp.lss 3 _ _ _) _ _ _ none) _ _ _ _; first | (first | (refine O_lssS rfl rfl (fun h => absurd h (by omega)) ?_; intro _) | (refine O_lssS rfl rfl ?_ (fun h => absurd h (by omega)); intro _) | (refine O_lssS rfl rfl ?_ ?_ <;> intro _)))
      | (guard_target =~ WO _ _ (Oper.mk _ (Op.load 38 _) _ _ _ none) _ _ _ _; first | (refine O_lda (by assumption) (by repeat (first | exact List.Mem.head _ | refine List.Mem.tail _ ?_)) ag38 rfl (by first | omega | (simp only [csz]; omega)) (by first | exact laySub0 rfl rfl | exact laySub rfl rfl rfl | exact laySame (by decide)) ?_; intro _ _ _))
      | (guard_target =~ WO _ _ (Oper.mk _ (Op.alloc 38) _ _ _ none) _ _ _ _; first | (refine O_al (by assumption) zc38 (by decide) ?_; intro _ _ _ _))
      | (guard_target =~ WO _ _ (Oper.mk _ (Op.store 38 _ _) _ _ _ none) _ _ _ _; first | (refine O_sts (by assumption) (by repeat (first | exact List.Mem.head _ | refine List.Mem.tail _ ?_)) (by omega) (by repeat (first | exact List.Mem.head _ | refine List.Mem.tail _ ?_)) ag38 rfl rfl (by first | omega | (simp only [csz]; omega)) (by first | exact laySub0 rfl rfl | exact laySub rfl rfl rfl | exact laySame (by decide)) rfl ?_; intro _ _))
      | (guard_target =~ WO _ _ (Oper.mk _ (Op.binOp BinOp.add 3 _ _ _) _ _ _ none) _ _ _ _; first | (refine O_addZ rfl rfl (by simp only [rngZ]; omega) ?_))
      | (guard_target =~ WO _ _ (Oper.mk _ (Op.alloc 51) _ _ _ none) _ _ _ _; first | (refine O_al (by assumption) zc51 (by decide) ?_; intro _ _ _ _))
      | (guard_target =~ WO _ _ (Oper.mk _ (Op.store 51 _ _) _ _ _ none) _ _ _ _; first | (refine O_sts (by assumption) (by repeat (first | exact List.Mem.head _ | refine List.Mem.tail _ ?_)) (by omega) (by repeat (first | exact List.Mem.head _ | refine List.Mem.tail _ ?_)) ag51 rfl rfl (by first | omega | (simp only [csz]; omega)) (by first | exact laySub0 rfl rfl | exact laySub rfl rfl rfl | exact laySame (by decide)) rfl ?_; intro _ _))
      | (guard_target =~ WO _ _ (Oper.mk _ (Op.load 51 _) _ _ _ none) _ _ _ _; first | (refine O_lda (by assumption) (by repeat (first | exact List.Mem.head _ | refine List.Mem.tail _ ?_)) ag51 rfl (by first | omega | (simp only [csz]; omega)) (by first | exact laySub0 rfl rfl | exact laySub rfl rfl rfl | exact laySame (by decide)) ?_; intro _ _ _)))
    exact ⟨m2 - (i + 1), by omega, i + 1, σ7, rfl, by omega, hV7, hI7, (hMu.trans (hS6.mu hBw)).trans hMu7, hMu7.keep _ _ _ (hb5.ext hS6.e) rfl, ((TS.start hS7.t).addM (hO B w7)).addL (hS7.slN (by repeat (first | exact List.Mem.head _ | refine List.Mem.tail _ ?_))), Has.mk ⟨rfl, rfl, rfl, rfl, rfl, trivial⟩⟩
  · repeat' (first
      | (refine L_cons ?_)
      | (refine R_cons rfl ?_)
      | (refine W_seq ?_)
      | (refine W_region (by kernel_rfl) ?_)
      | (refine L_nil ?_)
      | (refine R_nil ?_)
      | (refine W_block ?_)
      | (refine W_skip ?_)
      | (refine W_exit ?_)
      | (refine W_ret ?_)
      | (guard_target =~ thenQ _ _ _ _ _; first | (refine T_next ?_) | (refine T_exit ?_) | (refine T_ret ?_))
      | (guard_target =~ blockQ _ _ _ _ _; first | (refine B_next ?_) | (refine B_same ?_) | (refine B_other (by kernel_rfl) ?_) | (refine B_ret ?_))
      | (refine W_true rfl rfl ?_)
      | (refine W_false rfl rfl ?_)
      | (guard_target =~ WO _ _ (Oper.mk _ (Op.call (Call.mk (Callee.value (Operand.func 17)) _ _)) _ _ _ none) _ _ _ _; first | (refine O_rd (l := [.pointer (some ⟨s, 0, none⟩)]) (by assumption) cl17 rfl (weights_ok (TS.t (by assumption)) (hV.ext (TS.e (by assumption))) hI) ?_; rintro _ w6 ⟨bw, cw, rfl, hsw, hnw, htow⟩ hS6 hx6; replace hS6 := hS6.addL hsw))
      | (guard_target =~ WO _ _ (Oper.mk _ (Op.load 38 _) _ _ _ none) _ _ _ _; first | (refine O_ldR (cs := cso) (by assumption) (by repeat (first | exact List.Mem.head _ | refine List.Mem.tail _ ?_)) ag38 rfl (hO B W).1 (fun j _ => hb5.cellq j) hb5.lt ?_) | (refine O_lda (by assumption) (by repeat (first | exact List.Mem.head _ | refine List.Mem.tail _ ?_)) ag38 rfl (by first | omega | (simp only [csz]; omega)) (by first | exact laySub0 rfl rfl | exact laySub rfl rfl rfl | exact laySame (by decide)) ?_; intro _ _ _))
      | (guard_target =~ WO _ _ (Oper.mk _ (Op.call (Call.mk (Callee.value (Operand.func 16)) _ _)) _ _ _ none) _ _ _ _; first | (refine O_rd (l := [.agg cso]) (by assumption) cl16 rfl (wideT_ok (TS.t (by assumption)) (hO B _)) ?_; rintro _ w7 ⟨cs1, rfl, hs1, hw1⟩ hS7 hx7; obtain ⟨k1, z1, hk1, hz1⟩ := hw1.get))
      | (guard_target =~ WO _ _ (Oper.mk _ (Op.call (Call.mk (Callee.value (Operand.func 15)) _ _)) _ _ _ none) _ _ _ _; first | (refine O_nw (l := [.pointer (some ⟨s, 0, none⟩), .agg cs1]) hS7 cl15 rfl rfl (playVault_ok hS7.t (hV.ext hS7.e) hI hs1 hk1 hz1) ?_; rintro _ w8 ⟨σ8, rs, hV8, hI8, rfl, hrs, hP⟩ hMu8 hS8))
      | (guard_target =~ WC _ _ (Code.region 13 _ true) _ _ _; first | (refine W_drawnT (id := 13) [3] [0, 1, 2, 4, 3, 5, 6] mixed (by kernel_rfl) (by kernel_rfl) (by assumption) ?_; intro _ _ _))
      | (guard_target =~ WO _ _ (Oper.mk _ (Op.box 38 _) _ _ _ none) _ _ _ _; first | (refine O_bxs (by assumption) (by repeat (first | exact List.Mem.head _ | refine List.Mem.tail _ ?_)) rfl ?_; intro _ _ _ _))
      | (guard_target =~ WO _ _ (Oper.mk _ (Op.assign _) _ _ _ none) _ _ _ _; first | (refine O_assign (v := (.int _ _)) rfl ?_) | (refine O_assign (v := (.bool _)) rfl ?_) | (refine O_assign (v := (.pointer _)) rfl ?_) | (refine O_assign (v := (.slice _ _ _)) rfl ?_) | (refine O_assign (v := (.agg _)) rfl ?_) | (refine O_assign (v := (.tuple _)) rfl ?_))
      | (guard_target =~ WO _ _ (Oper.mk _ (Op.move _) _ _ _ none) _ _ _ _; first | (refine O_move (v := (.int _ _)) rfl ?_) | (refine O_move (v := (.bool _)) rfl ?_) | (refine O_move (v := (.pointer _)) rfl ?_) | (refine O_move (v := (.slice _ _ _)) rfl ?_) | (refine O_move (v := (.agg _)) rfl ?_) | (refine O_move (v := (.tuple _)) rfl ?_))
      | (guard_target =~ WO _ _ (Oper.mk _ (Op.extract _ _) _ _ _ none) _ _ _ _; first | (refine O_extract rfl rfl ?_))
      | (guard_target =~ WO _ _ (Oper.mk _ (Op.unOp _ _ _) _ _ _ none) _ _ _ _; first | (refine O_not rfl ?_))
      | (guard_target =~ WO _ _ (Oper.mk _ (Op.call _) _ _ _ none) _ _ _ _; first | (refine O_len Samg.underlying36 rfl rfl ?_))
      | (guard_target =~ WO _ _ (Oper.mk _ (Op.binOp BinOp.lss 3 _ _ _) _ _ _ none) _ _ _ _; first | (first | (refine O_lssS rfl rfl (fun h => absurd h (by omega)) ?_; intro _) | (refine O_lssS rfl rfl ?_ (fun h => absurd h (by omega)); intro _) | (refine O_lssS rfl rfl ?_ ?_ <;> intro _)))
      | (guard_target =~ WO _ _ (Oper.mk _ (Op.indexAddr 36 _ _) _ _ _ none) _ _ _ _; first | (refine O_ixK (by assumption) (by repeat (first | exact List.Mem.head _ | refine List.Mem.tail _ ?_)) sl36 rfl rfl (by omega) (by omega) ?_; rintro _ _ _) | (refine O_ixN (by assumption) (by repeat (first | exact List.Mem.head _ | refine List.Mem.tail _ ?_)) sl36 rfl rfl (by omega) (by omega) ?_; rintro _ _ _ _ _ _))
      | (guard_target =~ WO _ _ (Oper.mk _ (Op.alloc 38) _ _ _ none) _ _ _ _; first | (refine O_al (by assumption) zc38 (by decide) ?_; intro _ _ _ _))
      | (guard_target =~ WO _ _ (Oper.mk _ (Op.store 38 _ _) _ _ _ none) _ _ _ _; first | (refine O_sts (by assumption) (by repeat (first | exact List.Mem.head _ | refine List.Mem.tail _ ?_)) (by omega) (by repeat (first | exact List.Mem.head _ | refine List.Mem.tail _ ?_)) ag38 rfl rfl (by first | omega | (simp only [csz]; omega)) (by first | exact laySub0 rfl rfl | exact laySub rfl rfl rfl | exact laySame (by decide)) rfl ?_; intro _ _))
      | (guard_target =~ WO _ _ (Oper.mk _ (Op.binOp BinOp.add 3 _ _ _) _ _ _ none) _ _ _ _; first | (refine O_addZ rfl rfl (by simp only [rngZ]; omega) ?_))
      | (guard_target =~ WO _ _ (Oper.mk _ (Op.store 51 _ _) _ _ _ none) _ _ _ _; first | (refine O_sts (by assumption) (by repeat (first | exact List.Mem.head _ | refine List.Mem.tail _ ?_)) (by omega) (by repeat (first | exact List.Mem.head _ | refine List.Mem.tail _ ?_)) ag51 rfl rfl (by first | omega | (simp only [csz]; omega)) (by first | exact laySub0 rfl rfl | exact laySub rfl rfl rfl | exact laySame (by decide)) rfl ?_; intro _ _))
      | (guard_target =~ WO _ _ (Oper.mk _ (Op.load 51 _) _ _ _ none) _ _ _ _; first | (refine O_lda (by assumption) (by repeat (first | exact List.Mem.head _ | refine List.Mem.tail _ ?_)) ag51 rfl (by first | omega | (simp only [csz]; omega)) (by first | exact laySub0 rfl rfl | exact laySub rfl rfl rfl | exact laySame (by decide)) ?_; intro _ _ _)))
    have hnm := hI.nm
    have hb8 := hMu8.keep _ _ _ (hb5.ext hS7.e) rfl
    have hlw : bw < w6.heap.size := (TS.start (TS.t hS6) |>.addL hsw).ltC (List.mem_cons_self ..)
    obtain ⟨_, cbw, hbw, _⟩ := (TS.start (TS.t hS6) |>.addL hsw).row (List.mem_cons_self ..)
    have hbw8 := hMu8.keep _ _ _ (hbw.ext hx7) rfl
    have htow8 : ∀ k, k ≤ σ.nm → ∀ j, j < 7 → w8.cell? ⟨bw, k * 7 + j, none⟩ = (Wt σ k)[j]? := fun k hk j hj => by
      rw [hbw8.cellq, ← hbw.cellq]; exact htow k hk j hj
    have hS8' := hS8.addM hrs
    refine O_alE hS8' zc51 (by decide) ?_
    intro w9 b12 hx9 _ hn12 hS9
    repeat (first | (refine L_cons ?_) | (refine R_cons rfl ?_) | (refine W_seq ?_) | (refine W_region (by kernel_rfl) ?_) | (refine L_nil ?_) | (refine R_nil ?_) | (guard_target =~ thenQ _ _ _ _ _; refine T_next ?_))
    refine O_stsW hS9 (List.mem_cons_self ..) hn12 (List.mem_cons_self ..) ag51 rfl rfl (by simp only [csz]; omega) laySame0 rfl ?_
    intro w10 hS10 hW10
    have hrs25 : rs.size = 25 := hrs.1
    have hc12 : ∀ j, j < 25 → w10.cell? ⟨b12, j, none⟩ = rs[j]? := fun j hj => by
      rw [hW10, if_pos ⟨rfl, Nat.zero_le _, by omega⟩, Nat.sub_zero]
    have hx10 : Ext w8 w10 := hS10.e
    have hMuE : Mu B W w10 := (((hMu.trans (hS7.mu hBw)).trans hMu8)).trans (hS10.mu hS8.t.sz)
    have hl12 := hS10.ltC (List.mem_cons_self ..)
    have hSr := hS10.restart
    have hb10 := hb8.ext hx10
    have hsw10 : Sl B w10 48 (some ⟨bw, 0, none⟩) (σ.nm + 1) cw := ((hsw.shp hx7.shp).shp hMu8.shp).shp hx10.shp
    have htow10 : ∀ k, k ≤ σ.nm → ∀ j, j < 7 → w10.cell? ⟨bw, k * 7 + j, none⟩ = (Wt σ k)[j]? := fun k hk j hj => (cell_eqE hx10 hbw8.lt).trans (htow8 k hk j hj)
    have hl10 : bw < w10.heap.size := Nat.lt_of_lt_of_le hbw8.lt hx10.size
    have hV10 := hV8.ext hx10
    repeat' (first
      | (refine L_cons ?_)
      | (refine R_cons rfl ?_)
      | (refine W_seq ?_)
      | (refine W_region (by kernel_rfl) ?_)
      | (refine L_nil ?_)
      | (refine R_nil ?_)
      | (refine W_block ?_)
      | (refine W_skip ?_)
      | (refine W_exit ?_)
      | (refine W_ret ?_)
      | (guard_target =~ thenQ _ _ _ _ _; first | (refine T_next ?_) | (refine T_exit ?_) | (refine T_ret ?_))
      | (guard_target =~ blockQ _ _ _ _ _; first | (refine B_next ?_) | (refine B_same ?_) | (refine B_other (by kernel_rfl) ?_) | (refine B_ret ?_))
      | (refine W_true rfl rfl ?_)
      | (refine W_false rfl rfl ?_)
      | (guard_target =~ WO _ _ (Oper.mk _ (Op.load 38 _) _ _ _ none) _ _ _ _; first | (refine O_ldR (cs := cso) (by assumption) (by repeat (first | exact List.Mem.head _ | refine List.Mem.tail _ ?_)) ag38 rfl (hO B W).1 (fun j _ => hb10.cellq j) hb10.lt ?_) | (refine O_lda (by assumption) (by repeat (first | exact List.Mem.head _ | refine List.Mem.tail _ ?_)) ag38 rfl (by first | omega | (simp only [csz]; omega)) (by first | exact laySub0 rfl rfl | exact laySub rfl rfl rfl | exact laySame (by decide)) ?_; intro _ _ _))
      | (guard_target =~ WO _ _ (Oper.mk _ (Op.load 51 _) _ _ _ none) _ _ _ _; first | (refine O_ldR (cs := rs) (by assumption) (by repeat (first | exact List.Mem.head _ | refine List.Mem.tail _ ?_)) ag51 rfl hrs25 hc12 hl12 ?_) | (refine O_lda (by assumption) (by repeat (first | exact List.Mem.head _ | refine List.Mem.tail _ ?_)) ag51 rfl (by first | omega | (simp only [csz]; omega)) (by first | exact laySub0 rfl rfl | exact laySub rfl rfl rfl | exact laySame (by decide)) ?_; intro _ _ _))
      | (guard_target =~ WO _ _ (Oper.mk _ (Op.call (Call.mk (Callee.value (Operand.func 16)) _ _)) _ _ _ none) _ _ _ _; first | (refine O_rd (l := [.agg cso]) (by assumption) cl16 rfl (wideT_ok (TS.t (by assumption)) (hO B _)) ?_; rintro _ w12 ⟨cs2, rfl, hs2, hw2⟩ hS12 hx12; have hk2 := (hw1.tell hw2).1.trans hk1; have hz2 := (hw1.tell hw2).2.trans hz1))
      | (guard_target =~ WO _ _ (Oper.mk _ (Op.call (Call.mk (Callee.value (Operand.func 18)) _ _)) _ _ _ none) _ _ _ _; first | (refine O_rd (l := [.slice (some ⟨bw, 0, none⟩) (σ.nm + 1) cw, .pointer (some ⟨s, 0, none⟩), .agg cs2, .agg rs]) (by assumption) cl18 rfl (steadyHolds_ok (TS.t (by assumption)) (hV10.ext (TS.e hS12)) hI8 hnm (hsw10.shp (TS.e hS12).shp) (fun k hk j hj => (cell_eqE (TS.e hS12) hl10).trans (htow10 k hk j hj)) hs2 ((hrs.shp hx10.shp).shp (TS.e hS12).shp) hk2 hz2 hP) ?_; rintro _ w13 rfl hS13 hx13))
      | (guard_target =~ WC _ _ (Code.region 13 _ true) _ _ _; first | (refine W_drawnT (id := 13) [3] [0, 1, 2, 4, 3, 5, 6] mixed (by kernel_rfl) (by kernel_rfl) (by assumption) ?_; intro _ _ _))
      | (guard_target =~ WO _ _ (Oper.mk _ (Op.box 38 _) _ _ _ none) _ _ _ _; first | (refine O_bxs (by assumption) (by repeat (first | exact List.Mem.head _ | refine List.Mem.tail _ ?_)) rfl ?_; intro _ _ _ _))
      | (guard_target =~ WO _ _ (Oper.mk _ (Op.assign _) _ _ _ none) _ _ _ _; first | (refine O_assign (v := (.int _ _)) rfl ?_) | (refine O_assign (v := (.bool _)) rfl ?_) | (refine O_assign (v := (.pointer _)) rfl ?_) | (refine O_assign (v := (.slice _ _ _)) rfl ?_) | (refine O_assign (v := (.agg _)) rfl ?_) | (refine O_assign (v := (.tuple _)) rfl ?_))
      | (guard_target =~ WO _ _ (Oper.mk _ (Op.move _) _ _ _ none) _ _ _ _; first | (refine O_move (v := (.int _ _)) rfl ?_) | (refine O_move (v := (.bool _)) rfl ?_) | (refine O_move (v := (.pointer _)) rfl ?_) | (refine O_move (v := (.slice _ _ _)) rfl ?_) | (refine O_move (v := (.agg _)) rfl ?_) | (refine O_move (v := (.tuple _)) rfl ?_))
      | (guard_target =~ WO _ _ (Oper.mk _ (Op.extract _ _) _ _ _ none) _ _ _ _; first | (refine O_extract rfl rfl ?_))
      | (guard_target =~ WO _ _ (Oper.mk _ (Op.unOp _ _ _) _ _ _ none) _ _ _ _; first | (refine O_not rfl ?_))
      | (guard_target =~ WO _ _ (Oper.mk _ (Op.call _) _ _ _ none) _ _ _ _; first | (refine O_len Samg.underlying36 rfl rfl ?_))
      | (guard_target =~ WO _ _ (Oper.mk _ (Op.binOp BinOp.lss 3 _ _ _) _ _ _ none) _ _ _ _; first | (first | (refine O_lssS rfl rfl (fun h => absurd h (by omega)) ?_; intro _) | (refine O_lssS rfl rfl ?_ (fun h => absurd h (by omega)); intro _) | (refine O_lssS rfl rfl ?_ ?_ <;> intro _)))
      | (guard_target =~ WO _ _ (Oper.mk _ (Op.indexAddr 36 _ _) _ _ _ none) _ _ _ _; first | (refine O_ixK (by assumption) (by repeat (first | exact List.Mem.head _ | refine List.Mem.tail _ ?_)) sl36 rfl rfl (by omega) (by omega) ?_; rintro _ _ _) | (refine O_ixN (by assumption) (by repeat (first | exact List.Mem.head _ | refine List.Mem.tail _ ?_)) sl36 rfl rfl (by omega) (by omega) ?_; rintro _ _ _ _ _ _))
      | (guard_target =~ WO _ _ (Oper.mk _ (Op.alloc 38) _ _ _ none) _ _ _ _; first | (refine O_al (by assumption) zc38 (by decide) ?_; intro _ _ _ _))
      | (guard_target =~ WO _ _ (Oper.mk _ (Op.store 38 _ _) _ _ _ none) _ _ _ _; first | (refine O_sts (by assumption) (by repeat (first | exact List.Mem.head _ | refine List.Mem.tail _ ?_)) (by omega) (by repeat (first | exact List.Mem.head _ | refine List.Mem.tail _ ?_)) ag38 rfl rfl (by first | omega | (simp only [csz]; omega)) (by first | exact laySub0 rfl rfl | exact laySub rfl rfl rfl | exact laySame (by decide)) rfl ?_; intro _ _))
      | (guard_target =~ WO _ _ (Oper.mk _ (Op.binOp BinOp.add 3 _ _ _) _ _ _ none) _ _ _ _; first | (refine O_addZ rfl rfl (by simp only [rngZ]; omega) ?_))
      | (guard_target =~ WO _ _ (Oper.mk _ (Op.alloc 51) _ _ _ none) _ _ _ _; first | (refine O_al (by assumption) zc51 (by decide) ?_; intro _ _ _ _))
      | (guard_target =~ WO _ _ (Oper.mk _ (Op.store 51 _ _) _ _ _ none) _ _ _ _; first | (refine O_sts (by assumption) (by repeat (first | exact List.Mem.head _ | refine List.Mem.tail _ ?_)) (by omega) (by repeat (first | exact List.Mem.head _ | refine List.Mem.tail _ ?_)) ag51 rfl rfl (by first | omega | (simp only [csz]; omega)) (by first | exact laySub0 rfl rfl | exact laySub rfl rfl rfl | exact laySame (by decide)) rfl ?_; intro _ _)))
    exact E_ret rfl rfl rfl ⟨hMuE.trans (hS13.mu hSr.t.sz), rfl⟩
end Go.Proofs.Ygcsam
