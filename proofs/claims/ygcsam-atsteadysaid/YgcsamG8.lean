/-
  New, refused, cutScript. Own work.
-/
import Derived.Test.YgcsamG6
import Derived.Test.YgcsamG7
namespace Go.Proofs.Ygcsam
set_option linter.unusedVariables false
set_option linter.unusedSimpArgs false
set_option maxRecDepth 4000
section
variable {P : Program} {ops : Array Oper} {e : Bool} {K : Env → World → Prop} {ρ : Env} {w w0 : World} {d : Nat} {ty : TypeId} {pos : String} {af : Array Edge} {B : Nat} {L : List Fact} {M : List (Nat × Array Value)}
theorem O_alZ {t : Nat} (h : TS B w0 w L M) (hz : zchk P t = true) (k : ∀ w' b, Ext w w' → w.heap.size ≤ b → (∀ j, j < csz t → ∃ u, w'.cell? ⟨b, j, none⟩ = some u ∧ okZ (lay t j) u = true) → TS B w0 w' ((t, some ⟨b, 0, none⟩, 1, 1) :: L) M → K (put ρ d (.pointer (some ⟨b, 0, none⟩))) w') : WO P ops ⟨some d, .alloc t, ty, pos, af, none⟩ e K ρ w := by
  obtain ⟨v, h1, h2, h3⟩ := zchk.ok hz
  refine O_alloc h1 fun w' hE hs hb => k w' _ hE (Nat.le_refl _) (fun j hj => ?_) ((h.next hE (h.t.grow hE hs hb fun j u hj => ?_)).addL (Sl.new h.t.sz hb (by rw [h2, Nat.one_mul]) (Nat.le_refl _) (by omega)))
  · obtain ⟨u', e1, e2⟩ := h3 j hj
    exact ⟨u', by rw [hb.cellq, e1], e2⟩
  · have hj' : j < csz t := by have := get_lt hj; omega
    obtain ⟨u', e1, e2⟩ := h3 j hj'
    rw [e1] at hj; cases hj
    rw [Nat.mod_eq_of_lt hj']; exact okZ.ok e2
/-- A call that leaves a typed world. -/
theorem O_nw {f : FuncId} {args : Array Operand} {ats : Array TypeId} {l : List Value} {R : Value → World → Prop} (h : TS B w0 w L M) (hf : callable P f) (ha : args.toList.map (ev ρ) = l) (he : e = false) (hR : Ret P f l.toArray w fun v w' => Mu B w w' ∧ WT B w' ∧ R v w')
    (k : ∀ v w', R v w' → Mu B w w' → TS B w' w' L M → K (put ρ d v) w') : WO P ops ⟨some d, .call ⟨.value (.func f), args, ats⟩, ty, pos, af, none⟩ e K ρ w :=
  O_call hf ha (Ret.mono hR fun v w' ⟨h1, h2, h3⟩ => ⟨fun h => (by rw [he] at h; cases h), k v w' h3 h1 (h.renew h2 h1.shp)⟩)
/-- A load of a row of cells that are told at the base. -/
theorem O_ldR {t b : Nat} {cs : Array Value} {x : Operand} (h : TS B w0 w L M) (hm : (t, some ⟨b, 0, none⟩, 1, 1) ∈ L) (ht : aggT P t (csz t)) (hx : ev ρ x = .pointer (some ⟨b, 0, none⟩)) (hs : cs.size = csz t) (hcell : ∀ j, j < csz t → w0.cell? ⟨b, j, none⟩ = cs[j]?) (hlt : b < w0.heap.size)
    (kk : K (put ρ d (.agg cs)) w) : WO P ops ⟨some d, .load t x, ty, pos, af, none⟩ e K ρ w := by
  obtain ⟨hB, c, hb, hc⟩ := h.row hm
  refine O_load_agg ht hx hb (by omega) ?_
  rw [show c.extract 0 (0 + csz t) = cs from ?_]
  · exact kk
  · apply Array.ext_getElem?
    intro j
    rw [Array.getElem?_extract]
    by_cases hj : j < csz t
    · rw [if_pos (by omega), ← hcell j hj, ← cell_eqE h.e hlt, hb.cellq, Nat.zero_add]
    · rw [if_neg (by omega)]
      symm
      rw [Array.getElem?_eq_none]
      omega
theorem O_ldA {t m b o : Nat} {cs : Array Value} {x : Operand} (ht : aggT P t m) (hx : ev ρ x = .pointer (some ⟨b, o, none⟩)) (hs : cs.size = m) (hc : ∀ j, j < m → w.cell? ⟨b, o + j, none⟩ = cs[j]?) (k : K (put ρ d (.agg cs)) w) : WO P ops ⟨some d, .load t x, ty, pos, af, none⟩ e K ρ w :=
  O_read rfl (fun w' hw => by
    have h1 := run_loadCells_list (P := P) w' ⟨b, o, none⟩ cs.toList (fun j v hj => by
      rw [addr_add]
      rw [Array.getElem?_toList] at hj
      have hj' : j < m := by have := get_lt hj; omega
      exact cell_ext ((hc j hj').trans hj) hw)
    rw [Array.length_toList, hs, Array.toArray_toList] at h1
    simp [execOp, hx, Instr.loadAt, Instr.sureAddr, loadVar, run_isAgg_agg (P := P) (w := w') ht, run_sizeOf ht.2, h1]) k
end
theorem lay86p {o : Nat} (h1 : 2 ≤ o) (h2 : o < 8194) : lay 86 o = 3 := by
  simp only [lay]
  rw [if_neg (by omega), if_neg (by omega), if_pos (by omega)]
/-- A new vault. -/
theorem zv_V {B s : Nat} {w : World} (hs : Sl B w 86 (some ⟨s, 0, none⟩) 1 1) (h : ∀ j, j < csz 86 → ∃ u, w.cell? ⟨s, j, none⟩ = some u ∧ okZ (lay 86 j) u = true) : V B w s (zv (fun _ => 0) (fun _ => 0)) := by
  have hsl : ∀ (j t : Nat), j < csz 86 → lay 86 j = 100 + t → w.cell? ⟨s, j, none⟩ = some (.slice none 0 0) := fun j t hj hl => by
    obtain ⟨u, e1, e2⟩ := h j hj
    rw [hl] at e2
    rw [e1, okZS e2]
  have h3 : ∀ j, j < csz 86 → lay 86 j = 3 → w.cell? ⟨s, j, none⟩ = some (.int .i32 0) := fun j hj hl => by
    obtain ⟨u, e1, e2⟩ := h j hj
    rw [hl] at e2
    rw [e1, okZ_3 e2]
  have h2 : ∀ j, j < csz 86 → lay 86 j = 2 → w.cell? ⟨s, j, none⟩ = some (.int .u64 0) := fun j hj hl => by
    obtain ⟨u, e1, e2⟩ := h j hj
    rw [hl] at e2
    rw [e1, okZ_2 e2]
  have hz : csz 86 = 24584 := rfl
  exact {
    sV := hs
    acc := hsl 0 148 (by omega) rfl
    sA := Sl.nil _
    slo := hsl 1 153 (by omega) rfl
    sS := Sl.nil _
    jou := hsl 8194 178 (by omega) rfl
    sJ := Sl.nil _
    nmk := h3 24579 (by omega) rfl
    rf := h2 24580 (by omega) rfl
    log := hsl 24581 126 (by omega) rfl
    sL := Sl.nil _
    tem := hsl 24582 172 (by omega) rfl
    sT := Sl.nil _
    tta := hsl 24583 21 (by omega) rfl
    sH := Sl.nil _
    ata := fun p hp => h3 (2 + p) (by omega) (lay86p (by omega) (by omega))
    sta := fun p hp => h3 (4098 + p) (by omega) (lay86p (by omega) (by omega))
    mrk := fun i hi => absurd hi (Nat.not_lt_zero _)
    ba := fun b hb => by cases hb
    va := fun b hb => by cases hb
    og := fun b hb => by cases hb
    jk := fun b hb => by cases hb
    jat := fun b hb => by cases hb
    jnn := fun b hb => by cases hb
    jww := fun b hb => by cases hb }
theorem new_ok {B cap : Nat} {a : Option Addr} {ω : WA} {w : World} (hT : WT B w) (hA : AWB B w a cap ω) :
    Ret Samg.prog 11 #[.slice a ω.n cap] w fun v w' => Mu B w w' ∧ WT B w' ∧ ((¬ WOK ω ∧ v = .tuple #[.pointer none, .bool false]) ∨ (WOK ω ∧ ∃ s σ, v = .tuple #[.pointer (some ⟨s, 0, none⟩), .bool true] ∧ V B w' s σ ∧ VI σ)) := by
  refine W_enter (l := [_]) Samg.func11 rfl rfl rfl ?_
  have hS := TS.start hT
  repeat' (first
    | (refine L_cons ?_)
    | (refine R_cons rfl ?_)
    | (refine W_seq ?_)
    | (refine W_region (by kernel_rfl) ?_)
    | (refine L_nil ?_)
    | (refine R_nil ?_)
    | (refine W_block ?_)
    | (refine W_skip ?_)
    | (refine W_exit ?_)
    | (refine W_ret ?_)
    | (guard_target =~ thenQ _ _ _ _ _; first | (refine T_next ?_) | (refine T_exit ?_) | (refine T_ret ?_))
    | (guard_target =~ blockQ _ _ _ _ _; first | (refine B_next ?_) | (refine B_same ?_) | (refine B_other (by kernel_rfl) ?_) | (refine B_ret ?_))
    | (refine W_true rfl rfl ?_)
    | (refine W_false rfl rfl ?_)
    | (guard_target =~ WO _ _ (Oper.mk _ (Op.alloc 86) _ _ _ none) _ _ _ _; first | (refine O_alZ (by assumption) zc86 ?_; intro w1 s hx1 _ hz1 hS1; have hV := zv_V (hS1.slN (List.mem_cons_self ..)) hz1; have hMu := hx1.mu hT.sz; replace hA := hA.mu hMu) | (refine O_al (by assumption) zc86 (by decide) ?_; intro _ _ _ _))
    | (guard_target =~ WO _ _ (Oper.mk _ (Op.call (Call.mk (Callee.value (Operand.func 27)) _ _)) _ _ _ none) _ _ _ _; first | (refine O_nw (l := [.pointer (some ⟨s, 0, none⟩), .slice a ω.n cap]) hS1 cl27 rfl rfl (fill_ok hS1.t hV hA) ?_; rintro _ w2 ⟨p, rfl, hp1, hp2⟩ hMu2 hS2; cases p))
    | (guard_target =~ WO _ _ (Oper.mk _ (Op.assign _) _ _ _ none) _ _ _ _; first | (refine O_assign (v := (.int _ _)) rfl ?_) | (refine O_assign (v := (.bool _)) rfl ?_) | (refine O_assign (v := (.pointer _)) rfl ?_) | (refine O_assign (v := (.slice _ _ _)) rfl ?_) | (refine O_assign (v := (.agg _)) rfl ?_) | (refine O_assign (v := (.tuple _)) rfl ?_))
    | (guard_target =~ WO _ _ (Oper.mk _ (Op.move _) _ _ _ none) _ _ _ _; first | (refine O_move (v := (.int _ _)) rfl ?_) | (refine O_move (v := (.bool _)) rfl ?_) | (refine O_move (v := (.pointer _)) rfl ?_) | (refine O_move (v := (.slice _ _ _)) rfl ?_) | (refine O_move (v := (.agg _)) rfl ?_) | (refine O_move (v := (.tuple _)) rfl ?_))
    | (guard_target =~ WO _ _ (Oper.mk _ (Op.unOp _ _ _) _ _ _ none) _ _ _ _; first | (refine O_not rfl ?_)))
  · exact E_ret2 rfl rfl rfl rfl rfl ⟨hMu.trans hMu2, hS2.t, .inl ⟨fun h => absurd (hp1.2 h) Bool.false_ne_true, rfl⟩⟩
  · obtain ⟨σ', h1, h2⟩ := hp2 rfl
    exact E_ret2 rfl rfl rfl rfl rfl ⟨hMu.trans hMu2, hS2.t, .inr ⟨hp1.1 rfl, s, σ', rfl, h1, h2⟩⟩
theorem smodelNew_no {B cap : Nat} {a : Option Addr} {ω : WA} {w : World} (hT : WT B w) (hA : AW w a cap ω) (hno : ¬ WOK ω) : Rd B Samg.prog 30 [.slice a ω.n cap] w fun v w' => v = .tuple #[.pointer none, .bool false] := by
  refine W_enter (l := [_]) Samg.func30 rfl rfl rfl ?_
  have hS := TS.start hT
  repeat' (first
    | (refine L_cons ?_)
    | (refine R_cons rfl ?_)
    | (refine W_seq ?_)
    | (refine W_region (by kernel_rfl) ?_)
    | (refine L_nil ?_)
    | (refine R_nil ?_)
    | (refine W_block ?_)
    | (refine W_skip ?_)
    | (refine W_exit ?_)
    | (refine W_ret ?_)
    | (guard_target =~ thenQ _ _ _ _ _; first | (refine T_next ?_) | (refine T_exit ?_) | (refine T_ret ?_))
    | (guard_target =~ blockQ _ _ _ _ _; first | (refine B_next ?_) | (refine B_same ?_) | (refine B_other (by kernel_rfl) ?_) | (refine B_ret ?_))
    | (refine W_true rfl rfl ?_)
    | (refine W_false rfl rfl ?_)
    | (guard_target =~ WO _ _ (Oper.mk _ (Op.call (Call.mk (Callee.value (Operand.func 12)) _ _)) _ _ _ none) _ _ _ _; first | (refine O_rd (l := [.slice a ω.n cap]) (by assumption) cl12 rfl (worldOK_ok (TS.t (by assumption)) hA) ?_; rintro _ w1 ⟨pw, rfl, hpw⟩ hS1 _; obtain rfl : pw = false := Bool.eq_false_iff.2 (fun h => hno (hpw.1 h))))
    | (guard_target =~ WC _ _ (Code.region 7 _ true) _ _ _; first | (refine W_drawnT (id := 7) [12, 15, 17] [0, 1, 2, 3, 4, 5, 6, 7, 8, 9, 10, 11, 13, 14, 12, 15, 16, 17, 18, 19, 20, 21, 22] mixed (by kernel_rfl) (by kernel_rfl) (by assumption) ?_; intro _ _ _))
    | (guard_target =~ WC _ _ (Code.region 12 _ true) _ _ _; first | (refine W_drawnT (id := 12) [10, 14] [0, 1, 2, 3, 4, 5, 6, 7, 8, 9, 11, 12, 10, 13, 14, 15, 16, 17, 18, 19] mixed (by kernel_rfl) (by kernel_rfl) (by assumption) ?_; intro _ _ _))
    | (guard_target =~ WO _ _ (Oper.mk _ (Op.assign _) _ _ _ none) _ _ _ _; first | (refine O_assign (v := (.int _ _)) rfl ?_) | (refine O_assign (v := (.bool _)) rfl ?_) | (refine O_assign (v := (.pointer _)) rfl ?_) | (refine O_assign (v := (.slice _ _ _)) rfl ?_) | (refine O_assign (v := (.agg _)) rfl ?_) | (refine O_assign (v := (.tuple _)) rfl ?_))
    | (guard_target =~ WO _ _ (Oper.mk _ (Op.move _) _ _ _ none) _ _ _ _; first | (refine O_move (v := (.int _ _)) rfl ?_) | (refine O_move (v := (.bool _)) rfl ?_) | (refine O_move (v := (.pointer _)) rfl ?_) | (refine O_move (v := (.slice _ _ _)) rfl ?_) | (refine O_move (v := (.agg _)) rfl ?_) | (refine O_move (v := (.tuple _)) rfl ?_))
    | (guard_target =~ WO _ _ (Oper.mk _ (Op.unOp _ _ _) _ _ _ none) _ _ _ _; first | (refine O_not rfl ?_))
    | (guard_target =~ WO _ _ (Oper.mk _ (Op.alloc 161) _ _ _ none) _ _ _ _; first | (refine O_al (by assumption) zc161 (by decide) ?_; intro _ _ _ _))
    | (guard_target =~ WO _ _ (Oper.mk _ (Op.call _) _ _ _ none) _ _ _ _; first | (refine O_len Samg.underlying35 rfl rfl ?_) | (refine O_len Samg.underlying88 rfl rfl ?_))
    | (guard_target =~ WO _ _ (Oper.mk _ (Op.binOp BinOp.lss 3 _ _ _) _ _ _ none) _ _ _ _; first | (first | (refine O_lssS rfl rfl (fun h => absurd h (by omega)) ?_; intro _) | (refine O_lssS rfl rfl ?_ (fun h => absurd h (by omega)); intro _) | (refine O_lssS rfl rfl ?_ ?_ <;> intro _)))
    | (guard_target =~ WO _ _ (Oper.mk _ (Op.indexAddr 35 _ _) _ _ _ none) _ _ _ _; first | (refine O_ixK (by assumption) (by repeat (first | exact List.Mem.head _ | refine List.Mem.tail _ ?_)) sl35 rfl rfl (by omega) (by omega) ?_; rintro _ _ _) | (refine O_ixN (by assumption) (by repeat (first | exact List.Mem.head _ | refine List.Mem.tail _ ?_)) sl35 rfl rfl (by omega) (by omega) ?_; rintro _ _ _ _ _ _))
    | (guard_target =~ WO _ _ (Oper.mk _ (Op.load 90 _) _ _ _ none) _ _ _ _; first | (refine O_lda (by assumption) (by repeat (first | exact List.Mem.head _ | refine List.Mem.tail _ ?_)) ag90 rfl (by first | omega | (simp only [csz]; omega)) (by first | exact laySub0 rfl rfl | exact laySub rfl rfl rfl | exact laySame (by decide)) ?_; intro _ _ _))
    | (guard_target =~ WO _ _ (Oper.mk _ (Op.alloc 90) _ _ _ none) _ _ _ _; first | (refine O_al (by assumption) zc90 (by decide) ?_; intro _ _ _ _))
    | (guard_target =~ WO _ _ (Oper.mk _ (Op.store 90 _ _) _ _ _ none) _ _ _ _; first | (refine O_sts (by assumption) (by repeat (first | exact List.Mem.head _ | refine List.Mem.tail _ ?_)) (by omega) (by repeat (first | exact List.Mem.head _ | refine List.Mem.tail _ ?_)) ag90 rfl rfl (by first | omega | (simp only [csz]; omega)) (by first | exact laySub0 rfl rfl | exact laySub rfl rfl rfl | exact laySame (by decide)) rfl ?_; intro _ _))
    | (guard_target =~ WO _ _ (Oper.mk _ (Op.nilCheck _) _ _ _ none) _ _ _ _; first | (refine O_nil rfl ?_))
    | (guard_target =~ WO _ _ (Oper.mk _ (Op.fieldAddr 161 _ 0) _ _ _ none) _ _ _ _; first | (refine O_fdT fd161_0 (by decide) rfl ?_) | (refine O_field fd161_0 (by decide) rfl ?_))
    | (guard_target =~ WO _ _ (Oper.mk _ (Op.fieldAddr 158 _ 0) _ _ _ none) _ _ _ _; first | (refine O_fdT fd158_0 (by decide) rfl ?_) | (refine O_field fd158_0 (by decide) rfl ?_))
    | (guard_target =~ WO _ _ (Oper.mk _ (Op.load 154 _) _ _ _ none) _ _ _ _; first | (refine O_lds (t' := 162) (by assumption) (by repeat (first | exact List.Mem.head _ | refine List.Mem.tail _ ?_)) on154 rfl (by first | omega | (simp only [csz]; omega)) (by first | rfl | exact layMod rfl rfl) ?_; intro _ _ _ _ _ _))
    | (guard_target =~ WO _ _ (Oper.mk _ (Op.fieldAddr 90 _ 0) _ _ _ none) _ _ _ _; first | (refine O_fdT fd90_0 (by decide) rfl ?_) | (refine O_field fd90_0 (by decide) rfl ?_))
    | (guard_target =~ WO _ _ (Oper.mk _ (Op.load 24 _) _ _ _ none) _ _ _ _; first | (refine O_ldn8 (by assumption) (by repeat (first | exact List.Mem.head _ | refine List.Mem.tail _ ?_)) ag24 rfl (by first | omega | (simp only [csz]; omega)) (by first | exact layRun0 rfl rfl | exact layRun rfl rfl rfl) ?_; intro _ _))
    | (guard_target =~ WO _ _ (Oper.mk _ (Op.fieldAddr 90 _ 1) _ _ _ none) _ _ _ _; first | (refine O_fdT fd90_1 (by decide) rfl ?_) | (refine O_field fd90_1 (by decide) rfl ?_))
    | (guard_target =~ WO _ _ (Oper.mk _ (Op.load 27 _) _ _ _ none) _ _ _ _; first | (refine O_ld64 (by assumption) (by repeat (first | exact List.Mem.head _ | refine List.Mem.tail _ ?_)) on27 rfl (by first | omega | (simp only [csz]; omega)) (by first | rfl | exact layMod rfl rfl) ?_; intro _ _))
    | (guard_target =~ WO _ _ (Oper.mk _ (Op.fieldAddr 90 _ 2) _ _ _ none) _ _ _ _; first | (refine O_fdT fd90_2 (by decide) rfl ?_) | (refine O_field fd90_2 (by decide) rfl ?_))
    | (guard_target =~ WO _ _ (Oper.mk _ (Op.load 87 _) _ _ _ none) _ _ _ _; first | (refine O_ldn8 (by assumption) (by repeat (first | exact List.Mem.head _ | refine List.Mem.tail _ ?_)) ag87 rfl (by first | omega | (simp only [csz]; omega)) (by first | exact layRun0 rfl rfl | exact layRun rfl rfl rfl) ?_; intro _ _))
    | (guard_target =~ WO _ _ (Oper.mk _ (Op.fieldAddr 90 _ 3) _ _ _ none) _ _ _ _; first | (refine O_fdT fd90_3 (by decide) rfl ?_) | (refine O_field fd90_3 (by decide) rfl ?_))
    | (guard_target =~ WO _ _ (Oper.mk _ (Op.load 31 _) _ _ _ none) _ _ _ _; first | (refine O_lds (t' := 5) (by assumption) (by repeat (first | exact List.Mem.head _ | refine List.Mem.tail _ ?_)) on31 rfl (by first | omega | (simp only [csz]; omega)) (by first | rfl | exact layMod rfl rfl) ?_; intro _ _ _ _ _ _))
    | (guard_target =~ WO _ _ (Oper.mk _ (Op.build 162 #[(0, _), (1, _), (2, _), (3, _)]) _ _ _ none) _ _ _ _; first | (refine O_bd (l := [(0, .agg (ns .u8 20 _)), (1, .int .u64 (Nat.cast _)), (2, .agg (ns .u64 4 _)), (3, .slice _ _ _)]) (by assumption) st162 zc162 rfl ⟨_, _, rfl, rfl, rfl, ⟨_, _, rfl, rfl, rfl, ⟨_, _, rfl, rfl, rfl, ⟨_, _, rfl, rfl, rfl, rfl⟩⟩⟩⟩ ⟨run8_ok (by assumption) rfl, ⟨one_ok (c' := 2) rfl (ok64 (by omega)), ⟨run64_ok (by assumption) rfl, ⟨one_ok (c' := 100 + 5) rfl (okS (by first | exact Sl.nil _ | exact TS.slN (by assumption) (by repeat (first | exact List.Mem.head _ | refine List.Mem.tail _ ?_)))), trivial⟩⟩⟩⟩ ?_; intro _ _ _))
    | (guard_target =~ WO _ _ (Oper.mk _ (Op.buildSlice 154 1 _) _ _ _ none) _ _ _ _; first | (refine O_one (v := .agg _) (by assumption) sl154 zc162 (by decide) rfl rfl (TS.okA (t := 162) (by assumption) (by repeat (first | exact List.Mem.head _ | refine List.Mem.tail _ ?_))).1 (TS.okA (t := 162) (by assumption) (by repeat (first | exact List.Mem.head _ | refine List.Mem.tail _ ?_))).2 ?_; intro _ _ _ _ _ _ _))
    | (guard_target =~ WO _ _ (Oper.mk _ (Op.store 154 _ _) _ _ _ none) _ _ _ _; first | (refine O_st (by assumption) (by repeat (first | exact List.Mem.head _ | refine List.Mem.tail _ ?_)) (by omega) on154 rfl rfl (by first | omega | (simp only [csz]; omega)) (okp (c' := 100 + 162) (by first | rfl | exact layMod rfl rfl) (okS (by first | exact Sl.nil _ | exact TS.slN (by assumption) (by repeat (first | exact List.Mem.head _ | refine List.Mem.tail _ ?_))))) rfl ?_; intro _ _))
    | (guard_target =~ WO _ _ (Oper.mk _ (Op.fieldAddr 90 _ 4) _ _ _ none) _ _ _ _; first | (refine O_fdT fd90_4 (by decide) rfl ?_) | (refine O_field fd90_4 (by decide) rfl ?_))
    | (guard_target =~ WO _ _ (Oper.mk _ (Op.load 88 _) _ _ _ none) _ _ _ _; first | (refine O_lds (t' := 150) (by assumption) (by repeat (first | exact List.Mem.head _ | refine List.Mem.tail _ ?_)) on88 rfl (by first | omega | (simp only [csz]; omega)) (by first | rfl | exact layMod rfl rfl) ?_; intro _ _ _ _ _ _))
    | (guard_target =~ WO _ _ (Oper.mk _ (Op.indexAddr 88 _ _) _ _ _ none) _ _ _ _; first | (refine O_ixK (by assumption) (by repeat (first | exact List.Mem.head _ | refine List.Mem.tail _ ?_)) sl88 rfl rfl (by omega) (by omega) ?_; rintro _ _ _) | (refine O_ixN (by assumption) (by repeat (first | exact List.Mem.head _ | refine List.Mem.tail _ ?_)) sl88 rfl rfl (by omega) (by omega) ?_; rintro _ _ _ _ _ _))
    | (guard_target =~ WO _ _ (Oper.mk _ (Op.load 150 _) _ _ _ none) _ _ _ _; first | (refine O_lda (by assumption) (by repeat (first | exact List.Mem.head _ | refine List.Mem.tail _ ?_)) ag150 rfl (by first | omega | (simp only [csz]; omega)) (by first | exact laySub0 rfl rfl | exact laySub rfl rfl rfl | exact laySame (by decide)) ?_; intro _ _ _))
    | (guard_target =~ WO _ _ (Oper.mk _ (Op.alloc 150) _ _ _ none) _ _ _ _; first | (refine O_al (by assumption) zc150 (by decide) ?_; intro _ _ _ _))
    | (guard_target =~ WO _ _ (Oper.mk _ (Op.store 150 _ _) _ _ _ none) _ _ _ _; first | (refine O_sts (by assumption) (by repeat (first | exact List.Mem.head _ | refine List.Mem.tail _ ?_)) (by omega) (by repeat (first | exact List.Mem.head _ | refine List.Mem.tail _ ?_)) ag150 rfl rfl (by first | omega | (simp only [csz]; omega)) (by first | exact laySub0 rfl rfl | exact laySub rfl rfl rfl | exact laySame (by decide)) rfl ?_; intro _ _))
    | (guard_target =~ WO _ _ (Oper.mk _ (Op.fieldAddr 150 _ 1) _ _ _ none) _ _ _ _; first | (refine O_fdT fd150_1 (by decide) rfl ?_) | (refine O_field fd150_1 (by decide) rfl ?_))
    | (guard_target =~ WO _ _ (Oper.mk _ (Op.alloc 45) _ _ _ none) _ _ _ _; first | (refine O_al (by assumption) zc45 (by decide) ?_; intro _ _ _ _))
    | (guard_target =~ WO _ _ (Oper.mk _ (Op.store 45 _ _) _ _ _ none) _ _ _ _; first | (refine O_stn64 (by assumption) (by repeat (first | exact List.Mem.head _ | refine List.Mem.tail _ ?_)) (by omega) ag45 rfl rfl (by assumption) (by first | omega | (simp only [csz]; omega)) (by first | exact layRun0 rfl rfl | exact layRun rfl rfl rfl) rfl ?_; intro _ _))
    | (guard_target =~ WO _ _ (Oper.mk _ (Op.fieldAddr 158 _ 1) _ _ _ none) _ _ _ _; first | (refine O_fdT fd158_1 (by decide) rfl ?_) | (refine O_field fd158_1 (by decide) rfl ?_))
    | (guard_target =~ WO _ _ (Oper.mk _ (Op.load 155 _) _ _ _ none) _ _ _ _; first | (refine O_lds (t' := 164) (by assumption) (by repeat (first | exact List.Mem.head _ | refine List.Mem.tail _ ?_)) on155 rfl (by first | omega | (simp only [csz]; omega)) (by first | rfl | exact layMod rfl rfl) ?_; intro _ _ _ _ _ _))
    | (guard_target =~ WO _ _ (Oper.mk _ (Op.fieldAddr 150 _ 0) _ _ _ none) _ _ _ _; first | (refine O_fdT fd150_0 (by decide) rfl ?_) | (refine O_field fd150_0 (by decide) rfl ?_))
    | (guard_target =~ WO _ _ (Oper.mk _ (Op.load 45 _) _ _ _ none) _ _ _ _; first | (refine O_ldn64 (by assumption) (by repeat (first | exact List.Mem.head _ | refine List.Mem.tail _ ?_)) ag45 rfl (by first | omega | (simp only [csz]; omega)) (by first | exact layRun0 rfl rfl | exact layRun rfl rfl rfl) ?_; intro _ _))
    | (guard_target =~ WO _ _ (Oper.mk _ (Op.build 164 #[(0, _), (1, _), (2, _), (3, _)]) _ _ _ none) _ _ _ _; first | (refine O_bd (l := [(0, .agg (ns .u8 20 _)), (1, .agg (ns .u64 4 _)), (2, .agg (ns .u64 4 _)), (3, .agg (ns .u64 4 _))]) (by assumption) st164 zc164 rfl ⟨_, _, rfl, rfl, rfl, ⟨_, _, rfl, rfl, rfl, ⟨_, _, rfl, rfl, rfl, ⟨_, _, rfl, rfl, rfl, rfl⟩⟩⟩⟩ ⟨run8_ok (by assumption) rfl, ⟨run64_ok (by assumption) rfl, ⟨run64_ok (by assumption) rfl, ⟨run64_ok (by assumption) rfl, trivial⟩⟩⟩⟩ ?_; intro _ _ _))
    | (guard_target =~ WO _ _ (Oper.mk _ (Op.buildSlice 155 1 _) _ _ _ none) _ _ _ _; first | (refine O_one (v := .agg _) (by assumption) sl155 zc164 (by decide) rfl rfl (TS.okA (t := 164) (by assumption) (by repeat (first | exact List.Mem.head _ | refine List.Mem.tail _ ?_))).1 (TS.okA (t := 164) (by assumption) (by repeat (first | exact List.Mem.head _ | refine List.Mem.tail _ ?_))).2 ?_; intro _ _ _ _ _ _ _))
    | (guard_target =~ WO _ _ (Oper.mk _ (Op.store 155 _ _) _ _ _ none) _ _ _ _; first | (refine O_st (by assumption) (by repeat (first | exact List.Mem.head _ | refine List.Mem.tail _ ?_)) (by omega) on155 rfl rfl (by first | omega | (simp only [csz]; omega)) (okp (c' := 100 + 164) (by first | rfl | exact layMod rfl rfl) (okS (by first | exact Sl.nil _ | exact TS.slN (by assumption) (by repeat (first | exact List.Mem.head _ | refine List.Mem.tail _ ?_))))) rfl ?_; intro _ _))
    | (guard_target =~ WO _ _ (Oper.mk _ (Op.binOp BinOp.add 3 _ _ _) _ _ _ none) _ _ _ _; first | (refine O_addZ rfl rfl (by simp only [rngZ]; omega) ?_)))
  exact E_ret2T hS1 rfl rfl rfl rfl rfl rfl
theorem refused_ok {B cap : Nat} {a : Option Addr} {ω : WA} {w : World} (hT : WT B w) (hA : AWB B w a cap ω) (hno : ¬ WOK ω) :
    Ret Samg.prog 13 #[.slice a ω.n cap] w fun v w' => Mu B w w' ∧ WT B w' ∧ v = .bool true := by
  refine W_enter (l := [_]) Samg.func13 rfl rfl rfl ?_
  have hS := TS.start hT
  repeat' (first
    | (refine L_cons ?_)
    | (refine R_cons rfl ?_)
    | (refine W_seq ?_)
    | (refine W_region (by kernel_rfl) ?_)
    | (refine L_nil ?_)
    | (refine R_nil ?_)
    | (refine W_block ?_)
    | (refine W_skip ?_)
    | (refine W_exit ?_)
    | (refine W_ret ?_)
    | (guard_target =~ thenQ _ _ _ _ _; first | (refine T_next ?_) | (refine T_exit ?_) | (refine T_ret ?_))
    | (guard_target =~ blockQ _ _ _ _ _; first | (refine B_next ?_) | (refine B_same ?_) | (refine B_other (by kernel_rfl) ?_) | (refine B_ret ?_))
    | (refine W_true rfl rfl ?_)
    | (refine W_false rfl rfl ?_)
    | (guard_target =~ WO _ _ (Oper.mk _ (Op.call (Call.mk (Callee.value (Operand.func 11)) _ _)) _ _ _ none) _ _ _ _; first | (refine O_nw (l := [.slice a ω.n cap]) hS cl11 rfl rfl (new_ok hT hA) ?_; rintro _ w1 (⟨_, rfl⟩ | ⟨h, _⟩) hMu1 hS1; rotate_left; exact absurd h hno; replace hA := hA.mu hMu1))
    | (guard_target =~ WO _ _ (Oper.mk _ (Op.call (Call.mk (Callee.value (Operand.func 30)) _ _)) _ _ _ none) _ _ _ _; first | (refine O_rd (l := [.slice a ω.n cap]) (by assumption) cl30 rfl (smodelNew_no hS1.t hA.aw hno) ?_; rintro _ w2 rfl hS2 hx2))
    | (guard_target =~ WO _ _ (Oper.mk _ (Op.binOp BinOp.eql 39 _ _ _) _ _ _ none) _ _ _ _; first | (refine O_peql Samg.underlying39 rfl rfl ?_))
    | (guard_target =~ WO _ _ (Oper.mk _ (Op.binOp BinOp.eql 95 _ _ _) _ _ _ none) _ _ _ _; first | (refine O_peql Samg.underlying95 rfl rfl ?_))
    | (guard_target =~ WO _ _ (Oper.mk _ _ _ _ _ (some _)) _ _ _ _; first | (refine G_yes rfl ?_) | (refine G_no rfl ?_))
    | (guard_target =~ WO _ _ (Oper.mk _ (Op.assign _) _ _ _ none) _ _ _ _; first | (refine O_assign (v := (.int _ _)) rfl ?_) | (refine O_assign (v := (.bool _)) rfl ?_) | (refine O_assign (v := (.pointer _)) rfl ?_) | (refine O_assign (v := (.slice _ _ _)) rfl ?_) | (refine O_assign (v := (.agg _)) rfl ?_) | (refine O_assign (v := (.tuple _)) rfl ?_))
    | (guard_target =~ WO _ _ (Oper.mk _ (Op.move _) _ _ _ none) _ _ _ _; first | (refine O_move (v := (.int _ _)) rfl ?_) | (refine O_move (v := (.bool _)) rfl ?_) | (refine O_move (v := (.pointer _)) rfl ?_) | (refine O_move (v := (.slice _ _ _)) rfl ?_) | (refine O_move (v := (.agg _)) rfl ?_) | (refine O_move (v := (.tuple _)) rfl ?_))
    | (guard_target =~ WO _ _ (Oper.mk _ (Op.extract _ _) _ _ _ none) _ _ _ _; first | (refine O_extract rfl rfl ?_))
    | (guard_target =~ WO _ _ (Oper.mk _ (Op.unOp _ _ _) _ _ _ none) _ _ _ _; first | (refine O_not rfl ?_))
    | (guard_target =~ WO _ _ (Oper.mk _ (Op.pick _ _ _) _ _ _ none) _ _ _ _; first | (refine O_pick_t (v := (.bool _)) rfl rfl ?_) | (refine O_pick_f (v := (.bool _)) rfl rfl ?_)))
  exact E_ret rfl rfl rfl ⟨hMu1.trans (hS2.mu hS1.t.sz), hS2.t, rfl⟩
end Go.Proofs.Ygcsam
