/-
  SMALL FUNCTIONS: sums, comparisons, bytes. Own work.
-/
import Derived.Test.YgcsamS1
namespace Go.Proofs.Ygcsam
set_option linter.unusedVariables false
set_option linter.unusedSimpArgs false
set_option maxRecDepth 4000
section
variable {P : Program} {ops : Array Oper} {e : Bool} {K : Env → World → Prop} {Q : Exit → Env → World → Prop} {ρ : Env} {w w0 : World} {d : Nat} {ty : TypeId} {pos : String} {af : Array Edge} {n B : Nat} {L : List Fact} {M : List (Nat × Array Value)}
theorem E_ct {fn : Func} {R : Value → World → Prop} {t T t' s b o : Nat} {c : Array Value} {tb : TypeId} {v : Value} (hr : fn.results = #[.cell t T, .tmp t']) (ht : Nat.blt t n = true) (ht' : Nat.blt t' n = true) (hT : aggT P T s) (hv : ρ t = .pointer (some ⟨b, o, none⟩)) (hb : Blk w b c tb) (hs : o + s ≤ c.size) (hv' : ρ t' = v) (h : R (.tuple #[.agg (c.extract o (o + s)), v]) w) : bodyQ P n fn R .ret ρ w := by
  have h1 := Fr_getD (ρ := ρ) ht
  have h1' := Fr_getD (ρ := ρ) ht'
  rw [Array.getD_eq_getD_getElem?] at h1 h1'
  have h2 := run_load_agg (P := P) hT hb hs
  simp only [Instr.loadAt, Instr.sureAddr] at h2
  have h3 : (loadVar T ⟨b, o, none⟩).run P w = .ok (.agg (c.extract o (o + s))) w := by simpa using h2
  refine ⟨_, ?_, h⟩
  simp [results, hr, h1, h1', hv, hv', asAddr, h3]
theorem E_ct64T {fn : Func} {R : Value → World → Prop} {t T t' m b : Nat} {v : Value} (h : TS B w0 w L M) (hr : fn.results = #[.cell t T, .tmp t']) (ht : Nat.blt t n = true) (ht' : Nat.blt t' n = true) (hT : aggT P T m) (hc : csz T = m) (hrun : runB T 0 m 2 = true) (hv : ρ t = .pointer (some ⟨b, 0, none⟩)) (hm : (T, some ⟨b, 0, none⟩, 1, 1) ∈ L) (hv' : ρ t' = v)
    (k : ∀ g : Nat → Nat, (∀ i, g i < 18446744073709551616) → R (.tuple #[.agg (ns .u64 m g), v]) w) : bodyQ P n fn (fun v w' => Ext w0 w' ∧ WT B w' ∧ R v w') .ret ρ w := by
  obtain ⟨hB, c, hb, hs⟩ := h.row hm
  rw [Nat.one_mul, hc] at hs
  have hx : c.extract 0 (0 + m) = c := by
    apply Array.ext
    · simp; omega
    · intro i h1 h2; simp
  obtain ⟨g, rfl, hg⟩ := row64 (B := B) (w := w) hs (fun o v hv => by
    have ho : o < m := by have := get_lt hv; omega
    have := h.t.ok b c T hB hb o v hv
    rw [hc, Nat.mod_eq_of_lt ho, show lay T o = 2 by have := Nat.eq_of_beq_eq_true (List.all_eq_true.1 hrun o (List.mem_range.2 ho)); rw [Nat.zero_add] at this; exact this] at this
    exact this)
  exact E_ct hr ht ht' hT hv hb (by omega) hv' ⟨h.e, h.t, by rw [hx]; exact k g hg⟩
theorem O_bxB {t : Nat} {v : Value} {x : Operand} (h : TS B w0 w L M) (hx : ev ρ x = v) (hs : v.cells.size = csz t) (hv : ∀ j u, v.cells[j]? = some u → okV B w (lay t j) u) (k : ∀ w' b, Ext w w' → w.heap.size ≤ b → w0.heap.size ≤ b → Blk w' b v.cells t → TS B w0 w' ((t, some ⟨b, 0, none⟩, 1, 1) :: L) M → K (put ρ d (.pointer (some ⟨b, 0, none⟩))) w') : WO P ops ⟨some d, .box t x, ty, pos, af, none⟩ e K ρ w := by
  refine O_box hx fun w' hE hs' hb => k w' _ hE (Nat.le_refl _) h.e.size hb ((h.next hE (h.t.grow hE hs' hb fun j u hj => ?_)).addL (Sl.new h.t.sz hb (by rw [hs, Nat.one_mul]) (Nat.le_refl _) (by omega)))
  have hj' : j < csz t := by have := get_lt hj; omega
  rw [Nat.mod_eq_of_lt hj']; exact hv j u hj
theorem O_alB {t : Nat} {z : Value} (h : TS B w0 w L M) (hz : zeroT P t z) (hs : z.cells.size = csz t) (hv : ∀ j u, z.cells[j]? = some u → okV B w (lay t j) u) (k : ∀ w' b, Ext w w' → w.heap.size ≤ b → w0.heap.size ≤ b → Blk w' b z.cells t → TS B w0 w' ((t, some ⟨b, 0, none⟩, 1, 1) :: L) M → K (put ρ d (.pointer (some ⟨b, 0, none⟩))) w') : WO P ops ⟨some d, .alloc t, ty, pos, af, none⟩ e K ρ w := by
  refine O_alloc hz fun w' hE hs' hb => k w' _ hE (Nat.le_refl _) h.e.size hb ((h.next hE (h.t.grow hE hs' hb fun j u hj => ?_)).addL (Sl.new h.t.sz hb (by rw [hs, Nat.one_mul]) (Nat.le_refl _) (by omega)))
  have hj' : j < csz t := by have := get_lt hj; omega
  rw [Nat.mod_eq_of_lt hj']; exact hv j u hj
end

theorem sub64T {x y c : Nat} (hc : c ≤ 1) (w : World) : Ret Samg.prog 125 #[.int .u64 ((x : Nat) : Int), .int .u64 ((y : Nat) : Int), .int .u64 ((c : Nat) : Int)] w fun v w' => ∃ z d : Nat, z < 18446744073709551616 ∧ d ≤ 1 ∧ v = .tuple #[.int .u64 ((z : Nat) : Int), .int .u64 ((d : Nat) : Int)] ∧ w' = w :=
  (sub64_ok hc w).mono fun v w' ⟨h1, h2⟩ => ⟨_, _, Nat.mod_lt _ (by omega), by split <;> omega, h1, h2⟩
theorem subUnder_ok {B : Nat} {f g : Nat → Nat} {w : World} (hT : WT B w) (hf : ∀ i, f i < 18446744073709551616) (hg : ∀ i, g i < 18446744073709551616) : Rd B Samg.prog 148 [.agg (ns .u64 4 f), .agg (ns .u64 4 g)] w fun v w' => ∃ (h : Nat → Nat) (p : Bool), (∀ i, h i < 18446744073709551616) ∧ v = .tuple #[.agg (ns .u64 4 h), .bool p] := by
  refine W_enter (l := [_, _]) Samg.func148 rfl rfl rfl ?_
  have hS := TS.start hT
  repeat' (first
    | (refine L_cons ?_)
    | (refine R_cons rfl ?_)
    | (refine W_seq ?_)
    | (refine W_region (by kernel_rfl) ?_)
    | (refine L_nil ?_)
    | (refine R_nil ?_)
    | (refine W_block ?_)
    | (refine W_skip ?_)
    | (refine W_exit ?_)
    | (refine W_ret ?_)
    | (guard_target =~ thenQ _ _ _ _ _; first | (refine T_next ?_) | (refine T_exit ?_) | (refine T_ret ?_))
    | (guard_target =~ blockQ _ _ _ _ _; first | (refine B_next ?_) | (refine B_same ?_) | (refine B_other (by kernel_rfl) ?_) | (refine B_ret ?_))
    | (refine W_true rfl rfl ?_)
    | (refine W_false rfl rfl ?_)
    | (guard_target =~ WO _ _ (Oper.mk _ (Op.call (Call.mk (Callee.value (Operand.func 125)) #[_, _, Operand.const _] _)) _ _ _ none) _ _ _ _; first | (refine O_call (l := [.int .u64 (Nat.cast _), .int .u64 (Nat.cast _), .int .u64 ((0 : Nat) : Int)]) cl125 rfl (Ret.mono (sub64T (by omega) _) ?_); rintro _ _ ⟨_, _, _, _, rfl, rfl⟩; refine ⟨nof, ?_⟩))
    | (guard_target =~ WO _ _ (Oper.mk _ (Op.call (Call.mk (Callee.value (Operand.func 125)) _ _)) _ _ _ none) _ _ _ _; first | (refine O_call (l := [.int .u64 (Nat.cast _), .int .u64 (Nat.cast _), .int .u64 (Nat.cast _)]) cl125 rfl (Ret.mono (sub64T (by omega) _) ?_); rintro _ _ ⟨_, _, _, _, rfl, rfl⟩; refine ⟨nof, ?_⟩))
    | (guard_target =~ WO _ _ (Oper.mk _ (Op.box 45 _) _ _ _ none) _ _ _ _; first | (refine O_bx64 (by assumption) rfl (by assumption) rfl rfl ?_; intro _ _ _ _))
    | (guard_target =~ WO _ _ (Oper.mk _ (Op.alloc 45) _ _ _ none) _ _ _ _; first | (refine O_al (by assumption) zc45 (by decide) ?_; intro _ _ _ _))
    | (guard_target =~ WO _ _ (Oper.mk _ (Op.assign _) _ _ _ none) _ _ _ _; first | (refine O_assign (v := (.int _ _)) rfl ?_) | (refine O_assign (v := (.bool _)) rfl ?_) | (refine O_assign (v := (.pointer _)) rfl ?_) | (refine O_assign (v := (.slice _ _ _)) rfl ?_) | (refine O_assign (v := (.agg _)) rfl ?_) | (refine O_assign (v := (.tuple _)) rfl ?_))
    | (guard_target =~ WO _ _ (Oper.mk _ (Op.indexAddr 45 _ (Operand.const (Value.int _ 0))) _ _ _ none) _ _ _ _; first | (refine O_index1 (m := 0) ar45 rfl rfl (by omega) ?_))
    | (guard_target =~ WO _ _ (Oper.mk _ (Op.load 27 _) _ _ _ none) _ _ _ _; first | (refine O_ld64 (by assumption) (by repeat (first | exact List.Mem.head _ | refine List.Mem.tail _ ?_)) on27 rfl (by first | omega | (simp only [csz]; omega)) (by first | rfl | exact layMod rfl rfl) ?_; intro _ _))
    | (guard_target =~ WO _ _ (Oper.mk _ (Op.move _) _ _ _ none) _ _ _ _; first | (refine O_move (v := (.int _ _)) rfl ?_) | (refine O_move (v := (.bool _)) rfl ?_) | (refine O_move (v := (.pointer _)) rfl ?_) | (refine O_move (v := (.slice _ _ _)) rfl ?_) | (refine O_move (v := (.agg _)) rfl ?_) | (refine O_move (v := (.tuple _)) rfl ?_))
    | (guard_target =~ WO _ _ (Oper.mk _ (Op.extract _ _) _ _ _ none) _ _ _ _; first | (refine O_extract rfl rfl ?_))
    | (guard_target =~ WO _ _ (Oper.mk _ (Op.indexAddr 45 _ (Operand.const (Value.int _ 1))) _ _ _ none) _ _ _ _; first | (refine O_index1 (m := 1) ar45 rfl rfl (by omega) ?_))
    | (guard_target =~ WO _ _ (Oper.mk _ (Op.indexAddr 45 _ (Operand.const (Value.int _ 2))) _ _ _ none) _ _ _ _; first | (refine O_index1 (m := 2) ar45 rfl rfl (by omega) ?_))
    | (guard_target =~ WO _ _ (Oper.mk _ (Op.indexAddr 45 _ (Operand.const (Value.int _ 3))) _ _ _ none) _ _ _ _; first | (refine O_index1 (m := 3) ar45 rfl rfl (by omega) ?_))
    | (guard_target =~ WO _ _ (Oper.mk _ (Op.build 45 #[(0, _), (1, _), (2, _), (3, _)]) _ _ _ none) _ _ _ _; first | (refine O_bdn64 (l := [(0, .int .u64 (Nat.cast _)), (1, .int .u64 (Nat.cast _)), (2, .int .u64 (Nat.cast _)), (3, .int .u64 (Nat.cast _))]) (by assumption) ar45 zc45 rfl rfl rfl ⟨_, _, rfl, rfl, rfl, ⟨_, _, rfl, rfl, rfl, ⟨_, _, rfl, rfl, rfl, ⟨_, _, rfl, rfl, rfl, rfl⟩⟩⟩⟩ ⟨one_ok (c' := 2) rfl (ok64 (by omega)), ⟨one_ok (c' := 2) rfl (ok64 (by omega)), ⟨one_ok (c' := 2) rfl (ok64 (by omega)), ⟨one_ok (c' := 2) rfl (ok64 (by omega)), trivial⟩⟩⟩⟩ ?_; intro _ _))
    | (guard_target =~ WO _ _ (Oper.mk _ (Op.binOp BinOp.neq 27 _ _ _) _ _ _ none) _ _ _ _; first | (first | (refine O_neqS rfl rfl (fun h => absurd h (by omega)) ?_; intro _) | (refine O_neqS rfl rfl ?_ (fun h => absurd h (by omega)); intro _) | (refine O_neqS rfl rfl ?_ ?_ <;> intro _)))
    | (guard_target =~ WO _ _ (Oper.mk _ (Op.store 45 _ _) _ _ _ none) _ _ _ _; first | (refine O_stn64 (by assumption) (by repeat (first | exact List.Mem.head _ | refine List.Mem.tail _ ?_)) (by omega) ag45 rfl rfl (by assumption) (by first | omega | (simp only [csz]; omega)) (by first | exact layRun0 rfl rfl | exact layRun rfl rfl rfl) rfl ?_; intro _ _)))
  all_goals exact E_ct64T (by assumption) rfl rfl rfl ag45 rfl rfl rfl (by repeat (first | exact List.Mem.head _ | refine List.Mem.tail _ ?_)) rfl fun h hh => ⟨h, _, hh, rfl⟩

theorem lt_ok {B : Nat} {f g : Nat → Nat} {w : World} (hT : WT B w) (hf : ∀ i, f i < 18446744073709551616) (hg : ∀ i, g i < 18446744073709551616) : Rd B Samg.prog 144 [.agg (ns .u64 4 f), .agg (ns .u64 4 g)] w fun v w' => ∃ (p : Bool), v = .bool p := by
  refine W_enter (l := [_, _]) Samg.func144 rfl rfl rfl ?_
  have hS := TS.start hT
  repeat' (first
    | (refine L_cons ?_)
    | (refine R_cons rfl ?_)
    | (refine W_seq ?_)
    | (refine W_region (by kernel_rfl) ?_)
    | (refine L_nil ?_)
    | (refine R_nil ?_)
    | (refine W_block ?_)
    | (refine W_skip ?_)
    | (refine W_exit ?_)
    | (refine W_ret ?_)
    | (guard_target =~ thenQ _ _ _ _ _; first | (refine T_next ?_) | (refine T_exit ?_) | (refine T_ret ?_))
    | (guard_target =~ blockQ _ _ _ _ _; first | (refine B_next ?_) | (refine B_same ?_) | (refine B_other (by kernel_rfl) ?_) | (refine B_ret ?_))
    | (refine W_true rfl rfl ?_)
    | (refine W_false rfl rfl ?_)
    | (guard_target =~ WO _ _ (Oper.mk _ (Op.call (Call.mk (Callee.value (Operand.func 148)) _ _)) _ _ _ none) _ _ _ _; first | (refine O_rd (l := [.agg (ns .u64 4 _), .agg (ns .u64 4 _)]) (by assumption) cl148 rfl (subUnder_ok (TS.t (by assumption)) (by assumption) (by assumption)) ?_; rintro _ _ ⟨_, _, _, rfl⟩ _ _))
    | (guard_target =~ WO _ _ (Oper.mk _ (Op.box 45 _) _ _ _ none) _ _ _ _; first | (refine O_bx64 (by assumption) rfl (by assumption) rfl rfl ?_; intro _ _ _ _))
    | (guard_target =~ WO _ _ (Oper.mk _ (Op.assign _) _ _ _ none) _ _ _ _; first | (refine O_assign (v := (.int _ _)) rfl ?_) | (refine O_assign (v := (.bool _)) rfl ?_) | (refine O_assign (v := (.pointer _)) rfl ?_) | (refine O_assign (v := (.slice _ _ _)) rfl ?_) | (refine O_assign (v := (.agg _)) rfl ?_) | (refine O_assign (v := (.tuple _)) rfl ?_))
    | (guard_target =~ WO _ _ (Oper.mk _ (Op.load 45 _) _ _ _ none) _ _ _ _; first | (refine O_ldn64 (by assumption) (by repeat (first | exact List.Mem.head _ | refine List.Mem.tail _ ?_)) ag45 rfl (by first | omega | (simp only [csz]; omega)) (by first | exact layRun0 rfl rfl | exact layRun rfl rfl rfl) ?_; intro _ _))
    | (guard_target =~ WO _ _ (Oper.mk _ (Op.move _) _ _ _ none) _ _ _ _; first | (refine O_move (v := (.int _ _)) rfl ?_) | (refine O_move (v := (.bool _)) rfl ?_) | (refine O_move (v := (.pointer _)) rfl ?_) | (refine O_move (v := (.slice _ _ _)) rfl ?_) | (refine O_move (v := (.agg _)) rfl ?_) | (refine O_move (v := (.tuple _)) rfl ?_))
    | (guard_target =~ WO _ _ (Oper.mk _ (Op.extract _ _) _ _ _ none) _ _ _ _; first | (refine O_extract rfl rfl ?_))
    | (guard_target =~ WO _ _ (Oper.mk _ (Op.alloc 45) _ _ _ none) _ _ _ _; first | (refine O_al (by assumption) zc45 (by decide) ?_; intro _ _ _ _))
    | (guard_target =~ WO _ _ (Oper.mk _ (Op.store 45 _ _) _ _ _ none) _ _ _ _; first | (refine O_stn64 (by assumption) (by repeat (first | exact List.Mem.head _ | refine List.Mem.tail _ ?_)) (by omega) ag45 rfl rfl (by assumption) (by first | omega | (simp only [csz]; omega)) (by first | exact layRun0 rfl rfl | exact layRun rfl rfl rfl) rfl ?_; intro _ _)))
  all_goals exact E_ret1T (by assumption) rfl rfl rfl ⟨_, rfl⟩

/-! ### numbers as bytes -/
theorem putBE64_ok {B b o x : Nat} {w0 w : World} {L : List Fact} {M : List (Nat × Array Value)} (hS : TS B w0 w L M) (hm : (30, some ⟨b, 0, none⟩, 1, 1) ∈ L) (hn : w0.heap.size ≤ b) (ho : o + 8 ≤ 32) (hx : x < 18446744073709551616) :
    Ret Samg.prog 120 #[.slice (some ⟨b, 0, none⟩) 32 32, .int .i64 ((o : Nat) : Int), .int .u64 ((x : Nat) : Int)] w fun v w' => v = .bool true ∧ TS B w0 w' L M := by
  refine W_enter (l := [_, _, _]) Samg.func120 rfl rfl rfl ?_
  repeat' (first
    | (refine L_cons ?_)
    | (refine R_cons rfl ?_)
    | (refine W_seq ?_)
    | (refine W_region (by kernel_rfl) ?_)
    | (refine L_nil ?_)
    | (refine R_nil ?_)
    | (refine W_block ?_)
    | (refine W_skip ?_)
    | (refine W_exit ?_)
    | (refine W_ret ?_)
    | (guard_target =~ thenQ _ _ _ _ _; first | (refine T_next ?_) | (refine T_exit ?_) | (refine T_ret ?_))
    | (guard_target =~ blockQ _ _ _ _ _; first | (refine B_next ?_) | (refine B_same ?_) | (refine B_other (by kernel_rfl) ?_) | (refine B_ret ?_))
    | (refine W_true rfl rfl ?_)
    | (refine W_false rfl rfl ?_)
    | (guard_target =~ WO _ _ (Oper.mk _ (Op.call (Call.mk (Callee.value _) _ _)) _ _ _ none) _ _ _ _; first | (refine O_call (l := [.int .i64 ((32 : Nat) : Int), .int .i64 (o : Int)]) cl115 rfl (Ret.mono (inside_ok (by omega) (by omega) (by omega) w) ?_); rintro _ _ ⟨rfl, rfl⟩; refine ⟨nof, ?_⟩))
    | (guard_target =~ WO _ _ (Oper.mk _ (Op.slice 31 _ (some _) (some _) none) _ _ _ none) _ _ _ _; first | (refine O_slm (lo := o) (hi := o + 8) sl31 rfl rfl rfl (by omega) (by omega) (by omega) ?_))
    | (guard_target =~ WO _ _ (Oper.mk _ (Op.sliceToArrayPointer 206 _) _ _ _ none) _ _ _ _; first | (refine O_arrp ar206 rfl (by omega) ?_))
    | (guard_target =~ WO _ _ (Oper.mk _ (Op.convert 27 5 _) _ _ _ none) _ _ _ _; first | (refine O_convA Samg.underlying27 Samg.underlying5 rfl rfl ?_; rintro z hr; obtain ⟨z, rfl⟩ : ∃ m : Nat, z = m := ⟨z.toNat, by have := hr.1; omega⟩; simp only [rngZ] at hr) | (refine O_convZ Samg.underlying27 Samg.underlying5 rfl (by simp only [rngZ]; omega) ?_) | (refine O_convA Samg.underlying27 Samg.underlying5 rfl rfl ?_; intro _ hr; simp only [rngZ] at hr))
    | (guard_target =~ WO _ _ (Oper.mk _ (Op.store 5 _ _) _ _ _ none) _ _ _ _; first | (refine O_st (by assumption) hm (by omega) on5 rfl rfl (by simp only [csz]; omega) (okp (c' := 1) rfl (ok8 (by omega))) rfl ?_; intro _ _) | (refine O_st (by assumption) (by repeat (first | exact List.Mem.head _ | refine List.Mem.tail _ ?_)) (by omega) on5 rfl rfl (by first | omega | (simp only [csz]; omega)) (by first | exact okp (c' := 2) (by first | rfl | exact layMod rfl rfl) (ok64 (by omega)) | exact okp (c' := 1) (by first | rfl | exact layMod rfl rfl) (ok8 (by omega)) | exact okp (c' := 3) (by first | rfl | exact layMod rfl rfl) (ok32 (by omega) (by omega)) | exact okp (c' := 4) (by first | rfl | exact layMod rfl rfl) okB_) rfl ?_; intro _ _))
    | (guard_target =~ WO _ _ (Oper.mk _ (Op.assign _) _ _ _ none) _ _ _ _; first | (refine O_assign (v := (.int _ _)) rfl ?_) | (refine O_assign (v := (.bool _)) rfl ?_) | (refine O_assign (v := (.pointer _)) rfl ?_) | (refine O_assign (v := (.slice _ _ _)) rfl ?_) | (refine O_assign (v := (.agg _)) rfl ?_) | (refine O_assign (v := (.tuple _)) rfl ?_))
    | (guard_target =~ WO _ _ (Oper.mk _ (Op.move _) _ _ _ none) _ _ _ _; first | (refine O_move (v := (.int _ _)) rfl ?_) | (refine O_move (v := (.bool _)) rfl ?_) | (refine O_move (v := (.pointer _)) rfl ?_) | (refine O_move (v := (.slice _ _ _)) rfl ?_) | (refine O_move (v := (.agg _)) rfl ?_) | (refine O_move (v := (.tuple _)) rfl ?_))
    | (guard_target =~ WO _ _ (Oper.mk _ (Op.call _) _ _ _ none) _ _ _ _; first | (refine O_len Samg.underlying31 rfl rfl ?_))
    | (guard_target =~ WO _ _ (Oper.mk _ (Op.unOp _ _ _) _ _ _ none) _ _ _ _; first | (refine O_not rfl ?_))
    | (guard_target =~ WO _ _ (Oper.mk _ (Op.binOp BinOp.add 3 _ _ _) _ _ _ none) _ _ _ _; first | (refine O_addZ rfl rfl (by simp only [rngZ]; omega) ?_))
    | (guard_target =~ WO _ _ (Oper.mk _ (Op.binOp BinOp.shr 27 _ (Operand.const (Value.int _ 56)) _) _ _ _ none) _ _ _ _; first | (refine O_shrA (bb := 56) rfl (by omega) rfl (by omega) ?_; intro _ _))
    | (guard_target =~ WO _ _ (Oper.mk _ (Op.nilCheck _) _ _ _ none) _ _ _ _; first | (refine O_nil rfl ?_))
    | (guard_target =~ WO _ _ (Oper.mk _ (Op.indexAddr 206 _ (Operand.const (Value.int _ 0))) _ _ _ none) _ _ _ _; first | (refine O_index1 (m := 0) ar206 rfl rfl (by omega) ?_))
    | (guard_target =~ WO _ _ (Oper.mk _ (Op.binOp BinOp.shr 27 _ (Operand.const (Value.int _ 48)) _) _ _ _ none) _ _ _ _; first | (refine O_shrA (bb := 48) rfl (by omega) rfl (by omega) ?_; intro _ _))
    | (guard_target =~ WO _ _ (Oper.mk _ (Op.indexAddr 206 _ (Operand.const (Value.int _ 1))) _ _ _ none) _ _ _ _; first | (refine O_index1 (m := 1) ar206 rfl rfl (by omega) ?_))
    | (guard_target =~ WO _ _ (Oper.mk _ (Op.binOp BinOp.shr 27 _ (Operand.const (Value.int _ 40)) _) _ _ _ none) _ _ _ _; first | (refine O_shrA (bb := 40) rfl (by omega) rfl (by omega) ?_; intro _ _))
    | (guard_target =~ WO _ _ (Oper.mk _ (Op.indexAddr 206 _ (Operand.const (Value.int _ 2))) _ _ _ none) _ _ _ _; first | (refine O_index1 (m := 2) ar206 rfl rfl (by omega) ?_))
    | (guard_target =~ WO _ _ (Oper.mk _ (Op.binOp BinOp.shr 27 _ (Operand.const (Value.int _ 32)) _) _ _ _ none) _ _ _ _; first | (refine O_shrA (bb := 32) rfl (by omega) rfl (by omega) ?_; intro _ _))
    | (guard_target =~ WO _ _ (Oper.mk _ (Op.indexAddr 206 _ (Operand.const (Value.int _ 3))) _ _ _ none) _ _ _ _; first | (refine O_index1 (m := 3) ar206 rfl rfl (by omega) ?_))
    | (guard_target =~ WO _ _ (Oper.mk _ (Op.binOp BinOp.shr 27 _ (Operand.const (Value.int _ 24)) _) _ _ _ none) _ _ _ _; first | (refine O_shrA (bb := 24) rfl (by omega) rfl (by omega) ?_; intro _ _))
    | (guard_target =~ WO _ _ (Oper.mk _ (Op.indexAddr 206 _ (Operand.const (Value.int _ 4))) _ _ _ none) _ _ _ _; first | (refine O_index1 (m := 4) ar206 rfl rfl (by omega) ?_))
    | (guard_target =~ WO _ _ (Oper.mk _ (Op.binOp BinOp.shr 27 _ (Operand.const (Value.int _ 16)) _) _ _ _ none) _ _ _ _; first | (refine O_shrA (bb := 16) rfl (by omega) rfl (by omega) ?_; intro _ _))
    | (guard_target =~ WO _ _ (Oper.mk _ (Op.indexAddr 206 _ (Operand.const (Value.int _ 5))) _ _ _ none) _ _ _ _; first | (refine O_index1 (m := 5) ar206 rfl rfl (by omega) ?_))
    | (guard_target =~ WO _ _ (Oper.mk _ (Op.binOp BinOp.shr 27 _ (Operand.const (Value.int _ 8)) _) _ _ _ none) _ _ _ _; first | (refine O_shrA (bb := 8) rfl (by omega) rfl (by omega) ?_; intro _ _))
    | (guard_target =~ WO _ _ (Oper.mk _ (Op.indexAddr 206 _ (Operand.const (Value.int _ 6))) _ _ _ none) _ _ _ _; first | (refine O_index1 (m := 6) ar206 rfl rfl (by omega) ?_))
    | (guard_target =~ WO _ _ (Oper.mk _ (Op.indexAddr 206 _ (Operand.const (Value.int _ 7))) _ _ _ none) _ _ _ _; first | (refine O_index1 (m := 7) ar206 rfl rfl (by omega) ?_)))
  all_goals exact E_ret rfl rfl rfl ⟨rfl, by assumption⟩
theorem O_putBE {ops : Array Oper} {e : Bool} {K : Env → World → Prop} {ρ : Env} {d : Nat} {ty : TypeId} {pos : String} {af : Array Edge} {B b o x : Nat} {w0 w : World} {L : List Fact} {M : List (Nat × Array Value)} {args : Array Operand} {ats : Array TypeId} (hS : TS B w0 w L M) (hm : (30, some ⟨b, 0, none⟩, 1, 1) ∈ L) (hn : w0.heap.size ≤ b) (ho : o + 8 ≤ 32) (hx : x < 18446744073709551616) (he : e = false)
    (ha : args.toList.map (ev ρ) = [.slice (some ⟨b, 0, none⟩) 32 32, .int .i64 ((o : Nat) : Int), .int .u64 ((x : Nat) : Int)]) (k : ∀ w', TS B w0 w' L M → K (put ρ d (.bool true)) w') : WO Samg.prog ops ⟨some d, .call ⟨.value (.func 120), args, ats⟩, ty, pos, af, none⟩ e K ρ w :=
  O_call cl120 ha (Ret.mono (putBE64_ok hS hm hn ho hx) fun v w' ⟨h1, h2⟩ => ⟨fun h => (by rw [he] at h; cases h), (by subst h1; exact k w' h2)⟩)
theorem be32_ok {B : Nat} {f : Nat → Nat} {w : World} (hT : WT B w) (hf : ∀ i, f i < 18446744073709551616) : Rd B Samg.prog 93 [.agg (ns .u64 4 f)] w fun v w' => ∃ g : Nat → Nat, (∀ i, g i < 256) ∧ v = .agg (ns .u8 32 g) := by
  refine W_enter (l := [_]) Samg.func93 rfl rfl rfl ?_
  have hS := TS.start hT
  repeat' (first
    | (refine L_cons ?_)
    | (refine R_cons rfl ?_)
    | (refine W_seq ?_)
    | (refine W_region (by kernel_rfl) ?_)
    | (refine L_nil ?_)
    | (refine R_nil ?_)
    | (refine W_block ?_)
    | (refine W_skip ?_)
    | (refine W_exit ?_)
    | (refine W_ret ?_)
    | (guard_target =~ thenQ _ _ _ _ _; first | (refine T_next ?_) | (refine T_exit ?_) | (refine T_ret ?_))
    | (guard_target =~ blockQ _ _ _ _ _; first | (refine B_next ?_) | (refine B_same ?_) | (refine B_other (by kernel_rfl) ?_) | (refine B_ret ?_))
    | (refine W_true rfl rfl ?_)
    | (refine W_false rfl rfl ?_)
    | (guard_target =~ WO _ _ (Oper.mk _ (Op.call (Call.mk (Callee.value (Operand.func 120)) #[_, Operand.const (Value.int _ 0), _] _)) _ _ _ none) _ _ _ _; first | (refine O_putBE (o := 0) (x := _) (by assumption) (by repeat (first | exact List.Mem.head _ | refine List.Mem.tail _ ?_)) (by omega) (by omega) (by assumption) rfl rfl ?_; intro _ _))
    | (guard_target =~ WO _ _ (Oper.mk _ (Op.call (Call.mk (Callee.value (Operand.func 120)) #[_, Operand.const (Value.int _ 8), _] _)) _ _ _ none) _ _ _ _; first | (refine O_putBE (o := 8) (x := _) (by assumption) (by repeat (first | exact List.Mem.head _ | refine List.Mem.tail _ ?_)) (by omega) (by omega) (by assumption) rfl rfl ?_; intro _ _))
    | (guard_target =~ WO _ _ (Oper.mk _ (Op.call (Call.mk (Callee.value (Operand.func 120)) #[_, Operand.const (Value.int _ 16), _] _)) _ _ _ none) _ _ _ _; first | (refine O_putBE (o := 16) (x := _) (by assumption) (by repeat (first | exact List.Mem.head _ | refine List.Mem.tail _ ?_)) (by omega) (by omega) (by assumption) rfl rfl ?_; intro _ _))
    | (guard_target =~ WO _ _ (Oper.mk _ (Op.call (Call.mk (Callee.value (Operand.func 120)) #[_, Operand.const (Value.int _ 24), _] _)) _ _ _ none) _ _ _ _; first | (refine O_putBE (o := 24) (x := _) (by assumption) (by repeat (first | exact List.Mem.head _ | refine List.Mem.tail _ ?_)) (by omega) (by omega) (by assumption) rfl rfl ?_; intro _ _))
    | (guard_target =~ WC _ _ (Code.region 2 _ true) _ _ _; first | (refine W_drawnT (id := 2) [] [0, 1, 2, 3] mixed (by kernel_rfl) (by kernel_rfl) (by assumption) ?_; intro _ _ _))
    | (guard_target =~ WC _ _ (Code.region 3 _ true) _ _ _; first | (refine W_drawnT (id := 3) [] [0, 1, 2, 3] mixed (by kernel_rfl) (by kernel_rfl) (by assumption) ?_; intro _ _ _))
    | (guard_target =~ WC _ _ (Code.region 4 _ true) _ _ _; first | (refine W_drawnT (id := 4) [] [0, 1, 2, 3] mixed (by kernel_rfl) (by kernel_rfl) (by assumption) ?_; intro _ _ _))
    | (guard_target =~ WC _ _ (Code.region 5 _ true) _ _ _; first | (refine W_drawnT (id := 5) [] [0, 1, 2, 3] mixed (by kernel_rfl) (by kernel_rfl) (by assumption) ?_; intro _ _ _))
    | (guard_target =~ WO _ _ (Oper.mk _ (Op.box 45 _) _ _ _ none) _ _ _ _; first | (refine O_bx64 (by assumption) rfl (by assumption) rfl rfl ?_; intro _ _ _ _))
    | (guard_target =~ WO _ _ (Oper.mk _ (Op.alloc 30) _ _ _ none) _ _ _ _; first | (refine O_al (by assumption) zc30 (by decide) ?_; intro _ _ _ _))
    | (guard_target =~ WO _ _ (Oper.mk _ (Op.slice 30 _ none none none) _ _ _ none) _ _ _ _; first | (refine O_sla ar30 rfl (by decide) ?_))
    | (guard_target =~ WO _ _ (Oper.mk _ (Op.indexAddr 45 _ (Operand.const (Value.int _ 3))) _ _ _ none) _ _ _ _; first | (refine O_index1 (m := 3) ar45 rfl rfl (by omega) ?_))
    | (guard_target =~ WO _ _ (Oper.mk _ (Op.load 27 _) _ _ _ none) _ _ _ _; first | (refine O_ld64 (by assumption) (by repeat (first | exact List.Mem.head _ | refine List.Mem.tail _ ?_)) on27 rfl (by first | omega | (simp only [csz]; omega)) (by first | rfl | exact layMod rfl rfl) ?_; intro _ _))
    | (guard_target =~ WO _ _ (Oper.mk _ (Op.indexAddr 45 _ (Operand.const (Value.int _ 2))) _ _ _ none) _ _ _ _; first | (refine O_index1 (m := 2) ar45 rfl rfl (by omega) ?_))
    | (guard_target =~ WO _ _ (Oper.mk _ (Op.indexAddr 45 _ (Operand.const (Value.int _ 1))) _ _ _ none) _ _ _ _; first | (refine O_index1 (m := 1) ar45 rfl rfl (by omega) ?_))
    | (guard_target =~ WO _ _ (Oper.mk _ (Op.indexAddr 45 _ (Operand.const (Value.int _ 0))) _ _ _ none) _ _ _ _; first | (refine O_index1 (m := 0) ar45 rfl rfl (by omega) ?_))
    | (guard_target =~ WO _ _ (Oper.mk _ (Op.load 30 _) _ _ _ none) _ _ _ _; first | (refine O_ldn8 (by assumption) (by repeat (first | exact List.Mem.head _ | refine List.Mem.tail _ ?_)) ag30 rfl (by first | omega | (simp only [csz]; omega)) (by first | exact layRun0 rfl rfl | exact layRun rfl rfl rfl) ?_; intro _ _))
    | (guard_target =~ WO _ _ (Oper.mk _ (Op.store 30 _ _) _ _ _ none) _ _ _ _; first | (refine O_stn8 (by assumption) (by repeat (first | exact List.Mem.head _ | refine List.Mem.tail _ ?_)) (by omega) ag30 rfl rfl (by assumption) (by first | omega | (simp only [csz]; omega)) (by first | exact layRun0 rfl rfl | exact layRun rfl rfl rfl) rfl ?_; intro _ _)))
  refine E_cell1T (by assumption) rfl rfl ag30 rfl (by repeat (first | exact List.Mem.head _ | refine List.Mem.tail _ ?_)) ?_
  intro cs hc
  obtain ⟨g, rfl, hg⟩ := hc.ns8 rfl rfl
  exact ⟨g, hg, rfl⟩
end Go.Proofs.Ygcsam
