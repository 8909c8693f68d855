/-
  READING WHAT CAME IN: loads, slices, strings and copies at any address. Own work.
-/
import Derived.Test.YgcsamRc
import Derived.Test.YgcsamE1
import Derived.Test.YgcsamU4
import Derived.Laws.BytesString
namespace Go.Proofs.Ygcsam
set_option linter.unusedVariables false
set_option linter.unusedSimpArgs false
set_option maxRecDepth 4000
/-- n bytes f at o. -/
def By (w : World) (b o n : Nat) (f : Nat → Nat) : Prop := ∀ j, j < n → w.cell? ⟨b, o + j, none⟩ = some (.int .u8 ((f j : Nat) : Int))
theorem By.ext {w w' : World} {b o n : Nat} {f : Nat → Nat} (h : By w b o n f) (e : Ext w w') : By w' b o n f := fun j hj => cell_ext (h j hj) e
theorem By.heap {w w' : World} {b o n : Nat} {f : Nat → Nat} (h : By w b o n f) (e : w'.heap = w.heap) : By w' b o n f := fun j hj => cell_heap (h j hj) e
def strF (n : Nat) (f : Nat → Nat) : ByteArray := ((List.range n).map fun j => ((f j : Nat) : Int)).foldl (fun r n => r.push (UInt8.ofNat n.toNat)) ByteArray.empty
def sge (x y : ByteArray) : Bool := !Op.bytesLess x.toList y.toList
theorem By.load {P : Program} {w : World} {b o n : Nat} {f : Nat → Nat} (h : By w b o n f) : (loadCells ⟨b, o, none⟩ n).run P w = .ok (ns .u8 n f) w := by
  have := run_loadCells_list (P := P) w ⟨b, o, none⟩ (ns .u8 n f).toList (fun j v hj => by
    rw [addr_add]
    rw [Array.getElem?_toList] at hj
    have hj' : j < n := by have := get_lt hj; rw [ns_size] at this; exact this
    rw [ns_get hj'] at hj
    rw [h j hj', hj])
  rw [Array.length_toList, ns_size, Array.toArray_toList] at this
  exact this
section
variable {P : Program} {ops : Array Oper} {e : Bool} {K : Env → World → Prop} {ρ : Env} {w w0 : World} {d : Nat} {ty : TypeId} {pos : String} {af : Array Edge} {B : Nat} {L : List Fact} {M : List (Nat × Array Value)}
theorem O_ldB {t m b o : Nat} {f : Nat → Nat} {x : Operand} (ht : aggT P t m) (hx : ev ρ x = .pointer (some ⟨b, o, none⟩)) (hc : By w b o m f) (k : K (put ρ d (.agg (ns .u8 m f))) w) : WO P ops ⟨some d, .load t x, ty, pos, af, none⟩ e K ρ w :=
  O_read rfl (fun w' hw => by
    have := (hc.ext hw).load (P := P)
    simp [execOp, hx, Instr.loadAt, Instr.sureAddr, loadVar, run_isAgg_agg (P := P) (w := w') ht, run_sizeOf ht.2, this]) k
theorem O_sla2 {t nn el s b o : Nat} {x : Operand} (ht : arrT P t nn el s) (hx : ev ρ x = .pointer (some ⟨b, o, none⟩)) (h0 : nn ≠ 0) (k : K (put ρ d (.slice (some ⟨b, o, none⟩) nn nn)) w) : WO P ops ⟨some d, .slice t x none none none, ty, pos, af, none⟩ e K ρ w :=
  O_slice_a (l := 0) (h := nn) (m := nn) ht hx rfl rfl rfl (fun h => by cases h) (Nat.zero_le _) (Nat.le_refl _) (Nat.le_refl _) (by
    rw [if_neg h0, Nat.zero_mul, Nat.add_zero, Nat.sub_zero]; exact k)
theorem O_cvS {s t b o n c : Nat} {f : Nat → Nat} {x : Operand} (hs : P.underlying s = some (.slice 5)) (he : P.underlying 5 = some (.int .u8)) (ht : P.underlying t = some .string) (hx : ev ρ x = .slice (some ⟨b, o, none⟩) n c) (hc : By w b o n f) (k : K (put ρ d (.string (strF n f))) w) : Cv.WO P ops ⟨some d, .convert s t x, ty, pos, af, none⟩ e K ρ w :=
  Cv.O_read (fun w' hw => by
    have h1 := (hc.ext hw).load (P := P)
    have h2 := run_bytesToString (P := P) w' ⟨b, o, none⟩ n c ((List.range n).map fun j => ((f j : Nat) : Int)) (by rw [h1]; unfold ns; simp [List.map_map, Function.comp_def])
    simp only [execOp, hx, Sem.run_bind, run_convert_bytes_string w' s t 5 _ n c hs he ht, h2, Result.andThen_ok, Sem.run_pure]
    rfl) k
theorem O_sgeq {t t' : Nat} {x y : Operand} {a b : ByteArray} (ht : P.underlying t = some .string) (hx : ev ρ x = .string a) (hy : ev ρ y = .string b) (k : K (put ρ d (.bool (sge a b))) w) : WO P ops ⟨some d, .binOp .geq t x y t', ty, pos, af, none⟩ e K ρ w :=
  O_pure rfl (fun w' => by
    simp [execOp, hx, hy, eqGuard, binOp, Op.stringOp, run_underlying' ht, sge]) k
/-- A copy of bytes from any address into a new block. -/
theorem O_cpB {bd l c2 b2 o2 : Nat} {f : Nat → Nat} {x y : Operand} {ats : Array TypeId} (h : TS B w0 w L M) (hm : (5, some ⟨bd, 0, none⟩, l, l) ∈ L) (hn : w0.heap.size ≤ bd) (hat : ats[0]? = some 31) (ht : slcT P 31 5 (csz 5)) (hx : ev ρ x = .slice (some ⟨bd, 0, none⟩) l l) (hy : ev ρ y = .slice (some ⟨b2, o2, none⟩) l c2) (hf : ∀ j, f j < 256) (hc : By w b2 o2 l f) (he : e = false)
    (k : ∀ w' (m : Nat), TS B w0 w' L M → K (put ρ d (.int .i64 (m : Nat))) w') : WO P ops ⟨some d, .call ⟨.builtin .copy, #[x, y], ats⟩, ty, pos, af, none⟩ e K ρ w := by
  obtain ⟨hB, cc, hb, hs⟩ := h.row hm
  simp only [csz] at hs
  have hsz : (ns .u8 l f).toList.length = l := by rw [Array.length_toList, ns_size]
  obtain ⟨w', h2, hU⟩ := run_storeCells (P := P) (ns .u8 l f).toList w cc 0 0 hb (by rw [hsz]; omega) ns_one
  refine O_do (v := .int .i64 (l : Nat)) (w' := w') rfl ?_ (fun h => by rw [he] at h; cases h) (k w' l (h.upd hn hb hU (spl_size _ _ _) fun o v hv => ?_))
  · have h1 := hc.load (P := P)
    have hmin : Nat.min l l = l := Nat.min_self l
    have h11 : l * csz 5 = l := by simp [csz]
    simp only [execOp, resolve, List.map_toArray, List.map_cons, List.map_nil, invoke, builtin, Builtin.copy_, Sem.run_bind, Sem.run_pure, Result.andThen_ok, hat, hx, hy, List.getElem?_toArray, List.getElem?_cons_zero, List.getElem?_cons_succ, run_underlying' ht.1, Builtin.lenOf, run_sizeOf ht.2, Builtin.firstCells, goInt, hmin, h11, h1, h2]
  · rw [spl_get _ _ _ _ (by rw [hsz]; omega)] at hv
    split at hv
    · rw [Array.getElem?_toList] at hv
      exact ns_ok8 hf _ v hv
    · exact h.t.ok bd cc 5 hB hb o v hv
theorem O_bd0 {t m el : Nat} (hp : arrT P t m el 1) (hz : zchk P t = true) (hm : csz t = m) (hr : runB t 0 m 1 = true) (k : K (put ρ d (.agg (ns .u8 m fun _ => 0))) w) : WO P ops ⟨some d, .build t #[], ty, pos, af, none⟩ e K ρ w := by
  obtain ⟨v, h1, h2, h3⟩ := zchk.ok hz
  have hv : v.cells = ns .u8 m fun _ => 0 := ns_ext (by rw [h2, hm]) fun i hi => by
    obtain ⟨u, e1, e2⟩ := h3 i (by omega)
    rw [show lay t i = 1 by have := Nat.eq_of_beq_eq_true (List.all_eq_true.1 hr i (List.mem_range.2 hi)); rw [Nat.zero_add] at this; exact this] at e2
    rw [e1]; unfold okZ at e2
    split at e2 <;> simp_all
  refine O_pure (v := .agg (ns .u8 m fun _ => 0)) rfl (fun w' => ?_) k
  simp only [execOp, Instr.build, Sem.run_bind, run_zeroValue h1, Result.andThen_ok, run_underlying' hp.1, run_sizeOf hp.2]
  simp [Instr.fill, hv]
end
theorem copyBytes_arg {B : Nat} {w : World} (hT : WT B w) {b o n c : Nat} {f : Nat → Nat} (hn : n < 65536) (hf : ∀ j, f j < 256) (hc : By w b o n f) : Rd B Samg.prog 55 [.slice (some ⟨b, o, none⟩) n c] w fun v w' => ∃ a' n' c', v = .slice a' n' c' ∧ Sl B w' 5 a' n' c' := by
  refine W_enter (l := [_]) Samg.func55 rfl rfl rfl ?_
  have hS := TS.start hT
  repeat' (first
    | (refine L_cons ?_)
    | (refine R_cons rfl ?_)
    | (refine W_seq ?_)
    | (refine W_region (by kernel_rfl) ?_)
    | (refine L_nil ?_)
    | (refine R_nil ?_)
    | (refine W_block ?_)
    | (refine W_skip ?_)
    | (refine W_exit ?_)
    | (refine W_ret ?_)
    | (guard_target =~ thenQ _ _ _ _ _; first | (refine T_next ?_) | (refine T_exit ?_) | (refine T_ret ?_))
    | (guard_target =~ blockQ _ _ _ _ _; first | (refine B_next ?_) | (refine B_same ?_) | (refine B_other (by kernel_rfl) ?_) | (refine B_ret ?_))
    | (refine W_true rfl rfl ?_)
    | (refine W_false rfl rfl ?_)
    | (guard_target =~ WO _ _ (Oper.mk _ (Op.makeSlice 31 _ _) _ _ _ none) _ _ _ _; first | (refine O_mkE (by assumption) sl31 by5 zc5 (by decide) rfl rfl (by omega) (by omega) ?_; intro w1 b1 hx1 _ hn1 _; replace hc := hc.ext hx1) | (refine O_mk (by assumption) sl31 by5 zc5 (by decide) rfl rfl (by omega) (by omega) ?_; intro _ _ _ _))
    | (guard_target =~ WO _ _ (Oper.mk _ (Op.call (Call.mk (Callee.builtin Builtin.copy) _ _)) _ _ _ none) _ _ _ _; first | (refine O_cpB (by assumption) (by repeat (first | exact List.Mem.head _ | refine List.Mem.tail _ ?_)) (by omega) rfl sl31 rfl rfl hf hc rfl ?_; intro _ _ _))
    | (guard_target =~ WO _ _ (Oper.mk _ (Op.assign _) _ _ _ none) _ _ _ _; first | (refine O_assign (v := (.int _ _)) rfl ?_) | (refine O_assign (v := (.bool _)) rfl ?_) | (refine O_assign (v := (.pointer _)) rfl ?_) | (refine O_assign (v := (.slice _ _ _)) rfl ?_) | (refine O_assign (v := (.agg _)) rfl ?_) | (refine O_assign (v := (.tuple _)) rfl ?_))
    | (guard_target =~ WO _ _ (Oper.mk _ (Op.move _) _ _ _ none) _ _ _ _; first | (refine O_move (v := (.int _ _)) rfl ?_) | (refine O_move (v := (.bool _)) rfl ?_) | (refine O_move (v := (.pointer _)) rfl ?_) | (refine O_move (v := (.slice _ _ _)) rfl ?_) | (refine O_move (v := (.agg _)) rfl ?_) | (refine O_move (v := (.tuple _)) rfl ?_))
    | (guard_target =~ WO _ _ (Oper.mk _ (Op.binOp BinOp.eql 31 _ _ _) _ _ _ none) _ _ _ _; first | (refine O_snil Samg.underlying31 rfl rfl ?_ ?_ <;> (intros; try subst_eqs)))
    | (guard_target =~ WO _ _ (Oper.mk _ (Op.call _) _ _ _ none) _ _ _ _; first | (refine O_len Samg.underlying31 rfl rfl ?_) | (refine O_cp (by assumption) (by repeat (first | exact List.Mem.head _ | refine List.Mem.tail _ ?_)) (by repeat (first | exact List.Mem.head _ | refine List.Mem.tail _ ?_)) (by omega) rfl sl31 rfl rfl rfl ?_; intro _ _)))
  all_goals exact E_ret1T (by assumption) rfl rfl rfl ⟨_, _, _, rfl, by first | exact Sl.nil _ | exact TS.slN (by assumption) (by repeat (first | exact List.Mem.head _ | refine List.Mem.tail _ ?_))⟩
theorem copied_arg {B : Nat} {w : World} (hT : WT B w) {a : Option Addr} {n c : Nat} {f : Nat → Nat} (hn : n < 65536) (hf : ∀ j, f j < 256) (hc0 : n = 0 ∨ ∃ b o, a = some ⟨b, o, none⟩ ∧ By w b o n f) : Rd B Samg.prog 79 [.slice a n c] w fun v w' => ∃ a' n' c', v = .slice a' n' c' ∧ Sl B w' 5 a' n' c' := by
  refine W_enter (l := [_]) Samg.func79 rfl rfl rfl ?_
  have hS := TS.start hT
  by_cases h0 : n = 0
  · repeat' (first
      | (refine L_cons ?_)
      | (refine R_cons rfl ?_)
      | (refine W_seq ?_)
      | (refine W_region (by kernel_rfl) ?_)
      | (refine L_nil ?_)
      | (refine R_nil ?_)
      | (refine W_block ?_)
      | (refine W_skip ?_)
      | (refine W_exit ?_)
      | (refine W_ret ?_)
      | (guard_target =~ thenQ _ _ _ _ _; first | (refine T_next ?_) | (refine T_exit ?_) | (refine T_ret ?_))
      | (guard_target =~ blockQ _ _ _ _ _; first | (refine B_next ?_) | (refine B_same ?_) | (refine B_other (by kernel_rfl) ?_) | (refine B_ret ?_))
      | (refine W_true rfl rfl ?_)
      | (refine W_false rfl rfl ?_)
      | (guard_target =~ WO _ _ (Oper.mk _ (Op.assign _) _ _ _ none) _ _ _ _; first | (refine O_assign (v := (.int _ _)) rfl ?_) | (refine O_assign (v := (.bool _)) rfl ?_) | (refine O_assign (v := (.pointer _)) rfl ?_) | (refine O_assign (v := (.slice _ _ _)) rfl ?_) | (refine O_assign (v := (.agg _)) rfl ?_) | (refine O_assign (v := (.tuple _)) rfl ?_))
      | (guard_target =~ WO _ _ (Oper.mk _ (Op.move _) _ _ _ none) _ _ _ _; first | (refine O_move (v := (.int _ _)) rfl ?_) | (refine O_move (v := (.bool _)) rfl ?_) | (refine O_move (v := (.pointer _)) rfl ?_) | (refine O_move (v := (.slice _ _ _)) rfl ?_) | (refine O_move (v := (.agg _)) rfl ?_) | (refine O_move (v := (.tuple _)) rfl ?_))
      | (guard_target =~ WO _ _ (Oper.mk _ (Op.call _) _ _ _ none) _ _ _ _; first | (refine O_len Samg.underlying31 rfl rfl ?_) | (refine O_cp (by assumption) (by repeat (first | exact List.Mem.head _ | refine List.Mem.tail _ ?_)) (by repeat (first | exact List.Mem.head _ | refine List.Mem.tail _ ?_)) (by omega) rfl sl31 rfl rfl rfl ?_; intro _ _))
      | (guard_target =~ WO _ _ (Oper.mk _ (Op.binOp BinOp.eql 3 _ _ _) _ _ _ none) _ _ _ _; first | (first | (refine O_eqlS rfl rfl (fun h => absurd h (by omega)) ?_; intro _) | (refine O_eqlS rfl rfl ?_ (fun h => absurd h (by omega)); intro _) | (refine O_eqlS rfl rfl ?_ ?_ <;> intro _)))
      | (guard_target =~ WO _ _ (Oper.mk _ (Op.makeSlice 31 _ _) _ _ _ none) _ _ _ _; first | (refine O_mk (by assumption) sl31 by5 zc5 (by decide) rfl rfl (by omega) (by omega) ?_; intro _ _ _ _)))
    all_goals exact E_ret1T (by assumption) rfl rfl rfl ⟨_, _, _, rfl, by first | exact Sl.nil _ | exact TS.slN (by assumption) (by repeat (first | exact List.Mem.head _ | refine List.Mem.tail _ ?_))⟩
  · obtain ⟨b, o, rfl, hc⟩ := hc0.resolve_left h0
    clear hc0
    repeat' (first
      | (refine L_cons ?_)
      | (refine R_cons rfl ?_)
      | (refine W_seq ?_)
      | (refine W_region (by kernel_rfl) ?_)
      | (refine L_nil ?_)
      | (refine R_nil ?_)
      | (refine W_block ?_)
      | (refine W_skip ?_)
      | (refine W_exit ?_)
      | (refine W_ret ?_)
      | (guard_target =~ thenQ _ _ _ _ _; first | (refine T_next ?_) | (refine T_exit ?_) | (refine T_ret ?_))
      | (guard_target =~ blockQ _ _ _ _ _; first | (refine B_next ?_) | (refine B_same ?_) | (refine B_other (by kernel_rfl) ?_) | (refine B_ret ?_))
      | (refine W_true rfl rfl ?_)
      | (refine W_false rfl rfl ?_)
      | (guard_target =~ WO _ _ (Oper.mk _ (Op.makeSlice 31 _ _) _ _ _ none) _ _ _ _; first | (refine O_mkE (by assumption) sl31 by5 zc5 (by decide) rfl rfl (by omega) (by omega) ?_; intro w1 b1 hx1 _ hn1 _; replace hc := hc.ext hx1) | (refine O_mk (by assumption) sl31 by5 zc5 (by decide) rfl rfl (by omega) (by omega) ?_; intro _ _ _ _))
      | (guard_target =~ WO _ _ (Oper.mk _ (Op.call (Call.mk (Callee.builtin Builtin.copy) _ _)) _ _ _ none) _ _ _ _; first | (refine O_cpB (by assumption) (by repeat (first | exact List.Mem.head _ | refine List.Mem.tail _ ?_)) (by omega) rfl sl31 rfl rfl hf hc rfl ?_; intro _ _ _))
      | (guard_target =~ WO _ _ (Oper.mk _ (Op.assign _) _ _ _ none) _ _ _ _; first | (refine O_assign (v := (.int _ _)) rfl ?_) | (refine O_assign (v := (.bool _)) rfl ?_) | (refine O_assign (v := (.pointer _)) rfl ?_) | (refine O_assign (v := (.slice _ _ _)) rfl ?_) | (refine O_assign (v := (.agg _)) rfl ?_) | (refine O_assign (v := (.tuple _)) rfl ?_))
      | (guard_target =~ WO _ _ (Oper.mk _ (Op.move _) _ _ _ none) _ _ _ _; first | (refine O_move (v := (.int _ _)) rfl ?_) | (refine O_move (v := (.bool _)) rfl ?_) | (refine O_move (v := (.pointer _)) rfl ?_) | (refine O_move (v := (.slice _ _ _)) rfl ?_) | (refine O_move (v := (.agg _)) rfl ?_) | (refine O_move (v := (.tuple _)) rfl ?_))
      | (guard_target =~ WO _ _ (Oper.mk _ (Op.call _) _ _ _ none) _ _ _ _; first | (refine O_len Samg.underlying31 rfl rfl ?_) | (refine O_cp (by assumption) (by repeat (first | exact List.Mem.head _ | refine List.Mem.tail _ ?_)) (by repeat (first | exact List.Mem.head _ | refine List.Mem.tail _ ?_)) (by omega) rfl sl31 rfl rfl rfl ?_; intro _ _))
      | (guard_target =~ WO _ _ (Oper.mk _ (Op.binOp BinOp.eql 3 _ _ _) _ _ _ none) _ _ _ _; first | (first | (refine O_eqlS rfl rfl (fun h => absurd h (by omega)) ?_; intro _) | (refine O_eqlS rfl rfl ?_ (fun h => absurd h (by omega)); intro _) | (refine O_eqlS rfl rfl ?_ ?_ <;> intro _))))
    all_goals exact E_ret1T (by assumption) rfl rfl rfl ⟨_, _, _, rfl, by first | exact Sl.nil _ | exact TS.slN (by assumption) (by repeat (first | exact List.Mem.head _ | refine List.Mem.tail _ ?_))⟩
end Go.Proofs.Ygcsam
