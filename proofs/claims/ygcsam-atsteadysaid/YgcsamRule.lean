/-
  THE RULES OF THE WALK, one for each kind of operation. Own work.
-/
import Derived.Test.YgcsamOp
import Derived.KernelRfl
namespace Go.Proofs.Ygcsam
set_option linter.unusedVariables false
set_option linter.unusedSimpArgs false

section
variable {P : Program} {ops : Array Oper} {e : Bool} {K : Env → World → Prop} {Q : Exit → Env → World → Prop} {ρ : Env} {w : World} {d : Nat} {ty : TypeId} {pos : String} {af : Array Edge}

/-! ### structure (each notion in a box that unification does not open) -/
end
structure WC (P : Program) (n : Nat) (c : Code) (Q : Exit → Env → World → Prop) (ρ : Env) (w : World) : Prop where
  out : wpc P n c Q ρ w
structure WL (P : Program) (ops : Array Oper) (Q : Exit → Env → World → Prop) (l : List Oper) (ρ : Env) (w : World) : Prop where
  out : wpL P ops Q l ρ w
structure WR (P : Program) (ops : Array Oper) (ext : List Nat) (Q : Exit → Env → World → Prop) (l : List Nat) (ρ : Env) (w : World) : Prop where
  out : wpR P ops ext Q l ρ w
structure WO (P : Program) (ops : Array Oper) (o : Oper) (e : Bool) (K : Env → World → Prop) (ρ : Env) (w : World) : Prop where
  out : opR P ops o e K ρ w
section
variable {P : Program} {ops : Array Oper} {e : Bool} {K : Env → World → Prop} {Q : Exit → Env → World → Prop} {ρ : Env} {w : World} {d : Nat} {ty : TypeId} {pos : String} {af : Array Edge} {n : Nat}

theorem tU_mono {dd : Option Nat} {K' : Env → World → Prop} {r : Result Next} (h : tU P dd ρ K r) (hk : ∀ ρ w, K ρ w → K' ρ w) : tU P dd ρ K' r := by
  cases r with
  | ok x w' =>
    cases x <;> simp only [tU] at h ⊢
    case value v => exact hk _ _ h
    case skip => exact hk _ _ h
    case enter f args => exact Calls.mono h fun e w'' ⟨v, he, hv⟩ => ⟨v, he, hk _ _ hv⟩
  | halt x w' => simp only [tU] at h
theorem opR_mono {o : Oper} {K' : Env → World → Prop} (h : opR P ops o e K ρ w) (hk : ∀ ρ w, K ρ w → K' ρ w) : opR P ops o e K' ρ w := by
  unfold opR at *
  split
  · rename_i hg; rw [if_pos hg] at h
    unfold opN at *
    split
    · rename_i hc; rw [if_pos hc] at h; exact tU_mono h fun ρ w h => ⟨h.1, hk _ _ h.2⟩
    · rename_i hc; rw [if_neg hc] at h; obtain ⟨v, hv, h⟩ := h; exact ⟨v, hv, hk _ _ h⟩
  · rename_i hg; rw [if_neg hg] at h; exact hk _ _ h

theorem L_cons {o : Oper} {rest : List Oper} (h : WO P ops o false (WL P ops Q rest) ρ w) : WL P ops Q (o :: rest) ρ w := ⟨opR_mono h.out fun _ _ h => h.out⟩
theorem L_nil (h : Q .normal ρ w) : WL P ops Q [] ρ w := ⟨h⟩
theorem R_cons {ext : List Nat} {o : Oper} {i : Nat} {rest : List Nat} (hi : ops[i]? = some o) (h : WO P ops o (ext.contains i) (WR P ops ext Q rest) ρ w) : WR P ops ext Q (i :: rest) ρ w := ⟨o, hi, opR_mono h.out fun _ _ h => h.out⟩
theorem R_nil {ext : List Nat} (h : Q .normal ρ w) : WR P ops ext Q [] ρ w := ⟨h⟩
theorem T_next {next : Env → World → Prop} (h : next ρ w) : thenQ next Q .normal ρ w := h
theorem T_ret {next : Env → World → Prop} (h : Q .ret ρ w) : thenQ next Q .ret ρ w := h
theorem T_exit {next : Env → World → Prop} {id : Nat} (h : Q (.exit id) ρ w) : thenQ next Q (.exit id) ρ w := h
theorem B_next {id : Nat} (h : Q .normal ρ w) : blockQ id Q .normal ρ w := h
theorem B_ret {id : Nat} (h : Q .ret ρ w) : blockQ id Q .ret ρ w := h
theorem B_same {id : Nat} (h : Q .normal ρ w) : blockQ id Q (.exit id) ρ w := by simp only [blockQ, if_true]; exact h
theorem B_other {id id' : Nat} (hne : Nat.beq id' id = false) (h : Q (.exit id') ρ w) : blockQ id Q (.exit id') ρ w := by
  simp only [blockQ]; rw [if_neg (fun h0 => by subst h0; simp at hne)]; exact h

theorem W_region {id : Nat} {l : List Oper} (hok : okB n l.toArray = true) (h : WL P l.toArray Q l ρ w) : WC P n (.region id l.toArray false) Q ρ w := ⟨C_region hok h.out⟩
theorem W_drawn {id : Nat} {ops : Array Oper} (ext order : List Nat) (hm : P.follows .mixedOrders = true) (hB : planB ops ext order = true) (hok : okB n ops = true)
    (h : WR P ops ext Q order ρ { w with drawn := w.drawn + 1 }) : WC P n (.region id ops true) Q ρ w := ⟨C_drawn ext order hm hB hok h.out⟩
theorem W_seq {x y : Code} (h : WC P n x (thenQ (WC P n y Q) Q) ρ w) : WC P n (.seq x y) Q ρ w :=
  ⟨C_seq (wpc_mono h.out fun e ρ w h => by cases e <;> first | exact WC.out h | exact h)⟩
theorem W_skip (h : Q .normal ρ w) : WC P n .skip Q ρ w := ⟨C_skip h⟩
theorem W_ret (h : Q .ret ρ w) : WC P n .ret Q ρ w := ⟨C_ret h⟩
theorem W_exit {id : Nat} (h : Q (.exit id) ρ w) : WC P n (.exit id) Q ρ w := ⟨C_exit h⟩
theorem W_cond {c : Operand} {x y : Code} {t : Bool} (hn : tmpOk n c = true) (hc : ev ρ c = .bool t) (ht : t = true → WC P n x Q ρ w) (hf : t = false → WC P n y Q ρ w) : WC P n (.cond c x y) Q ρ w :=
  ⟨C_cond hn hc (fun h => (ht h).out) (fun h => (hf h).out)⟩
theorem W_if {c : Operand} {x y : Code} {p : Prop} [Decidable p] (hn : tmpOk n c = true) (hc : ev ρ c = .bool (decide p)) (ht : p → WC P n x Q ρ w) (hf : ¬ p → WC P n y Q ρ w) : WC P n (.cond c x y) Q ρ w :=
  W_cond hn hc (fun h => ht (of_decide_eq_true h)) (fun h => hf (of_decide_eq_false h))
theorem W_block {id : Nat} {c : Code} (h : WC P n c (blockQ id Q) ρ w) : WC P n (.block id c) Q ρ w := ⟨C_block h.out⟩
theorem W_loop {c : Code} (I : Nat → Env → World → Prop) (m : Nat) (h₀ : I m ρ w)
    (round : ∀ k ρ w, I k ρ w → WC P n c (thenQ (fun ρ' w' => ∃ k', k' < k ∧ I k' ρ' w') Q) ρ w) : WC P n (.loop c) Q ρ w :=
  ⟨C_loop I m h₀ fun k ρ w h => (round k ρ w h).out⟩
theorem W_mid {c : Code} {Q' : Exit → Env → World → Prop} (h : WC P n c Q ρ w) (hq : ∀ e ρ w, Q e ρ w → Q' e ρ w) : WC P n c Q' ρ w := ⟨wpc_mono h.out hq⟩
/-- A cut: what holds between two pieces of code. -/
theorem W_cut {x y : Code} (M : Env → World → Prop) (hx : WC P n x (thenQ M Q) ρ w) (hy : ∀ ρ w, M ρ w → WC P n y Q ρ w) : WC P n (.seq x y) Q ρ w :=
  W_seq (W_mid hx fun e ρ w h => by cases e <;> first | exact hy _ _ h | exact h)
theorem W_enter {f : FuncId} {fn : Func} {c : Code} {l : List Value} {R : Value → World → Prop} (hf : P.funcs[f]? = some fn) (hb : fn.body = some c) (hn : fn.ntmps = n) (hl : Nat.ble l.length n = true)
    (h : WC P n c (bodyQ P n fn R) (argF l) w) : Ret P f l.toArray w R := enter hf hb hn (Nat.le_of_ble_eq_true hl) h.out

theorem Fr_getD {t : Nat} (h : Nat.blt t n = true) : (Fr n ρ).tmps.getD t undef = ρ t := by
  rw [Array.getD_eq_getD_getElem?, Fr_get (by simpa [Nat.blt_eq] using h)]; rfl
theorem E_ret0 {fn : Func} {R : Value → World → Prop} (hr : fn.results = #[]) (h : R (.tuple #[]) w) : bodyQ P n fn R .ret ρ w := ⟨_, by simp [results, hr], h⟩
theorem E_end0 {fn : Func} {R : Value → World → Prop} (hr : fn.results = #[]) (h : R (.tuple #[]) w) : bodyQ P n fn R .normal ρ w := ⟨_, by simp [results, hr], h⟩
theorem E_ret {fn : Func} {R : Value → World → Prop} {t : Nat} {v : Value} (hr : fn.results = #[.tmp t]) (ht : Nat.blt t n = true) (hv : ρ t = v) (h : R v w) : bodyQ P n fn R .ret ρ w :=
  ⟨v, by simp only [results, hr]; simp; rw [← hv]; simpa [Array.getD_eq_getD_getElem?] using Fr_getD (ρ := ρ) ht, h⟩
theorem E_ret2 {fn : Func} {R : Value → World → Prop} {t t' : Nat} {v v' : Value} (hr : fn.results = #[.tmp t, .tmp t']) (ht : Nat.blt t n = true) (ht' : Nat.blt t' n = true) (hv : ρ t = v) (hv' : ρ t' = v') (h : R (.tuple #[v, v']) w) : bodyQ P n fn R .ret ρ w := by
  have h1 := Fr_getD (ρ := ρ) ht
  have h2 := Fr_getD (ρ := ρ) ht'
  rw [Array.getD_eq_getD_getElem?] at h1 h2
  refine ⟨_, ?_, h⟩
  simp [results, hr, h1, h2, hv, hv']
theorem E_cell {fn : Func} {R : Value → World → Prop} {t T s b o : Nat} {c : Array Value} {tb : TypeId} (hr : fn.results = #[.cell t T]) (ht : Nat.blt t n = true) (hT : aggT P T s) (hv : ρ t = .pointer (some ⟨b, o, none⟩)) (hb : Blk w b c tb) (hs : o + s ≤ c.size) (h : R (.agg (c.extract o (o + s))) w) : bodyQ P n fn R .ret ρ w := by
  have h1 := Fr_getD (ρ := ρ) ht
  rw [Array.getD_eq_getD_getElem?] at h1
  have h2 := run_load_agg (P := P) hT hb hs
  simp only [Instr.loadAt, Instr.sureAddr] at h2
  have h3 : (loadVar T ⟨b, o, none⟩).run P w = .ok (.agg (c.extract o (o + s))) w := by simpa using h2
  refine ⟨_, ?_, h⟩
  simp [results, hr, h1, hv, asAddr, h3]

theorem G_yes {j : Nat} {want : Bool} {dd : Option Nat} {op : Op} (hg : wantR ops (some (j, want)) ρ = true) (h : WO P ops ⟨dd, op, ty, pos, af, none⟩ e K ρ w) : WO P ops ⟨dd, op, ty, pos, af, some (j, want)⟩ e K ρ w := by
  have h := h.out
  constructor
  unfold opR at *
  rw [if_pos (by rfl)] at h
  rw [if_pos hg]
  exact h
theorem G_no {j : Nat} {want : Bool} {dd : Option Nat} {op : Op} (hg : wantR ops (some (j, want)) ρ = false) (h : K (puto ρ dd undef) w) : WO P ops ⟨dd, op, ty, pos, af, some (j, want)⟩ e K ρ w := by
  constructor
  unfold opR
  rw [if_neg (by rw [hg]; simp)]
  exact h

/-! ### general -/
theorem O_pure {op : Op} {v : Value} (hc : cls op = 0) (hr : ∀ w', (execOp (ev ρ) ⟨some d, op, ty, pos, af, none⟩).run P w' = .ok (.value v) w') (k : K (put ρ d v) w) : WO P ops ⟨some d, op, ty, pos, af, none⟩ e K ρ w := by
  constructor
  unfold opR
  rw [if_pos (by rfl)]
  unfold opN
  rw [if_neg (by simp [hc])]
  exact ⟨v, fun w' _ => hr w', k⟩

theorem O_read {op : Op} {v : Value} (hc : cls op = 1) (hr : ∀ w', Ext w w' → (execOp (ev ρ) ⟨some d, op, ty, pos, af, none⟩).run P w' = .ok (.value v) w') (k : K (put ρ d v) w) : WO P ops ⟨some d, op, ty, pos, af, none⟩ e K ρ w := by
  constructor
  unfold opR
  rw [if_pos (by rfl)]
  unfold opN
  rw [if_neg (by simp [hc])]
  exact ⟨v, fun w' hw => hr w' (by simpa [Sof, hc] using hw), k⟩

theorem O_do {dd : Option Nat} {op : Op} {v : Value} {w' : World} (hc : cls op = 2) (hr : (execOp (ev ρ) ⟨dd, op, ty, pos, af, none⟩).run P w = .ok (.value v) w') (hE : e = true → Ext w w') (k : K (puto ρ dd v) w') : WO P ops ⟨dd, op, ty, pos, af, none⟩ e K ρ w := by
  constructor
  unfold opR
  rw [if_pos (by rfl)]
  unfold opN
  rw [if_pos hc, hr]
  exact ⟨hE, k⟩

theorem O_skip {op : Op} {w' : World} (hc : cls op = 2) (hr : (execOp (ev ρ) ⟨none, op, ty, pos, af, none⟩).run P w = .ok .skip w') (hE : e = true → Ext w w') (k : K ρ w') : WO P ops ⟨none, op, ty, pos, af, none⟩ e K ρ w := by
  constructor
  unfold opR
  rw [if_pos (by rfl)]
  unfold opN
  rw [if_pos hc, hr]
  exact ⟨hE, k⟩

/-! ### moves -/
theorem O_move {x : Operand} {v : Value} (hx : ev ρ x = v) (k : K (put ρ d v) w) : WO P ops ⟨some d, .move x, ty, pos, af, none⟩ e K ρ w :=
  O_pure rfl (fun w' => by simp [execOp, hx]) k
theorem O_assign {x : Operand} {v : Value} (hx : ev ρ x = v) (k : K (put ρ d v) w) : WO P ops ⟨some d, .assign x, ty, pos, af, none⟩ e K ρ w :=
  O_pure rfl (fun w' => by simp [execOp, hx]) k
theorem O_pick_t {c a b : Operand} {v : Value} (hc : ev ρ c = .bool true) (ha : ev ρ a = v) (k : K (put ρ d v) w) : WO P ops ⟨some d, .pick c a b, ty, pos, af, none⟩ e K ρ w :=
  O_pure rfl (fun w' => by simp [execOp, hc, ha, asBool]) k
theorem O_pick_f {c a b : Operand} {v : Value} (hc : ev ρ c = .bool false) (hb : ev ρ b = v) (k : K (put ρ d v) w) : WO P ops ⟨some d, .pick c a b, ty, pos, af, none⟩ e K ρ w :=
  O_pure rfl (fun w' => by simp [execOp, hc, hb, asBool]) k
theorem O_nil {x : Operand} {a : Addr} (hx : ev ρ x = .pointer (some a)) (k : K (put ρ d (.pointer (some a))) w) : WO P ops ⟨some d, .nilCheck x, ty, pos, af, none⟩ e K ρ w :=
  O_pure rfl (fun w' => by simp [execOp, hx]) k
theorem O_extract {x : Operand} {i : Nat} {vs : Array Value} {v : Value} (hx : ev ρ x = .tuple vs) (hv : vs[i]? = some v) (k : K (put ρ d v) w) : WO P ops ⟨some d, .extract x i, ty, pos, af, none⟩ e K ρ w :=
  O_pure rfl (fun w' => by simp [execOp, Instr.extract, hx, hv]) k
theorem O_not {x : Operand} {t : TypeId} {p : Bool} (hx : ev ρ x = .bool p) (k : K (put ρ d (.bool !p)) w) : WO P ops ⟨some d, .unOp .not t x, ty, pos, af, none⟩ e K ρ w :=
  O_pure rfl (fun w' => by simp [execOp, Op.unary, hx]) k

/-! ### addresses -/
theorem O_index {t n el s b o m : Nat} {k : IntKind} {x i : Operand} (ht : arrT P t n el s) (hx : ev ρ x = .pointer (some ⟨b, o, none⟩)) (hi : ev ρ i = .int k (m : Nat)) (hm : m < n)
    (kk : K (put ρ d (.pointer (some ⟨b, o + m * s, none⟩))) w) : WO P ops ⟨some d, .indexAddr t x i, ty, pos, af, none⟩ e K ρ w :=
  O_pure rfl (fun w' => by simp [execOp, hx, hi, run_indexAt_arr (P := P) (w := w') (b := b) (o := o) (k := k) (z := (m : Int)) ht (by omega) (by omega)]) kk
theorem O_index_s {t el s b o l cap m : Nat} {k : IntKind} {x i : Operand} (ht : slcT P t el s) (hx : ev ρ x = .slice (some ⟨b, o, none⟩) l cap) (hi : ev ρ i = .int k (m : Nat)) (hm : m < l)
    (kk : K (put ρ d (.pointer (some ⟨b, o + m * s, none⟩))) w) : WO P ops ⟨some d, .indexAddr t x i, ty, pos, af, none⟩ e K ρ w :=
  O_pure rfl (fun w' => by simp [execOp, hx, hi, run_indexAt_slc (P := P) (w := w') (b := b) (o := o) (l := l) (cap := cap) (k := k) (z := (m : Int)) ht (by omega) (by omega)]) kk
theorem O_field {t i off s b o : Nat} {x : Operand} (ht : fldT P t i off s) (hs : s ≠ 0) (hx : ev ρ x = .pointer (some ⟨b, o, none⟩)) (k : K (put ρ d (.pointer (some ⟨b, o + off, none⟩))) w) : WO P ops ⟨some d, .fieldAddr t x i, ty, pos, af, none⟩ e K ρ w :=
  O_pure rfl (fun w' => by simp [execOp, hx, run_fieldAt (P := P) (w := w') (b := b) (o := o) ht hs]) k

/-! ### memory -/
theorem O_load {t b o : Nat} {c : Array Value} {tb : TypeId} {v : Value} {x : Operand} (ht : oneT P t) (hx : ev ρ x = .pointer (some ⟨b, o, none⟩)) (hb : Blk w b c tb) (hc : c[o]? = some v) (k : K (put ρ d v) w) : WO P ops ⟨some d, .load t x, ty, pos, af, none⟩ e K ρ w :=
  O_read rfl (fun w' hw => by simp [execOp, hx, run_load_one (P := P) ht ((hb.ext hw).cell hc)]) k
theorem O_load_agg {t s b o : Nat} {c : Array Value} {tb : TypeId} {x : Operand} (ht : aggT P t s) (hx : ev ρ x = .pointer (some ⟨b, o, none⟩)) (hb : Blk w b c tb) (hs : o + s ≤ c.size) (k : K (put ρ d (.agg (c.extract o (o + s)))) w) : WO P ops ⟨some d, .load t x, ty, pos, af, none⟩ e K ρ w :=
  O_read rfl (fun w' hw => by simp [execOp, hx, run_load_agg (P := P) ht (hb.ext hw) hs]) k
theorem O_store {t b o : Nat} {c : Array Value} {tb : TypeId} {v : Value} {x y : Operand} (ht : oneT P t) (hx : ev ρ x = .pointer (some ⟨b, o, none⟩)) (hy : ev ρ y = v) (hv : v.oneCell' = true) (hb : Blk w b c tb) (ho : o < c.size)
    (he : e = false) (k : ∀ w', Upd w w' b (c.setIfInBounds o v) tb → K ρ w') : WO P ops ⟨none, .store t x y, ty, pos, af, none⟩ e K ρ w := by
  have hvc : v.cells = #[v] := by cases v <;> first | rfl | (simp [Value.oneCell'] at hv)
  obtain ⟨w', hr, hu⟩ := run_store_var (P := P) (t := t) (o := o) (v := v) ht.2 hb (by rw [hvc]; rfl) (by omega) (by rw [hvc]; simpa using hv)
  refine O_skip rfl ?_ (fun h => by rw [he] at h; cases h) (k w' ?_)
  · simp [execOp, hx, hy, hr]
  · rw [hvc] at hu; exact hu
theorem O_store_agg {t s b o : Nat} {c cs : Array Value} {tb : TypeId} {x y : Operand} (ht : aggT P t s) (hx : ev ρ x = .pointer (some ⟨b, o, none⟩)) (hy : ev ρ y = .agg cs) (hs : cs.size = s) (hv : ∀ v ∈ cs.toList, v.oneCell' = true) (hb : Blk w b c tb) (ho : o + s ≤ c.size)
    (he : e = false) (k : ∀ w', Upd w w' b (spl c o cs.toList) tb → K ρ w') : WO P ops ⟨none, .store t x y, ty, pos, af, none⟩ e K ρ w := by
  obtain ⟨w', hr, hu⟩ := run_store_var (P := P) (t := t) (o := o) (v := .agg cs) ht.2 hb hs ho hv
  refine O_skip rfl ?_ (fun h => by rw [he] at h; cases h) (k w' hu)
  simp [execOp, hx, hy, hr]

theorem ext_push (w : World) (o : Obj) : Ext w { w with heap := w.heap.push o } :=
  ⟨rfl, rfl, rfl, by simp, fun k hk => by simp only [Array.getElem?_push]; rw [if_neg (by omega)]⟩
theorem blk_push (w : World) (c : Array Value) (t : TypeId) : Blk { w with heap := w.heap.push (.cells c t) } w.heap.size c t := by
  unfold Blk; simp

theorem O_alloc {t : Nat} {v : Value} (hz : zeroT P t v) (k : ∀ w', Ext w w' → w'.heap.size = w.heap.size + 1 → Blk w' w.heap.size v.cells t → K (put ρ d (.pointer (some ⟨w.heap.size, 0, none⟩))) w') : WO P ops ⟨some d, .alloc t, ty, pos, af, none⟩ e K ρ w := by
  refine O_do (v := .pointer (some ⟨w.heap.size, 0, none⟩)) (w' := { w with heap := w.heap.push (.cells v.cells t) }) rfl ?_ (fun _ => ext_push w _) (k _ (ext_push w _) (by simp) (blk_push w _ _))
  simp [execOp, Instr.alloc, run_zeroValue hz, newVar, newRow]
theorem O_box {t : Nat} {v : Value} {x : Operand} (hx : ev ρ x = v) (k : ∀ w', Ext w w' → w'.heap.size = w.heap.size + 1 → Blk w' w.heap.size v.cells t → K (put ρ d (.pointer (some ⟨w.heap.size, 0, none⟩))) w') : WO P ops ⟨some d, .box t x, ty, pos, af, none⟩ e K ρ w := by
  refine O_do (v := .pointer (some ⟨w.heap.size, 0, none⟩)) (w' := { w with heap := w.heap.push (.cells v.cells t) }) rfl ?_ (fun _ => ext_push w _) (k _ (ext_push w _) (by simp) (blk_push w _ _))
  simp [execOp, Instr.box, hx, newVar, newRow]

/-! ### numbers -/
def binRes (op : BinOp) (k : IntKind) (a b : Int) : Option Value :=
  match op with
  | .add => some (.int k (k.wrap (a + b)))
  | .sub => some (.int k (k.wrap (a - b)))
  | .mul => some (.int k (k.wrap (a * b)))
  | .quo => if b = 0 then none else some (.int k (k.wrap (a.tdiv b)))
  | .rem => if b = 0 then none else some (.int k (a.tmod b))
  | .eql => some (.bool (a == b))
  | .neq => some (.bool (a != b))
  | .lss => some (.bool (a < b))
  | .leq => some (.bool (a ≤ b))
  | .gtr => some (.bool (a > b))
  | .geq => some (.bool (a ≥ b))
  | .and => some (.int k (k.wrap (BitVec.ofInt k.bits a &&& BitVec.ofInt k.bits b).toNat))
  | .or => some (.int k (k.wrap (BitVec.ofInt k.bits a ||| BitVec.ofInt k.bits b).toNat))
  | .xor => some (.int k (k.wrap (BitVec.ofInt k.bits a ^^^ BitVec.ofInt k.bits b).toNat))
  | _ => none

theorem run_binRes {op : BinOp} {k : IntKind} {a b : Int} {v : Value} {t : TypeId} (h : binRes op k a b = some v) : (binOp op t (.int k a) (.int k b)).run P w = .ok v w := by
  cases op <;> simp only [binRes] at h <;> first
    | (cases h; simp [binOp, Op.intArith, Op.intCmp, Op.intBits]; done)
    | (split at h
       · cases h
       · rename_i hb; cases h; simp [binOp, Op.intDiv, hb])
    | (cases h; done)

theorem eqGuard_int {op : BinOp} {t : TypeId} {x y : Operand} {k k' : IntKind} {a b : Int} : (eqGuard op t x y (.int k a) (.int k' b)).run P w = .ok () w := by
  cases op <;> simp [eqGuard]

theorem O_bin {op : BinOp} {t t' : TypeId} {x y : Operand} {k : IntKind} {a b : Int} {v : Value} (hx : ev ρ x = .int k a) (hy : ev ρ y = .int k b) (hv : binRes op k a b = some v) (kk : K (put ρ d v) w) : WO P ops ⟨some d, .binOp op t x y t', ty, pos, af, none⟩ e K ρ w :=
  O_pure rfl (fun w' => by simp [execOp, hx, hy, eqGuard_int, run_binRes hv]) kk

theorem wrap_i64 {a : Int} (h0 : -9223372036854775808 ≤ a) (h1 : a < 9223372036854775808) : IntKind.i64.wrap a = a := by
  simp only [IntKind.wrap, IntKind.bits, IntKind.signed, Bool.true_and, decide_eq_true_eq, ge_iff_le, Nat.reduceSub, Int.reducePow]
  split <;> omega
theorem wrap_i32 {a : Int} (h0 : -2147483648 ≤ a) (h1 : a < 2147483648) : IntKind.i32.wrap a = a := by
  simp only [IntKind.wrap, IntKind.bits, IntKind.signed, Bool.true_and, decide_eq_true_eq, ge_iff_le, Nat.reduceSub, Int.reducePow]
  split <;> omega
theorem wrap_u64 {a : Int} (h0 : 0 ≤ a) (h1 : a < 18446744073709551616) : IntKind.u64.wrap a = a := by
  simp only [IntKind.wrap, IntKind.bits, IntKind.signed, Bool.false_and, Bool.false_eq_true, if_false, Int.reducePow]
  omega
theorem wrap_u16 {a : Int} (h0 : 0 ≤ a) (h1 : a < 65536) : IntKind.u16.wrap a = a := by
  simp only [IntKind.wrap, IntKind.bits, IntKind.signed, Bool.false_and, Bool.false_eq_true, if_false, Int.reducePow]
  omega
theorem wrap_u8 {a : Int} (h0 : 0 ≤ a) (h1 : a < 256) : IntKind.u8.wrap a = a := by
  simp only [IntKind.wrap, IntKind.bits, IntKind.signed, Bool.false_and, Bool.false_eq_true, if_false, Int.reducePow]
  omega

/-- n fits into the kind. -/
def fitN : IntKind → Nat → Bool
  | .i8, n => Nat.blt n 128 | .i16, n => Nat.blt n 32768 | .i32, n => Nat.blt n 2147483648 | .i64, n => Nat.blt n 9223372036854775808
  | .u8, n => Nat.blt n 256 | .u16, n => Nat.blt n 65536 | .u32, n => Nat.blt n 4294967296 | .u64, n => Nat.blt n 18446744073709551616

theorem wrapN {k : IntKind} {n : Nat} (h : fitN k n = true) : k.wrap (n : Int) = n := by
  cases k <;> simp only [fitN, Nat.blt_eq] at h <;>
    simp only [IntKind.wrap, IntKind.bits, IntKind.signed, Bool.true_and, Bool.false_and, Bool.false_eq_true, if_false, decide_eq_true_eq, ge_iff_le, Nat.reduceSub, Int.reducePow] <;>
    first | omega | (split <;> omega)

theorem fit_i64 {n : Nat} (h : n < 9223372036854775808) : fitN .i64 n = true := by simpa [fitN, Nat.blt_eq] using h
theorem fit_i32 {n : Nat} (h : n < 2147483648) : fitN .i32 n = true := by simpa [fitN, Nat.blt_eq] using h
theorem fit_u64 {n : Nat} (h : n < 18446744073709551616) : fitN .u64 n = true := by simpa [fitN, Nat.blt_eq] using h
theorem fit_u8 {n : Nat} (h : n < 256) : fitN .u8 n = true := by simpa [fitN, Nat.blt_eq] using h
theorem fit_u16 {n : Nat} (h : n < 65536) : fitN .u16 n = true := by simpa [fitN, Nat.blt_eq] using h

section
variable {t t' : TypeId} {x y : Operand} {k : IntKind} {a b : Nat}
theorem O_add (hx : ev ρ x = .int k (a : Nat)) (hy : ev ρ y = .int k (b : Nat)) (hf : fitN k (a + b) = true) (kk : K (put ρ d (.int k ((a + b : Nat) : Int))) w) : WO P ops ⟨some d, .binOp .add t x y t', ty, pos, af, none⟩ e K ρ w :=
  O_bin hx hy (by simp only [binRes]; rw [← Int.natCast_add, wrapN hf]) kk
theorem O_sub (hx : ev ρ x = .int k (a : Nat)) (hy : ev ρ y = .int k (b : Nat)) (hf : fitN k a = true) (hle : b ≤ a) (kk : K (put ρ d (.int k ((a - b : Nat) : Int))) w) : WO P ops ⟨some d, .binOp .sub t x y t', ty, pos, af, none⟩ e K ρ w :=
  O_bin hx hy (by
    simp only [binRes]
    rw [← Int.ofNat_sub hle, wrapN]
    cases k <;> simp only [fitN, Nat.blt_eq] at hf ⊢ <;> omega) kk
theorem O_mul (hx : ev ρ x = .int k (a : Nat)) (hy : ev ρ y = .int k (b : Nat)) (hf : fitN k (a * b) = true) (kk : K (put ρ d (.int k ((a * b : Nat) : Int))) w) : WO P ops ⟨some d, .binOp .mul t x y t', ty, pos, af, none⟩ e K ρ w :=
  O_bin hx hy (by simp only [binRes]; rw [← Int.natCast_mul, wrapN hf]) kk
theorem O_rem (hx : ev ρ x = .int k (a : Nat)) (hy : ev ρ y = .int k (b : Nat)) (hb : 0 < b) (kk : K (put ρ d (.int k ((a % b : Nat) : Int))) w) : WO P ops ⟨some d, .binOp .rem t x y t', ty, pos, af, none⟩ e K ρ w :=
  O_bin hx hy (by simp only [binRes]; rw [if_neg (by omega)]; rfl) kk
theorem O_quo (hx : ev ρ x = .int k (a : Nat)) (hy : ev ρ y = .int k (b : Nat)) (hf : fitN k a = true) (hb : 0 < b) (kk : K (put ρ d (.int k ((a / b : Nat) : Int))) w) : WO P ops ⟨some d, .binOp .quo t x y t', ty, pos, af, none⟩ e K ρ w :=
  O_bin hx hy (by
    simp only [binRes]; rw [if_neg (by omega)]
    have h1 : ((a : Int).tdiv b) = ((a / b : Nat) : Int) := rfl
    have h2 : a / b ≤ a := Nat.div_le_self _ _
    rw [h1, wrapN]
    cases k <;> simp only [fitN, Nat.blt_eq] at hf ⊢ <;> omega) kk
theorem O_lss (hx : ev ρ x = .int k (a : Nat)) (hy : ev ρ y = .int k (b : Nat)) (kk : K (put ρ d (.bool (decide (a < b)))) w) : WO P ops ⟨some d, .binOp .lss t x y t', ty, pos, af, none⟩ e K ρ w :=
  O_bin hx hy (by simp only [binRes, Int.ofNat_lt]) kk
theorem O_leq (hx : ev ρ x = .int k (a : Nat)) (hy : ev ρ y = .int k (b : Nat)) (kk : K (put ρ d (.bool (decide (a ≤ b)))) w) : WO P ops ⟨some d, .binOp .leq t x y t', ty, pos, af, none⟩ e K ρ w :=
  O_bin hx hy (by simp only [binRes, Int.ofNat_le]) kk
theorem O_gtr (hx : ev ρ x = .int k (a : Nat)) (hy : ev ρ y = .int k (b : Nat)) (kk : K (put ρ d (.bool (decide (b < a)))) w) : WO P ops ⟨some d, .binOp .gtr t x y t', ty, pos, af, none⟩ e K ρ w :=
  O_bin hx hy (by simp only [binRes, gt_iff_lt, Int.ofNat_lt]) kk
theorem O_geq (hx : ev ρ x = .int k (a : Nat)) (hy : ev ρ y = .int k (b : Nat)) (kk : K (put ρ d (.bool (decide (b ≤ a)))) w) : WO P ops ⟨some d, .binOp .geq t x y t', ty, pos, af, none⟩ e K ρ w :=
  O_bin hx hy (by simp only [binRes, ge_iff_le, Int.ofNat_le]) kk
theorem O_eql (hx : ev ρ x = .int k (a : Nat)) (hy : ev ρ y = .int k (b : Nat)) (kk : K (put ρ d (.bool (decide (a = b)))) w) : WO P ops ⟨some d, .binOp .eql t x y t', ty, pos, af, none⟩ e K ρ w :=
  O_bin hx hy (by
    simp only [binRes]
    congr 2
    by_cases h : a = b <;> simp [h, Int.ofNat_inj]) kk
theorem O_neq (hx : ev ρ x = .int k (a : Nat)) (hy : ev ρ y = .int k (b : Nat)) (kk : K (put ρ d (.bool (decide (a ≠ b)))) w) : WO P ops ⟨some d, .binOp .neq t x y t', ty, pos, af, none⟩ e K ρ w :=
  O_bin hx hy (by
    simp only [binRes]
    congr 2
    by_cases h : a = b <;> simp [h, bne, Int.ofNat_inj]) kk
theorem O_shr {k' : IntKind} (hx : ev ρ x = .int k (a : Nat)) (hy : ev ρ y = .int k' (b : Nat)) (hb : b ≤ k.bits) (kk : K (put ρ d (.int k ((a >>> b : Nat) : Int))) w) : WO P ops ⟨some d, .binOp .shr t x y t', ty, pos, af, none⟩ e K ρ w :=
  O_pure rfl (fun w' => by
    have h1 : ¬ ((b : Int) < 0) := by omega
    have h2 : min (Int.toNat (b : Int)) k.bits = b := by simp; omega
    have h3 : (a : Int).fdiv (2 ^ b) = ((a >>> b : Nat) : Int) := by
      rw [Nat.shiftRight_eq_div_pow, Int.fdiv_eq_ediv_of_nonneg _ (by exact Int.le_of_lt (Int.pow_pos (by omega)))]
      rw [Int.natCast_ediv]; simp
    simp only [execOp, hx, hy, eqGuard, binOp, Op.shift, h1, if_false, h2, h3]
    rfl) kk
theorem O_shl {k' : IntKind} (hx : ev ρ x = .int k (a : Nat)) (hy : ev ρ y = .int k' (b : Nat)) (hb : b ≤ k.bits) (hf : fitN k (a * 2 ^ b) = true) (kk : K (put ρ d (.int k ((a * 2 ^ b : Nat) : Int))) w) : WO P ops ⟨some d, .binOp .shl t x y t', ty, pos, af, none⟩ e K ρ w :=
  O_pure rfl (fun w' => by
    have h1 : ¬ ((b : Int) < 0) := by omega
    have h2 : min (Int.toNat (b : Int)) k.bits = b := by simp; omega
    have h3 : k.wrap ((a : Int) * 2 ^ b) = ((a * 2 ^ b : Nat) : Int) := by
      rw [← wrapN hf]; simp
    simp only [execOp, hx, hy, eqGuard, binOp, Op.shift, h1, if_false, h2, h3]
    rfl) kk

theorem ofInt_nat (n a : Nat) : BitVec.ofInt n (a : Int) = BitVec.ofNat n a := by
  apply BitVec.eq_of_toNat_eq; simp [BitVec.toNat_ofInt]
def unsK : IntKind → Bool
  | .u8 | .u16 | .u32 | .u64 => true
  | _ => false
theorem fit_bits {k : IntKind} {n : Nat} (hu : unsK k = true) : fitN k n = true ↔ n < 2 ^ k.bits := by
  cases k <;> simp [unsK] at hu <;> simp [fitN, Nat.blt_eq, IntKind.bits]
theorem O_and (hu : unsK k = true) (hx : ev ρ x = .int k (a : Nat)) (hy : ev ρ y = .int k (b : Nat)) (ha : fitN k a = true) (hb : fitN k b = true) (kk : K (put ρ d (.int k ((a &&& b : Nat) : Int))) w) : WO P ops ⟨some d, .binOp .and t x y t', ty, pos, af, none⟩ e K ρ w :=
  O_bin hx hy (by
    rw [fit_bits hu] at ha hb
    simp only [binRes, ofInt_nat, BitVec.toNat_and, BitVec.toNat_ofNat, Nat.mod_eq_of_lt ha, Nat.mod_eq_of_lt hb]
    rw [wrapN ((fit_bits hu).2 (Nat.and_lt_two_pow _ hb))]) kk
theorem O_or (hu : unsK k = true) (hx : ev ρ x = .int k (a : Nat)) (hy : ev ρ y = .int k (b : Nat)) (ha : fitN k a = true) (hb : fitN k b = true) (kk : K (put ρ d (.int k ((a ||| b : Nat) : Int))) w) : WO P ops ⟨some d, .binOp .or t x y t', ty, pos, af, none⟩ e K ρ w :=
  O_bin hx hy (by
    rw [fit_bits hu] at ha hb
    simp only [binRes, ofInt_nat, BitVec.toNat_or, BitVec.toNat_ofNat, Nat.mod_eq_of_lt ha, Nat.mod_eq_of_lt hb]
    rw [wrapN ((fit_bits hu).2 (Nat.or_lt_two_pow ha hb))]) kk
theorem O_conv {s t k'} {ds : TypeDesc} (hs : P.underlying s = some ds) (ht : P.underlying t = some (.int k')) (hx : ev ρ x = .int k (a : Nat)) (hf : fitN k' a = true) (kk : K (put ρ d (.int k' (a : Nat))) w) : WO P ops ⟨some d, .convert s t x, ty, pos, af, none⟩ e K ρ w :=
  O_pure rfl (fun w' => by simp [execOp, Go.convert, hx, run_underlying' hs, run_underlying' ht, Conv.intToInt, wrapN hf]) kk
end
theorem run_equal_bool {t : TypeId} {p q : Bool} (ht : P.underlying t = some .bool) : (Op.equal t (.bool p) (.bool q)).run P w = .ok (p == q) w := by
  show (Op.equalIn (9999 + 1) t _ _).run P w = _
  rw [Op.equalIn]
  simp [run_underlying' ht]
theorem O_bneq {t t' : TypeId} {x y : Operand} {p q : Bool} (ht : P.underlying t = some .bool) (hx : ev ρ x = .bool p) (hy : ev ρ y = .bool q) (kk : K (put ρ d (.bool (p != q))) w) : WO P ops ⟨some d, .binOp .neq t x y t', ty, pos, af, none⟩ e K ρ w :=
  O_pure rfl (fun w' => by
    have h1 : binOp .neq t (.bool p) (.bool q) = (do pure (.bool (!(← Op.equal t (.bool p) (.bool q))))) := rfl
    have h2 : (eqGuard .neq t x y (.bool p) (.bool q)).run P w' = .ok () w' := by simp [eqGuard]
    simp only [execOp, hx, hy, Sem.run_bind, h2, Result.andThen_ok, h1, run_equal_bool ht, Sem.run_pure, bne]) kk
theorem O_beql {t t' : TypeId} {x y : Operand} {p q : Bool} (ht : P.underlying t = some .bool) (hx : ev ρ x = .bool p) (hy : ev ρ y = .bool q) (kk : K (put ρ d (.bool (p == q))) w) : WO P ops ⟨some d, .binOp .eql t x y t', ty, pos, af, none⟩ e K ρ w :=
  O_pure rfl (fun w' => by
    have h1 : binOp .eql t (.bool p) (.bool q) = (do pure (.bool (← Op.equal t (.bool p) (.bool q)))) := rfl
    have h2 : (eqGuard .eql t x y (.bool p) (.bool q)).run P w' = .ok () w' := by simp [eqGuard]
    simp only [execOp, hx, hy, Sem.run_bind, h2, Result.andThen_ok, h1, run_equal_bool ht, Sem.run_pure]) kk

/-! ### calls -/
def callable (P : Program) (f : FuncId) : Prop := ∃ fn, P.funcs[f]? = some fn ∧ (fn.name == "runtime.NumGoroutine") = false ∧ fn.body.isNone = false
theorem O_call {f : FuncId} {args : Array Operand} {ats : Array TypeId} {l : List Value} (hf : callable P f) (ha : args.toList.map (ev ρ) = l)
    (k : Ret P f l.toArray w fun v w' => (e = true → Ext w w') ∧ K (put ρ d v) w') : WO P ops ⟨some d, .call ⟨.value (.func f), args, ats⟩, ty, pos, af, none⟩ e K ρ w := by
  obtain ⟨fn, h1, h2, h3⟩ := hf
  have hm : args.map (ev ρ) = l.toArray := by
    apply Array.ext'
    rw [Array.toList_map, ha]
  have h2' : fn.name ≠ "runtime.NumGoroutine" := by simpa using h2
  have h3' : fn.body ≠ none := fun h => by rw [h] at h3; cases h3
  have hr : (execOp (ev ρ) ⟨some d, .call ⟨.value (.func f), args, ats⟩, ty, pos, af, none⟩).run P w = .ok (.enter f l.toArray) w := by
    simp [execOp, resolve, hm, ev, Deferred.ofValue, invoke, callFunc, h1, h2', h3']
  constructor
  unfold opR
  rw [if_pos (by rfl)]
  unfold opN
  rw [if_pos (show cls (Op.call ⟨.value (.func f), args, ats⟩) = 2 from rfl), hr]
  exact k
theorem O_len {t el : Nat} {x : Operand} {a : Option Addr} {l cap : Nat} {ats : Array TypeId} (ht : P.underlying t = some (.slice el)) (hat : ats[0]? = some t) (hx : ev ρ x = .slice a l cap) (kk : K (put ρ d (.int .i64 (l : Nat))) w) :
    WO P ops ⟨some d, .call ⟨.builtin .len, #[x], ats⟩, ty, pos, af, none⟩ e K ρ w :=
  O_pure rfl (fun w' => by simp [execOp, resolve, invoke, builtin, Builtin.len_, hat, hx, run_underlying' ht, goInt]) kk
end
end Go.Proofs.Ygcsam
namespace Go.Proofs.Ygcsam
section
variable {P : Program} {ops : Array Oper} {e : Bool} {K : Env → World → Prop} {Q : Exit → Env → World → Prop} {ρ : Env} {w : World} {d : Nat} {ty : TypeId} {pos : String} {af : Array Edge} {n : Nat}
  {t t' : TypeId} {x y : Operand} {k : IntKind} {a b : Nat}
theorem W_true {c : Operand} {x y : Code} (hn : tmpOk n c = true) (hc : ev ρ c = .bool true) (h : WC P n x Q ρ w) : WC P n (.cond c x y) Q ρ w := W_cond hn hc (fun _ => h) (fun h => by cases h)
theorem W_false {c : Operand} {x y : Code} (hn : tmpOk n c = true) (hc : ev ρ c = .bool false) (h : WC P n y Q ρ w) : WC P n (.cond c x y) Q ρ w := W_cond hn hc (fun h => by cases h) (fun _ => h)
theorem O_lss_t (hx : ev ρ x = .int k (a : Nat)) (hy : ev ρ y = .int k (b : Nat)) (h : a < b) (kk : K (put ρ d (.bool true)) w) : WO P ops ⟨some d, .binOp .lss t x y t', ty, pos, af, none⟩ e K ρ w := O_lss hx hy (by rw [decide_eq_true h]; exact kk)
theorem O_lss_f (hx : ev ρ x = .int k (a : Nat)) (hy : ev ρ y = .int k (b : Nat)) (h : ¬ a < b) (kk : K (put ρ d (.bool false)) w) : WO P ops ⟨some d, .binOp .lss t x y t', ty, pos, af, none⟩ e K ρ w := O_lss hx hy (by rw [decide_eq_false h]; exact kk)
theorem O_leq_t (hx : ev ρ x = .int k (a : Nat)) (hy : ev ρ y = .int k (b : Nat)) (h : a ≤ b) (kk : K (put ρ d (.bool true)) w) : WO P ops ⟨some d, .binOp .leq t x y t', ty, pos, af, none⟩ e K ρ w := O_leq hx hy (by rw [decide_eq_true h]; exact kk)
theorem O_leq_f (hx : ev ρ x = .int k (a : Nat)) (hy : ev ρ y = .int k (b : Nat)) (h : ¬ a ≤ b) (kk : K (put ρ d (.bool false)) w) : WO P ops ⟨some d, .binOp .leq t x y t', ty, pos, af, none⟩ e K ρ w := O_leq hx hy (by rw [decide_eq_false h]; exact kk)
theorem O_gtr_t (hx : ev ρ x = .int k (a : Nat)) (hy : ev ρ y = .int k (b : Nat)) (h : b < a) (kk : K (put ρ d (.bool true)) w) : WO P ops ⟨some d, .binOp .gtr t x y t', ty, pos, af, none⟩ e K ρ w := O_gtr hx hy (by rw [decide_eq_true h]; exact kk)
theorem O_gtr_f (hx : ev ρ x = .int k (a : Nat)) (hy : ev ρ y = .int k (b : Nat)) (h : ¬ b < a) (kk : K (put ρ d (.bool false)) w) : WO P ops ⟨some d, .binOp .gtr t x y t', ty, pos, af, none⟩ e K ρ w := O_gtr hx hy (by rw [decide_eq_false h]; exact kk)
theorem O_geq_t (hx : ev ρ x = .int k (a : Nat)) (hy : ev ρ y = .int k (b : Nat)) (h : b ≤ a) (kk : K (put ρ d (.bool true)) w) : WO P ops ⟨some d, .binOp .geq t x y t', ty, pos, af, none⟩ e K ρ w := O_geq hx hy (by rw [decide_eq_true h]; exact kk)
theorem O_geq_f (hx : ev ρ x = .int k (a : Nat)) (hy : ev ρ y = .int k (b : Nat)) (h : ¬ b ≤ a) (kk : K (put ρ d (.bool false)) w) : WO P ops ⟨some d, .binOp .geq t x y t', ty, pos, af, none⟩ e K ρ w := O_geq hx hy (by rw [decide_eq_false h]; exact kk)
theorem O_eql_t (hx : ev ρ x = .int k (a : Nat)) (hy : ev ρ y = .int k (b : Nat)) (h : a = b) (kk : K (put ρ d (.bool true)) w) : WO P ops ⟨some d, .binOp .eql t x y t', ty, pos, af, none⟩ e K ρ w := O_eql hx hy (by rw [decide_eq_true h]; exact kk)
theorem O_eql_f (hx : ev ρ x = .int k (a : Nat)) (hy : ev ρ y = .int k (b : Nat)) (h : ¬ a = b) (kk : K (put ρ d (.bool false)) w) : WO P ops ⟨some d, .binOp .eql t x y t', ty, pos, af, none⟩ e K ρ w := O_eql hx hy (by rw [decide_eq_false h]; exact kk)
theorem O_neq_t (hx : ev ρ x = .int k (a : Nat)) (hy : ev ρ y = .int k (b : Nat)) (h : a ≠ b) (kk : K (put ρ d (.bool true)) w) : WO P ops ⟨some d, .binOp .neq t x y t', ty, pos, af, none⟩ e K ρ w := O_neq hx hy (by rw [decide_eq_true h]; exact kk)
theorem O_neq_f (hx : ev ρ x = .int k (a : Nat)) (hy : ev ρ y = .int k (b : Nat)) (h : ¬ a ≠ b) (kk : K (put ρ d (.bool false)) w) : WO P ops ⟨some d, .binOp .neq t x y t', ty, pos, af, none⟩ e K ρ w := O_neq hx hy (by rw [decide_eq_false h]; exact kk)

/-! ### frames at a loop's head -/
theorem put_self (ρ : Env) (d : Nat) (v : Value) (h : ρ d = v) : put ρ d v = ρ := by
  funext t
  unfold put
  cases hb : Nat.beq d t with
  | false => rfl
  | true => have := Nat.eq_of_beq_eq_true hb; subst this; exact h.symm
def puts (ρ : Env) : List (Nat × Value) → Env
  | [] => ρ
  | (d, v) :: l => put (puts ρ l) d v
/-- The slots of l hold what l says. -/
def Has (ρ : Env) (l : List (Nat × Value)) : Prop := ∃ σ, ρ = puts σ l
def hasP (ρ : Env) : List (Nat × Value) → Prop
  | [] => True
  | (d, v) :: l => ρ d = v ∧ hasP ρ l
theorem Has.mk {ρ : Env} {l : List (Nat × Value)} (h : hasP ρ l) : Has ρ l := by
  refine ⟨ρ, ?_⟩
  induction l with
  | nil => rfl
  | cons p l ih =>
    obtain ⟨d, v⟩ := p
    simp only [puts]
    rw [← ih h.2]
    exact (put_self ρ d v h.1).symm
end
end Go.Proofs.Ygcsam
namespace Go.Proofs.Ygcsam
section
variable {P : Program} {ops : Array Oper} {e : Bool} {K : Env → World → Prop} {Q : Exit → Env → World → Prop} {ρ : Env} {w : World} {d : Nat} {ty : TypeId} {pos : String} {af : Array Edge} {n : Nat}
theorem O_build_arr {t m el s : Nat} {z c : Array Value} {parts : Array (Nat × Operand)} {l : List (Nat × Value)} (ht : arrT P t m el s) (hz : zeroT P t (.agg z)) (hp : parts.toList.map (fun p => (p.1, ev ρ p.2)) = l)
    (hf : Instr.fill (fun i => some (i * s, s)) z l = some c) (k : K (put ρ d (.agg c)) w) : WO P ops ⟨some d, .build t parts, ty, pos, af, none⟩ e K ρ w :=
  O_pure rfl (fun w' => by
    have h1 : (parts.map fun (i, x) => (i, ev ρ x)).toList = l := by rw [← hp, Array.toList_map]
    simp only [execOp, Instr.build, Sem.run_bind, run_zeroValue hz, Result.andThen_ok, run_underlying' ht.1, run_sizeOf ht.2, h1, Value.cells, hf]
    rfl) k
end
end Go.Proofs.Ygcsam
namespace Go.Proofs.Ygcsam
section
variable {P : Program} {ops : Array Oper} {e : Bool} {K : Env → World → Prop} {Q : Exit → Env → World → Prop} {ρ : Env} {w : World} {d : Nat} {ty : TypeId} {pos : String} {af : Array Edge} {n : Nat}
theorem O_alloc_agg {t : Nat} {c : Array Value} (hz : zeroT P t (.agg c)) (k : ∀ w', Ext w w' → w'.heap.size = w.heap.size + 1 → Blk w' w.heap.size c t → K (put ρ d (.pointer (some ⟨w.heap.size, 0, none⟩))) w') : WO P ops ⟨some d, .alloc t, ty, pos, af, none⟩ e K ρ w :=
  O_alloc hz k
end
end Go.Proofs.Ygcsam
