/-
  A SMALL LOGIC OVER FRAMES THAT ARE FUNCTIONS. Own work over the kit's 'Code.wp'.
-/
import Derived.Test.YgcsamReg
namespace Go.Proofs.Ygcsam
set_option linter.unusedVariables false
set_option linter.unusedSimpArgs false

/-! ### frames -/
abbrev Env := Nat → Value

def put (ρ : Env) (d : Nat) (v : Value) : Env := fun t => bif Nat.beq d t then v else ρ t
def puto (ρ : Env) : Option Nat → Value → Env
  | some d, v => put ρ d v
  | none, _ => ρ

def ev (ρ : Env) : Operand → Value
  | .tmp t => ρ t
  | .const v => v
  | .global g => .pointer (some ⟨g, 0, none⟩)
  | .func f => .func (.func f) #[] #[]

def Fr (n : Nat) (ρ : Env) : Act := ⟨Array.ofFn (n := n) fun i => ρ i, []⟩

theorem Fr_get {n : Nat} {ρ : Env} {t : Nat} (h : t < n) : (Fr n ρ).tmps[t]? = some (ρ t) := by
  simp [Fr, h]

theorem Fr_put (n : Nat) (ρ : Env) (d : Option Nat) (v : Value) : (Fr n ρ).put d v = Fr n (puto ρ d v) := by
  cases d with
  | none => rfl
  | some d =>
    simp only [Act.put, Fr, puto, Act.mk.injEq, and_true]
    apply Array.ext
    · simp
    · intro i h1 h2
      have h3 : i < n := by simpa using h2
      have hs : i < (Array.ofFn (n := n) fun i => ρ i).size := by simpa using h3
      rw [Array.getElem_setIfInBounds hs, Array.getElem_ofFn, Array.getElem_ofFn]
      show (if d = i then v else ρ i) = bif Nat.beq d i then v else ρ i
      by_cases hd : d = i
      · subst hd; simp
      · have hb : Nat.beq d i = false := by
          cases h : Nat.beq d i with
          | false => rfl
          | true => exact absurd (Nat.eq_of_beq_eq_true h) hd
        rw [if_neg hd, hb]; rfl

def tmpOk (n : Nat) : Operand → Bool
  | .tmp t => Nat.blt t n
  | _ => true

def opOk (n : Nat) (ops : Array Oper) (o : Oper) : Bool :=
  o.op.operands.toList.all (tmpOk n) && (match o.op with | .select .. => false | _ => true) &&
  match o.guard with
  | none => true
  | some (g, _) => match (ops[g]?).bind (·.dst) with
    | some t => Nat.blt t n
    | none => true

def okB (n : Nat) (ops : Array Oper) : Bool := ops.toList.all (opOk n ops)

theorem opOk_of {n : Nat} {ops : Array Oper} (h : okB n ops = true) {i : Nat} {o : Oper} (hi : ops[i]? = some o) : opOk n ops o = true :=
  List.all_eq_true.1 h o (by simpa using Array.mem_of_getElem? hi)

theorem exec_Fr {n : Nat} {ops : Array Oper} {o : Oper} (h : opOk n ops o = true) (ρ : Env) : execOp (Fr n ρ).eval o = execOp (ev ρ) o := by
  simp only [opOk, Bool.and_eq_true, List.all_eq_true] at h
  obtain ⟨⟨h1, h2⟩, _⟩ := h
  refine execOp_congr o (fun cs b e => by simp [e] at h2) fun x hx => ?_
  have := h1 x (by simpa using hx)
  cases x with
  | tmp t =>
    have ht : t < n := by simpa [tmpOk, Nat.blt_eq] using this
    simp only [Act.eval, ev]
    rw [Array.getD_eq_getD_getElem?, Fr_get ht]; rfl
  | const v => rfl
  | global g => rfl
  | func f => rfl

def yv (ops : Array Oper) (ρ : Env) (j : Nat) : Option Bool :=
  match (ops[j]?).bind (·.dst) with
  | some t => match ρ t with
    | .bool b => some b
    | _ => none
  | none => none

def wantR (ops : Array Oper) (g : Option (Nat × Bool)) (ρ : Env) : Bool :=
  match g with
  | none => true
  | some (j, want) => yv ops ρ j == some want

theorem want_Fr {n : Nat} {ops : Array Oper} {o : Oper} (h : opOk n ops o = true) (ρ : Env) : Region.wanted o (yielded ops (Fr n ρ).tmps) = wantR ops o.guard ρ := by
  simp only [opOk, Bool.and_eq_true] at h
  obtain ⟨_, h3⟩ := h
  unfold Region.wanted wantR
  cases hg : o.guard with
  | none => rfl
  | some gw =>
    obtain ⟨g, want⟩ := gw
    simp only [hg] at h3
    have : yielded ops (Fr n ρ).tmps g = yv ops ρ g := by
      unfold yielded yv
      cases ht : (ops[g]?).bind (·.dst) with
      | none => rfl
      | some t =>
        simp only [ht] at h3
        have hlt : t < n := by simpa [Nat.blt_eq] using h3
        simp only [Option.bind_some, Fr_get hlt]
        cases ρ t <;> rfl
    simp only [this]

/-! ### one operation -/
section
variable (P : Program) (ops : Array Oper)

def tU (d : Option Nat) (ρ : Env) (K : Env → World → Prop) : Result Next → Prop
  | .ok (.value v) w' => K (puto ρ d v) w'
  | .ok .skip w' => K (puto ρ d undef) w'
  | .ok (.enter f args) w' => Calls P f args w' fun e w'' => ∃ v, e = .returned v ∧ K (puto ρ d v) w''
  | _ => False

def opN (o : Oper) (e : Bool) (K : Env → World → Prop) (ρ : Env) (w : World) : Prop :=
  if cls o.op = 2 then tU P o.dst ρ (fun ρ' w' => (e = true → Ext w w') ∧ K ρ' w') ((execOp (ev ρ) o).run P w)
  else ∃ v, (∀ w', Sof (cls o.op) w w' → (execOp (ev ρ) o).run P w' = .ok (.value v) w') ∧ K (puto ρ o.dst v) w

def opR (o : Oper) (e : Bool) (K : Env → World → Prop) (ρ : Env) (w : World) : Prop :=
  if wantR ops o.guard ρ = true then opN P o e K ρ w else K (puto ρ o.dst undef) w

def wpR (ext : List Nat) (Q : Exit → Env → World → Prop) : List Nat → Env → World → Prop
  | [], ρ, w => Q .normal ρ w
  | i :: rest, ρ, w => ∃ o, ops[i]? = some o ∧ opR P ops o (ext.contains i) (wpR ext Q rest) ρ w

def wpL (Q : Exit → Env → World → Prop) : List Oper → Env → World → Prop
  | [], ρ, w => Q .normal ρ w
  | o :: rest, ρ, w => opR P ops o false (wpL Q rest) ρ w

def lift (n : Nat) (Q : Exit → Env → World → Prop) (e : Exit) (a : Act) (w : World) : Prop := ∃ ρ, a = Fr n ρ ∧ Q e ρ w

def wpc (n : Nat) (c : Code) (Q : Exit → Env → World → Prop) (ρ : Env) (w : World) : Prop := c.wp P (lift n Q) (Fr n ρ) w
end

section
variable {P : Program} {ops : Array Oper} {Q : Exit → Env → World → Prop} {n : Nat} {ρ : Env} {w : World}

theorem tUpon_of_tU {d : Option Nat} {K : Env → World → Prop} {K' : Act → World → Prop} {r : Result Next} (hk : ∀ ρ w, K ρ w → K' (Fr n ρ) w) (h : tU P d ρ K r) : tUpon P d (Fr n ρ) K' r := by
  cases r with
  | ok x w' =>
    cases x <;> simp only [tU] at h <;> simp only [tUpon]
    case value v => rw [Fr_put]; exact hk _ _ h
    case skip => rw [Fr_put]; exact hk _ _ h
    case enter f args => exact Calls.mono h fun e w'' ⟨v, he, hv⟩ => ⟨v, he, by rw [Fr_put]; exact hk _ _ hv⟩
  | halt x w' => simp only [tU] at h

theorem stepX_of_opR {ext : List Nat} {i : Nat} {o : Oper} {K : Env → World → Prop} {K' : Act → World → Prop} (hok : okB n ops = true) (hi : ops[i]? = some o) (hk : ∀ ρ w, K ρ w → K' (Fr n ρ) w)
    (h : opR P ops o (ext.contains i) K ρ w) : stepX P ops ext i K' (Fr n ρ) w := by
  have ho := opOk_of hok hi
  have he := exec_Fr ho ρ
  have hw := want_Fr ho ρ
  unfold stepX
  simp only [hi]
  unfold opR at h
  by_cases hg : wantR ops o.guard ρ = true
  · rw [if_pos hg] at h
    unfold opN at h
    by_cases hc : cls o.op = 2
    · rw [if_pos hc] at h ⊢
      unfold tStep
      rw [hw, if_pos hg, he]
      exact tUpon_of_tU (fun ρ w h => ⟨h.1, hk _ _ h.2⟩) h
    · rw [if_neg hc] at h ⊢
      obtain ⟨v, hv, hK⟩ := h
      refine ⟨v, .inl ⟨by rw [hw]; exact hg, fun w' hw' => by rw [he]; exact hv w' hw'⟩, ?_⟩
      rw [Fr_put]; exact hk _ _ hK
  · rw [if_neg hg] at h
    have hg' : wantR ops o.guard ρ = false := by simpa using hg
    by_cases hc : cls o.op = 2
    · rw [if_pos hc]
      unfold tStep
      rw [hw, if_neg hg, Fr_put]
      exact ⟨fun _ => Ext.refl w, hk _ _ h⟩
    · rw [if_neg hc]
      exact ⟨undef, .inr ⟨by rw [hw]; exact hg', rfl⟩, by rw [Fr_put]; exact hk _ _ h⟩

theorem wpX_of_wpR {ext : List Nat} (hok : okB n ops = true) : ∀ (l : List Nat) (ρ : Env) (w : World), wpR P ops ext Q l ρ w → wpX P ops ext (lift n Q) l (Fr n ρ) w
  | [], ρ, w, h => ⟨ρ, rfl, h⟩
  | i :: rest, ρ, w, ⟨o, hi, h⟩ => stepX_of_opR hok hi (fun ρ w => wpX_of_wpR hok rest ρ w) h

theorem wpX_of_wpL (hok : okB n ops = true) : ∀ (l : List Oper) (k : Nat) (ρ : Env) (w : World), (∀ j, l[j]? = ops[k + j]?) → wpL P ops Q l ρ w → wpX P ops [] (lift n Q) (List.range' k l.length) (Fr n ρ) w
  | [], _, ρ, w, _, h => ⟨ρ, rfl, h⟩
  | o :: rest, k, ρ, w, hl, h => by
    have h0 : ops[k]? = some o := by simpa using (hl 0).symm
    have h1 := fun j => hl (j + 1)
    simp only [List.getElem?_cons_succ] at h1
    simp only [List.length_cons, List.range'_succ, wpX]
    exact stepX_of_opR hok h0 (fun ρ w => wpX_of_wpL hok rest (k + 1) ρ w (fun j => by rw [h1 j]; congr 1; omega)) h

/-! ### code -/
theorem C_region {id : Nat} {l : List Oper} (hok : okB n l.toArray = true) (h : wpL P l.toArray Q l ρ w) : wpc P n (.region id l.toArray false) Q ρ w := by
  refine wp_region_text ?_
  have := wpX_of_wpL (P := P) (Q := Q) hok l 0 ρ w (by simp) h
  rw [List.range_eq_range']
  simpa using this

theorem C_drawn {id : Nat} {ops : Array Oper} (ext order : List Nat) (hm : P.follows .mixedOrders = true) (hB : planB ops ext order = true) (hok : okB n ops = true)
    (h : wpR P ops ext Q order ρ { w with drawn := w.drawn + 1 }) : wpc P n (.region id ops true) Q ρ w :=
  wp_region_plan ext order hm hB (wpX_of_wpR hok _ _ _ h)

theorem wpc_mono {c : Code} {Q' : Exit → Env → World → Prop} (h : wpc P n c Q ρ w) (hq : ∀ e ρ w, Q e ρ w → Q' e ρ w) : wpc P n c Q' ρ w :=
  wp_mono h fun e _ w ⟨ρ, ha, hQ⟩ => ⟨ρ, ha, hq e ρ w hQ⟩

def thenQ (next : Env → World → Prop) (Q : Exit → Env → World → Prop) : Exit → Env → World → Prop
  | .normal, ρ, w => next ρ w
  | e, ρ, w => Q e ρ w

def blockQ (id : Nat) (Q : Exit → Env → World → Prop) : Exit → Env → World → Prop
  | .exit id', ρ, w => if id' = id then Q .normal ρ w else Q (.exit id') ρ w
  | e, ρ, w => Q e ρ w

theorem C_seq {x y : Code} (h : wpc P n x (thenQ (wpc P n y Q) Q) ρ w) : wpc P n (.seq x y) Q ρ w := by
  refine wp_seq (wp_mono h fun e a w ⟨ρ, ha, hQ⟩ => ?_)
  subst ha
  cases e <;> first | exact hQ | exact ⟨ρ, rfl, hQ⟩

theorem C_skip (h : Q .normal ρ w) : wpc P n .skip Q ρ w := wp_skip ⟨ρ, rfl, h⟩
theorem C_ret (h : Q .ret ρ w) : wpc P n .ret Q ρ w := wp_ret ⟨ρ, rfl, h⟩
theorem C_exit {id : Nat} (h : Q (.exit id) ρ w) : wpc P n (.exit id) Q ρ w := wp_exit ⟨ρ, rfl, h⟩

theorem Fr_eval {n : Nat} {ρ : Env} {x : Operand} (h : tmpOk n x = true) : (Fr n ρ).eval x = ev ρ x := by
  cases x with
  | tmp t =>
    have ht : t < n := by simpa [tmpOk, Nat.blt_eq] using h
    simp only [Act.eval, ev]
    rw [Array.getD_eq_getD_getElem?, Fr_get ht]; rfl
  | const v => rfl
  | global g => rfl
  | func f => rfl

theorem C_cond {c : Operand} {x y : Code} {t : Bool} (hn : tmpOk n c = true) (hc : ev ρ c = .bool t) (ht : t = true → wpc P n x Q ρ w) (hf : t = false → wpc P n y Q ρ w) : wpc P n (.cond c x y) Q ρ w :=
  wp_cond_split ((Fr_eval hn).trans hc) ht hf

theorem C_block {id : Nat} {c : Code} (h : wpc P n c (blockQ id Q) ρ w) : wpc P n (.block id c) Q ρ w := by
  refine wp_block (wp_mono h fun e a w ⟨ρ, ha, hQ⟩ => ?_)
  subst ha
  cases e <;> try exact ⟨ρ, rfl, hQ⟩
  case exit id' =>
    simp only [blockQ] at hQ
    simp only [Exit.inBlock]
    split
    · rename_i hid; rw [if_pos hid] at hQ; exact ⟨ρ, rfl, hQ⟩
    · rename_i hid; rw [if_neg hid] at hQ; exact ⟨ρ, rfl, hQ⟩

/-- A loop: what holds at a round's head, by how many rounds may still come. -/
theorem C_loop {c : Code} (I : Nat → Env → World → Prop) (m : Nat) (h₀ : I m ρ w)
    (round : ∀ k ρ w, I k ρ w → wpc P n c (thenQ (fun ρ' w' => ∃ k', k' < k ∧ I k' ρ' w') Q) ρ w) : wpc P n (.loop c) Q ρ w := by
  classical
  let J : Act → World → Prop := fun a w => ∃ k ρ, a = Fr n ρ ∧ I k ρ w
  let μ : Act → World → Nat := fun a w => if h : ∃ k, ∃ ρ, a = Fr n ρ ∧ I k ρ w then Classical.choose (p := fun k => (∃ ρ, a = Fr n ρ ∧ I k ρ w) ∧ ∀ k', (∃ ρ, a = Fr n ρ ∧ I k' ρ w) → k ≤ k') (by
    have : ∀ N k, k ≤ N → (∃ ρ, a = Fr n ρ ∧ I k ρ w) → ∃ k, (∃ ρ, a = Fr n ρ ∧ I k ρ w) ∧ ∀ k', (∃ ρ, a = Fr n ρ ∧ I k' ρ w) → k ≤ k' := by
      intro N
      induction N with
      | zero => intro k hk hI; exact ⟨k, hI, fun k' _ => by omega⟩
      | succ N ih =>
        intro k hk hI
        by_cases hsm : ∃ k', k' < k ∧ ∃ ρ, a = Fr n ρ ∧ I k' ρ w
        · obtain ⟨k', hk', hI'⟩ := hsm
          exact ih k' (by omega) hI'
        · exact ⟨k, hI, fun k' hI' => by
            rcases Nat.lt_or_ge k' k with h | h
            · exact absurd ⟨k', h, hI'⟩ hsm
            · exact h⟩
    obtain ⟨k, hk⟩ := h
    exact this k k (Nat.le_refl _) hk) else 0
  refine wp_loop J μ ⟨m, ρ, rfl, h₀⟩ ?_
  intro a w hJ
  have hex : ∃ k, ∃ ρ, a = Fr n ρ ∧ I k ρ w := hJ
  have hμ : (∃ ρ, a = Fr n ρ ∧ I (μ a w) ρ w) ∧ ∀ k', (∃ ρ, a = Fr n ρ ∧ I k' ρ w) → μ a w ≤ k' := by
    show (∃ ρ, a = Fr n ρ ∧ I (dite _ _ _) ρ w) ∧ ∀ k', _ → dite _ _ _ ≤ k'
    rw [dif_pos hex]
    exact Classical.choose_spec (p := fun k => (∃ ρ, a = Fr n ρ ∧ I k ρ w) ∧ ∀ k', (∃ ρ, a = Fr n ρ ∧ I k' ρ w) → k ≤ k') _
  obtain ⟨⟨ρ, ha, hI⟩, _⟩ := hμ
  have := round (μ a w) ρ w hI
  rw [ha]
  refine wp_mono this fun e a' w' ⟨ρ', ha', hQ⟩ => ?_
  cases e <;> try exact ⟨ρ', ha', hQ⟩
  case normal =>
    obtain ⟨k', hk', hI'⟩ := hQ
    refine ⟨⟨k', ρ', ha', hI'⟩, ?_⟩
    have hex' : ∃ k, ∃ ρ, a' = Fr n ρ ∧ I k ρ w' := ⟨k', ρ', ha', hI'⟩
    have hμ' : ∀ k', (∃ ρ, a' = Fr n ρ ∧ I k' ρ w') → μ a' w' ≤ k' := by
      show ∀ k', _ → dite _ _ _ ≤ k'
      rw [dif_pos hex']
      exact (Classical.choose_spec (p := fun k => (∃ ρ, a' = Fr n ρ ∧ I k ρ w') ∧ ∀ k', (∃ ρ, a' = Fr n ρ ∧ I k' ρ w') → k ≤ k') _).2
    have := hμ' k' ⟨ρ', ha', hI'⟩
    show μ a' w' < μ (Fr n ρ) w
    rw [← ha]
    omega

/-! ### a function -/
/-- The call returns, and R holds of what it hands back and of the world behind it. -/
def Ret (P : Program) (f : FuncId) (args : Array Value) (w : World) (R : Value → World → Prop) : Prop :=
  Calls P f args w fun e w' => ∃ v, e = .returned v ∧ R v w'

theorem Ret.mono {f : FuncId} {args : Array Value} {R R' : Value → World → Prop} (h : Ret P f args w R) (hr : ∀ v w', R v w' → R' v w') : Ret P f args w R' :=
  Calls.mono h fun _ w' ⟨v, he, hv⟩ => ⟨v, he, hr v w' hv⟩

def argF (l : List Value) : Env := fun t => l.getD t undef

def bodyQ (P : Program) (n : Nat) (fn : Func) (R : Value → World → Prop) : Exit → Env → World → Prop
  | .normal, ρ, w | .ret, ρ, w => ∃ v, (results fn (Fr n ρ).tmps).run P w = .ok v w ∧ R v w
  | _, _, _ => False

theorem enter {f : FuncId} {fn : Func} {c : Code} {l : List Value} {R : Value → World → Prop} (hf : P.funcs[f]? = some fn) (hb : fn.body = some c) (hn : fn.ntmps = n) (hl : l.length ≤ n)
    (h : wpc P n c (bodyQ P n fn R) (argF l) w) : Ret P f l.toArray w R := by
  refine calls_of_wp hf hb ?_
  have hfr : ({ tmps := l.toArray ++ Array.replicate (fn.ntmps - l.toArray.size) undef, defers := [] } : Act) = Fr n (argF l) := by
    simp only [Fr, Act.mk.injEq, and_true]
    apply Array.ext
    · simp [hn]; omega
    · intro i h1 h2
      simp only [List.getElem_toArray, Array.getElem_ofFn, argF]
      rw [Array.getElem_append]
      split
      · rename_i hi
        have hi' : i < l.length := by simpa using hi
        simp [List.getD_eq_getElem?_getD, hi']
      · rename_i hi
        have hi' : l.length ≤ i := by simpa using hi
        simp [List.getD_eq_getElem?_getD, hi']
  rw [hfr]
  refine wp_mono h fun e a w' ⟨ρ, ha, hQ⟩ => ?_
  subst ha
  cases e <;> simp only [bodyQ] at hQ
  case normal => obtain ⟨v, h1, h2⟩ := hQ; exact ⟨rfl, v, h1, v, rfl, h2⟩
  case ret => obtain ⟨v, h1, h2⟩ := hQ; exact ⟨rfl, v, h1, v, rfl, h2⟩
end
end Go.Proofs.Ygcsam
