/-
  REGIONS THAT DRAW THEIR ORDER, BY ONE WALK ALONG A CHOSEN ORDER. Own work over the kit's 'wpAny' (Derived/Orders.lean).
  An operation is of class 0 (what it yields hangs on no world), 1 (it reads memory that is there: what it yields stays so while the world only grows), 2 (all else: calls, new blocks, stores).
  Operations of class 0 and 1 may be done as soon as they are ready; those of class 2 come in one order, or are told one by one.
-/
import Derived.Orders
namespace Go.Proofs.Ygcsam

/-- w' is w with new blocks and draws. -/
structure Ext (w w' : World) : Prop where
  os : w'.os = w.os
  tape : w'.tape = w.tape
  output : w'.output = w.output
  size : w.heap.size ≤ w'.heap.size
  block : ∀ k, k < w.heap.size → w'.heap[k]? = w.heap[k]?

theorem Ext.refl (w : World) : Ext w w := ⟨rfl, rfl, rfl, Nat.le_refl _, fun _ _ => rfl⟩

theorem Ext.trans {a b c : World} (h : Ext a b) (k : Ext b c) : Ext a c :=
  ⟨k.os.trans h.os, k.tape.trans h.tape, k.output.trans h.output, Nat.le_trans h.size k.size,
    fun i hi => (k.block i (Nat.lt_of_lt_of_le hi h.size)).trans (h.block i hi)⟩

def cls : Op → Nat
  | .load .. => 1
  | .alloc .. | .box .. | .buildSlice .. | .insert .. | .store .. | .ready .. | .waits .. | .makeInterface .. | .makeFunc .. | .makeMap .. | .makeChan .. | .makeSlice ..
  | .lookup .. | .mapUpdate .. | .mapEntry .. | .entryStore .. | .range .. | .next .. | .entry .. | .typeAssert .. | .go .. | .defer .. | .panic .. | .send .. | .recv .. | .select .. => 2
  | .call c => match c.callee with
    | .builtin b => match b with
      | .len | .min | .max => 0
      | _ => 2
    | _ => 2
  | _ => 0

theorem cls_le (o : Op) : cls o ≤ 2 := by
  cases o <;> simp only [cls] <;> (try decide)
  split
  · split <;> decide
  · decide

section
variable (P : Program) (ops : Array Oper)

/-- What o yields at a, in every world of S: v, and the world stays. -/
def Yv (o : Oper) (v : Value) (a : Act) (S : World → Prop) : Prop :=
  (Region.wanted o (yielded ops a.tmps) = true ∧ ∀ w, S w → (execOp a.eval o).run P w = .ok (.value v) w) ∨
  (Region.wanted o (yielded ops a.tmps) = false ∧ v = undef)

/-- The worlds in which an operation of this class, done at w, may be asked. -/
def Sof (c : Nat) (w : World) : World → Prop := if c = 0 then fun _ => True else Ext w

def tUpon (dst : Option Tmp) (a : Act) (K : Act → World → Prop) : Result Next → Prop
  | .ok (.value v) w' => K (a.put dst v) w'
  | .ok .skip w' => K (a.put dst undef) w'
  | .ok (.enter f args) w' => Calls P f args w' fun e w'' => ∃ v, e = .returned v ∧ K (a.put dst v) w''
  | _ => False

def tStep (o : Oper) (K : Act → World → Prop) (a : Act) (w : World) : Prop :=
  if Region.wanted o (yielded ops a.tmps) then tUpon P o.dst a K ((execOp a.eval o).run P w) else K (a.put o.dst undef) w

def stepX (ext : List Nat) (i : Nat) (K : Act → World → Prop) (a : Act) (w : World) : Prop :=
  match ops[i]? with
  | none => False
  | some o =>
    if cls o.op = 2 then tStep P ops o (fun a' w' => (ext.contains i = true → Ext w w') ∧ K a' w') a w
    else ∃ v, Yv P ops o v a (Sof (cls o.op) w) ∧ K (a.put o.dst v) w

def wpX (ext : List Nat) (Q : Exit → Act → World → Prop) : List Nat → Act → World → Prop
  | [], a, w => Q .normal a w
  | i :: rest, a, w => stepX P ops ext i (wpX ext Q rest) a w

def wpAnyX (ext : List Nat) (Q : Exit → Act → World → Prop) : Nat → Array Bool → Act → World → Prop
  | 0, listed, a, w => Region.ready .any ops listed = [] ∧ Q .normal a w
  | fuel + 1, listed, a, w =>
    (Region.ready .any ops listed = [] → Q .normal a w) ∧
    ∀ i ∈ Region.ready .any ops listed, stepX P ops ext i (wpAnyX ext Q fuel (listed.setIfInBounds i true)) a w
end

theorem getD_both {listed : Array Bool} {i : Nat} (h : listed.getD i true = false) : listed.getD i false = false := by
  rcases Nat.lt_or_ge i listed.size with h' | h'
  · simp [h'] at h ⊢; exact h
  · simp [Array.getElem?_eq_none h'] at h

theorem getD_replicate_false (m j : Nat) : (Array.replicate m false).getD j false = false := by
  rcases Nat.lt_or_ge j m with h | h
  · simp [h]
  · simp [h]

section
variable {P : Program} {ops : Array Oper} {ext : List Nat} {Q : Exit → Act → World → Prop}

theorem Sof_self (c : Nat) (w : World) : Sof c w w := by
  unfold Sof; split
  · trivial
  · exact Ext.refl w

theorem Yv.mono {o : Oper} {v : Value} {a : Act} {S S' : World → Prop} (h : Yv P ops o v a S) (hs : ∀ w, S' w → S w) : Yv P ops o v a S' := by
  rcases h with ⟨h1, h2⟩ | h
  · exact .inl ⟨h1, fun w hw => h2 w (hs w hw)⟩
  · exact .inr h

theorem Yv.of_same {o : Oper} {v : Value} {a a' : Act} {S : World → Prop} (hy : Yv P ops o v a S) (he : execOp a'.eval o = execOp a.eval o)
    (hw : Region.wanted o (yielded ops a'.tmps) = Region.wanted o (yielded ops a.tmps)) : Yv P ops o v a' S := by
  unfold Yv at *
  rw [he, hw]
  exact hy

theorem tUpon_mono {dst : Option Tmp} {a : Act} {K K' : Act → World → Prop} {r : Result Next} (h : tUpon P dst a K r) (hk : ∀ v w, K (a.put dst v) w → K' (a.put dst v) w) : tUpon P dst a K' r := by
  cases r with
  | ok n w' =>
    cases n <;> simp only [tUpon] at h ⊢
    case value v => exact hk _ _ h
    case skip => exact hk _ _ h
    case enter f args => exact Calls.mono h fun e w'' ⟨v, he, hv⟩ => ⟨v, he, hk _ _ hv⟩
  | halt x w' => simp only [tUpon] at h

theorem tStep_mono {o : Oper} {a : Act} {w : World} {K K' : Act → World → Prop} (h : tStep P ops o K a w) (hk : ∀ v w', K (a.put o.dst v) w' → K' (a.put o.dst v) w') : tStep P ops o K' a w := by
  unfold tStep at *
  split
  · rename_i hw; rw [if_pos hw] at h; exact tUpon_mono h hk
  · rename_i hw; rw [if_neg hw] at h; exact hk _ _ h

theorem stepX_mono {i : Nat} {a : Act} {w : World} {K K' : Act → World → Prop} (h : stepX P ops ext i K a w) (hk : ∀ a' w', K a' w' → K' a' w') : stepX P ops ext i K' a w := by
  unfold stepX at *
  split
  · rename_i ho; simp only [ho] at h
  · rename_i o ho
    simp only [ho] at h
    split
    · rename_i hc; rw [if_pos hc] at h; exact tStep_mono h fun v w' ⟨h1, h2⟩ => ⟨h1, hk _ _ h2⟩
    · rename_i hc; rw [if_neg hc] at h; obtain ⟨v, hy, hv⟩ := h; exact ⟨v, hy, hk _ _ hv⟩

theorem upon_of_tUpon {o : Oper} {a : Act} {K : Act → World → Prop} {r : Result Next} (h : tUpon P o.dst a K r) : o.upon P a K Q r := by
  cases r with
  | ok n w' =>
    cases n <;> simp only [tUpon] at h <;> simp only [Oper.upon]
    case value v => exact h
    case skip => exact h
    case enter f args => exact Calls.mono h fun e w'' ⟨v, he, hv⟩ => by subst he; exact hv
  | halt x w' => simp only [tUpon] at h

theorem wpOp_of_stepX {i : Nat} {a : Act} {w : World} {K K' : Act → World → Prop} (hk : ∀ a' w', K a' w' → K' a' w') (h : stepX P ops ext i K a w) : wpOp P ops Q i K' a w := by
  unfold stepX at h
  unfold wpOp
  split
  · rename_i ho; simp only [ho] at h
  · rename_i o ho
    simp only [ho] at h
    by_cases hc : cls o.op = 2
    · rw [if_pos hc] at h
      unfold tStep at h
      split
      · rename_i hw; rw [if_pos hw] at h
        exact .inl (upon_of_tUpon (tUpon_mono h fun v w' h' => hk _ _ h'.2))
      · rename_i hw; rw [if_neg hw] at h; exact hk _ _ h.2
    · rw [if_neg hc] at h
      obtain ⟨v, hy, hv⟩ := h
      rcases hy with ⟨hw, hr⟩ | ⟨hw, rfl⟩
      · rw [if_pos hw]; refine .inl ?_
        unfold Oper.wp
        rw [hr w (Sof_self _ _)]
        exact hk _ _ hv
      · rw [if_neg (by simp [hw])]; exact hk _ _ hv

theorem wpAny_of_X : ∀ (fuel : Nat) (listed : Array Bool) (a : Act) (w : World), wpAnyX P ops ext Q fuel listed a w → wpAny P .any ops Q fuel listed a w
  | 0, _, _, _, h => h
  | fuel + 1, _, _, _, h => ⟨h.1, fun i hi => wpOp_of_stepX (fun a' w' => wpAny_of_X fuel _ a' w') (h.2 i hi)⟩

/-! ### the past of an operation -/

def Edown (ops : Array Oper) (listed : Array Bool) : Prop :=
  ∀ j oj, ops[j]? = some oj → listed.getD j false = true → ∀ e ∈ oj.after, Region.binds .any e = true → listed.getD e.on false = true

theorem Edown.start : Edown ops (Array.replicate ops.size false) := by
  intro j oj _ hl
  rw [getD_replicate_false] at hl
  cases hl

theorem Edown.set {listed : Array Bool} {i : Nat} (h : Edown ops listed) (hi : i ∈ Region.ready .any ops listed) : Edown ops (listed.setIfInBounds i true) := by
  obtain ⟨_, oi, hoi, hall⟩ := mem_ready.1 hi
  intro j oj hj hl e he hb
  by_cases hij : i = j
  · subst hij
    have : oj = oi := Option.some.inj (hj.symm.trans hoi)
    subst this
    exact getD_set_true (hall e he hb)
  · rw [getD_set_ne false hij] at hl
    exact getD_set_true (h j oj hj hl e he hb)

/-- Is i among what must lie behind j? (fuel: how far back we look) -/
def pastB (ops : Array Oper) : Nat → List Nat → List Nat
  | 0, l => l
  | n + 1, l => pastB ops n (l ++ (l.flatMap fun j => match ops[j]? with
      | some o => (o.after.toList.filter (Region.binds .any ·)).map (·.on)
      | none => [])).eraseDups

def directB (ops : Array Oper) (j : Nat) : List Nat :=
  match ops[j]? with
  | some o => (o.after.toList.filter (Region.binds .any ·)).map (·.on)
  | none => []

theorem direct_listed {listed : Array Bool} (h : Edown ops listed) {j i : Nat} (hi : i ∈ directB ops j) (hj : listed.getD j false = true) : listed.getD i false = true := by
  unfold directB at hi
  split at hi
  · rename_i o ho
    simp only [List.mem_map, List.mem_filter, Array.mem_toList_iff] at hi
    obtain ⟨e, ⟨he, hb⟩, rfl⟩ := hi
    exact h j o ho hj e he hb
  · cases hi

theorem past_listed {listed : Array Bool} (h : Edown ops listed) : ∀ (n : Nat) (l : List Nat), (∀ j ∈ l, listed.getD j false = true) → ∀ i ∈ pastB ops n l, listed.getD i false = true
  | 0, _, hl, i, hi => hl i hi
  | n + 1, l, hl, i, hi => past_listed h n _ (fun j hj => by
      rw [List.mem_eraseDups, List.mem_append, List.mem_flatMap] at hj
      rcases hj with hj | ⟨k, hk, hj⟩
      · exact hl j hj
      · exact direct_listed h (j := k) hj (hl k hk)) i hi

theorem ready_direct {listed : Array Bool} {j i : Nat} (hj : j ∈ Region.ready .any ops listed) (hi : i ∈ directB ops j) : listed.getD i false = true := by
  obtain ⟨_, o, ho, hall⟩ := mem_ready.1 hj
  unfold directB at hi
  rw [ho] at hi
  simp only [List.mem_map, List.mem_filter, Array.mem_toList_iff] at hi
  obtain ⟨e, ⟨he, hb⟩, rfl⟩ := hi
  exact hall e he hb

/-- i lies behind j, at most n steps back. -/
def behindB (ops : Array Oper) (n : Nat) (j : Nat) : List Nat := pastB ops n (directB ops j)

theorem ready_behind {listed : Array Bool} (h : Edown ops listed) {n j i : Nat} (hj : j ∈ Region.ready .any ops listed) (hi : i ∈ behindB ops n j) : listed.getD i false = true :=
  past_listed h n _ (fun _ hk => ready_direct hj hk) i hi

/-- Every operation of class 2 whose step need not be a growth stands in a fixed order to every read. -/
def extB (ops : Array Oper) (ext : List Nat) : Bool :=
  (List.range ops.size).all fun j => match ops[j]? with
    | some o => cls o.op != 2 || ext.contains j || (List.range ops.size).all fun i => match ops[i]? with
      | some oi => cls oi.op != 1 || (behindB ops ops.size j).contains i || (behindB ops ops.size i).contains j
      | none => true
    | none => true

theorem extB_spec {i j : Nat} {oi oj : Oper} (h : extB ops ext = true) (hi : ops[i]? = some oi) (hj : ops[j]? = some oj) (ci : cls oi.op = 1) (cj : cls oj.op = 2)
    (he : ext.contains j = false) : i ∈ behindB ops ops.size j ∨ j ∈ behindB ops ops.size i := by
  have hi' : i < ops.size := (Array.getElem?_eq_some_iff.1 hi).1
  have hj' : j < ops.size := (Array.getElem?_eq_some_iff.1 hj).1
  have h1 := List.all_eq_true.1 h j (List.mem_range.2 hj')
  simp only [hj, cj, he, bne_self_eq_false, Bool.false_or, List.all_eq_true] at h1
  have h2 := h1 i (List.mem_range.2 hi')
  simp only [hi, ci, bne_self_eq_false, Bool.false_or, Bool.or_eq_true, List.contains_iff_mem] at h2
  exact h2

/-! ### an operation of class 0 or 1 may be put off -/

theorem anyX_first {i : Nat} {oi : Oper} {v : Value} (hi : ops[i]? = some oi) (hsel : Region.noSelect ops = true) (hext : extB ops ext = true) (hc : cls oi.op ≠ 2) :
    ∀ (fuel : Nat) (listed : Array Bool) (a : Act) (w : World), Edown ops listed →
      (∀ j oj, ops[j]? = some oj → j ≠ i → listed.getD j true = false → (∀ e ∈ oj.after, Region.binds .any e = true → e.on ≠ i) → oi.apart ops oj = true) →
      i ∈ Region.ready .any ops listed → Yv P ops oi v a (Sof (cls oi.op) w) →
      wpAnyX P ops ext Q fuel (listed.setIfInBounds i true) (a.put oi.dst v) w → wpAnyX P ops ext Q (fuel + 1) listed a w := by
  have hsel' := Region.noSelect_spec hsel
  have start : ∀ {a : Act} {w : World} {K : Act → World → Prop}, Yv P ops oi v a (Sof (cls oi.op) w) → K (a.put oi.dst v) w → stepX P ops ext i K a w := by
    intro a w K hy hk
    unfold stepX
    simp only [hi]
    rw [if_neg hc]
    exact ⟨v, hy, hk⟩
  intro fuel
  induction fuel with
  | zero =>
    intro listed a w _ _ hr hy H
    refine ⟨fun h => (by rw [h] at hr; cases hr), fun j hj => ?_⟩
    by_cases hji : j = i
    · subst hji; exact start hy H
    · have := ready_mono hj hji
      rw [H.1] at this
      cases this
  | succ fuel ih =>
    intro listed a w hdown hfree hr hy H
    refine ⟨fun h => (by rw [h] at hr; cases hr), fun j hj => ?_⟩
    by_cases hji : j = i
    · subst hji; exact start hy H
    · have h1 := H.2 j (ready_mono hj hji)
      obtain ⟨hjun, oj, hoj, hall⟩ := mem_ready.1 hj
      have hun := (mem_ready.1 hr).1
      have hnot : ∀ e ∈ oj.after, Region.binds .any e = true → e.on ≠ i := fun e he hb heq => by
        have h1 := hall e he hb
        rw [heq, getD_both hun] at h1
        cases h1
      have hap := hfree j oj hoj hji hjun hnot
      obtain ⟨p1, p2, p3⟩ := Oper.apart_spec hap
      have hfree' : ∀ k ok, ops[k]? = some ok → k ≠ i → (listed.setIfInBounds j true).getD k true = false →
          (∀ e ∈ ok.after, Region.binds .any e = true → e.on ≠ i) → oi.apart ops ok = true := fun k ok hk hki hun hno => by
        refine hfree k ok hk hki ?_ hno
        by_cases hjk : j = k
        · subst hjk; exact hjun
        · rw [getD_set_ne true hjk] at hun; exact hun
      have hej := execOp_put oj (fun cs b => hsel' j oj cs b hoj) a oi.dst v p1
      have hwj := wanted_put (ops := ops) oj a oi.dst v p1
      have keep : ∀ (u : Value) (S : World → Prop), Yv P ops oi v a S → Yv P ops oi v (a.put oj.dst u) S := fun u S hy =>
        hy.of_same (execOp_put oi (fun cs b => hsel' i oi cs b hi) a oj.dst u p3) (wanted_put oi a oj.dst u p3)
      have go : ∀ (u : Value) (w' : World), (cls oi.op = 0 ∨ Ext w w') → wpAnyX P ops ext Q fuel ((listed.setIfInBounds i true).setIfInBounds j true) ((a.put oi.dst v).put oj.dst u) w' →
          wpAnyX P ops ext Q (fuel + 1) (listed.setIfInBounds j true) (a.put oj.dst u) w' := by
        intro u w' hw hk
        refine ih (listed.setIfInBounds j true) (a.put oj.dst u) w' (hdown.set hj) hfree' (ready_mono hr (Ne.symm hji)) ?_ ?_
        · refine (keep u _ hy).mono fun w'' h'' => ?_
          rcases hw with h0 | hE
          · simp only [Sof, h0, if_true]
          · unfold Sof at *
            split
            · trivial
            · rename_i hc0; rw [if_neg hc0] at h''; exact hE.trans h''
        · rw [Array.setIfInBounds_comm _ _ hji, ← Act.put_comm a v u p2]
          exact hk
      unfold stepX at h1 ⊢
      simp only [hoj] at h1 ⊢
      split
      · rename_i hcj
        rw [if_pos hcj] at h1
        unfold tStep at h1 ⊢
        rw [hej, hwj] at h1
        have useful : ∀ u w', ((ext.contains j = true → Ext w w') ∧ wpAnyX P ops ext Q fuel ((listed.setIfInBounds i true).setIfInBounds j true) ((a.put oi.dst v).put oj.dst u) w') →
            (ext.contains j = true → Ext w w') ∧ wpAnyX P ops ext Q (fuel + 1) (listed.setIfInBounds j true) (a.put oj.dst u) w' := by
          intro u w' ⟨he, hk⟩
          refine ⟨he, go u w' ?_ hk⟩
          by_cases h0 : cls oi.op = 0
          · exact .inl h0
          · refine .inr (he ?_)
            cases hx : ext.contains j with
            | true => rfl
            | false =>
              have c1 : cls oi.op = 1 := by
                have := cls_le oi.op
                omega
              rcases extB_spec hext hi hoj c1 hcj hx with hb | hb
              · have := ready_behind hdown hj hb
                rw [getD_both hun] at this; cases this
              · have := ready_behind hdown hr hb
                rw [getD_both hjun] at this; cases this
        split
        · rename_i hw; rw [if_pos hw] at h1
          generalize (execOp a.eval oj).run P w = r at *
          cases r with
          | ok n w' =>
            cases n <;> simp only [tUpon] at h1 ⊢
            case value u => exact useful u w' h1
            case skip => exact useful undef w' h1
            case enter f args => exact Calls.mono h1 fun e w'' ⟨u, he, hu⟩ => ⟨u, he, useful u w'' hu⟩
          | halt x w' => simp only [tUpon] at h1
        · rename_i hw; rw [if_neg hw] at h1
          exact useful undef w h1
      · rename_i hcj
        rw [if_neg hcj] at h1
        obtain ⟨u, hyu, hk⟩ := h1
        exact ⟨u, hyu.of_same hej.symm hwj.symm, go u w (.inr (Ext.refl w)) hk⟩

/-- The order is one that the edges allow; a class 2 operation stands where it alone is ready. -/
def canonB (ops : Array Oper) : List Nat → Array Bool → Bool
  | [], listed => (Region.ready .any ops listed).isEmpty
  | i :: rest, listed =>
    (match ops[i]? with
     | none => false
     | some o => if cls o.op == 2 then Region.ready .any ops listed == [i] else (Region.ready .any ops listed).contains i && Region.free .any ops listed i) &&
    canonB ops rest (listed.setIfInBounds i true)

theorem anyX_of_order (hsel : Region.noSelect ops = true) (hext : extB ops ext = true) : ∀ (l : List Nat) (listed : Array Bool) (a : Act) (w : World), Edown ops listed →
    canonB ops l listed = true → wpX P ops ext Q l a w → wpAnyX P ops ext Q l.length listed a w
  | [], listed, a, w, _, hB, h => ⟨by simpa [canonB] using hB, h⟩
  | i :: rest, listed, a, w, hd, hB, h => by
    simp only [canonB, Bool.and_eq_true] at hB
    obtain ⟨h1, h2⟩ := hB
    simp only [wpX] at h
    cases ho : ops[i]? with
    | none => simp [ho] at h1
    | some o =>
      simp only [ho] at h1
      by_cases hc : cls o.op = 2
      · have hr : Region.ready .any ops listed = [i] := by simpa [hc] using h1
        have hmem : i ∈ Region.ready .any ops listed := by rw [hr]; simp
        refine ⟨fun h0 => (by rw [hr] at h0; cases h0), fun j hj => ?_⟩
        rw [hr] at hj
        have : j = i := by simpa using hj
        subst this
        exact stepX_mono h fun a' w' h' => anyX_of_order hsel hext rest _ a' w' (hd.set hmem) h2 h'
      · have h1' : (Region.ready .any ops listed).contains i = true ∧ Region.free .any ops listed i = true := by
          rw [if_neg (by simpa using hc)] at h1
          simpa using h1
        have hmem : i ∈ Region.ready .any ops listed := by simpa using h1'.1
        unfold stepX at h
        simp only [ho] at h
        rw [if_neg hc] at h
        obtain ⟨v, hy, hk⟩ := h
        exact anyX_first ho hsel hext hc rest.length listed a w hd (Region.free_spec ho h1'.2) hmem hy
          (anyX_of_order hsel hext rest _ _ w (hd.set hmem) h2 hk)

def planB (ops : Array Oper) (ext order : List Nat) : Bool :=
  Region.noSelect ops && extB ops ext && decide (order.length = ops.size) && canonB ops order (Array.replicate ops.size false)

/-- A region that draws, along a chosen order. -/
theorem wp_region_plan {id : Nat} {a : Act} {w : World} (ext order : List Nat) (hm : P.follows .mixedOrders = true) (hB : planB ops ext order = true)
    (h : wpX P ops ext Q order a { w with drawn := w.drawn + 1 }) : (Code.region id ops true).wp P Q a w := by
  simp only [planB, Bool.and_eq_true, decide_eq_true_eq] at hB
  obtain ⟨⟨⟨hsel, hext⟩, hlen⟩, hcan⟩ := hB
  refine wp_region_any hm (wpAny_of_X (ext := ext) _ _ _ _ ?_)
  rw [← hlen] at hcan ⊢
  exact anyX_of_order hsel hext order _ a _ (by rw [hlen]; exact Edown.start) hcan h

/-- A region whose order is the text's. -/
theorem wpOps_of_wpX : ∀ (l : List Nat) (a : Act) (w : World), wpX P ops [] Q l a w → wpOps P ops Q l a w
  | [], _, _, h => h
  | i :: rest, a, w, h => by
    rw [wpOps_cons]
    exact wpOp_of_stepX (fun a' w' => wpOps_of_wpX rest a' w') h

theorem wp_region_text {id : Nat} {a : Act} {w : World} (h : wpX P ops [] Q (List.range ops.size) a w) : (Code.region id ops false).wp P Q a w :=
  wp_region (wpOps_of_wpX _ _ _ h)
end
end Go.Proofs.Ygcsam
