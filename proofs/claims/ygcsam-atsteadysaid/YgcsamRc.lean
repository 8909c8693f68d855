/-
  THE REGIONS THAT DRAW THEIR ORDER ONCE MORE, with conversions taken as reads (a string made of a slice's bytes). Own work: the text of YgcsamReg with one line more in 'cls'.
-/
import Derived.Test.YgcsamE1
namespace Go.Proofs.Ygcsam.Cv
set_option linter.unusedVariables false
set_option linter.unusedSimpArgs false
def cls : Op → Nat
  | .load .. => 1
  | .convert .. => 1
  | .alloc .. | .box .. | .buildSlice .. | .insert .. | .store .. | .ready .. | .waits .. | .makeInterface .. | .makeFunc .. | .makeMap .. | .makeChan .. | .makeSlice ..
  | .lookup .. | .mapUpdate .. | .mapEntry .. | .entryStore .. | .range .. | .next .. | .entry .. | .typeAssert .. | .go .. | .defer .. | .panic .. | .send .. | .recv .. | .select .. => 2
  | .call c => match c.callee with
    | .builtin b => match b with
      | .len | .min | .max => 0
      | _ => 2
    | _ => 2
  | _ => 0

theorem cls_le (o : Op) : cls o ≤ 2 := by
  cases o <;> simp only [cls] <;> (try decide)
  split
  · split <;> decide
  · decide

section
variable (P : Program) (ops : Array Oper)

/-- What o yields at a, in every world of S: v, and the world stays. -/
def Yv (o : Oper) (v : Value) (a : Act) (S : World → Prop) : Prop :=
  (Region.wanted o (yielded ops a.tmps) = true ∧ ∀ w, S w → (execOp a.eval o).run P w = .ok (.value v) w) ∨
  (Region.wanted o (yielded ops a.tmps) = false ∧ v = undef)

/-- The worlds in which an operation of this class, done at w, may be asked. -/
def Sof (c : Nat) (w : World) : World → Prop := if c = 0 then fun _ => True else Ext w

def tUpon (dst : Option Tmp) (a : Act) (K : Act → World → Prop) : Result Next → Prop
  | .ok (.value v) w' => K (a.put dst v) w'
  | .ok .skip w' => K (a.put dst undef) w'
  | .ok (.enter f args) w' => Calls P f args w' fun e w'' => ∃ v, e = .returned v ∧ K (a.put dst v) w''
  | _ => False

def tStep (o : Oper) (K : Act → World → Prop) (a : Act) (w : World) : Prop :=
  if Region.wanted o (yielded ops a.tmps) then tUpon P o.dst a K ((execOp a.eval o).run P w) else K (a.put o.dst undef) w

def stepX (ext : List Nat) (i : Nat) (K : Act → World → Prop) (a : Act) (w : World) : Prop :=
  match ops[i]? with
  | none => False
  | some o =>
    if cls o.op = 2 then tStep P ops o (fun a' w' => (ext.contains i = true → Ext w w') ∧ K a' w') a w
    else ∃ v, Yv P ops o v a (Sof (cls o.op) w) ∧ K (a.put o.dst v) w

def wpX (ext : List Nat) (Q : Exit → Act → World → Prop) : List Nat → Act → World → Prop
  | [], a, w => Q .normal a w
  | i :: rest, a, w => stepX P ops ext i (wpX ext Q rest) a w

def wpAnyX (ext : List Nat) (Q : Exit → Act → World → Prop) : Nat → Array Bool → Act → World → Prop
  | 0, listed, a, w => Region.ready .any ops listed = [] ∧ Q .normal a w
  | fuel + 1, listed, a, w =>
    (Region.ready .any ops listed = [] → Q .normal a w) ∧
    ∀ i ∈ Region.ready .any ops listed, stepX P ops ext i (wpAnyX ext Q fuel (listed.setIfInBounds i true)) a w
end

theorem getD_both {listed : Array Bool} {i : Nat} (h : listed.getD i true = false) : listed.getD i false = false := by
  rcases Nat.lt_or_ge i listed.size with h' | h'
  · simp [h'] at h ⊢; exact h
  · simp [Array.getElem?_eq_none h'] at h

theorem getD_replicate_false (m j : Nat) : (Array.replicate m false).getD j false = false := by
  rcases Nat.lt_or_ge j m with h | h
  · simp [h]
  · simp [h]

section
variable {P : Program} {ops : Array Oper} {ext : List Nat} {Q : Exit → Act → World → Prop}

theorem Sof_self (c : Nat) (w : World) : Sof c w w := by
  unfold Sof; split
  · trivial
  · exact Ext.refl w

theorem Yv.mono {o : Oper} {v : Value} {a : Act} {S S' : World → Prop} (h : Yv P ops o v a S) (hs : ∀ w, S' w → S w) : Yv P ops o v a S' := by
  rcases h with ⟨h1, h2⟩ | h
  · exact .inl ⟨h1, fun w hw => h2 w (hs w hw)⟩
  · exact .inr h

theorem Yv.of_same {o : Oper} {v : Value} {a a' : Act} {S : World → Prop} (hy : Yv P ops o v a S) (he : execOp a'.eval o = execOp a.eval o)
    (hw : Region.wanted o (yielded ops a'.tmps) = Region.wanted o (yielded ops a.tmps)) : Yv P ops o v a' S := by
  unfold Yv at *
  rw [he, hw]
  exact hy

theorem tUpon_mono {dst : Option Tmp} {a : Act} {K K' : Act → World → Prop} {r : Result Next} (h : tUpon P dst a K r) (hk : ∀ v w, K (a.put dst v) w → K' (a.put dst v) w) : tUpon P dst a K' r := by
  cases r with
  | ok n w' =>
    cases n <;> simp only [tUpon] at h ⊢
    case value v => exact hk _ _ h
    case skip => exact hk _ _ h
    case enter f args => exact Calls.mono h fun e w'' ⟨v, he, hv⟩ => ⟨v, he, hk _ _ hv⟩
  | halt x w' => simp only [tUpon] at h

theorem tStep_mono {o : Oper} {a : Act} {w : World} {K K' : Act → World → Prop} (h : tStep P ops o K a w) (hk : ∀ v w', K (a.put o.dst v) w' → K' (a.put o.dst v) w') : tStep P ops o K' a w := by
  unfold tStep at *
  split
  · rename_i hw; rw [if_pos hw] at h; exact tUpon_mono h hk
  · rename_i hw; rw [if_neg hw] at h; exact hk _ _ h

theorem stepX_mono {i : Nat} {a : Act} {w : World} {K K' : Act → World → Prop} (h : stepX P ops ext i K a w) (hk : ∀ a' w', K a' w' → K' a' w') : stepX P ops ext i K' a w := by
  unfold stepX at *
  split
  · rename_i ho; simp only [ho] at h
  · rename_i o ho
    simp only [ho] at h
    split
    · rename_i hc; rw [if_pos hc] at h; exact tStep_mono h fun v w' ⟨h1, h2⟩ => ⟨h1, hk _ _ h2⟩
    · rename_i hc; rw [if_neg hc] at h; obtain ⟨v, hy, hv⟩ := h; exact ⟨v, hy, hk _ _ hv⟩

theorem upon_of_tUpon {o : Oper} {a : Act} {K : Act → World → Prop} {r : Result Next} (h : tUpon P o.dst a K r) : o.upon P a K Q r := by
  cases r with
  | ok n w' =>
    cases n <;> simp only [tUpon] at h <;> simp only [Oper.upon]
    case value v => exact h
    case skip => exact h
    case enter f args => exact Calls.mono h fun e w'' ⟨v, he, hv⟩ => by subst he; exact hv
  | halt x w' => simp only [tUpon] at h

theorem wpOp_of_stepX {i : Nat} {a : Act} {w : World} {K K' : Act → World → Prop} (hk : ∀ a' w', K a' w' → K' a' w') (h : stepX P ops ext i K a w) : wpOp P ops Q i K' a w := by
  unfold stepX at h
  unfold wpOp
  split
  · rename_i ho; simp only [ho] at h
  · rename_i o ho
    simp only [ho] at h
    by_cases hc : cls o.op = 2
    · rw [if_pos hc] at h
      unfold tStep at h
      split
      · rename_i hw; rw [if_pos hw] at h
        exact .inl (upon_of_tUpon (tUpon_mono h fun v w' h' => hk _ _ h'.2))
      · rename_i hw; rw [if_neg hw] at h; exact hk _ _ h.2
    · rw [if_neg hc] at h
      obtain ⟨v, hy, hv⟩ := h
      rcases hy with ⟨hw, hr⟩ | ⟨hw, rfl⟩
      · rw [if_pos hw]; refine .inl ?_
        unfold Oper.wp
        rw [hr w (Sof_self _ _)]
        exact hk _ _ hv
      · rw [if_neg (by simp [hw])]; exact hk _ _ hv

theorem wpAny_of_X : ∀ (fuel : Nat) (listed : Array Bool) (a : Act) (w : World), wpAnyX P ops ext Q fuel listed a w → wpAny P .any ops Q fuel listed a w
  | 0, _, _, _, h => h
  | fuel + 1, _, _, _, h => ⟨h.1, fun i hi => wpOp_of_stepX (fun a' w' => wpAny_of_X fuel _ a' w') (h.2 i hi)⟩

/-! ### the past of an operation -/

def Edown (ops : Array Oper) (listed : Array Bool) : Prop :=
  ∀ j oj, ops[j]? = some oj → listed.getD j false = true → ∀ e ∈ oj.after, Region.binds .any e = true → listed.getD e.on false = true

theorem Edown.start : Edown ops (Array.replicate ops.size false) := by
  intro j oj _ hl
  rw [getD_replicate_false] at hl
  cases hl

theorem Edown.set {listed : Array Bool} {i : Nat} (h : Edown ops listed) (hi : i ∈ Region.ready .any ops listed) : Edown ops (listed.setIfInBounds i true) := by
  obtain ⟨_, oi, hoi, hall⟩ := mem_ready.1 hi
  intro j oj hj hl e he hb
  by_cases hij : i = j
  · subst hij
    have : oj = oi := Option.some.inj (hj.symm.trans hoi)
    subst this
    exact getD_set_true (hall e he hb)
  · rw [getD_set_ne false hij] at hl
    exact getD_set_true (h j oj hj hl e he hb)

/-- Is i among what must lie behind j? (fuel: how far back we look) -/
def pastB (ops : Array Oper) : Nat → List Nat → List Nat
  | 0, l => l
  | n + 1, l => pastB ops n (l ++ (l.flatMap fun j => match ops[j]? with
      | some o => (o.after.toList.filter (Region.binds .any ·)).map (·.on)
      | none => [])).eraseDups

def directB (ops : Array Oper) (j : Nat) : List Nat :=
  match ops[j]? with
  | some o => (o.after.toList.filter (Region.binds .any ·)).map (·.on)
  | none => []

theorem direct_listed {listed : Array Bool} (h : Edown ops listed) {j i : Nat} (hi : i ∈ directB ops j) (hj : listed.getD j false = true) : listed.getD i false = true := by
  unfold directB at hi
  split at hi
  · rename_i o ho
    simp only [List.mem_map, List.mem_filter, Array.mem_toList_iff] at hi
    obtain ⟨e, ⟨he, hb⟩, rfl⟩ := hi
    exact h j o ho hj e he hb
  · cases hi

theorem past_listed {listed : Array Bool} (h : Edown ops listed) : ∀ (n : Nat) (l : List Nat), (∀ j ∈ l, listed.getD j false = true) → ∀ i ∈ pastB ops n l, listed.getD i false = true
  | 0, _, hl, i, hi => hl i hi
  | n + 1, l, hl, i, hi => past_listed h n _ (fun j hj => by
      rw [List.mem_eraseDups, List.mem_append, List.mem_flatMap] at hj
      rcases hj with hj | ⟨k, hk, hj⟩
      · exact hl j hj
      · exact direct_listed h (j := k) hj (hl k hk)) i hi

theorem ready_direct {listed : Array Bool} {j i : Nat} (hj : j ∈ Region.ready .any ops listed) (hi : i ∈ directB ops j) : listed.getD i false = true := by
  obtain ⟨_, o, ho, hall⟩ := mem_ready.1 hj
  unfold directB at hi
  rw [ho] at hi
  simp only [List.mem_map, List.mem_filter, Array.mem_toList_iff] at hi
  obtain ⟨e, ⟨he, hb⟩, rfl⟩ := hi
  exact hall e he hb

/-- i lies behind j, at most n steps back. -/
def behindB (ops : Array Oper) (n : Nat) (j : Nat) : List Nat := pastB ops n (directB ops j)

theorem ready_behind {listed : Array Bool} (h : Edown ops listed) {n j i : Nat} (hj : j ∈ Region.ready .any ops listed) (hi : i ∈ behindB ops n j) : listed.getD i false = true :=
  past_listed h n _ (fun _ hk => ready_direct hj hk) i hi

/-- Every operation of class 2 whose step need not be a growth stands in a fixed order to every read. -/
def extB (ops : Array Oper) (ext : List Nat) : Bool :=
  (List.range ops.size).all fun j => match ops[j]? with
    | some o => cls o.op != 2 || ext.contains j || (List.range ops.size).all fun i => match ops[i]? with
      | some oi => cls oi.op != 1 || (behindB ops ops.size j).contains i || (behindB ops ops.size i).contains j
      | none => true
    | none => true

theorem extB_spec {i j : Nat} {oi oj : Oper} (h : extB ops ext = true) (hi : ops[i]? = some oi) (hj : ops[j]? = some oj) (ci : cls oi.op = 1) (cj : cls oj.op = 2)
    (he : ext.contains j = false) : i ∈ behindB ops ops.size j ∨ j ∈ behindB ops ops.size i := by
  have hi' : i < ops.size := (Array.getElem?_eq_some_iff.1 hi).1
  have hj' : j < ops.size := (Array.getElem?_eq_some_iff.1 hj).1
  have h1 := List.all_eq_true.1 h j (List.mem_range.2 hj')
  simp only [hj, cj, he, bne_self_eq_false, Bool.false_or, List.all_eq_true] at h1
  have h2 := h1 i (List.mem_range.2 hi')
  simp only [hi, ci, bne_self_eq_false, Bool.false_or, Bool.or_eq_true, List.contains_iff_mem] at h2
  exact h2

/-! ### an operation of class 0 or 1 may be put off -/

theorem anyX_first {i : Nat} {oi : Oper} {v : Value} (hi : ops[i]? = some oi) (hsel : Region.noSelect ops = true) (hext : extB ops ext = true) (hc : cls oi.op ≠ 2) :
    ∀ (fuel : Nat) (listed : Array Bool) (a : Act) (w : World), Edown ops listed →
      (∀ j oj, ops[j]? = some oj → j ≠ i → listed.getD j true = false → (∀ e ∈ oj.after, Region.binds .any e = true → e.on ≠ i) → oi.apart ops oj = true) →
      i ∈ Region.ready .any ops listed → Yv P ops oi v a (Sof (cls oi.op) w) →
      wpAnyX P ops ext Q fuel (listed.setIfInBounds i true) (a.put oi.dst v) w → wpAnyX P ops ext Q (fuel + 1) listed a w := by
  have hsel' := Region.noSelect_spec hsel
  have start : ∀ {a : Act} {w : World} {K : Act → World → Prop}, Yv P ops oi v a (Sof (cls oi.op) w) → K (a.put oi.dst v) w → stepX P ops ext i K a w := by
    intro a w K hy hk
    unfold stepX
    simp only [hi]
    rw [if_neg hc]
    exact ⟨v, hy, hk⟩
  intro fuel
  induction fuel with
  | zero =>
    intro listed a w _ _ hr hy H
    refine ⟨fun h => (by rw [h] at hr; cases hr), fun j hj => ?_⟩
    by_cases hji : j = i
    · subst hji; exact start hy H
    · have := ready_mono hj hji
      rw [H.1] at this
      cases this
  | succ fuel ih =>
    intro listed a w hdown hfree hr hy H
    refine ⟨fun h => (by rw [h] at hr; cases hr), fun j hj => ?_⟩
    by_cases hji : j = i
    · subst hji; exact start hy H
    · have h1 := H.2 j (ready_mono hj hji)
      obtain ⟨hjun, oj, hoj, hall⟩ := mem_ready.1 hj
      have hun := (mem_ready.1 hr).1
      have hnot : ∀ e ∈ oj.after, Region.binds .any e = true → e.on ≠ i := fun e he hb heq => by
        have h1 := hall e he hb
        rw [heq, getD_both hun] at h1
        cases h1
      have hap := hfree j oj hoj hji hjun hnot
      obtain ⟨p1, p2, p3⟩ := Oper.apart_spec hap
      have hfree' : ∀ k ok, ops[k]? = some ok → k ≠ i → (listed.setIfInBounds j true).getD k true = false →
          (∀ e ∈ ok.after, Region.binds .any e = true → e.on ≠ i) → oi.apart ops ok = true := fun k ok hk hki hun hno => by
        refine hfree k ok hk hki ?_ hno
        by_cases hjk : j = k
        · subst hjk; exact hjun
        · rw [getD_set_ne true hjk] at hun; exact hun
      have hej := execOp_put oj (fun cs b => hsel' j oj cs b hoj) a oi.dst v p1
      have hwj := wanted_put (ops := ops) oj a oi.dst v p1
      have keep : ∀ (u : Value) (S : World → Prop), Yv P ops oi v a S → Yv P ops oi v (a.put oj.dst u) S := fun u S hy =>
        hy.of_same (execOp_put oi (fun cs b => hsel' i oi cs b hi) a oj.dst u p3) (wanted_put oi a oj.dst u p3)
      have go : ∀ (u : Value) (w' : World), (cls oi.op = 0 ∨ Ext w w') → wpAnyX P ops ext Q fuel ((listed.setIfInBounds i true).setIfInBounds j true) ((a.put oi.dst v).put oj.dst u) w' →
          wpAnyX P ops ext Q (fuel + 1) (listed.setIfInBounds j true) (a.put oj.dst u) w' := by
        intro u w' hw hk
        refine ih (listed.setIfInBounds j true) (a.put oj.dst u) w' (hdown.set hj) hfree' (ready_mono hr (Ne.symm hji)) ?_ ?_
        · refine (keep u _ hy).mono fun w'' h'' => ?_
          rcases hw with h0 | hE
          · simp only [Sof, h0, if_true]
          · unfold Sof at *
            split
            · trivial
            · rename_i hc0; rw [if_neg hc0] at h''; exact hE.trans h''
        · rw [Array.setIfInBounds_comm _ _ hji, ← Act.put_comm a v u p2]
          exact hk
      unfold stepX at h1 ⊢
      simp only [hoj] at h1 ⊢
      split
      · rename_i hcj
        rw [if_pos hcj] at h1
        unfold tStep at h1 ⊢
        rw [hej, hwj] at h1
        have useful : ∀ u w', ((ext.contains j = true → Ext w w') ∧ wpAnyX P ops ext Q fuel ((listed.setIfInBounds i true).setIfInBounds j true) ((a.put oi.dst v).put oj.dst u) w') →
            (ext.contains j = true → Ext w w') ∧ wpAnyX P ops ext Q (fuel + 1) (listed.setIfInBounds j true) (a.put oj.dst u) w' := by
          intro u w' ⟨he, hk⟩
          refine ⟨he, go u w' ?_ hk⟩
          by_cases h0 : cls oi.op = 0
          · exact .inl h0
          · refine .inr (he ?_)
            cases hx : ext.contains j with
            | true => rfl
            | false =>
              have c1 : cls oi.op = 1 := by
                have := cls_le oi.op
                omega
              rcases extB_spec hext hi hoj c1 hcj hx with hb | hb
              · have := ready_behind hdown hj hb
                rw [getD_both hun] at this; cases this
              · have := ready_behind hdown hr hb
                rw [getD_both hjun] at this; cases this
        split
        · rename_i hw; rw [if_pos hw] at h1
          generalize (execOp a.eval oj).run P w = r at *
          cases r with
          | ok n w' =>
            cases n <;> simp only [tUpon] at h1 ⊢
            case value u => exact useful u w' h1
            case skip => exact useful undef w' h1
            case enter f args => exact Calls.mono h1 fun e w'' ⟨u, he, hu⟩ => ⟨u, he, useful u w'' hu⟩
          | halt x w' => simp only [tUpon] at h1
        · rename_i hw; rw [if_neg hw] at h1
          exact useful undef w h1
      · rename_i hcj
        rw [if_neg hcj] at h1
        obtain ⟨u, hyu, hk⟩ := h1
        exact ⟨u, hyu.of_same hej.symm hwj.symm, go u w (.inr (Ext.refl w)) hk⟩

/-- The order is one that the edges allow; a class 2 operation stands where it alone is ready. -/
def canonB (ops : Array Oper) : List Nat → Array Bool → Bool
  | [], listed => (Region.ready .any ops listed).isEmpty
  | i :: rest, listed =>
    (match ops[i]? with
     | none => false
     | some o => if cls o.op == 2 then Region.ready .any ops listed == [i] else (Region.ready .any ops listed).contains i && Region.free .any ops listed i) &&
    canonB ops rest (listed.setIfInBounds i true)

theorem anyX_of_order (hsel : Region.noSelect ops = true) (hext : extB ops ext = true) : ∀ (l : List Nat) (listed : Array Bool) (a : Act) (w : World), Edown ops listed →
    canonB ops l listed = true → wpX P ops ext Q l a w → wpAnyX P ops ext Q l.length listed a w
  | [], listed, a, w, _, hB, h => ⟨by simpa [canonB] using hB, h⟩
  | i :: rest, listed, a, w, hd, hB, h => by
    simp only [canonB, Bool.and_eq_true] at hB
    obtain ⟨h1, h2⟩ := hB
    simp only [wpX] at h
    cases ho : ops[i]? with
    | none => simp [ho] at h1
    | some o =>
      simp only [ho] at h1
      by_cases hc : cls o.op = 2
      · have hr : Region.ready .any ops listed = [i] := by simpa [hc] using h1
        have hmem : i ∈ Region.ready .any ops listed := by rw [hr]; simp
        refine ⟨fun h0 => (by rw [hr] at h0; cases h0), fun j hj => ?_⟩
        rw [hr] at hj
        have : j = i := by simpa using hj
        subst this
        exact stepX_mono h fun a' w' h' => anyX_of_order hsel hext rest _ a' w' (hd.set hmem) h2 h'
      · have h1' : (Region.ready .any ops listed).contains i = true ∧ Region.free .any ops listed i = true := by
          rw [if_neg (by simpa using hc)] at h1
          simpa using h1
        have hmem : i ∈ Region.ready .any ops listed := by simpa using h1'.1
        unfold stepX at h
        simp only [ho] at h
        rw [if_neg hc] at h
        obtain ⟨v, hy, hk⟩ := h
        exact anyX_first ho hsel hext hc rest.length listed a w hd (Region.free_spec ho h1'.2) hmem hy
          (anyX_of_order hsel hext rest _ _ w (hd.set hmem) h2 hk)

def planB (ops : Array Oper) (ext order : List Nat) : Bool :=
  Region.noSelect ops && extB ops ext && decide (order.length = ops.size) && canonB ops order (Array.replicate ops.size false)

/-- A region that draws, along a chosen order. -/
theorem wp_region_plan {id : Nat} {a : Act} {w : World} (ext order : List Nat) (hm : P.follows .mixedOrders = true) (hB : planB ops ext order = true)
    (h : wpX P ops ext Q order a { w with drawn := w.drawn + 1 }) : (Code.region id ops true).wp P Q a w := by
  simp only [planB, Bool.and_eq_true, decide_eq_true_eq] at hB
  obtain ⟨⟨⟨hsel, hext⟩, hlen⟩, hcan⟩ := hB
  refine wp_region_any hm (wpAny_of_X (ext := ext) _ _ _ _ ?_)
  rw [← hlen] at hcan ⊢
  exact anyX_of_order hsel hext order _ a _ (by rw [hlen]; exact Edown.start) hcan h

/-- A region whose order is the text's. -/
theorem wpOps_of_wpX : ∀ (l : List Nat) (a : Act) (w : World), wpX P ops [] Q l a w → wpOps P ops Q l a w
  | [], _, _, h => h
  | i :: rest, a, w, h => by
    rw [wpOps_cons]
    exact wpOp_of_stepX (fun a' w' => wpOps_of_wpX rest a' w') h

theorem wp_region_text {id : Nat} {a : Act} {w : World} (h : wpX P ops [] Q (List.range ops.size) a w) : (Code.region id ops false).wp P Q a w :=
  wp_region (wpOps_of_wpX _ _ _ h)
end

section
variable (P : Program) (ops : Array Oper)
def opN (o : Oper) (e : Bool) (K : Env → World → Prop) (ρ : Env) (w : World) : Prop :=
  if cls o.op = 2 then tU P o.dst ρ (fun ρ' w' => (e = true → Ext w w') ∧ K ρ' w') ((execOp (ev ρ) o).run P w)
  else ∃ v, (∀ w', Sof (cls o.op) w w' → (execOp (ev ρ) o).run P w' = .ok (.value v) w') ∧ K (puto ρ o.dst v) w

def opR (o : Oper) (e : Bool) (K : Env → World → Prop) (ρ : Env) (w : World) : Prop :=
  if wantR ops o.guard ρ = true then opN P o e K ρ w else K (puto ρ o.dst undef) w

def wpR (ext : List Nat) (Q : Exit → Env → World → Prop) : List Nat → Env → World → Prop
  | [], ρ, w => Q .normal ρ w
  | i :: rest, ρ, w => ∃ o, ops[i]? = some o ∧ opR P ops o (ext.contains i) (wpR ext Q rest) ρ w

def wpL (Q : Exit → Env → World → Prop) : List Oper → Env → World → Prop
  | [], ρ, w => Q .normal ρ w
  | o :: rest, ρ, w => opR P ops o false (wpL Q rest) ρ w


end
section
variable {P : Program} {ops : Array Oper} {Q : Exit → Env → World → Prop} {n : Nat} {ρ : Env} {w : World}
theorem tUpon_of_tU {d : Option Nat} {K : Env → World → Prop} {K' : Act → World → Prop} {r : Result Next} (hk : ∀ ρ w, K ρ w → K' (Fr n ρ) w) (h : tU P d ρ K r) : tUpon P d (Fr n ρ) K' r := by
  cases r with
  | ok x w' =>
    cases x <;> simp only [tU] at h <;> simp only [tUpon]
    case value v => rw [Fr_put]; exact hk _ _ h
    case skip => rw [Fr_put]; exact hk _ _ h
    case enter f args => exact Calls.mono h fun e w'' ⟨v, he, hv⟩ => ⟨v, he, by rw [Fr_put]; exact hk _ _ hv⟩
  | halt x w' => simp only [tU] at h

theorem stepX_of_opR {ext : List Nat} {i : Nat} {o : Oper} {K : Env → World → Prop} {K' : Act → World → Prop} (hok : okB n ops = true) (hi : ops[i]? = some o) (hk : ∀ ρ w, K ρ w → K' (Fr n ρ) w)
    (h : opR P ops o (ext.contains i) K ρ w) : stepX P ops ext i K' (Fr n ρ) w := by
  have ho := opOk_of hok hi
  have he := exec_Fr ho ρ
  have hw := want_Fr ho ρ
  unfold stepX
  simp only [hi]
  unfold opR at h
  by_cases hg : wantR ops o.guard ρ = true
  · rw [if_pos hg] at h
    unfold opN at h
    by_cases hc : cls o.op = 2
    · rw [if_pos hc] at h ⊢
      unfold tStep
      rw [hw, if_pos hg, he]
      exact tUpon_of_tU (fun ρ w h => ⟨h.1, hk _ _ h.2⟩) h
    · rw [if_neg hc] at h ⊢
      obtain ⟨v, hv, hK⟩ := h
      refine ⟨v, .inl ⟨by rw [hw]; exact hg, fun w' hw' => by rw [he]; exact hv w' hw'⟩, ?_⟩
      rw [Fr_put]; exact hk _ _ hK
  · rw [if_neg hg] at h
    have hg' : wantR ops o.guard ρ = false := by simpa using hg
    by_cases hc : cls o.op = 2
    · rw [if_pos hc]
      unfold tStep
      rw [hw, if_neg hg, Fr_put]
      exact ⟨fun _ => Ext.refl w, hk _ _ h⟩
    · rw [if_neg hc]
      exact ⟨undef, .inr ⟨by rw [hw]; exact hg', rfl⟩, by rw [Fr_put]; exact hk _ _ h⟩

theorem wpX_of_wpR {ext : List Nat} (hok : okB n ops = true) : ∀ (l : List Nat) (ρ : Env) (w : World), wpR P ops ext Q l ρ w → wpX P ops ext (lift n Q) l (Fr n ρ) w
  | [], ρ, w, h => ⟨ρ, rfl, h⟩
  | i :: rest, ρ, w, ⟨o, hi, h⟩ => stepX_of_opR hok hi (fun ρ w => wpX_of_wpR hok rest ρ w) h

theorem C_drawn {id : Nat} {ops : Array Oper} (ext order : List Nat) (hm : P.follows .mixedOrders = true) (hB : planB ops ext order = true) (hok : okB n ops = true)
    (h : wpR P ops ext Q order ρ { w with drawn := w.drawn + 1 }) : wpc P n (.region id ops true) Q ρ w :=
  wp_region_plan ext order hm hB (wpX_of_wpR hok _ _ _ h)


end
structure WR (P : Program) (ops : Array Oper) (ext : List Nat) (Q : Exit → Env → World → Prop) (l : List Nat) (ρ : Env) (w : World) : Prop where
  out : wpR P ops ext Q l ρ w
structure WO (P : Program) (ops : Array Oper) (o : Oper) (e : Bool) (K : Env → World → Prop) (ρ : Env) (w : World) : Prop where
  out : opR P ops o e K ρ w
section
variable {P : Program} {ops : Array Oper} {e : Bool} {K : Env → World → Prop} {Q : Exit → Env → World → Prop} {ρ : Env} {w : World} {d : Nat} {ty : TypeId} {pos : String} {af : Array Edge} {n : Nat}
theorem cls_cases (o : Op) : cls o = Go.Proofs.Ygcsam.cls o ∨ (Go.Proofs.Ygcsam.cls o = 0 ∧ cls o = 1) := by
  cases o <;> first | exact .inl rfl | exact .inr ⟨rfl, rfl⟩
theorem opR_old {o : Oper} (h : Go.Proofs.Ygcsam.opR P ops o e K ρ w) : opR P ops o e K ρ w := by
  unfold Go.Proofs.Ygcsam.opR at h
  unfold opR
  by_cases hg : wantR ops o.guard ρ = true
  · rw [if_pos hg] at h ⊢
    unfold Go.Proofs.Ygcsam.opN at h
    unfold opN
    rcases cls_cases o.op with hc | ⟨h0, h1⟩
    · by_cases h2 : Go.Proofs.Ygcsam.cls o.op = 2
      · rw [if_pos h2] at h; rw [if_pos (hc.trans h2)]; exact h
      · rw [if_neg h2] at h; rw [if_neg (by rw [hc]; exact h2)]
        obtain ⟨v, hv, hk⟩ := h
        exact ⟨v, fun w' hw => hv w' (by rw [hc] at hw; unfold Sof at hw; unfold Go.Proofs.Ygcsam.Sof; exact hw), hk⟩
    · rw [if_neg (by omega)] at h; rw [if_neg (by omega)]
      obtain ⟨v, hv, hk⟩ := h
      exact ⟨v, fun w' hw => hv w' (by unfold Go.Proofs.Ygcsam.Sof; rw [if_pos h0]; trivial), hk⟩
  · rw [if_neg hg] at h ⊢; exact h
theorem opR_mono {o : Oper} {K' : Env → World → Prop} (h : opR P ops o e K ρ w) (hk : ∀ ρ w, K ρ w → K' ρ w) : opR P ops o e K' ρ w := by
  unfold opR at *
  split
  · rename_i hg; rw [if_pos hg] at h
    unfold opN at *
    split
    · rename_i hc; rw [if_pos hc] at h; exact tU_mono h fun ρ w h => ⟨h.1, hk _ _ h.2⟩
    · rename_i hc; rw [if_neg hc] at h; obtain ⟨v, hv, h⟩ := h; exact ⟨v, hv, hk _ _ h⟩
  · rename_i hg; rw [if_neg hg] at h; exact hk _ _ h
theorem R_cons {ext : List Nat} {o : Oper} {i : Nat} {rest : List Nat} (hi : ops[i]? = some o) (h : WO P ops o (ext.contains i) (WR P ops ext Q rest) ρ w) : WR P ops ext Q (i :: rest) ρ w := ⟨o, hi, opR_mono h.out fun _ _ h => h.out⟩
theorem R_nil {ext : List Nat} (h : Q .normal ρ w) : WR P ops ext Q [] ρ w := ⟨h⟩
theorem O_old {o : Oper} (h : Go.Proofs.Ygcsam.WO P ops o e K ρ w) : WO P ops o e K ρ w := ⟨opR_old h.out⟩
theorem G_yes {j : Nat} {want : Bool} {dd : Option Nat} {s t : TypeId} {x : Operand} (hg : wantR ops (some (j, want)) ρ = true) (h : WO P ops ⟨dd, .convert s t x, ty, pos, af, none⟩ e K ρ w) : WO P ops ⟨dd, .convert s t x, ty, pos, af, some (j, want)⟩ e K ρ w := by
  have h := h.out
  constructor
  unfold opR at *
  rw [if_pos (by rfl)] at h
  rw [if_pos hg]
  exact h
theorem O_read {s t : TypeId} {x : Operand} {v : Value} (hr : ∀ w', Ext w w' → (execOp (ev ρ) ⟨some d, .convert s t x, ty, pos, af, none⟩).run P w' = .ok (.value v) w') (k : K (put ρ d v) w) : WO P ops ⟨some d, .convert s t x, ty, pos, af, none⟩ e K ρ w := by
  constructor
  unfold opR
  rw [if_pos (by rfl)]
  unfold opN
  rw [if_neg (by simp [cls])]
  exact ⟨v, fun w' hw => hr w' (by simpa [Sof, cls] using hw), k⟩
theorem W_drawn {id : Nat} {ops : Array Oper} (ext order : List Nat) (hm : P.follows .mixedOrders = true) (hB : planB ops ext order = true) (hok : okB n ops = true)
    (h : WR P ops ext Q order ρ { w with drawn := w.drawn + 1 }) : WC P n (.region id ops true) Q ρ w := ⟨C_drawn ext order hm hB hok h.out⟩
end
end Go.Proofs.Ygcsam.Cv
