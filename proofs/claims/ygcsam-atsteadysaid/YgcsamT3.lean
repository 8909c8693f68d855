/-
  TYPED RULES: struct and array literals, append, copy, ends. Own work.
-/
import Derived.Test.YgcsamT2
namespace Go.Proofs.Ygcsam
set_option linter.unusedVariables false
set_option linter.unusedSimpArgs false

/-! ### literals -/
theorem foldl_spl (vs : List Value) : ∀ (cells : Array Value) (off i : Nat), (vs.zipIdx i).foldl (fun cs (p : Value × Nat) => cs.setIfInBounds (off + p.2) p.1) cells = spl cells (off + i) vs := by
  induction vs with
  | nil => intro cells off i; rfl
  | cons v vs ih =>
    intro cells off i
    simp only [List.zipIdx_cons, List.foldl_cons, spl]
    rw [ih]; rfl
theorem fold_spl (c : Array Value) (cells : Array Value) (off : Nat) : c.zipIdx.foldl (fun cs (p : Value × Nat) => cs.setIfInBounds (off + p.2) p.1) cells = spl cells off c.toList := by
  have := foldl_spl c.toList cells off 0
  rw [Nat.add_zero] at this
  rw [← this, ← Array.foldl_toList]
  simp
/-- The parts laid one by one. -/
def fl (z : Array Value) : List (Nat × Array Value) → Array Value
  | [] => z
  | (off, c) :: l => fl (spl z off c.toList) l
theorem fl_size (l : List (Nat × Array Value)) : ∀ z, (fl z l).size = z.size := by
  induction l with
  | nil => intro z; rfl
  | cons p l ih => intro z; obtain ⟨off, c⟩ := p; simp only [fl]; rw [ih, spl_size]
def Fits (place : Nat → Option (Nat × Nat)) (N : Nat) : List (Nat × Value) → List (Nat × Array Value) → Prop
  | [], lo => lo = []
  | (i, v) :: l, lo => ∃ off lo', lo = (off, v.cells) :: lo' ∧ place i = some (off, v.cells.size) ∧ Nat.ble (off + v.cells.size) N = true ∧ Fits place N l lo'
theorem fill_fl {place : Nat → Option (Nat × Nat)} (l : List (Nat × Value)) : ∀ (z : Array Value) (lo : List (Nat × Array Value)), Fits place z.size l lo → Instr.fill place z l = some (fl z lo) := by
  induction l with
  | nil => intro z lo h; cases h; rfl
  | cons p l ih =>
    intro z lo h
    obtain ⟨i, v⟩ := p
    obtain ⟨off, lo', rfl, h1, h2, h3⟩ := h
    have h2' := Nat.le_of_ble_eq_true h2
    simp only [Instr.fill, h1, fl]
    have hn : (decide (v.cells.size ≠ v.cells.size) || decide (off + v.cells.size > z.size)) = false := by
      simp; omega
    rw [hn]
    simp only [Bool.false_eq_true, if_false]
    rw [fold_spl]
    exact ih _ _ (by rw [spl_size]; exact h3)
/-- The parts bear the shapes of their places. -/
def TyP (B : Nat) (w : World) (t : Nat) : List (Nat × Array Value) → Prop
  | [] => True
  | (off, c) :: l => (∀ j v, c[j]? = some v → okV B w (lay t (off + j)) v) ∧ TyP B w t l
theorem fl_ok {B : Nat} {w : World} {t N : Nat} {place : Nat → Option (Nat × Nat)} (l : List (Nat × Value)) : ∀ (z : Array Value) (lo : List (Nat × Array Value)), z.size = N → Fits place N l lo → TyP B w t lo → (∀ (o : Nat) (v : Value), z[o]? = some v → okV B w (lay t o) v) → ∀ (o : Nat) (v : Value), (fl z lo)[o]? = some v → okV B w (lay t o) v := by
  induction l with
  | nil => intro z lo hN h _ hz; cases h; exact hz
  | cons p l ih =>
    intro z lo hN h hT hz
    obtain ⟨i, v⟩ := p
    obtain ⟨off, lo', rfl, h1, h2, h3⟩ := h
    have h2' := Nat.le_of_ble_eq_true h2
    simp only [fl]
    refine ih _ _ (by rw [spl_size]; exact hN) h3 hT.2 fun o u hu => ?_
    rw [spl_get _ _ _ _ (by simp; omega)] at hu
    split at hu
    · have := hT.1 (o - off) u (by simpa using hu)
      rw [show off + (o - off) = o by omega] at this; exact this
    · exact hz o u hu
theorem okp {B : Nat} {w : World} {c c' : Nat} {v : Value} (h : c = c') (k : okV B w c' v) : okV B w c v := h ▸ k
theorem one_ok {B : Nat} {w : World} {t off c' : Nat} {v : Value} (h : lay t off = c') (k : okV B w c' v) : ∀ (j : Nat) (u : Value), (#[v] : Array Value)[j]? = some u → okV B w (lay t (off + j)) u := by
  intro j u hj
  have : j = 0 := by have := get_lt hj; simp at this; omega
  subst this
  simp at hj; subst hj
  rw [Nat.add_zero, h]; exact k
theorem run8_ok {B : Nat} {w : World} {t off m : Nat} {f : Nat → Nat} (hf : ∀ i, f i < 256) (h : runB t off m 1 = true) : ∀ (j : Nat) (u : Value), (ns .u8 m f)[j]? = some u → okV B w (lay t (off + j)) u := by
  intro j u hj
  have hj' : j < m := by have := get_lt hj; rw [ns_size] at this; exact this
  rw [Nat.eq_of_beq_eq_true (List.all_eq_true.1 h j (List.mem_range.2 hj'))]
  exact ns_ok8 hf j u hj
theorem run64_ok {B : Nat} {w : World} {t off m : Nat} {f : Nat → Nat} (hf : ∀ i, f i < 18446744073709551616) (h : runB t off m 2 = true) : ∀ (j : Nat) (u : Value), (ns .u64 m f)[j]? = some u → okV B w (lay t (off + j)) u := by
  intro j u hj
  have hj' : j < m := by have := get_lt hj; rw [ns_size] at this; exact this
  rw [Nat.eq_of_beq_eq_true (List.all_eq_true.1 h j (List.mem_range.2 hj'))]
  exact ns_ok64 hf j u hj
theorem agg_ok {B : Nat} {w : World} {t off t2 : Nat} {cs : Array Value} (hA : okA B w t2 cs) (h : subB t off t2 = true) : ∀ (j : Nat) (u : Value), cs[j]? = some u → okV B w (lay t (off + j)) u := by
  intro j u hj
  have hj' : j < csz t2 := by have := get_lt hj; rw [hA.1] at this; exact this
  rw [Nat.eq_of_beq_eq_true (List.all_eq_true.1 h j (List.mem_range.2 hj'))]
  exact hA.2 j u hj

/-- Where the parts of a struct lie. -/
def strP (P : Program) (t : Nat) (place : Nat → Option (Nat × Nat)) : Prop := ∃ fs, P.underlying t = some (.struct fs) ∧ ∃ ps : Array (Nat × Nat), (∀ w, (fs.mapM fun f => do pure (f.offset, ← sizeOf f.type) : Sem (Array (Nat × Nat))).run P w = .ok ps w) ∧ place = fun i => ps[i]?

section
variable {P : Program} {ops : Array Oper} {e : Bool} {K : Env → World → Prop} {Q : Exit → Env → World → Prop} {ρ : Env} {w w0 : World} {d : Nat} {ty : TypeId} {pos : String} {af : Array Edge} {n B : Nat} {L : List Fact} {M : List (Nat × Array Value)}
theorem O_bdt {t : Nat} {place : Nat → Option (Nat × Nat)} {parts : Array (Nat × Operand)} {l : List (Nat × Value)} {lo : List (Nat × Array Value)} {z : Value} (hp : strP P t place) (hz : zeroT P t z) (hl : parts.toList.map (fun p => (p.1, ev ρ p.2)) = l) (hf : Fits place z.cells.size l lo)
    (k : K (put ρ d (.agg (fl z.cells lo))) w) : WO P ops ⟨some d, .build t parts, ty, pos, af, none⟩ e K ρ w := by
  obtain ⟨fs, h1, ps, h2, rfl⟩ := hp
  refine O_pure rfl (fun w' => ?_) k
  have h3 : (parts.map fun (i, x) => (i, ev ρ x)).toList = l := by rw [← hl, Array.toList_map]
  have h4 := fill_fl _ _ _ hf
  have h2' := h2 w'
  simp only [execOp, Instr.build, Sem.run_bind, run_zeroValue hz, Result.andThen_ok, run_underlying' h1, h2', h3, h4]
  rfl
theorem O_bd {t : Nat} {place : Nat → Option (Nat × Nat)} {parts : Array (Nat × Operand)} {l : List (Nat × Value)} {lo : List (Nat × Array Value)} (h : TS B w0 w L M) (hp : strP P t place) (hz : zchk P t = true) (hl : parts.toList.map (fun p => (p.1, ev ρ p.2)) = l) (hf : Fits place (csz t) l lo) (hT : TyP B w t lo)
    (k : ∀ cs, cs.size = csz t → TS B w0 w L ((t, cs) :: M) → K (put ρ d (.agg cs)) w) : WO P ops ⟨some d, .build t parts, ty, pos, af, none⟩ e K ρ w := by
  obtain ⟨v, h1, h2, h3⟩ := zchk.ok hz
  have hsz : (fl v.cells lo).size = csz t := by rw [fl_size, h2]
  refine O_bdt hp h1 hl (by rw [h2]; exact hf) (k _ hsz (h.addM ⟨hsz, fl_ok _ _ _ h2 hf hT fun o u hu => ?_⟩))
  obtain ⟨u', e1, e2⟩ := h3 o (by have := get_lt hu; omega)
  rw [e1] at hu; cases hu; exact okZ.ok e2
theorem O_bdn64 {t m el : Nat} {parts : Array (Nat × Operand)} {l : List (Nat × Value)} {lo : List (Nat × Array Value)} (h : TS B w0 w L M) (hp : arrT P t m el 1) (hz : zchk P t = true) (hm : csz t = m) (hr : runB t 0 m 2 = true) (hl : parts.toList.map (fun p => (p.1, ev ρ p.2)) = l) (hf : Fits (fun i => some (i * 1, 1)) (csz t) l lo) (hT : TyP B w t lo)
    (k : ∀ f : Nat → Nat, (∀ i, f i < 18446744073709551616) → K (put ρ d (.agg (ns .u64 m f))) w) : WO P ops ⟨some d, .build t parts, ty, pos, af, none⟩ e K ρ w := by
  obtain ⟨v, h1, h2, h3⟩ := zchk.ok hz
  have hsz : (fl v.cells lo).size = m := by rw [fl_size, h2, hm]
  have h4 := fill_fl _ v.cells _ (by rw [h2]; exact hf)
  have h5 := fl_ok (B := B) (w := w) _ v.cells _ h2 hf hT (fun o u hu => by
    obtain ⟨u', e1, e2⟩ := h3 o (by have := get_lt hu; omega)
    rw [e1] at hu; cases hu; exact okZ.ok e2)
  obtain ⟨f, e1, e2⟩ := row64 (B := B) (w := w) hsz (fun o u hu => by
    have ho : o < m := by have := get_lt hu; omega
    have := h5 o u hu
    rw [show lay t o = 2 by have := Nat.eq_of_beq_eq_true (List.all_eq_true.1 hr o (List.mem_range.2 ho)); rw [Nat.zero_add] at this; exact this] at this
    exact this)
  refine O_pure rfl (fun w' => ?_) (by have := k f e2; rw [← e1] at this; exact this)
  have h6 : (parts.map fun (i, x) => (i, ev ρ x)).toList = l := by rw [← hl, Array.toList_map]
  simp only [execOp, Instr.build, Sem.run_bind, run_zeroValue h1, Result.andThen_ok, run_underlying' hp.1, run_sizeOf hp.2, h6, h4]
  rfl
/-- A slice literal of one element. -/
theorem O_one {t el : Nat} {v : Value} {x : Operand} (h : TS B w0 w L M) (ht : slcT P t el (csz el)) (hz : zchk P el = true) (h0 : csz el ≠ 0) (hlim : Nat.ble (csz el) 16777216 = true) (hx : ev ρ x = v) (hs : v.cells.size = csz el) (hv : ∀ j u, v.cells[j]? = some u → okV B w (lay el j) u)
    (k : ∀ w' b, Ext w w' → w0.heap.size ≤ b → w.heap.size ≤ b → Blk w' b v.cells el → TS B w0 w' ((el, some ⟨b, 0, none⟩, 1, 1) :: L) M → K (put ρ d (.slice (some ⟨b, 0, none⟩) 1 1)) w') : WO P ops ⟨some d, .buildSlice t 1 #[(0, x)], ty, pos, af, none⟩ e K ρ w := by
  obtain ⟨z, h1, h2, h3⟩ := zchk.ok hz
  have hz1 : (zs (1 * csz el) z.cells).size = csz el := by simp [zs]
  have hff : Instr.fill (fun i => some (i * csz el, csz el)) (zs (1 * csz el) z.cells) [(0, v)] = some v.cells := by
    rw [fill_fl [(0, v)] _ [(0, v.cells)] ⟨0, [], rfl, by simp [hs], by rw [hz1, hs]; simp, rfl⟩]
    simp only [fl]
    congr 1
    apply Array.ext
    · rw [spl_size, hz1, hs]
    · intro i h1' h2'
      have := spl_get v.cells.toList (zs (1 * csz el) z.cells) 0 i (by rw [hz1, Nat.zero_add, Array.length_toList, hs]; exact Nat.le_refl _)
      rw [if_pos (by simp; omega)] at this
      simp only [Nat.sub_zero, Array.getElem?_toList] at this
      rw [Array.getElem?_eq_getElem h1', Array.getElem?_eq_getElem h2'] at this
      exact Option.some.inj this
  have hwt : ∀ w', Ext w w' → w'.heap.size = w.heap.size + 1 → Blk w' w.heap.size v.cells el → WT B w' := fun w' hE hs' hb => h.t.grow hE hs' hb fun j u hj => by
    have hj' : j < csz el := by have := get_lt hj; omega
    rw [Nat.mod_eq_of_lt hj']; exact hv j u hj
  have hl16 := Nat.le_of_ble_eq_true hlim
  refine O_lit (l := [(0, v)]) ht h1 (by simp [hx]) (by rw [Nat.one_mul]; exact hlim) (by rw [Nat.one_mul]; exact beq_ne h0) hff fun w' hE hs' hb => ?_
  exact k w' _ hE h.e.size (Nat.le_refl _) hb ((h.next hE (hwt w' hE hs' hb)).addL (Sl.new h.t.sz hb (by rw [hs, Nat.one_mul]) (Nat.le_refl _) (by omega)))
end

/-! ### append -/
structure App (B : Nat) (w w' : World) (t : Nat) (a : Option Addr) (n b' cap' : Nat) (cs : Array Value) : Prop where
  os : w'.os = w.os
  tape : w'.tape = w.tape
  output : w'.output = w.output
  size : w.heap.size ≤ w'.heap.size
  keep : ∀ k, k < w.heap.size → k ≠ b' → w'.heap[k]? = w.heap[k]?
  isold : w.heap.size ≤ b' ∨ a = some ⟨b', 0, none⟩
  sl : Sl B w' t (some ⟨b', 0, none⟩) (n + 1) cap'
  old : ∀ b0, a = some ⟨b0, 0, none⟩ → ∀ j, j < n * csz t → w'.cell? ⟨b', j, none⟩ = w.cell? ⟨b0, j, none⟩
  new : ∀ j, j < csz t → w'.cell? ⟨b', n * csz t + j, none⟩ = cs[j]?
  wt : WT B w'
  shp : Shp w w'
theorem mod_off {o n s : Nat} (h1 : n * s ≤ o) (h2 : o - n * s < s) : o % s = o - n * s := by
  obtain ⟨q, rfl⟩ := Nat.exists_eq_add_of_le h1
  rw [Nat.add_sub_cancel_left] at h2 ⊢
  rw [Nat.mul_comm, Nat.mul_add_mod, Nat.mod_eq_of_lt h2]
theorem Blk.cellq {w : World} {b : Nat} {c : Array Value} {t : TypeId} (h : Blk w b c t) (o : Nat) : w.cell? ⟨b, o, none⟩ = c[o]? := by
  unfold Blk at h; simp [World.cell?, h]
section
variable {P : Program} {ops : Array Oper} {K : Env → World → Prop} {ρ : Env} {w w0 : World} {d : Nat} {ty : TypeId} {pos : String} {af : Array Edge} {B : Nat}
theorem O_app {t el by_ n cap b2 : Nat} {a : Option Addr} {cs : Array Value} {x y : Operand} {ats : Array TypeId} (hat : ats[0]? = some t) (hat2 : ats[1]? = some t) (hT : WT B w) (ht : slcT P t el (csz el)) (hby : bytesT P el by_) (hb0 : by_ ≠ 0) (hz : zchk P el = true) (h0 : csz el ≠ 0)
    (hx : ev ρ x = .slice a n cap) (hy : ev ρ y = .slice (some ⟨b2, 0, none⟩) 1 1) (hbytes : (2 * (n + 1) + 768) * by_ ≤ 281474976710656) (hn : n + 1 < 1099511627776) (hS : Sl B w el a n cap) (hB2 : B ≤ b2) (hS2 : Blk w b2 cs el) (hs2 : cs.size = csz el)
    (k : ∀ w' b' cap', App B w w' el a n b' cap' cs → K (put ρ d (.slice (some ⟨b', 0, none⟩) (n + 1) cap')) w') : WO P ops ⟨some d, .call ⟨.builtin .append, #[x, y], ats⟩, ty, pos, af, none⟩ false K ρ w := by
  obtain ⟨z, z1, z2, z3⟩ := zchk.ok hz
  obtain ⟨s1, s2, s3⟩ := hS
  have hcs : ∀ (o : Nat) (v : Value), cs[o]? = some v → okV B w (lay el o) v := fun o v hv => by
    have := hT.ok b2 cs el hB2 hS2 o v hv
    rw [Nat.mod_eq_of_lt (by have := get_lt hv; omega)] at this; exact this
  have hex : cs.extract 0 (0 + 1 * csz el) = cs := by
    apply Array.ext
    · simp; omega
    · intro i h1 h2; simp
  by_cases hfit : n + 1 ≤ cap
  · rcases s3 with ⟨_, s3⟩ | ⟨b, s3, s4⟩
    · omega
    subst s3
    obtain ⟨hB, c, hb, hc⟩ := s4
    have hmul : (n + 1) * csz el ≤ cap * csz el := Nat.mul_le_mul_right _ hfit
    have hmul2 : (n + 1) * csz el = n * csz el + csz el := by rw [Nat.add_mul, Nat.one_mul]
    refine O_append_fit hat hat2 ht ht.1 hx hy hfit hS2 (by omega) hb (by omega) (fun v hv => ?_) rfl fun w' hu => ?_
    · rw [hex] at hv
      obtain ⟨j, hj⟩ := List.getElem?_of_mem hv
      exact (hcs j v (by simpa using hj)).one
    · rw [hex, Nat.zero_add] at hu
      have hsz : (spl c (n * csz el) cs.toList).size = c.size := spl_size _ _ _
      have hget := fun j => spl_get cs.toList c (n * csz el) j (by simp; omega)
      have hwt : WT B w' := hT.upd hb hu hsz fun o v hv => by
        rw [hget] at hv
        split at hv
        · rename_i hr
          have h1 : cs[o - n * csz el]? = some v := by simpa using hv
          have h2 := hcs _ v h1
          have h3 : o % csz el = o - n * csz el := by
            exact mod_off hr.1 (by have := get_lt h1; omega)
          rw [h3]; exact h2
        · exact hT.ok b c el hB hb o v hv
      refine k w' b cap ⟨hu.os, hu.tape, hu.output, by rw [hu.size]; exact Nat.le_refl _, fun k _ hk => hu.block k hk, .inr rfl, ⟨hfit, hn, .inr ⟨b, rfl, hB, _, hu.here, by rw [hsz]; exact hc⟩⟩, ?_, ?_, hwt, hu.shp hb hsz⟩
      · intro b0 e j hj
        simp only [Option.some.injEq, Addr.mk.injEq, and_true] at e
        subst e
        rw [hu.here.cellq, hb.cellq, hget, if_neg (by omega)]
      · intro j hj
        rw [hu.here.cellq, hget, if_pos (by simp; omega)]
        simp
  · have hold : ∃ cd, oldCells w a n (csz el) cd ∧ cd.size = n * csz el ∧ (∀ (j : Nat) (v : Value), cd[j]? = some v → okV B w (lay el (j % csz el)) v) ∧ ∀ b0, a = some ⟨b0, 0, none⟩ → ∀ j, j < n * csz el → cd[j]? = w.cell? ⟨b0, j, none⟩ := by
      rcases s3 with ⟨s3, s4⟩ | ⟨b, s3, s4⟩
      · have : n = 0 := by omega
        subst this
        exact ⟨#[], .inl ⟨s3, rfl, rfl⟩, by simp, fun j v hv => by simp at hv, fun b0 e j hj => by omega⟩
      · obtain ⟨hB, c, hb, hc⟩ := s4
        have hmul : n * csz el ≤ cap * csz el := Nat.mul_le_mul_right _ s1
        refine ⟨c.extract 0 (0 + n * csz el), .inr ⟨b, 0, c, el, s3, hb, by omega, rfl⟩, by simp; omega, fun j v hv => ?_, fun b0 e j hj => ?_⟩
        · rw [Array.getElem?_extract] at hv
          split at hv
          · rw [Nat.zero_add] at hv; exact hT.ok b c el hB hb j v hv
          · cases hv
        · rw [s3] at e
          simp only [Option.some.injEq, Addr.mk.injEq, and_true] at e
          subst e
          rw [hb.cellq, Array.getElem?_extract, if_pos (by omega), Nat.zero_add]
    obtain ⟨cd, h1, h2, h3, h4⟩ := hold
    refine O_append_grow hat hat2 ht ht.1 hby hb0 z1 hx hy (by omega) s1 hbytes h1 (.inr ⟨b2, 0, cs, el, rfl, hS2, by omega, hex.symm⟩) fun w' N hE hs hN hb => ?_
    have hmul : (n + 1) * csz el ≤ N * csz el := Nat.mul_le_mul_right _ hN
    have hmul2 : (n + 1) * csz el = n * csz el + csz el := by rw [Nat.add_mul, Nat.one_mul]
    have hg1 : ∀ j, j < n * csz el → (cd ++ cs ++ zs ((N - (n + 1)) * z.cells.size) z.cells)[j]? = cd[j]? := fun j hj => by
      rw [Array.getElem?_append_left (by simp; omega), Array.getElem?_append_left (by omega)]
    have hg2 : ∀ j, j < csz el → (cd ++ cs ++ zs ((N - (n + 1)) * z.cells.size) z.cells)[n * csz el + j]? = cs[j]? := fun j hj => by
      rw [Array.getElem?_append_left (by simp; omega), Array.getElem?_append_right (by omega)]
      congr 1; omega
    have hwt : WT B w' := hT.grow hE hs hb fun o v hv => by
      by_cases c1 : o < n * csz el
      · rw [hg1 o c1] at hv; exact h3 o v hv
      · by_cases c2 : o < n * csz el + csz el
        · have e1 : o = n * csz el + (o - n * csz el) := by omega
          rw [e1, hg2 _ (by omega)] at hv
          have h5 := hcs _ v hv
          have h6 : o % csz el = o - n * csz el := by
            exact mod_off (by omega) (by omega)
          rw [h6]; exact h5
        · rw [Array.getElem?_append_right (by simp; omega)] at hv
          have h7 := zs_get (by omega) hv
          have e1 : (o - (cd ++ cs).size) % z.cells.size = o % csz el := by
            simp only [Array.size_append, h2, hs2, z2]
            have : o = (n + 1) * csz el + (o - (n * csz el + csz el)) := by omega
            rw [this, Nat.mul_comm (n + 1), Nat.mul_add_mod]
            congr 1
            rw [Nat.mul_comm (csz el), hmul2]; omega
          rw [e1] at h7
          obtain ⟨u', e2, e3⟩ := z3 (o % csz el) (Nat.mod_lt _ (by omega))
          rw [e2] at h7; cases h7; exact okZ.ok e3
    have hsz : (cd ++ cs ++ zs ((N - (n + 1)) * z.cells.size) z.cells).size = N * csz el := by
      simp only [Array.size_append, h2, hs2, z2, zs, Array.size_map, Array.size_range]
      rw [Nat.sub_mul, hmul2]; omega
    refine k w' w.heap.size N ⟨hE.os, hE.tape, hE.output, hE.size, fun k hk _ => hE.block k hk, .inl (Nat.le_refl _), ⟨hN, hn, .inr ⟨_, rfl, hT.sz, _, hb, hsz⟩⟩, ?_, ?_, hwt, hE.shp⟩
    · intro b0 e j hj
      rw [hb.cellq, hg1 j hj, h4 b0 e j hj]
    · intro j hj
      rw [hb.cellq, hg2 j hj]
end

/-! ### nil tests, copies, slices -/
section
variable {P : Program} {ops : Array Oper} {e : Bool} {K : Env → World → Prop} {Q : Exit → Env → World → Prop} {ρ : Env} {w w0 : World} {d : Nat} {ty : TypeId} {pos : String} {af : Array Edge} {n B : Nat} {L : List Fact} {M : List (Nat × Array Value)}
theorem run_equal_slice_nil {t el : Nat} {a : Option Addr} {l c : Nat} (ht : P.underlying t = some (.slice el)) : (Op.equal t (.slice a l c) (.slice none 0 0)).run P w = .ok a.isNone w := by
  show (Op.equalIn (9999 + 1) t _ _).run P w = _
  rw [Op.equalIn]
  cases a <;> simp [run_underlying' ht]
theorem O_snil {t t' el : Nat} {x y : Operand} {a : Option Addr} {l c : Nat} (ht : P.underlying t = some (.slice el)) (hx : ev ρ x = .slice a l c) (hy : ev ρ y = .slice none 0 0) (kt : a = none → K (put ρ d (.bool true)) w) (kf : ∀ b, a = some b → K (put ρ d (.bool false)) w) : WO P ops ⟨some d, .binOp .eql t x y t', ty, pos, af, none⟩ e K ρ w := by
  refine O_pure (v := .bool a.isNone) rfl (fun w' => ?_) ?_
  · have h1 : binOp .eql t (.slice a l c) (.slice none 0 0) = (do pure (.bool (← Op.equal t (.slice a l c) (.slice none 0 0)))) := rfl
    have h2 : (eqGuard .eql t x y (.slice a l c) (.slice none 0 0)).run P w' = .ok () w' := by simp [eqGuard]
    simp only [execOp, hx, hy, Sem.run_bind, h2, Result.andThen_ok, h1, run_equal_slice_nil ht, Sem.run_pure]
  · cases a with
    | none => exact kt rfl
    | some b => exact kf b rfl
theorem O_snnil {t t' el : Nat} {x y : Operand} {a : Option Addr} {l c : Nat} (ht : P.underlying t = some (.slice el)) (hx : ev ρ x = .slice a l c) (hy : ev ρ y = .slice none 0 0) (kt : ∀ b, a = some b → K (put ρ d (.bool true)) w) (kf : a = none → K (put ρ d (.bool false)) w) : WO P ops ⟨some d, .binOp .neq t x y t', ty, pos, af, none⟩ e K ρ w := by
  refine O_pure (v := .bool !a.isNone) rfl (fun w' => ?_) ?_
  · have h1 : binOp .neq t (.slice a l c) (.slice none 0 0) = (do pure (.bool (!(← Op.equal t (.slice a l c) (.slice none 0 0))))) := rfl
    have h2 : (eqGuard .neq t x y (.slice a l c) (.slice none 0 0)).run P w' = .ok () w' := by simp [eqGuard]
    simp only [execOp, hx, hy, Sem.run_bind, h2, Result.andThen_ok, h1, run_equal_slice_nil ht, Sem.run_pure]
  · cases a with
    | none => exact kf rfl
    | some b => exact kt b rfl
/-- A copy into a new block, of as many elements as it has. -/
theorem O_cp {t el bd l c2 : Nat} {a : Option Addr} {x y : Operand} {ats : Array TypeId} (h : TS B w0 w L M) (hm : (el, some ⟨bd, 0, none⟩, l, l) ∈ L) (hm2 : (el, a, l, c2) ∈ L) (hn : w0.heap.size ≤ bd) (hat : ats[0]? = some t) (ht : slcT P t el (csz el)) (hx : ev ρ x = .slice (some ⟨bd, 0, none⟩) l l) (hy : ev ρ y = .slice a l c2) (he : e = false)
    (k : ∀ w', TS B w0 w' L M → K (put ρ d (.int .i64 (l : Nat))) w') : WO P ops ⟨some d, .call ⟨.builtin .copy, #[x, y], ats⟩, ty, pos, af, none⟩ e K ρ w := by
  obtain ⟨hB, cd, hb, hs⟩ := h.row hm
  obtain ⟨s1, s2, s3⟩ := h.slN hm2
  rcases s3 with ⟨s3, s4⟩ | ⟨b2, s3, hB2, c, hb2, hs2⟩
  · subst s3
    have hl : l = 0 := by omega
    subst hl
    refine O_do (v := .int .i64 ((0 : Nat) : Int)) (w' := w) rfl ?_ (fun h => Ext.refl w) (k w h)
    simp only [execOp, resolve, List.map_toArray, List.map_cons, List.map_nil, invoke, builtin, Builtin.copy_, Sem.run_bind, Sem.run_pure, Result.andThen_ok, hat, hx, hy, List.getElem?_toArray, List.getElem?_cons_zero, List.getElem?_cons_succ, run_underlying' ht.1, Builtin.lenOf, run_sizeOf ht.2, Builtin.firstCells, goInt]
    simp [storeCells]
  · subst s3
    have hmul : l * csz el ≤ c2 * csz el := Nat.mul_le_mul_right _ s1
    refine O_copy (m := l) hat ht hx hy (Nat.min_self l).symm hb2 (by omega) hb (by omega) (fun v hv => ?_) he fun w' hu => k w' (h.upd hn hb hu (spl_size _ _ _) fun o v hv => ?_)
    · obtain ⟨j, hj⟩ := List.getElem?_of_mem hv
      rw [Array.getElem?_toList, Array.getElem?_extract] at hj
      split at hj
      · exact (h.t.ok b2 c el hB2 hb2 _ v hj).one
      · cases hj
    · rw [spl_get _ _ _ _ (by simp; omega)] at hv
      split at hv
      · rw [Array.getElem?_toList, Array.getElem?_extract] at hv
        split at hv
        · simp only [Nat.zero_add, Nat.sub_zero] at hv
          exact h.t.ok b2 c el hB2 hb2 _ v hv
        · cases hv
      · exact h.t.ok bd cd el hB hb o v hv
theorem E_cellT {fn : Func} {R : Value → World → Prop} {t T b : Nat} (h : TS B w0 w L M) (hr : fn.results = #[.cell t T]) (ht : Nat.blt t n = true) (hT : aggT P T (csz T)) (hv : ρ t = .pointer (some ⟨b, 0, none⟩)) (hm : (T, some ⟨b, 0, none⟩, 1, 1) ∈ L) (k : ∀ cs, cs.size = csz T → okA B w T cs → R (.agg cs) w) : bodyQ P n fn R .ret ρ w := by
  obtain ⟨hB, c, hb, hs⟩ := h.row hm
  rw [Nat.one_mul] at hs
  have h1 : (c.extract 0 (0 + csz T)).size = csz T := by simp; omega
  refine E_cell hr ht hT hv hb (by omega) (k _ h1 ⟨h1, fun o v hv => ?_⟩)
  rw [Array.getElem?_extract] at hv
  split at hv
  · rw [Nat.zero_add] at hv
    have := h.t.ok b c T hB hb o v hv
    rw [Nat.mod_eq_of_lt (by omega)] at this; exact this
  · cases hv
theorem okA.ns64 {t m : Nat} {cs : Array Value} (h : okA B w t cs) (hm : csz t = m) (hr : runB t 0 m 2 = true) : ∃ f : Nat → Nat, cs = ns .u64 m f ∧ ∀ i, f i < 18446744073709551616 :=
  row64 (B := B) (w := w) (by rw [h.1, hm]) fun o v hv => by
    have ho : o < m := by have := get_lt hv; rw [h.1, hm] at this; exact this
    have := h.2 o v hv
    rw [show lay t o = 2 by have := Nat.eq_of_beq_eq_true (List.all_eq_true.1 hr o (List.mem_range.2 ho)); rw [Nat.zero_add] at this; exact this] at this
    exact this
theorem okA.ns8 {t m : Nat} {cs : Array Value} (h : okA B w t cs) (hm : csz t = m) (hr : runB t 0 m 1 = true) : ∃ f : Nat → Nat, cs = ns .u8 m f ∧ ∀ i, f i < 256 :=
  row8 (B := B) (w := w) (by rw [h.1, hm]) fun o v hv => by
    have ho : o < m := by have := get_lt hv; rw [h.1, hm] at this; exact this
    have := h.2 o v hv
    rw [show lay t o = 1 by have := Nat.eq_of_beq_eq_true (List.all_eq_true.1 hr o (List.mem_range.2 ho)); rw [Nat.zero_add] at this; exact this] at this
    exact this
end
end Go.Proofs.Ygcsam
