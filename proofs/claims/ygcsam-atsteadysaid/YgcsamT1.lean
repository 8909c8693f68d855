/-
  TYPED WORLDS: from block B on, every cell of a block holds what its place in the element's type says. Own work.
-/
import Derived.Test.YgcsamRule6
import Derived.Test.YgcsamN2
namespace Go.Proofs.Ygcsam
set_option linter.unusedVariables false
set_option linter.unusedSimpArgs false

/-- The cells of an element of type t. -/
def csz (t : Nat) : Nat := match t with
  | 5 => 1
  | 21 => 1
  | 24 => 20
  | 27 => 1
  | 4 => 1
  | 30 => 32
  | 38 => 36
  | 45 => 4
  | 48 => 7
  | 49 => 4
  | 51 => 25
  | 55 => 89
  | 86 => 24584
  | 87 => 32
  | 90 => 55
  | 126 => 22
  | 148 => 29
  | 150 => 64
  | 153 => 14
  | 172 => 9
  | 178 => 9
  | 183 => 6
  | 206 => 8
  | 243 => 2560
  | _ => 1
/-- What the cell o of an element of type t holds: 1 u8, 2 u64, 3 i32, 4 bool, 5 i64, 6 u32, 100 + e a slice of e. -/
def lay (t : Nat) : Nat → Nat := match t with
  | 5 => fun _ => 1
  | 21 => fun _ => 3
  | 24 => fun _ => 1
  | 27 => fun _ => 2
  | 4 => fun _ => 4
  | 30 => fun _ => 1
  | 38 => fun o => if o < 35 then 1 else 2
  | 45 => fun _ => 2
  | 48 => fun o => if o < 4 then 2 else if o < 5 then 4 else if o < 6 then 2 else 3
  | 49 => fun _ => 3
  | 51 => fun o => if o < 1 then 4 else if o < 10 then 2 else if o < 11 then 3 else if o < 12 then 105 else if o < 13 then 226 else if o < 17 then 2 else if o < 18 then 4 else if o < 19 then 2 else if o < 20 then 3 else if o < 21 then 190 else 3
  | 55 => fun o => if o < 85 then 1 else if o < 86 then 2 else if o < 87 then 3 else if o < 88 then 105 else 130
  | 86 => fun o => if o < 1 then 248 else if o < 2 then 253 else if o < 8194 then 3 else if o < 8195 then 278 else if o < 24580 then 3 else if o < 24581 then 2 else if o < 24582 then 226 else if o < 24583 then 272 else 121
  | 87 => fun _ => 1
  | 90 => fun o => if o < 20 then 1 else if o < 21 then 2 else if o < 53 then 1 else if o < 54 then 105 else 250
  | 126 => fun o => if o < 20 then 1 else if o < 21 then 187 else 105
  | 148 => fun o => if o < 20 then 1 else if o < 25 then 2 else if o < 26 then 105 else 4
  | 150 => fun _ => 1
  | 153 => fun o => if o < 1 then 3 else if o < 13 then 2 else 4
  | 172 => fun o => if o < 1 then 3 else 2
  | 178 => fun o => if o < 1 then 1 else if o < 2 then 3 else if o < 7 then 2 else if o < 8 then 105 else 4
  | 183 => fun o => if o < 1 then 3 else if o < 5 then 2 else 3
  | 206 => fun _ => 1
  | 243 => fun _ => 4
  | _ => fun _ => 0
def Row (B : Nat) (w : World) (b t N : Nat) : Prop := B ≤ b ∧ ∃ c, Blk w b c t ∧ c.size = N
def Sl (B : Nat) (w : World) (t : Nat) (a : Option Addr) (n cap : Nat) : Prop := n ≤ cap ∧ n < 1099511627776 ∧ ((a = none ∧ cap = 0) ∨ ∃ b, a = some ⟨b, 0, none⟩ ∧ Row B w b t (cap * csz t))

def okV (B : Nat) (w : World) (c : Nat) (v : Value) : Prop :=
  (c = 1 → ∃ z : Nat, v = .int .u8 (z : Int) ∧ z < 256) ∧
  (c = 2 → ∃ z : Nat, v = .int .u64 (z : Int) ∧ z < 18446744073709551616) ∧
  (c = 3 → ∃ z : Int, v = .int .i32 z ∧ -2147483648 ≤ z ∧ z < 2147483648) ∧
  (c = 4 → ∃ p : Bool, v = .bool p) ∧
  (100 ≤ c → ∃ a n cap, v = .slice a n cap ∧ Sl B w (c - 100) a n cap) ∧ v.oneCell' = true

structure Shp (w w' : World) : Prop where
  size : w.heap.size ≤ w'.heap.size
  row : ∀ b c t, Blk w b c t → ∃ c', Blk w' b c' t ∧ c'.size = c.size
theorem Shp.refl (w : World) : Shp w w := ⟨Nat.le_refl _, fun b c t h => ⟨c, h, rfl⟩⟩
theorem Shp.trans {a b c : World} (h : Shp a b) (k : Shp b c) : Shp a c :=
  ⟨Nat.le_trans h.size k.size, fun i ci t hb => by
    obtain ⟨c1, h1, e1⟩ := h.row i ci t hb
    obtain ⟨c2, h2, e2⟩ := k.row i c1 t h1
    exact ⟨c2, h2, e2.trans e1⟩⟩
theorem Ext.shp {w w' : World} (h : Ext w w') : Shp w w' := ⟨h.size, fun b c t hb => ⟨c, hb.ext h, rfl⟩⟩
theorem Upd.shp {w w' : World} {b : Nat} {c c' : Array Value} {t : TypeId} (h : Upd w w' b c' t) (hb : Blk w b c t) (hs : c'.size = c.size) : Shp w w' :=
  ⟨by rw [h.size]; exact Nat.le_refl _, fun i ci ti hi => by
    by_cases e : i = b
    · subst e
      obtain ⟨rfl, rfl⟩ := hi.uniq hb
      exact ⟨c', h.here, hs⟩
    · exact ⟨ci, hi.upd h e, rfl⟩⟩
theorem Row.shp {B : Nat} {w w' : World} {b t N : Nat} (h : Row B w b t N) (e : Shp w w') : Row B w' b t N := by
  obtain ⟨h1, c, h2, h3⟩ := h
  obtain ⟨c', h4, h5⟩ := e.row b c t h2
  exact ⟨h1, c', h4, h5.trans h3⟩
theorem Sl.shp {B : Nat} {w w' : World} {t : Nat} {a : Option Addr} {n cap : Nat} (h : Sl B w t a n cap) (e : Shp w w') : Sl B w' t a n cap := by
  obtain ⟨h1, h2, h3⟩ := h
  refine ⟨h1, h2, ?_⟩
  rcases h3 with h3 | ⟨b, h3, h4⟩
  · exact .inl h3
  · exact .inr ⟨b, h3, h4.shp e⟩
theorem okV.shp {B : Nat} {w w' : World} {c : Nat} {v : Value} (h : okV B w c v) (e : Shp w w') : okV B w' c v := by
  obtain ⟨h1, h2, h3, h4, h5, h6⟩ := h
  refine ⟨h1, h2, h3, h4, fun hc => ?_, h6⟩
  obtain ⟨a, n, cap, hv, hs⟩ := h5 hc
  exact ⟨a, n, cap, hv, hs.shp e⟩
section
variable {B : Nat} {w : World}
theorem ok8 {z : Nat} (h : z < 256) : okV B w 1 (.int .u8 (z : Int)) := ⟨fun _ => ⟨z, rfl, h⟩, by omega, by omega, by omega, by omega, rfl⟩
theorem ok64 {z : Nat} (h : z < 18446744073709551616) : okV B w 2 (.int .u64 (z : Int)) := ⟨by omega, fun _ => ⟨z, rfl, h⟩, by omega, by omega, by omega, rfl⟩
theorem ok32 {z : Int} (h1 : -2147483648 ≤ z) (h2 : z < 2147483648) : okV B w 3 (.int .i32 z) := ⟨by omega, by omega, fun _ => ⟨z, rfl, h1, h2⟩, by omega, by omega, rfl⟩
theorem okB_ {p : Bool} : okV B w 4 (.bool p) := ⟨by omega, by omega, by omega, fun _ => ⟨p, rfl⟩, by omega, rfl⟩
theorem okS {t : Nat} {a : Option Addr} {n cap : Nat} (h : Sl B w t a n cap) : okV B w (100 + t) (.slice a n cap) := ⟨by omega, by omega, by omega, by omega, fun _ => ⟨a, n, cap, rfl, by rw [Nat.add_sub_cancel_left]; exact h⟩, rfl⟩
theorem Sl.nil (t : Nat) : Sl B w t none 0 0 := ⟨Nat.le_refl _, by omega, .inl ⟨rfl, rfl⟩⟩
/-- What a zero value may hold. -/
def okZ (c : Nat) (v : Value) : Bool := match v with
  | .int .u8 0 => c == 1
  | .int .u64 0 => c == 2
  | .int .i32 0 => c == 3
  | .bool false => c == 4
  | .slice none 0 0 => Nat.ble 100 c
  | _ => false
theorem okZ.ok {c : Nat} {v : Value} (h : okZ c v = true) : okV B w c v := by
  unfold okZ at h
  split at h
  · have : c = 1 := by simpa using h
    subst this; exact ok8 (z := 0) (by omega)
  · have : c = 2 := by simpa using h
    subst this; exact ok64 (z := 0) (by omega)
  · have : c = 3 := by simpa using h
    subst this; exact ok32 (z := 0) (by omega) (by omega)
  · have : c = 4 := by simpa using h
    subst this; exact okB_
  · have : 100 ≤ c := Nat.le_of_ble_eq_true h
    obtain ⟨t, rfl⟩ := Nat.exists_eq_add_of_le this
    exact okS (Sl.nil t)
  · cases h
end

structure WT (B : Nat) (w : World) : Prop where
  sz : B ≤ w.heap.size
  ok : ∀ b c t, B ≤ b → Blk w b c t → ∀ o v, c[o]? = some v → okV B w (lay t (o % csz t)) v

theorem WT.upd {B : Nat} {w w' : World} {b : Nat} {c c' : Array Value} {t : Nat} (h : WT B w) (hb : Blk w b c t) (hu : Upd w w' b c' t) (hs : c'.size = c.size) (hc : ∀ o v, c'[o]? = some v → okV B w (lay t (o % csz t)) v) : WT B w' := by
  have e := hu.shp hb hs
  refine ⟨Nat.le_trans h.sz e.size, fun k ck tk hk hbk o v hv => ?_⟩
  by_cases hkb : k = b
  · subst hkb
    obtain ⟨rfl, rfl⟩ := hbk.uniq hu.here
    exact (hc o v hv).shp e
  · have : Blk w k ck tk := (hu.block k hkb).symm.trans hbk
    exact (h.ok k ck tk hk this o v hv).shp e
theorem WT.grow {B : Nat} {w w' : World} {c : Array Value} {t : Nat} (h : WT B w) (he : Ext w w') (hs : w'.heap.size = w.heap.size + 1) (hb : Blk w' w.heap.size c t) (hc : ∀ o v, c[o]? = some v → okV B w (lay t (o % csz t)) v) : WT B w' := by
  refine ⟨by have := h.sz; omega, fun k ck tk hk hbk o v hv => ?_⟩
  have hlt := hbk.lt
  by_cases hkb : k = w.heap.size
  · subst hkb
    obtain ⟨rfl, rfl⟩ := hbk.uniq hb
    exact (hc o v hv).shp he.shp
  · have : Blk w k ck tk := (he.block k (by omega)).symm.trans hbk
    exact (h.ok k ck tk hk this o v hv).shp he.shp
theorem WT.drew {B : Nat} {w : World} (h : WT B w) : WT B { w with drawn := w.drawn + 1 } := ⟨h.sz, fun b c t hb hk o v hv => (h.ok b c t hb hk o v hv).shp (Ext.drew w).shp⟩

/-- A row of typed cells as a value. -/
def okA (B : Nat) (w : World) (t : Nat) (cs : Array Value) : Prop := cs.size = csz t ∧ ∀ o v, cs[o]? = some v → okV B w (lay t o) v
theorem okA.shp {B : Nat} {w w' : World} {t : Nat} {cs : Array Value} (h : okA B w t cs) (e : Shp w w') : okA B w' t cs := ⟨h.1, fun o v hv => (h.2 o v hv).shp e⟩

/-- What is known of a world: it is typed, it has grown out of w0; the slices of L and the values of M are typed. -/
structure TS (B : Nat) (w0 w : World) (L : List (Nat × Option Addr × Nat × Nat)) (M : List (Nat × Array Value)) : Prop where
  t : WT B w
  e : Ext w0 w
  l : ∀ x ∈ L, Sl B w x.1 x.2.1 x.2.2.1 x.2.2.2
  m : ∀ x ∈ M, okA B w x.1 x.2

abbrev Fact := Nat × Option Addr × Nat × Nat
theorem TS.slN {B : Nat} {w0 w : World} {L : List Fact} {M : List (Nat × Array Value)} (h : TS B w0 w L M) {t : Nat} {a : Option Addr} {n cap : Nat} (hm : (t, a, n, cap) ∈ L) : Sl B w t a n cap := h.l _ hm
theorem TS.row {B : Nat} {w0 w : World} {L : List Fact} {M : List (Nat × Array Value)} (h : TS B w0 w L M) {t b n cap : Nat} (hm : (t, some ⟨b, 0, none⟩, n, cap) ∈ L) : Row B w b t (cap * csz t) := by
  obtain ⟨h1, h2, h3⟩ := h.slN hm
  rcases h3 with ⟨h3, _⟩ | ⟨b', h3, h4⟩
  · cases h3
  · simp only [Option.some.injEq, Addr.mk.injEq, and_true] at h3
    rw [h3]; exact h4
theorem TS.drew {B : Nat} {w0 w : World} {L : List Fact} {M : List (Nat × Array Value)} (h : TS B w0 w L M) : TS B w0 { w with drawn := w.drawn + 1 } L M :=
  ⟨h.t.drew, h.e.trans (Ext.drew w), fun x hx => (h.l x hx).shp (Ext.drew w).shp, fun x hx => (h.m x hx).shp (Ext.drew w).shp⟩
theorem TS.addL {B : Nat} {w0 w : World} {L : List Fact} {M : List (Nat × Array Value)} (h : TS B w0 w L M) {t n cap : Nat} {a : Option Addr} (hs : Sl B w t a n cap) : TS B w0 w ((t, a, n, cap) :: L) M :=
  ⟨h.t, h.e, fun x hx => by rcases List.mem_cons.1 hx with rfl | hx <;> first | exact hs | exact h.l x hx, h.m⟩
theorem TS.addM {B : Nat} {w0 w : World} {L : List Fact} {M : List (Nat × Array Value)} (h : TS B w0 w L M) {t : Nat} {cs : Array Value} (hs : okA B w t cs) : TS B w0 w L ((t, cs) :: M) :=
  ⟨h.t, h.e, h.l, fun x hx => by rcases List.mem_cons.1 hx with rfl | hx <;> first | exact hs | exact h.m x hx⟩
theorem TS.next {B : Nat} {w0 w w' : World} {L : List Fact} {M : List (Nat × Array Value)} (h : TS B w0 w L M) (hE : Ext w w') (hT : WT B w') : TS B w0 w' L M :=
  ⟨hT, h.e.trans hE, fun x hx => (h.l x hx).shp hE.shp, fun x hx => (h.m x hx).shp hE.shp⟩
theorem TS.upd {B : Nat} {w0 w w' : World} {L : List Fact} {M : List (Nat × Array Value)} (h : TS B w0 w L M) {b : Nat} {c c' : Array Value} {t : Nat} (hn : w0.heap.size ≤ b) (hb : Blk w b c t) (hu : Upd w w' b c' t) (hs : c'.size = c.size) (hc : ∀ o v, c'[o]? = some v → okV B w (lay t (o % csz t)) v) : TS B w0 w' L M :=
  ⟨h.t.upd hb hu hs hc, (((h.e.mod [b]).trans' hu.mod (fun x hx => .inl hx))).toExt (by simpa using hn), fun x hx => (h.l x hx).shp (hu.shp hb hs), fun x hx => (h.m x hx).shp (hu.shp hb hs)⟩
theorem TS.restart {B : Nat} {w0 w : World} {L : List Fact} {M : List (Nat × Array Value)} (h : TS B w0 w L M) : TS B w w L M := ⟨h.t, Ext.refl w, h.l, h.m⟩
theorem TS.sub {B : Nat} {w0 w : World} {L L' : List Fact} {M M' : List (Nat × Array Value)} (h : TS B w0 w L M) (hL : ∀ x ∈ L', x ∈ L) (hM : ∀ x ∈ M', x ∈ M) : TS B w0 w L' M' := ⟨h.t, h.e, fun x hx => h.l x (hL x hx), fun x hx => h.m x (hM x hx)⟩

theorem layMod {T i s r c : Nat} (hs : csz T = s) (h : lay T (r % s) = c) : lay T ((i * s + r) % csz T) = c := by
  rw [hs, Nat.mul_comm, Nat.mul_add_mod]; exact h
def runB (T r m c : Nat) : Bool := (List.range m).all fun j => Nat.beq (lay T (r + j)) c
theorem layRun {T i s r m c : Nat} (hs : csz T = s) (hr : Nat.ble (r + m) s = true) (h : runB T r m c = true) : ∀ j, j < m → lay T ((i * s + r + j) % csz T) = c := by
  intro j hj
  have h1 := Nat.le_of_ble_eq_true hr
  rw [hs, Nat.add_assoc, Nat.mul_comm, Nat.mul_add_mod, Nat.mod_eq_of_lt (by omega)]
  exact Nat.eq_of_beq_eq_true (List.all_eq_true.1 h j (List.mem_range.2 hj))
theorem layRun0 {T r m c : Nat} (hr : Nat.ble (r + m) (csz T) = true) (h : runB T r m c = true) : ∀ j, j < m → lay T ((r + j) % csz T) = c := by
  intro j hj
  have h1 := Nat.le_of_ble_eq_true hr
  rw [Nat.mod_eq_of_lt (by omega)]
  exact Nat.eq_of_beq_eq_true (List.all_eq_true.1 h j (List.mem_range.2 hj))
def subB (T r t : Nat) : Bool := (List.range (csz t)).all fun j => Nat.beq (lay T (r + j)) (lay t j)
theorem laySub {T i s r t : Nat} (hs : csz T = s) (hr : Nat.ble (r + csz t) s = true) (h : subB T r t = true) : ∀ j, j < csz t → lay T ((i * s + r + j) % csz T) = lay t j := by
  intro j hj
  have h1 := Nat.le_of_ble_eq_true hr
  rw [hs, Nat.add_assoc, Nat.mul_comm, Nat.mul_add_mod, Nat.mod_eq_of_lt (by omega)]
  exact Nat.eq_of_beq_eq_true (List.all_eq_true.1 h j (List.mem_range.2 hj))
theorem laySub0 {T r t : Nat} (hr : Nat.ble (r + csz t) (csz T) = true) (h : subB T r t = true) : ∀ j, j < csz t → lay T ((r + j) % csz T) = lay t j := by
  intro j hj
  have h1 := Nat.le_of_ble_eq_true hr
  rw [Nat.mod_eq_of_lt (by omega)]
  exact Nat.eq_of_beq_eq_true (List.all_eq_true.1 h j (List.mem_range.2 hj))
theorem laySame {T i : Nat} (h0 : 0 < csz T) : ∀ j, j < csz T → lay T ((i * csz T + 0 + j) % csz T) = lay T j := by
  intro j hj
  rw [Nat.add_zero, Nat.mul_comm, Nat.mul_add_mod, Nat.mod_eq_of_lt hj]

/-! ### numbers and lists out of typed cells -/
theorem okV.u8 {B : Nat} {w : World} {v : Value} (h : okV B w 1 v) : ∃ z : Nat, v = .int .u8 (z : Int) ∧ z < 256 := h.1 rfl
theorem okV.u64 {B : Nat} {w : World} {v : Value} (h : okV B w 2 v) : ∃ z : Nat, v = .int .u64 (z : Int) ∧ z < 18446744073709551616 := h.2.1 rfl
theorem okV.i32 {B : Nat} {w : World} {v : Value} (h : okV B w 3 v) : ∃ z : Int, v = .int .i32 z ∧ -2147483648 ≤ z ∧ z < 2147483648 := h.2.2.1 rfl
theorem okV.bool {B : Nat} {w : World} {v : Value} (h : okV B w 4 v) : ∃ p : Bool, v = .bool p := h.2.2.2.1 rfl
theorem okV.slice {B : Nat} {w : World} {v : Value} {t : Nat} (h : okV B w (100 + t) v) : ∃ a n cap, v = .slice a n cap ∧ Sl B w t a n cap := by
  obtain ⟨a, n, cap, h1, h2⟩ := h.2.2.2.2.1 (by omega)
  rw [Nat.add_sub_cancel_left] at h2
  exact ⟨a, n, cap, h1, h2⟩
theorem okV.one {B : Nat} {w : World} {v : Value} {c : Nat} (h : okV B w c v) : v.oneCell' = true := h.2.2.2.2.2

def numOf : Value → Nat
  | .int _ z => z.toNat
  | _ => 0
theorem row8 {B : Nat} {w : World} {m : Nat} {c : Array Value} (hs : c.size = m) (h : ∀ (o : Nat) (v : Value), c[o]? = some v → okV B w 1 v) : ∃ f : Nat → Nat, c = ns .u8 m f ∧ ∀ i, f i < 256 := by
  have hall : ∀ i, i < m → ∃ z : Nat, c[i]? = some (.int .u8 (z : Int)) ∧ z < 256 := by
    intro i hi
    have hi' : i < c.size := by omega
    obtain ⟨z, h1, h2⟩ := (h i c[i] (by simp [hi'])).u8
    exact ⟨z, by simp [hi', h1], h2⟩
  refine ⟨fun i => if i < m then numOf (c[i]?.getD undef) else 0, ns_ext hs fun i hi => ?_, fun i => ?_⟩
  · obtain ⟨z, h1, h2⟩ := hall i hi
    simp only [hi, if_true, h1, Option.getD_some, numOf, Int.toNat_natCast]
  · by_cases hi : i < m
    · obtain ⟨z, h1, h2⟩ := hall i hi
      simp only [hi, if_true, h1, Option.getD_some, numOf, Int.toNat_natCast]; exact h2
    · simp only [hi, if_false]; omega
theorem row64 {B : Nat} {w : World} {m : Nat} {c : Array Value} (hs : c.size = m) (h : ∀ (o : Nat) (v : Value), c[o]? = some v → okV B w 2 v) : ∃ f : Nat → Nat, c = ns .u64 m f ∧ ∀ i, f i < 18446744073709551616 := by
  have hall : ∀ i, i < m → ∃ z : Nat, c[i]? = some (.int .u64 (z : Int)) ∧ z < 18446744073709551616 := by
    intro i hi
    have hi' : i < c.size := by omega
    obtain ⟨z, h1, h2⟩ := (h i c[i] (by simp [hi'])).u64
    exact ⟨z, by simp [hi', h1], h2⟩
  refine ⟨fun i => if i < m then numOf (c[i]?.getD undef) else 0, ns_ext hs fun i hi => ?_, fun i => ?_⟩
  · obtain ⟨z, h1, h2⟩ := hall i hi
    simp only [hi, if_true, h1, Option.getD_some, numOf, Int.toNat_natCast]
  · by_cases hi : i < m
    · obtain ⟨z, h1, h2⟩ := hall i hi
      simp only [hi, if_true, h1, Option.getD_some, numOf, Int.toNat_natCast]; exact h2
    · simp only [hi, if_false]; omega

section
variable {P : Program} {ops : Array Oper} {e : Bool} {K : Env → World → Prop} {Q : Exit → Env → World → Prop} {ρ : Env} {w w0 : World} {d : Nat} {ty : TypeId} {pos : String} {af : Array Edge} {n B : Nat} {L : List Fact} {M : List (Nat × Array Value)}

/-! ### loads -/
theorem O_ld {t b o T n cap : Nat} {x : Operand} (h : TS B w0 w L M) (hm : (T, some ⟨b, 0, none⟩, n, cap) ∈ L) (ht : oneT P t) (hx : ev ρ x = .pointer (some ⟨b, o, none⟩)) (ho : o < cap * csz T)
    (k : ∀ v, okV B w (lay T (o % csz T)) v → K (put ρ d v) w) : WO P ops ⟨some d, .load t x, ty, pos, af, none⟩ e K ρ w := by
  obtain ⟨hB, c, hb, hs⟩ := h.row hm
  have hlt : o < c.size := by omega
  exact O_load ht hx hb (v := c[o]) (by simp [hlt]) (k _ (h.t.ok b c T hB hb o _ (by simp [hlt])))
theorem O_ld8 {t b o T n cap : Nat} {x : Operand} (h : TS B w0 w L M) (hm : (T, some ⟨b, 0, none⟩, n, cap) ∈ L) (ht : oneT P t) (hx : ev ρ x = .pointer (some ⟨b, o, none⟩)) (ho : o < cap * csz T) (hc : lay T (o % csz T) = 1)
    (k : ∀ z : Nat, z < 256 → K (put ρ d (.int .u8 (z : Int))) w) : WO P ops ⟨some d, .load t x, ty, pos, af, none⟩ e K ρ w :=
  O_ld h hm ht hx ho fun v hv => by
    rw [hc] at hv; obtain ⟨z, rfl, hz⟩ := hv.u8; exact k z hz
theorem O_ld64 {t b o T n cap : Nat} {x : Operand} (h : TS B w0 w L M) (hm : (T, some ⟨b, 0, none⟩, n, cap) ∈ L) (ht : oneT P t) (hx : ev ρ x = .pointer (some ⟨b, o, none⟩)) (ho : o < cap * csz T) (hc : lay T (o % csz T) = 2)
    (k : ∀ z : Nat, z < 18446744073709551616 → K (put ρ d (.int .u64 (z : Int))) w) : WO P ops ⟨some d, .load t x, ty, pos, af, none⟩ e K ρ w :=
  O_ld h hm ht hx ho fun v hv => by
    rw [hc] at hv; obtain ⟨z, rfl, hz⟩ := hv.u64; exact k z hz
theorem O_ld32 {t b o T n cap : Nat} {x : Operand} (h : TS B w0 w L M) (hm : (T, some ⟨b, 0, none⟩, n, cap) ∈ L) (ht : oneT P t) (hx : ev ρ x = .pointer (some ⟨b, o, none⟩)) (ho : o < cap * csz T) (hc : lay T (o % csz T) = 3)
    (k : ∀ z : Int, -2147483648 ≤ z → z < 2147483648 → K (put ρ d (.int .i32 z)) w) : WO P ops ⟨some d, .load t x, ty, pos, af, none⟩ e K ρ w :=
  O_ld h hm ht hx ho fun v hv => by
    rw [hc] at hv; obtain ⟨z, rfl, hz1, hz2⟩ := hv.i32; exact k z hz1 hz2
theorem O_ldb {t b o T n cap : Nat} {x : Operand} (h : TS B w0 w L M) (hm : (T, some ⟨b, 0, none⟩, n, cap) ∈ L) (ht : oneT P t) (hx : ev ρ x = .pointer (some ⟨b, o, none⟩)) (ho : o < cap * csz T) (hc : lay T (o % csz T) = 4)
    (kt : K (put ρ d (.bool true)) w) (kf : K (put ρ d (.bool false)) w) : WO P ops ⟨some d, .load t x, ty, pos, af, none⟩ e K ρ w :=
  O_ld h hm ht hx ho fun v hv => by
    rw [hc] at hv; obtain ⟨z, rfl⟩ := hv.bool; cases z <;> assumption
theorem O_lds {t b o T n cap t' : Nat} {x : Operand} (h : TS B w0 w L M) (hm : (T, some ⟨b, 0, none⟩, n, cap) ∈ L) (ht : oneT P t) (hx : ev ρ x = .pointer (some ⟨b, o, none⟩)) (ho : o < cap * csz T) (hc : lay T (o % csz T) = 100 + t')
    (k : ∀ a n1 c1, n1 ≤ c1 → n1 < 1099511627776 → TS B w0 w ((t', a, n1, c1) :: L) M → K (put ρ d (.slice a n1 c1)) w) : WO P ops ⟨some d, .load t x, ty, pos, af, none⟩ e K ρ w :=
  O_ld h hm ht hx ho fun v hv => by
    rw [hc] at hv; obtain ⟨a, n1, c1, rfl, hs⟩ := hv.slice; exact k a n1 c1 hs.1 hs.2.1 (h.addL hs)
theorem O_ldn8 {t m b o T n cap : Nat} {x : Operand} (h : TS B w0 w L M) (hm : (T, some ⟨b, 0, none⟩, n, cap) ∈ L) (ht : aggT P t m) (hx : ev ρ x = .pointer (some ⟨b, o, none⟩)) (ho : o + m ≤ cap * csz T) (hc : ∀ j, j < m → lay T ((o + j) % csz T) = 1)
    (k : ∀ f : Nat → Nat, (∀ i, f i < 256) → K (put ρ d (.agg (ns .u8 m f))) w) : WO P ops ⟨some d, .load t x, ty, pos, af, none⟩ e K ρ w := by
  obtain ⟨hB, c, hb, hs⟩ := h.row hm
  refine O_load_agg ht hx hb (by omega) ?_
  obtain ⟨f, e1, e2⟩ := row8 (B := B) (w := w) (m := m) (c := c.extract o (o + m)) (by simp; omega) (fun j v hj => by
    rw [Array.getElem?_extract] at hj
    split at hj
    · have hj' : j < m := by omega
      have := h.t.ok b c T hB hb (o + j) v hj
      rw [hc j hj'] at this; exact this
    · cases hj)
  rw [e1]; exact k f e2
theorem O_ldn64 {t m b o T n cap : Nat} {x : Operand} (h : TS B w0 w L M) (hm : (T, some ⟨b, 0, none⟩, n, cap) ∈ L) (ht : aggT P t m) (hx : ev ρ x = .pointer (some ⟨b, o, none⟩)) (ho : o + m ≤ cap * csz T) (hc : ∀ j, j < m → lay T ((o + j) % csz T) = 2)
    (k : ∀ f : Nat → Nat, (∀ i, f i < 18446744073709551616) → K (put ρ d (.agg (ns .u64 m f))) w) : WO P ops ⟨some d, .load t x, ty, pos, af, none⟩ e K ρ w := by
  obtain ⟨hB, c, hb, hs⟩ := h.row hm
  refine O_load_agg ht hx hb (by omega) ?_
  obtain ⟨f, e1, e2⟩ := row64 (B := B) (w := w) (m := m) (c := c.extract o (o + m)) (by simp; omega) (fun j v hj => by
    rw [Array.getElem?_extract] at hj
    split at hj
    · have hj' : j < m := by omega
      have := h.t.ok b c T hB hb (o + j) v hj
      rw [hc j hj'] at this; exact this
    · cases hj)
  rw [e1]; exact k f e2
theorem O_lda {t b o T n cap : Nat} {x : Operand} (h : TS B w0 w L M) (hm : (T, some ⟨b, 0, none⟩, n, cap) ∈ L) (ht : aggT P t (csz t)) (hx : ev ρ x = .pointer (some ⟨b, o, none⟩)) (ho : o + csz t ≤ cap * csz T) (hc : ∀ j, j < csz t → lay T ((o + j) % csz T) = lay t j)
    (k : ∀ cs, cs.size = csz t → TS B w0 w L ((t, cs) :: M) → K (put ρ d (.agg cs)) w) : WO P ops ⟨some d, .load t x, ty, pos, af, none⟩ e K ρ w := by
  obtain ⟨hB, c, hb, hs⟩ := h.row hm
  have h1 : (c.extract o (o + csz t)).size = csz t := by simp; omega
  refine O_load_agg ht hx hb (by omega) (k _ h1 (h.addM ⟨h1, fun j v hj => ?_⟩))
  rw [Array.getElem?_extract] at hj
  split at hj
  · have hj' : j < csz t := by omega
    have := h.t.ok b c T hB hb (o + j) v hj
    rw [hc j hj'] at this; exact this
  · cases hj

/-! ### stores into new blocks -/
theorem O_st {t b o T n cap : Nat} {v : Value} {x y : Operand} (h : TS B w0 w L M) (hm : (T, some ⟨b, 0, none⟩, n, cap) ∈ L) (hn : w0.heap.size ≤ b) (ht : oneT P t) (hx : ev ρ x = .pointer (some ⟨b, o, none⟩)) (hy : ev ρ y = v) (ho : o < cap * csz T) (hv : okV B w (lay T (o % csz T)) v) (he : e = false)
    (k : ∀ w', TS B w0 w' L M → K ρ w') : WO P ops ⟨none, .store t x y, ty, pos, af, none⟩ e K ρ w := by
  obtain ⟨hB, c, hb, hs⟩ := h.row hm
  refine O_store ht hx hy hv.one hb (by omega) he fun w' hu => k w' (h.upd hn hb hu (by simp) fun j u hj => ?_)
  by_cases e1 : j = o
  · subst e1
    rw [Array.getElem?_setIfInBounds] at hj
    split at hj
    · split at hj
      · cases hj; exact hv
      · cases hj
    · exact h.t.ok b c T hB hb _ u hj
  · rw [Array.getElem?_setIfInBounds_ne (Ne.symm e1)] at hj
    exact h.t.ok b c T hB hb _ u hj
theorem O_sta {t m b o T n cap : Nat} {cs : Array Value} {x y : Operand} (h : TS B w0 w L M) (hm : (T, some ⟨b, 0, none⟩, n, cap) ∈ L) (hn : w0.heap.size ≤ b) (ht : aggT P t m) (hx : ev ρ x = .pointer (some ⟨b, o, none⟩)) (hy : ev ρ y = .agg cs) (hcs : cs.size = m) (ho : o + m ≤ cap * csz T)
    (hv : ∀ j v, cs[j]? = some v → okV B w (lay T ((o + j) % csz T)) v) (he : e = false)
    (k : ∀ w', TS B w0 w' L M → K ρ w') : WO P ops ⟨none, .store t x y, ty, pos, af, none⟩ e K ρ w := by
  obtain ⟨hB, c, hb, hs⟩ := h.row hm
  refine O_store_agg ht hx hy hcs (fun v hv' => ?_) hb (by omega) he fun w' hu => k w' (h.upd hn hb hu (by rw [spl_size]) fun j u hj => ?_)
  · obtain ⟨j, hj⟩ := List.getElem?_of_mem hv'
    exact (hv j v (by simpa using hj)).one
  · rw [spl_get _ _ _ _ (by simp; omega)] at hj
    split at hj
    · have := hv (j - o) u (by simpa using hj)
      rw [show o + (j - o) = j by omega] at this; exact this
    · exact h.t.ok b c T hB hb _ u hj
theorem ns_ok8 {m : Nat} {f : Nat → Nat} (hf : ∀ i, f i < 256) : ∀ (j : Nat) (v : Value), (ns .u8 m f)[j]? = some v → okV B w 1 v := by
  intro j v hj
  have hjs : j < (ns .u8 m f).size := (Array.getElem?_eq_some_iff.1 hj).1
  rw [ns_size] at hjs
  rw [ns_get hjs] at hj
  cases hj; exact ok8 (hf j)
theorem ns_ok64 {m : Nat} {f : Nat → Nat} (hf : ∀ i, f i < 18446744073709551616) : ∀ (j : Nat) (v : Value), (ns .u64 m f)[j]? = some v → okV B w 2 v := by
  intro j v hj
  have hjs : j < (ns .u64 m f).size := (Array.getElem?_eq_some_iff.1 hj).1
  rw [ns_size] at hjs
  rw [ns_get hjs] at hj
  cases hj; exact ok64 (hf j)
theorem get_lt {cs : Array Value} {j : Nat} {v : Value} (h : cs[j]? = some v) : j < cs.size := (Array.getElem?_eq_some_iff.1 h).1
theorem O_stn8 {t m b o T n cap : Nat} {f : Nat → Nat} {x y : Operand} (h : TS B w0 w L M) (hm : (T, some ⟨b, 0, none⟩, n, cap) ∈ L) (hn : w0.heap.size ≤ b) (ht : aggT P t m) (hx : ev ρ x = .pointer (some ⟨b, o, none⟩)) (hy : ev ρ y = .agg (ns .u8 m f)) (hf : ∀ i, f i < 256) (ho : o + m ≤ cap * csz T)
    (hc : ∀ j, j < m → lay T ((o + j) % csz T) = 1) (he : e = false) (k : ∀ w', TS B w0 w' L M → K ρ w') : WO P ops ⟨none, .store t x y, ty, pos, af, none⟩ e K ρ w :=
  O_sta h hm hn ht hx hy (ns_size _ _ _) ho (fun j v hj => by rw [hc j (by have := get_lt hj; rw [ns_size] at this; exact this)]; exact ns_ok8 hf j v hj) he k
theorem O_stn64 {t m b o T n cap : Nat} {f : Nat → Nat} {x y : Operand} (h : TS B w0 w L M) (hm : (T, some ⟨b, 0, none⟩, n, cap) ∈ L) (hn : w0.heap.size ≤ b) (ht : aggT P t m) (hx : ev ρ x = .pointer (some ⟨b, o, none⟩)) (hy : ev ρ y = .agg (ns .u64 m f)) (hf : ∀ i, f i < 18446744073709551616) (ho : o + m ≤ cap * csz T)
    (hc : ∀ j, j < m → lay T ((o + j) % csz T) = 2) (he : e = false) (k : ∀ w', TS B w0 w' L M → K ρ w') : WO P ops ⟨none, .store t x y, ty, pos, af, none⟩ e K ρ w :=
  O_sta h hm hn ht hx hy (ns_size _ _ _) ho (fun j v hj => by rw [hc j (by have := get_lt hj; rw [ns_size] at this; exact this)]; exact ns_ok64 hf j v hj) he k
theorem O_sts {t b o T n cap : Nat} {cs : Array Value} {x y : Operand} (h : TS B w0 w L M) (hm : (T, some ⟨b, 0, none⟩, n, cap) ∈ L) (hn : w0.heap.size ≤ b) (hM : (t, cs) ∈ M) (ht : aggT P t (csz t)) (hx : ev ρ x = .pointer (some ⟨b, o, none⟩)) (hy : ev ρ y = .agg cs) (ho : o + csz t ≤ cap * csz T)
    (hc : ∀ j, j < csz t → lay T ((o + j) % csz T) = lay t j) (he : e = false) (k : ∀ w', TS B w0 w' L M → K ρ w') : WO P ops ⟨none, .store t x y, ty, pos, af, none⟩ e K ρ w :=
  have hA := h.m _ hM
  O_sta h hm hn ht hx hy hA.1 ho (fun j v hj => by rw [hc j (by have := get_lt hj; rw [hA.1] at this; exact this)]; exact hA.2 j v hj) he k

/-! ### new blocks -/
theorem Sl.new {w' : World} {c : Array Value} {t n cap : Nat} (hB : B ≤ w.heap.size) (hb : Blk w' w.heap.size c t) (hs : c.size = cap * csz t) (hn : n ≤ cap) (hl : n < 1099511627776) : Sl B w' t (some ⟨w.heap.size, 0, none⟩) n cap :=
  ⟨hn, hl, .inr ⟨_, rfl, hB, c, hb, hs⟩⟩
def zall (t : Nat) : Nat → List Value → Bool
  | _, [] => true
  | j, u :: l => okZ (lay t j) u && zall t (j + 1) l
theorem zall.get {t : Nat} : ∀ (l : List Value) (i j : Nat) (u : Value), zall t i l = true → l[j]? = some u → okZ (lay t (i + j)) u = true
  | [], i, j, u, _, h => by simp at h
  | x :: l, i, 0, u, hz, h => by
    simp only [zall, Bool.and_eq_true] at hz
    simp at h; subst h; exact hz.1
  | x :: l, i, j + 1, u, hz, h => by
    simp only [zall, Bool.and_eq_true] at hz
    have := zall.get l (i + 1) j u hz.2 (by simpa using h)
    rw [show i + (j + 1) = i + 1 + j by omega]; exact this
def zchk (P : Program) (t : Nat) : Bool := match (P.info? t).bind (·.zero) with
  | some v => Nat.beq v.cells.toList.length (csz t) && zall t 0 v.cells.toList
  | none => false
theorem zchk.ok {t : Nat} (h : zchk P t = true) : ∃ v, zeroT P t v ∧ v.cells.size = csz t ∧ ∀ j, j < csz t → ∃ u, v.cells[j]? = some u ∧ okZ (lay t j) u = true := by
  unfold zchk at h
  split at h
  · rename_i v hv
    simp only [Bool.and_eq_true] at h
    have hs := Nat.eq_of_beq_eq_true h.1
    rw [Array.length_toList] at hs
    refine ⟨v, hv, hs, fun j hj => ?_⟩
    have hj' : j < v.cells.size := by omega
    refine ⟨v.cells[j], by simp [hj'], ?_⟩
    have := zall.get _ 0 j v.cells[j] h.2 (by simp [hj'])
    rw [Nat.zero_add] at this; exact this
  · cases h
theorem O_al {t : Nat} (h : TS B w0 w L M) (hz : zchk P t = true) (h0 : csz t ≠ 0) (k : ∀ w' b, w0.heap.size ≤ b → TS B w0 w' ((t, some ⟨b, 0, none⟩, 1, 1) :: L) M → K (put ρ d (.pointer (some ⟨b, 0, none⟩))) w') : WO P ops ⟨some d, .alloc t, ty, pos, af, none⟩ e K ρ w := by
  obtain ⟨v, h1, h2, h3⟩ := zchk.ok hz
  refine O_alloc h1 fun w' hE hs hb => k w' _ h.e.size ((h.next hE (h.t.grow hE hs hb fun j u hj => ?_)).addL (Sl.new h.t.sz hb (by rw [h2, Nat.one_mul]) (Nat.le_refl _) (by omega)))
  have hj' : j < csz t := by have := get_lt hj; omega
  obtain ⟨u', e1, e2⟩ := h3 j hj'
  rw [e1] at hj; cases hj
  rw [Nat.mod_eq_of_lt hj']; exact okZ.ok e2
theorem O_bx {t : Nat} {v : Value} {x : Operand} (h : TS B w0 w L M) (hx : ev ρ x = v) (hs : v.cells.size = csz t) (hv : ∀ j u, v.cells[j]? = some u → okV B w (lay t j) u) (k : ∀ w' b, w0.heap.size ≤ b → TS B w0 w' ((t, some ⟨b, 0, none⟩, 1, 1) :: L) M → K (put ρ d (.pointer (some ⟨b, 0, none⟩))) w') : WO P ops ⟨some d, .box t x, ty, pos, af, none⟩ e K ρ w := by
  refine O_box hx fun w' hE hs' hb => k w' _ h.e.size ((h.next hE (h.t.grow hE hs' hb fun j u hj => ?_)).addL (Sl.new h.t.sz hb (by rw [hs, Nat.one_mul]) (Nat.le_refl _) (by omega)))
  have hj' : j < csz t := by have := get_lt hj; omega
  rw [Nat.mod_eq_of_lt hj']; exact hv j u hj
theorem O_bx8 {t m : Nat} {f : Nat → Nat} {x : Operand} (h : TS B w0 w L M) (hx : ev ρ x = .agg (ns .u8 m f)) (hf : ∀ i, f i < 256) (hs : csz t = m) (hc : runB t 0 m 1 = true) (k : ∀ w' b, w0.heap.size ≤ b → TS B w0 w' ((t, some ⟨b, 0, none⟩, 1, 1) :: L) M → K (put ρ d (.pointer (some ⟨b, 0, none⟩))) w') : WO P ops ⟨some d, .box t x, ty, pos, af, none⟩ e K ρ w :=
  O_bx h hx (by simp only [Value.cells, ns_size, hs]) (fun j u hj => by
    have hj' : j < m := by have := get_lt hj; simpa only [Value.cells, ns_size] using this
    have := Nat.eq_of_beq_eq_true (List.all_eq_true.1 hc j (List.mem_range.2 hj'))
    rw [Nat.zero_add] at this
    rw [this]; exact ns_ok8 hf j u hj) k
theorem O_bx64 {t m : Nat} {f : Nat → Nat} {x : Operand} (h : TS B w0 w L M) (hx : ev ρ x = .agg (ns .u64 m f)) (hf : ∀ i, f i < 18446744073709551616) (hs : csz t = m) (hc : runB t 0 m 2 = true) (k : ∀ w' b, w0.heap.size ≤ b → TS B w0 w' ((t, some ⟨b, 0, none⟩, 1, 1) :: L) M → K (put ρ d (.pointer (some ⟨b, 0, none⟩))) w') : WO P ops ⟨some d, .box t x, ty, pos, af, none⟩ e K ρ w :=
  O_bx h hx (by simp only [Value.cells, ns_size, hs]) (fun j u hj => by
    have hj' : j < m := by have := get_lt hj; simpa only [Value.cells, ns_size] using this
    have := Nat.eq_of_beq_eq_true (List.all_eq_true.1 hc j (List.mem_range.2 hj'))
    rw [Nat.zero_add] at this
    rw [this]; exact ns_ok64 hf j u hj) k
theorem O_bxs {t : Nat} {cs : Array Value} {x : Operand} (h : TS B w0 w L M) (hM : (t, cs) ∈ M) (hx : ev ρ x = .agg cs) (k : ∀ w' b, w0.heap.size ≤ b → TS B w0 w' ((t, some ⟨b, 0, none⟩, 1, 1) :: L) M → K (put ρ d (.pointer (some ⟨b, 0, none⟩))) w') : WO P ops ⟨some d, .box t x, ty, pos, af, none⟩ e K ρ w :=
  O_bx h hx (h.m _ hM).1 (h.m _ hM).2 k
theorem zs_get {N : Nat} {z : Array Value} {j : Nat} {u : Value} (hz : z.size ≠ 0) (h : (zs N z)[j]? = some u) : z[j % z.size]? = some u := by
  unfold zs at h
  simp only [Array.getElem?_map, Array.getElem?_range] at h
  split at h
  · have hlt : j % z.size < z.size := Nat.mod_lt _ (by omega)
    simp only [Option.map_some, Option.some.injEq] at h
    rw [Array.getElem?_eq_getElem hlt, ← h, getElem!_pos z _ hlt]
  · cases h
theorem O_mk {t el by_ l : Nat} {kl kc : IntKind} {x y : Operand} (h : TS B w0 w L M) (ht : slcT P t el (csz el)) (hby : bytesT P el by_) (hz : zchk P el = true) (h0 : csz el ≠ 0) (hx : ev ρ x = .int kl (l : Nat)) (hy : ev ρ y = .int kc (l : Nat)) (hl : l < 1099511627776) (hb : by_ * l ≤ 281474976710656)
    (k : ∀ w' b, w0.heap.size ≤ b → TS B w0 w' ((el, some ⟨b, 0, none⟩, l, l) :: L) M → K (put ρ d (.slice (some ⟨b, 0, none⟩) l l)) w') : WO P ops ⟨some d, .makeSlice t x y, ty, pos, af, none⟩ e K ρ w := by
  obtain ⟨v, h1, h2, h3⟩ := zchk.ok hz
  by_cases hl0 : l = 0
  · subst hl0
    refine O_make0 ht hby hx hy fun w' hE hs hb => k w' _ h.e.size ((h.next hE (h.t.grow hE hs hb fun j u hj => by simp at hj)).addL (Sl.new h.t.sz hb (by simp) (Nat.le_refl _) (by omega)))
  · refine O_make ht hby h1 hx hy (Nat.le_refl _) (by omega) hb (by intro h; rcases Nat.mul_eq_zero.1 h with h | h <;> omega) fun w' hE hs hb => k w' _ h.e.size ((h.next hE (h.t.grow hE hs hb fun j u hj => ?_)).addL (Sl.new h.t.sz hb (by simp [zs]) (Nat.le_refl _) hl))
    have := zs_get (by omega) hj
    rw [h2] at this
    obtain ⟨u', e1, e2⟩ := h3 (j % csz el) (Nat.mod_lt _ (by omega))
    rw [e1] at this; cases this
    exact okZ.ok e2

/-! ### addresses -/
theorem O_ix {t el s b m l cap : Nat} {k : IntKind} {x i : Operand} {a : Option Addr} (h : TS B w0 w L M) (hm : (el, a, l, cap) ∈ L) (ht : slcT P t el s) (hx : ev ρ x = .slice a l cap) (hi : ev ρ i = .int k (m : Nat)) (hlt : m < l)
    (kk : ∀ b, a = some ⟨b, 0, none⟩ → K (put ρ d (.pointer (some ⟨b, m * s + 0, none⟩))) w) : WO P ops ⟨some d, .indexAddr t x i, ty, pos, af, none⟩ e K ρ w := by
  obtain ⟨h1, h2, h3⟩ := h.slN hm
  rcases h3 with ⟨_, h3⟩ | ⟨b, h3, _⟩
  · omega
  · subst h3
    refine O_index_s ht hx hi hlt ?_
    have := kk b rfl
    rw [Nat.add_zero] at this; rw [Nat.zero_add]; exact this
theorem O_fdT {t i off s b o r : Nat} {x : Operand} (ht : fldT P t i off s) (hs : s ≠ 0) (hx : ev ρ x = .pointer (some ⟨b, o + r, none⟩)) (k : K (put ρ d (.pointer (some ⟨b, o + (r + off), none⟩))) w) : WO P ops ⟨some d, .fieldAddr t x i, ty, pos, af, none⟩ e K ρ w :=
  O_field ht hs hx (by rw [Nat.add_assoc]; exact k)
end
end Go.Proofs.Ygcsam
