/-
  KEYS: literals, append, the row of ranks. Own work.
-/
import Derived.Test.YgcsamE4
import Derived.Test.YgcsamW5
namespace Go.Proofs.Ygcsam
set_option linter.unusedVariables false
set_option linter.unusedSimpArgs false
set_option maxRecDepth 4000
/-- Keys in a new block (or none). -/
def FK (w0 w : World) (a : Option Addr) (n lo R A : Nat) : Prop := ∀ b, a = some ⟨b, 0, none⟩ → w0.heap.size ≤ b ∧ ∀ x, x < n → KP w b x lo R A
theorem FK.ext {w0 w w' : World} {a : Option Addr} {n lo R A : Nat} (h : FK w0 w a n lo R A) (e : Ext w w') : FK w0 w' a n lo R A := fun b hb => ⟨(h b hb).1, fun x hx => ((h b hb).2 x hx).ext e⟩
theorem FK.heap {w0 w w' : World} {a : Option Addr} {n lo R A : Nat} (h : FK w0 w a n lo R A) (e : w'.heap = w.heap) : FK w0 w' a n lo R A := fun b hb => ⟨(h b hb).1, fun x hx => ((h b hb).2 x hx).heap e⟩
theorem FK.nil {w0 w : World} {lo R A : Nat} : FK w0 w none 0 lo R A := fun b hb => by cases hb
theorem FK.old {B : Nat} {w0 w wk : World} {a : Option Addr} {n cap lo R A : Nat} (h : FK w0 w a n lo R A) (hs : Sl B wk 183 a n cap) : n = 0 ∨ ∃ b, a = some ⟨b, 0, none⟩ ∧ w0.heap.size ≤ b ∧ ∀ x, x < n → KP w b x lo R A := by
  obtain ⟨h1, h2, h3⟩ := hs
  rcases h3 with ⟨h3, h4⟩ | ⟨b, h3, _⟩
  · left; omega
  · right; exact ⟨b, h3, h b h3⟩
theorem App.ext {B : Nat} {w0 w w' : World} {t : Nat} {a : Option Addr} {n b' cap' : Nat} {cs : Array Value} (h : App B w w' t a n b' cap' cs) (e : Ext w0 w) (hf : ∀ b, a = some ⟨b, 0, none⟩ → w0.heap.size ≤ b) : Ext w0 w' where
  os := h.os.trans e.os
  tape := h.tape.trans e.tape
  output := h.output.trans e.output
  size := Nat.le_trans e.size h.size
  block := fun k hk => by
    have h1 : k < w.heap.size := Nat.lt_of_lt_of_le hk e.size
    have h2 : k ≠ b' := by
      rcases h.isold with h3 | h3
      · omega
      · have := hf _ h3; omega
    rw [h.keep k h1 h2, e.block k hk]
section
variable {P : Program} {ops : Array Oper} {e : Bool} {K : Env → World → Prop} {ρ : Env} {w w0 : World} {d : Nat} {ty : TypeId} {pos : String} {af : Array Edge} {B : Nat} {L : List Fact} {M : List (Nat × Array Value)}
theorem TS.app {w' : World} {t : Nat} {a : Option Addr} {n b' cap' : Nat} {cs : Array Value} (h : TS B w0 w L M) (hA : App B w w' t a n b' cap' cs) (hf : ∀ b, a = some ⟨b, 0, none⟩ → w0.heap.size ≤ b) : TS B w0 w' ((t, some ⟨b', 0, none⟩, n + 1, cap') :: L) M :=
  TS.addL ⟨hA.wt, hA.ext h.e hf, fun x hx => (h.l x hx).shp hA.shp, fun x hx => (h.m x hx).shp hA.shp⟩ hA.sl
theorem O_bdZ {t : Nat} {place : Nat → Option (Nat × Nat)} {parts : Array (Nat × Operand)} {l : List (Nat × Value)} {lo : List (Nat × Array Value)} (h : TS B w0 w L M) (hp : strP P t place) (hz : zchk P t = true) (hl : parts.toList.map (fun p => (p.1, ev ρ p.2)) = l) (hf : Fits place (csz t) l lo) (hT : TyP B w t lo)
    (k : ∀ cs z, cs = fl z lo → z.size = csz t → (∀ j, j < csz t → ∃ u, z[j]? = some u ∧ okZ (lay t j) u = true) → cs.size = csz t → TS B w0 w L ((t, cs) :: M) → K (put ρ d (.agg cs)) w) : WO P ops ⟨some d, .build t parts, ty, pos, af, none⟩ e K ρ w := by
  obtain ⟨v, h1, h2, h3⟩ := zchk.ok hz
  have hsz : (fl v.cells lo).size = csz t := by rw [fl_size, h2]
  refine O_bdt hp h1 hl (by rw [h2]; exact hf) (k _ v.cells rfl h2 h3 hsz (h.addM ⟨hsz, fl_ok _ _ _ h2 hf hT fun o u hu => ?_⟩))
  obtain ⟨u', e1, e2⟩ := h3 o (by have := get_lt hu; omega)
  rw [e1] at hu; cases hu; exact okZ.ok e2
theorem okZ32 {u : Value} (h : okZ 3 u = true) : u = .int .i32 ((0 : Nat) : Int) := by
  unfold okZ at h
  split at h
  · cases h
  · cases h
  · rfl
  · cases h
  · cases h
  · cases h
theorem key2 {z : Array Value} {g : Nat → Nat} {a : Int} (hz : z.size = csz 183) (h0 : ∀ j, j < csz 183 → ∃ u, z[j]? = some u ∧ okZ (lay 183 j) u = true) : (fl z [(1, ns .u64 4 g), (5, #[.int .i32 a])])[0]? = some (.int .i32 ((0 : Nat) : Int)) ∧ (fl z [(1, ns .u64 4 g), (5, #[.int .i32 a])])[5]? = some (.int .i32 a) := by
  have hz6 : z.size = 6 := hz
  simp only [fl]
  refine ⟨?_, ?_⟩
  · rw [spl_get _ _ _ _ (by rw [spl_size, hz6]; simp), if_neg (by simp), spl_get _ _ _ _ (by rw [hz6, Array.length_toList, ns_size]; omega), if_neg (by omega)]
    obtain ⟨u, e1, e2⟩ := h0 0 (by decide)
    rw [e1, okZ32 e2]
  · rw [spl_get _ _ _ _ (by rw [spl_size, hz6]; simp), if_pos (by simp)]; rfl
theorem key3 {z : Array Value} {g : Nat → Nat} {a r : Int} (hz : z.size = csz 183) : (fl z [(0, #[.int .i32 r]), (1, ns .u64 4 g), (5, #[.int .i32 a])])[0]? = some (.int .i32 r) ∧ (fl z [(0, #[.int .i32 r]), (1, ns .u64 4 g), (5, #[.int .i32 a])])[5]? = some (.int .i32 a) := by
  have hz6 : z.size = 6 := hz
  simp only [fl]
  refine ⟨?_, ?_⟩
  · rw [spl_get _ _ _ _ (by rw [spl_size, spl_size, hz6]; simp), if_neg (by simp), spl_get _ _ _ _ (by rw [spl_size, hz6, Array.length_toList, ns_size]; omega), if_neg (by omega), spl_get _ _ _ _ (by rw [hz6]; simp), if_pos (by simp)]; rfl
  · rw [spl_get _ _ _ _ (by rw [spl_size, spl_size, hz6]; simp), if_pos (by simp)]; rfl
theorem O_appK {n cap b2 lo R A r a_ : Nat} {a : Option Addr} {cs : Array Value} {x y : Operand} (h : TS B w0 w L M) (hm : (183, a, n, cap) ∈ L) (hm2 : (183, some ⟨b2, 0, none⟩, 1, 1) ∈ L) (hS2 : Blk w b2 cs 183) (hs2 : cs.size = 6) (h0 : cs[0]? = some (.int .i32 ((r : Nat) : Int))) (h5 : cs[5]? = some (.int .i32 ((a_ : Nat) : Int))) (hr1 : lo ≤ r) (hr2 : r ≤ R) (ha : a_ < A) (hf : FK w0 w a n lo R A) (hn : n < 10000) (hx : ev ρ x = .slice a n cap) (hy : ev ρ y = .slice (some ⟨b2, 0, none⟩) 1 1)
    (k : ∀ w' b' cap', TS B w0 w' ((183, some ⟨b', 0, none⟩, n + 1, cap') :: L) M → FK w0 w' (some ⟨b', 0, none⟩) (n + 1) lo R A → (∀ b o v, b ≠ b' → w.cell? ⟨b, o, none⟩ = some v → w'.cell? ⟨b, o, none⟩ = some v) → K (put ρ d (.slice (some ⟨b', 0, none⟩) (n + 1) cap')) w') : WO Samg.prog ops ⟨some d, .call ⟨.builtin .append, #[x, y], #[181, 181]⟩, ty, pos, af, none⟩ false K ρ w := by
  refine O_app (t := 181) (el := 183) rfl rfl h.t sl181 by183 (by decide) zc183 (by decide) hx hy (by omega) (by omega) (h.slN hm) (h.row hm2).1 hS2 hs2 fun w' b' cap' hA => k w' b' cap' (h.app hA fun b hb => (hf b hb).1) (fun b hb => ?_) (fun b o v hne hc => hA.cell hc (.inl hne))
  cases hb
  refine ⟨?_, fun x hx => ?_⟩
  · rcases hA.isold with h3 | h3
    · have := h.e.size; omega
    · exact (hf _ h3).1
  · have hn6 := hA.new 0 (by decide)
    have hn5 := hA.new 5 (by decide)
    simp only [csz] at hn6 hn5
    by_cases hxn : x = n
    · subst hxn
      exact ⟨r, a_, by rw [hn6]; exact h0, by rw [hn5]; exact h5, hr1, hr2, ha⟩
    · have hS := h.slN hm
      rcases hS.2.2 with ⟨h3, h4⟩ | ⟨b0, h3, _⟩
      · have := hS.1; omega
      · obtain ⟨r', a', k1, k2, k3⟩ := (hf b0 h3).2 x (by omega)
        exact ⟨r', a', by rw [hA.old b0 h3 _ (by simp only [csz]; omega)]; exact k1, by rw [hA.old b0 h3 _ (by simp only [csz]; omega)]; exact k2, k3⟩
/-- The row of ranks: each a number up to N. -/
def RA (w : World) (b n N : Nat) : Prop := ∀ y, y < n → ∃ r : Nat, r ≤ N ∧ w.cell? ⟨b, y * 1 + 0, none⟩ = some (.int .i32 (r : Int))
theorem RA.ext {w' : World} {b n N : Nat} (h : RA w b n N) (e : Ext w w') : RA w' b n N := fun y hy => by
  obtain ⟨r, h1, h2⟩ := h y hy
  exact ⟨r, h1, cell_ext h2 e⟩
theorem RA.heap {w' : World} {b n N : Nat} (h : RA w b n N) (e : w'.heap = w.heap) : RA w' b n N := fun y hy => by
  obtain ⟨r, h1, h2⟩ := h y hy
  exact ⟨r, h1, cell_heap h2 e⟩
theorem RA.keep {w' : World} {b n N b' o : Nat} {cs : Array Value} (h : RA w b n N) (hW : Wr w w' b' o cs) (hne : b ≠ b') : RA w' b n N := fun y hy => by
  obtain ⟨r, h1, h2⟩ := h y hy
  exact ⟨r, h1, hW.keep hne h2⟩
theorem RA.set {w' : World} {b n N o r : Nat} (h : RA w b n N) (hW : Wr w w' b (o * 1 + 0) #[.int .i32 (r : Int)]) (hr : r ≤ N) : RA w' b n N := fun y hy => by
  obtain ⟨r', h1, h2⟩ := h y hy
  by_cases e : y = o
  · subst e; exact ⟨r, hr, hW.at1⟩
  · refine ⟨r', h1, ?_⟩
    rw [hW, if_neg (fun h => by have := h.2; simp at this; omega)]; exact h2
theorem KP.far {w' : World} {b i lo R A b' o : Nat} {cs : Array Value} (h : KP w b i lo R A) (hW : Wr w w' b' o cs) (hne : b ≠ b') : KP w' b i lo R A := by
  obtain ⟨r, a, h1, h2, h3⟩ := h
  exact ⟨r, a, hW.keep hne h1, hW.keep hne h2, h3⟩
theorem O_mkR {by_ l N : Nat} {kl kc : IntKind} {x y : Operand} (h : TS B w0 w L M) (ht : slcT P 84 21 (csz 21)) (hby : bytesT P 21 by_) (hz : zchk P 21 = true) (hx : ev ρ x = .int kl (l : Nat)) (hy : ev ρ y = .int kc (l : Nat)) (hl : l < 1099511627776) (hb : by_ * l ≤ 281474976710656)
    (k : ∀ w' b, Ext w w' → w.heap.size ≤ b → w0.heap.size ≤ b → RA w' b l N → TS B w0 w' ((21, some ⟨b, 0, none⟩, l, l) :: L) M → K (put ρ d (.slice (some ⟨b, 0, none⟩) l l)) w') : WO P ops ⟨some d, .makeSlice 84 x y, ty, pos, af, none⟩ e K ρ w := by
  obtain ⟨v, h1, h2, h3⟩ := zchk.ok hz
  by_cases hl0 : l = 0
  · subst hl0
    exact O_make0 ht hby hx hy fun w' hE hs hb => k w' _ hE (Nat.le_refl _) h.e.size (fun y hy => by omega) ((h.next hE (h.t.grow hE hs hb fun j u hj => by simp at hj)).addL (Sl.new h.t.sz hb (by simp) (Nat.le_refl _) (by omega)))
  · have h0 : csz 21 ≠ 0 := by decide
    have hzz : ∀ (j : Nat) (u : Value), (zs (l * csz 21) v.cells)[j]? = some u → okZ 3 u = true := fun j u hj => by
      have := zs_get (by omega) hj
      rw [h2] at this
      obtain ⟨u', e1, e2⟩ := h3 (j % csz 21) (Nat.mod_lt _ (by omega))
      rw [e1] at this; cases this
      exact e2
    refine O_make ht hby h1 hx hy (Nat.le_refl _) (by omega) hb (by intro h; rcases Nat.mul_eq_zero.1 h with h | h <;> omega) fun w' hE hs hb => k w' _ hE (Nat.le_refl _) h.e.size (fun y hy => ⟨0, Nat.zero_le _, ?_⟩) ((h.next hE (h.t.grow hE hs hb fun j u hj => ?_)).addL (Sl.new h.t.sz hb (by simp [zs]) (Nat.le_refl _) hl))
    · rw [hb.cellq]
      have hsz : (zs (l * csz 21) v.cells).size = l * 1 := by simp [zs, csz]
      rw [Array.getElem?_eq_getElem (by omega)]
      exact congrArg some (okZ32 (hzz (y * 1 + 0) _ (Array.getElem?_eq_getElem (by omega))))
    · exact okZ.ok (hzz j u hj)
end
end Go.Proofs.Ygcsam
