/-
  THE PLAIN STATE: undoing, weighing; the journal's entries. Own work.
-/
import Derived.Test.YgcsamU8
namespace Go.Proofs.Ygcsam
set_option linter.unusedVariables false
set_option linter.unusedSimpArgs false

abbrev St := (Nat → Nat → Nat) × (Nat → Nat → Nat) × Nat
def upF (f : Nat → Nat → Nat) (a : Nat) (g : Nat → Nat) : Nat → Nat → Nat := fun i => if i = a then g else f i
def undoE (k a n : Nat) (g : Nat → Nat) (t : St) : St :=
  if k = 0 then (upF t.1 a g, t.2.1, t.2.2) else if k = 3 then (t.1, upF t.2.1 a g, t.2.2) else if k = 6 then (t.1, t.2.1, n) else t
def U (σ : VS) (lo : Nat) : Nat → St → St
  | 0, t => t
  | c + 1, t => U σ lo c (undoE (σ.kd (lo + c)) (σ.ja (lo + c)) (σ.jn (lo + c)) (σ.jw (lo + c)) t)
def cur (σ : VS) : St := (σ.bal, σ.val, σ.ref)
def at_ (σ : VS) (lo : Nat) : St := U σ lo (σ.nj - lo) (cur σ)
theorem U_congr {σ σ' : VS} {lo : Nat} : ∀ (c : Nat) (t : St), (∀ i, i < lo + c → σ'.kd i = σ.kd i ∧ σ'.ja i = σ.ja i ∧ σ'.jn i = σ.jn i ∧ σ'.jw i = σ.jw i) → U σ' lo c t = U σ lo c t
  | 0, _, _ => rfl
  | c + 1, t, h => by
    obtain ⟨h1, h2, h3, h4⟩ := h (lo + c) (by omega)
    simp only [U, h1, h2, h3, h4]
    exact U_congr c _ fun i hi => h i (by omega)
/-- The live snapshots weigh as before. -/
structure Steady (σ σ' : VS) : Prop where
  nm : σ'.nm = σ.nm
  mks : ∀ i, i < σ.nm → σ'.mks i = σ.mks i
  orig : σ'.orig = σ.orig
  at_ : ∀ i, i < σ.nm → at_ σ' (σ.mks i) = at_ σ (σ.mks i)
theorem Steady.refl (σ : VS) : Steady σ σ := ⟨rfl, fun _ _ => rfl, rfl, fun _ _ => rfl⟩
theorem Steady.trans {a b c : VS} (h : Steady a b) (k : Steady b c) : Steady a c :=
  ⟨k.nm.trans h.nm, fun i hi => (k.mks i (by rw [h.nm]; exact hi)).trans (h.mks i hi), k.orig.trans h.orig, fun i hi => by
    have := k.at_ i (by rw [h.nm]; exact hi)
    rw [h.mks i hi] at this
    exact this.trans (h.at_ i hi)⟩
theorem Sm.steady {σ σ' : VS} (h : Sm σ σ') : Steady σ σ' :=
  ⟨h.nm, fun i _ => by rw [h.mks], h.orig, fun i _ => by
    unfold Go.Proofs.Ygcsam.at_ cur
    rw [h.nj, h.bal, h.val, h.ref]
    exact U_congr _ _ fun i _ => by rw [h.kd, h.ja, h.jn, h.jw]; exact ⟨rfl, rfl, rfl, rfl⟩⟩
/-- One entry more. -/
def push (σ : VS) (a' : Option Addr) (c' K a n : Nat) (g : Nat → Nat) : VS := { σ with aJ := a', nj := σ.nj + 1, cJ := c', kd := upn σ.kd σ.nj K, ja := upn σ.ja σ.nj a, jn := upn σ.jn σ.nj n, jw := upF σ.jw σ.nj g }
/-- An entry is pushed and the content laid whose undoing is the entry. -/
theorem Steady.push {σ σ' : VS} {K a n : Nat} {g : Nat → Nat} (hI : VI σ) (hnj : σ'.nj = σ.nj + 1) (hnm : σ'.nm = σ.nm) (hmk : σ'.mks = σ.mks) (ho : σ'.orig = σ.orig) (hkd : σ'.kd = upn σ.kd σ.nj K) (hja : σ'.ja = upn σ.ja σ.nj a) (hjn : σ'.jn = upn σ.jn σ.nj n) (hjw : σ'.jw = upF σ.jw σ.nj g)
    (hun : undoE K a n g (cur σ') = cur σ) : Steady σ σ' := by
  refine ⟨hnm, fun i _ => by rw [hmk], ho, fun i hi => ?_⟩
  have hle := hI.mle i hi
  unfold Go.Proofs.Ygcsam.at_
  rw [hnj, show σ.nj + 1 - σ.mks i = (σ.nj - σ.mks i) + 1 by omega]
  simp only [U]
  have e : σ.mks i + (σ.nj - σ.mks i) = σ.nj := by omega
  rw [e, hkd, hja, hjn, hjw]
  simp only [upn, upF, if_true]
  rw [hun]
  exact U_congr _ _ fun j hj => by
    have : j ≠ σ.nj := by omega
    rw [hkd, hja, hjn, hjw]
    simp only [upn, upF, this, if_false]
    exact ⟨trivial, trivial, trivial, trivial⟩
theorem upF_back (f : Nat → Nat → Nat) (a : Nat) (g : Nat → Nat) : upF (upF f a g) a (f a) = f := by
  funext i
  simp only [upF]
  by_cases h : i = a
  · subst h; simp
  · simp [h]
/-! ### entries -/
structure Ent (cs : Array Value) (K a n : Nat) (g : Nat → Nat) : Prop where
  k : cs[0]? = some (.int .u8 (K : Int))
  a : cs[1]? = some (.int .i32 (a : Int))
  n : cs[2]? = some (.int .u64 (n : Int))
  w : ∀ k, k < 4 → cs[3 + k]? = some (.int .u64 (g k : Int))
theorem spl_get' (vs : List Value) : ∀ (c : Array Value) (o j : Nat), (spl c o vs)[j]? = if o ≤ j ∧ j < o + vs.length ∧ j < c.size then vs[j - o]? else c[j]? := by
  induction vs with
  | nil => intro c o j; simp only [spl, List.length_nil]; rw [if_neg (by omega)]
  | cons v vs ih =>
    intro c o j
    simp only [List.length_cons, spl]
    rw [ih]
    simp only [Array.size_setIfInBounds]
    by_cases h1 : o + 1 ≤ j ∧ j < o + 1 + vs.length ∧ j < c.size
    · rw [if_pos h1, if_pos (by omega), show j - o = (j - (o + 1)) + 1 by omega]; rfl
    · rw [if_neg h1]
      by_cases h2 : j = o
      · subst h2
        by_cases h3 : j < c.size
        · rw [if_pos (by omega)]; simp [h3]
        · rw [if_neg (by omega)]; simp [h3]
      · rw [if_neg (by omega), Array.getElem?_setIfInBounds_ne (by omega)]
theorem zero178 {z : Array Value} (hz : z.size = csz 178) (hzz : ∀ j, j < csz 178 → ∃ u, z[j]? = some u ∧ okZ (lay 178 j) u = true) : z[1]? = some (.int .i32 0) ∧ z[2]? = some (.int .u64 0) ∧ ∀ k, k < 4 → z[3 + k]? = some (.int .u64 0) := by
  refine ⟨?_, ?_, fun k hk => ?_⟩
  · obtain ⟨u, e1, e2⟩ := hzz 1 (by decide)
    rw [e1, okZ_3 e2]
  · obtain ⟨u, e1, e2⟩ := hzz 2 (by decide)
    rw [e1, okZ_2 e2]
  · obtain ⟨u, e1, e2⟩ := hzz (3 + k) (by simp only [csz]; omega)
    have : lay 178 (3 + k) = 2 := by simp only [lay]; rw [if_neg (by omega), if_neg (by omega), if_pos (by omega)]
    rw [this] at e2
    rw [e1, okZ_2 e2]
theorem spl_out {vs : List Value} {c : Array Value} {o j : Nat} (h : ¬ (o ≤ j ∧ j < o + vs.length)) : (spl c o vs)[j]? = c[j]? := by
  rw [spl_get', if_neg (fun h2 => h ⟨h2.1, h2.2.1⟩)]
theorem spl_in {vs : List Value} {c : Array Value} {o j : Nat} (h1 : o ≤ j) (h2 : j < o + vs.length) (h3 : j < c.size) : (spl c o vs)[j]? = vs[j - o]? := by
  rw [spl_get', if_pos ⟨h1, h2, h3⟩]
theorem entW {z : Array Value} {K a : Nat} {g : Nat → Nat} (hz : z.size = csz 178) (hzz : ∀ j, j < csz 178 → ∃ u, z[j]? = some u ∧ okZ (lay 178 j) u = true) : Ent (fl z [(0, #[.int .u8 (K : Int)]), (1, #[.int .i32 (a : Int)]), (3, ns .u64 4 g)]) K a 0 g := by
  obtain ⟨h1, h2, h3⟩ := zero178 hz hzz
  simp only [csz] at hz
  refine ⟨?_, ?_, ?_, fun k hk => ?_⟩
  · simp only [fl]
    rw [spl_out (by simp), spl_out (by simp), spl_in (by omega) (by simp) (by rw [hz]; omega)]; rfl
  · simp only [fl]
    rw [spl_out (by simp), spl_in (by omega) (by simp) (by rw [spl_size, hz]; omega)]; rfl
  · simp only [fl]
    rw [spl_out (by simp), spl_out (by simp), spl_out (by simp), h2]; rfl
  · simp only [fl]
    rw [spl_in (by omega) (by rw [Array.length_toList, ns_size]; omega) (by rw [spl_size, spl_size, hz]; omega), Nat.add_sub_cancel_left, Array.getElem?_toList, ns_get hk]
theorem entN {z : Array Value} {K a n : Nat} (hz : z.size = csz 178) (hzz : ∀ j, j < csz 178 → ∃ u, z[j]? = some u ∧ okZ (lay 178 j) u = true) : Ent (fl z [(0, #[.int .u8 (K : Int)]), (1, #[.int .i32 (a : Int)]), (2, #[.int .u64 (n : Int)])]) K a n (fun _ => 0) := by
  obtain ⟨h1, h2, h3⟩ := zero178 hz hzz
  simp only [csz] at hz
  refine ⟨?_, ?_, ?_, fun k hk => ?_⟩
  · simp only [fl]
    rw [spl_out (by simp), spl_out (by simp), spl_in (by omega) (by simp) (by rw [hz]; omega)]; rfl
  · simp only [fl]
    rw [spl_out (by simp), spl_in (by omega) (by simp) (by rw [spl_size, hz]; omega)]; rfl
  · simp only [fl]
    rw [spl_in (by omega) (by simp) (by rw [spl_size, spl_size, hz]; omega)]; rfl
  · simp only [fl]
    rw [spl_out (by simp <;> omega), spl_out (by simp <;> omega), spl_out (by simp <;> omega), h3 k hk]; rfl
theorem entO {z : Array Value} {K a o : Nat} {v : Value} (ho : 7 ≤ o) (hz : z.size = csz 178) (hzz : ∀ j, j < csz 178 → ∃ u, z[j]? = some u ∧ okZ (lay 178 j) u = true) : Ent (fl z [(0, #[.int .u8 (K : Int)]), (1, #[.int .i32 (a : Int)]), (o, #[v])]) K a 0 (fun _ => 0) := by
  obtain ⟨h1, h2, h3⟩ := zero178 hz hzz
  simp only [csz] at hz
  refine ⟨?_, ?_, ?_, fun k hk => ?_⟩
  · simp only [fl]
    rw [spl_out (by simp; omega), spl_out (by simp), spl_in (by omega) (by simp) (by rw [hz]; omega)]; rfl
  · simp only [fl]
    rw [spl_out (by simp; omega), spl_in (by omega) (by simp) (by rw [spl_size, hz]; omega)]; rfl
  · simp only [fl]
    rw [spl_out (by simp; omega), spl_out (by simp), spl_out (by simp), h2]; rfl
  · simp only [fl]
    rw [spl_out (by simp; omega), spl_out (by simp <;> omega), spl_out (by simp <;> omega), h3 k hk]; rfl
theorem entR {z : Array Value} {K n : Nat} (hz : z.size = csz 178) (hzz : ∀ j, j < csz 178 → ∃ u, z[j]? = some u ∧ okZ (lay 178 j) u = true) : Ent (fl z [(0, #[.int .u8 (K : Int)]), (2, #[.int .u64 (n : Int)])]) K 0 n (fun _ => 0) := by
  obtain ⟨h1, h2, h3⟩ := zero178 hz hzz
  simp only [csz] at hz
  refine ⟨?_, ?_, ?_, fun k hk => ?_⟩
  · simp only [fl]
    rw [spl_out (by simp), spl_in (by omega) (by simp) (by rw [hz]; omega)]; rfl
  · simp only [fl]
    rw [spl_out (by simp), spl_out (by simp), h1]; rfl
  · simp only [fl]
    rw [spl_in (by omega) (by simp) (by rw [spl_size, hz]; omega)]; rfl
  · simp only [fl]
    rw [spl_out (by simp <;> omega), spl_out (by simp <;> omega), h3 k hk]; rfl
theorem entL {z : Array Value} {K : Nat} (hz : z.size = csz 178) (hzz : ∀ j, j < csz 178 → ∃ u, z[j]? = some u ∧ okZ (lay 178 j) u = true) : Ent (fl z [(0, #[.int .u8 (K : Int)])]) K 0 0 (fun _ => 0) := by
  obtain ⟨h1, h2, h3⟩ := zero178 hz hzz
  simp only [csz] at hz
  refine ⟨?_, ?_, ?_, fun k hk => ?_⟩
  · simp only [fl]
    rw [spl_in (by omega) (by simp) (by rw [hz]; omega)]; rfl
  · simp only [fl]
    rw [spl_out (by simp), h1]; rfl
  · simp only [fl]
    rw [spl_out (by simp), h2]; rfl
  · simp only [fl]
    rw [spl_out (by simp <;> omega), h3 k hk]; rfl
/-- The journal's slice is laid anew behind an append. -/
theorem V.push {B s : Nat} {σ : VS} {w2 w3 w4 : World} {b3 cap3 K a n : Nat} {g : Nat → Nat} {cs : Array Value} (hV2 : V B w2 s σ) (hA : App B w2 w3 178 σ.aJ σ.nj b3 cap3 cs) (hE : Ent cs K a n g) (hnm : σ.nm ≤ 16384) (he : Shp w3 w4) (hW : Wr w3 w4 s 8194 #[.slice (some ⟨b3, 0, none⟩) (σ.nj + 1) cap3]) : V B w4 s (push σ (some ⟨b3, 0, none⟩) cap3 K a n g) := by
  have hV3 := hV2.app hA (by decide) (fun h => by cases h) (fun h => by cases h) (fun _ => ⟨rfl, rfl⟩)
  have key : ∀ (F : Nat → Value) (G : Value) (r : Nat), r < 9 → (∀ b, σ.aJ = some ⟨b, 0, none⟩ → ∀ i, i < σ.nj → w2.cell? ⟨b, i * 9 + r, none⟩ = some (F i)) → cs[r]? = some G → ∀ b, some (⟨b3, 0, none⟩ : Addr) = some ⟨b, 0, none⟩ → ∀ i, i < σ.nj + 1 → w3.cell? ⟨b, i * 9 + r, none⟩ = some (if i = σ.nj then G else F i) := by
    intro F G r hr hF hG b hb i hi
    cases hb
    by_cases hin : i = σ.nj
    · subst hin
      have e1 := hA.new r (by simp only [csz]; omega)
      rw [show csz 178 = 9 from rfl] at e1
      rw [e1, hG, if_pos rfl]
    · rw [if_neg hin]
      exact hA.told hV2.sJ (by simp only [csz]; omega) (fun b0 e => hF b0 e i (by omega))
  refine hV3.setJou hnm hA.sl ?_ ?_ ?_ ?_ he hW
  · intro b hb i hi
    rw [key (fun i => .int .u8 (σ.kd i : Int)) _ 0 (by omega) hV2.jk hE.k b hb i hi]
    simp only [upn]; split <;> rfl
  · intro b hb i hi
    rw [key (fun i => .int .i32 (σ.ja i : Int)) _ 1 (by omega) hV2.jat hE.a b hb i hi]
    simp only [upn]; split <;> rfl
  · intro b hb i hi
    rw [key (fun i => .int .u64 (σ.jn i : Int)) _ 2 (by omega) hV2.jnn hE.n b hb i hi]
    simp only [upn]; split <;> rfl
  · intro b hb i k hi hk
    rw [key (fun i => .int .u64 (σ.jw i k : Int)) _ (3 + k) (by omega) (fun b hb i hi => hV2.jww b hb i k hi hk) (hE.w k hk) b hb i hi]
    simp only [upF]; split <;> rfl
theorem VI.push {σ : VS} (h : VI σ) {a' : Option Addr} {c' K a n : Nat} {g : Nat → Nat} (hj : σ.nj < 65536) (hK : K ≤ 10) (hK7 : K ≠ 7) (hn : n < 18446744073709551616) (hg : ∀ i, g i < 18446744073709551616) (ha : a < 2147483648) (h1 : acctK K → a < σ.na) (h2 : slotK K → a < σ.ns) (h3 : K = 8 → a < σ.nt) : VI (push σ a' c' K a n g) :=
  { h with
    nj := hj
    mle := fun i hi => Nat.le_succ_of_le (h.mle i hi)
    jw := fun i k => by show upF σ.jw σ.nj g i k < _; unfold upF; split; exact hg k; exact h.jw i k
    jn := fun i => by show upn σ.jn σ.nj n i < _; unfold upn; split; exact hn; exact h.jn i
    kd := fun i hi => by
      have hi : i < σ.nj + 1 := hi
      show upn σ.kd σ.nj K i ≤ 10; unfold upn; split; exact hK; exact h.kd i (by omega)
    pa := fun i hi hk => by
      have hi : i < σ.nj + 1 := hi
      have hk : acctK (upn σ.kd σ.nj K i) := hk
      show upn σ.ja σ.nj a i < σ.na
      unfold upn at hk ⊢
      split
      · rename_i e; rw [if_pos e] at hk; exact h1 hk
      · rename_i e; rw [if_neg e] at hk; exact h.pa i (by omega) hk
    ps := fun i hi hk => by
      have hi : i < σ.nj + 1 := hi
      have hk : slotK (upn σ.kd σ.nj K i) := hk
      show upn σ.ja σ.nj a i < σ.ns
      unfold upn at hk ⊢
      split
      · rename_i e; rw [if_pos e] at hk; exact h2 hk
      · rename_i e; rw [if_neg e] at hk; exact h.ps i (by omega) hk
    pt := fun i hi hk => by
      have hi : i < σ.nj + 1 := hi
      have hk : upn σ.kd σ.nj K i = 8 := hk
      show upn σ.ja σ.nj a i < σ.nt
      unfold upn at hk ⊢
      split
      · rename_i e; rw [if_pos e] at hk; exact h3 hk
      · rename_i e; rw [if_neg e] at hk; exact h.pt i (by omega) hk
    jr := fun i hi => by
      have hi : i < σ.nj + 1 := hi
      show upn σ.ja σ.nj a i < _; unfold upn; split; exact ha; exact h.jr i (by omega)
    logs := by
      show σ.nl = cntL (upn σ.kd σ.nj K) (σ.nj + 1)
      have e : ∀ m, m ≤ σ.nj → cntL (upn σ.kd σ.nj K) m = cntL σ.kd m := by
        intro m
        induction m with
        | zero => intro _; rfl
        | succ m ih =>
          intro hm
          simp only [cntL]
          rw [ih (by omega)]
          have : upn σ.kd σ.nj K m = σ.kd m := by simp only [upn]; rw [if_neg (by omega)]
          rw [this]
      simp only [cntL]
      rw [e _ (Nat.le_refl _), ← h.logs]
      have : upn σ.kd σ.nj K σ.nj = K := by simp [upn]
      rw [this, if_neg hK7, Nat.add_zero] }
section
variable {P : Program} {ops : Array Oper} {e : Bool} {K : Env → World → Prop} {ρ : Env} {w w0 : World} {d : Nat} {ty : TypeId} {pos : String} {af : Array Edge} {B : Nat} {L : List Fact} {M : List (Nat × Array Value)}
theorem run_load_cells {t s b o : Nat} {cs : Array Value} (h : aggT P t s) (hs : cs.size = s) (hc : ∀ j v, cs[j]? = some v → w.cell? ⟨b, o + j, none⟩ = some v) : (Instr.loadAt t (.pointer (some ⟨b, o, none⟩))).run P w = .ok (.agg cs) w := by
  have := run_loadCells_list (P := P) w ⟨b, o, none⟩ cs.toList (fun j v hj => by
    rw [addr_add]; exact hc j v (by simpa using hj))
  rw [Array.length_toList, hs, Array.toArray_toList] at this
  simp only [Instr.loadAt, Instr.sureAddr, loadVar]
  simp [run_isAgg_agg h, run_sizeOf h.2, this]
theorem O_ldW {t b i s r : Nat} {f : Nat → Nat} {x : Operand} (h : TS B w0 w L M) (ht : aggT P t 4) (hx : ev ρ x = .pointer (some ⟨b, i * s + r, none⟩)) (hc : ∀ k, k < 4 → w0.cell? ⟨b, i * s + (r + k), none⟩ = some (.int .u64 (f k : Int))) (k : K (put ρ d (.agg (ns .u64 4 f))) w) : WO P ops ⟨some d, .load t x, ty, pos, af, none⟩ e K ρ w :=
  O_read rfl (fun w' hw => by
    have := run_load_cells (P := P) (w := w') (b := b) (o := i * s + r) (cs := ns .u64 4 f) ht (ns_size _ _ _) (fun j v hj => by
      have hj' : j < 4 := by have := get_lt hj; rw [ns_size] at this; exact this
      rw [ns_get hj'] at hj
      cases hj
      rw [Nat.add_assoc]
      exact cell_ext (hc j hj') (h.e.trans hw))
    simp [execOp, hx, this]) k
end
end Go.Proofs.Ygcsam
