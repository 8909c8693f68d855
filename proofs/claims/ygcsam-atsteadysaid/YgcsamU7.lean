/-
  LAYING ACCOUNTS AND SLOTS: append to an arena, acct, slot. Own work.
-/
import Derived.Test.YgcsamU6
namespace Go.Proofs.Ygcsam
set_option linter.unusedVariables false
set_option linter.unusedSimpArgs false
set_option maxRecDepth 4000
theorem App.cell {B : Nat} {w w' : World} {t : Nat} {a : Option Addr} {n b' cap' : Nat} {cs : Array Value} (h : App B w w' t a n b' cap' cs) {b o : Nat} {v : Value} (hc : w.cell? ⟨b, o, none⟩ = some v) (hor : b ≠ b' ∨ (a = some ⟨b, 0, none⟩ ∧ o < n * csz t)) : w'.cell? ⟨b, o, none⟩ = some v := by
  by_cases hb : b = b'
  · subst hb
    rcases hor with h1 | ⟨h1, h2⟩
    · exact absurd rfl h1
    · rw [h.old b h1 o h2]; exact hc
  · rw [← hc]; unfold World.cell?; simp only [h.keep b (cell_lt hc) hb]
theorem V.mono {B : Nat} {w w' : World} {s : Nat} {σ : VS} (h : V B w s σ) (he : Shp w w') (hs : ∀ o v, w.cell? ⟨s, o, none⟩ = some v → w'.cell? ⟨s, o, none⟩ = some v)
    (hA : ∀ b, σ.aA = some ⟨b, 0, none⟩ → ∀ o v, o < σ.na * 29 → w.cell? ⟨b, o, none⟩ = some v → w'.cell? ⟨b, o, none⟩ = some v)
    (hS : ∀ b, σ.aS = some ⟨b, 0, none⟩ → ∀ o v, o < σ.ns * 14 → w.cell? ⟨b, o, none⟩ = some v → w'.cell? ⟨b, o, none⟩ = some v)
    (hJ : ∀ b, σ.aJ = some ⟨b, 0, none⟩ → ∀ o v, o < σ.nj * 9 → w.cell? ⟨b, o, none⟩ = some v → w'.cell? ⟨b, o, none⟩ = some v) : V B w' s σ where
  sV := h.sV.shp he
  acc := hs _ _ h.acc
  sA := h.sA.shp he
  slo := hs _ _ h.slo
  sS := h.sS.shp he
  jou := hs _ _ h.jou
  sJ := h.sJ.shp he
  nmk := hs _ _ h.nmk
  rf := hs _ _ h.rf
  log := hs _ _ h.log
  sL := h.sL.shp he
  tem := hs _ _ h.tem
  sT := h.sT.shp he
  tta := hs _ _ h.tta
  sH := h.sH.shp he
  ata := fun p hp => hs _ _ (h.ata p hp)
  sta := fun p hp => hs _ _ (h.sta p hp)
  mrk := fun p hp => hs _ _ (h.mrk p hp)
  ba := fun b hb i k hi hk => hA b hb _ _ (by omega) (h.ba b hb i k hi hk)
  va := fun b hb i k hi hk => hS b hb _ _ (by omega) (h.va b hb i k hi hk)
  og := fun b hb i k hi hk => hS b hb _ _ (by omega) (h.og b hb i k hi hk)
  jk := fun b hb i hi => hJ b hb _ _ (by omega) (h.jk b hb i hi)
  jat := fun b hb i hi => hJ b hb _ _ (by omega) (h.jat b hb i hi)
  jnn := fun b hb i hi => hJ b hb _ _ (by omega) (h.jnn b hb i hi)
  jww := fun b hb i k hi hk => hJ b hb _ _ (by omega) (h.jww b hb i k hi hk)
theorem V.app {B : Nat} {w w' : World} {s : Nat} {σ : VS} {t : Nat} {a : Option Addr} {n b' cap' : Nat} {cs : Array Value} (hV : V B w s σ) (h : App B w w' t a n b' cap' cs) (h86 : t ≠ 86) (hA : t = 148 → a = σ.aA ∧ n = σ.na) (hS : t = 153 → a = σ.aS ∧ n = σ.ns) (hJ : t = 178 → a = σ.aJ ∧ n = σ.nj) : V B w' s σ := by
  refine hV.mono h.shp (fun o v hc => h.cell hc (.inl (Sl.ne (hV.sV.shp h.shp) h.sl h86.symm))) ?_ ?_ ?_
  · intro b hb o v ho hc
    by_cases e : t = 148
    · obtain ⟨rfl, rfl⟩ := hA e
      subst e
      exact h.cell hc (.inr ⟨hb, ho⟩)
    · exact h.cell hc (.inl (Sl.ne2 (hV.sA.shp h.shp) hb h.sl (Ne.symm e)))
  · intro b hb o v ho hc
    by_cases e : t = 153
    · obtain ⟨rfl, rfl⟩ := hS e
      subst e
      exact h.cell hc (.inr ⟨hb, ho⟩)
    · exact h.cell hc (.inl (Sl.ne2 (hV.sS.shp h.shp) hb h.sl (Ne.symm e)))
  · intro b hb o v ho hc
    by_cases e : t = 178
    · obtain ⟨rfl, rfl⟩ := hJ e
      subst e
      exact h.cell hc (.inr ⟨hb, ho⟩)
    · exact h.cell hc (.inl (Sl.ne2 (hV.sJ.shp h.shp) hb h.sl (Ne.symm e)))
theorem TS.mu {B : Nat} {w0 w : World} {L : List Fact} {M : List (Nat × Array Value)} (h : TS B w0 w L M) (hB : B ≤ w0.heap.size) : Mu B w0 w := h.e.mu hB
theorem App.told {B : Nat} {w w' : World} {t : Nat} {a : Option Addr} {n b' cap cap' : Nat} {cs : Array Value} (h : App B w w' t a n b' cap' cs) (hS : Sl B w t a n cap) {j : Nat} {v : Value} (hj : j < n * csz t) (hc : ∀ b0, a = some ⟨b0, 0, none⟩ → w.cell? ⟨b0, j, none⟩ = some v) : w'.cell? ⟨b', j, none⟩ = some v := by
  rcases hS.2.2 with ⟨_, h1⟩ | ⟨b0, h1, _⟩
  · have := hS.1
    have : n = 0 := by omega
    subst this
    omega
  · rw [h.old b0 h1 j hj]; exact hc b0 h1
theorem okZ_2 {u : Value} (h : okZ 2 u = true) : u = .int .u64 0 := by
  unfold okZ at h
  split at h <;> simp_all
theorem okZ_1 {u : Value} (h : okZ 1 u = true) : u = .int .u8 0 := by
  unfold okZ at h
  split at h <;> simp_all
theorem okZ_3 {u : Value} (h : okZ 3 u = true) : u = .int .i32 0 := by
  unfold okZ at h
  split at h <;> simp_all
section
variable {P : Program} {ops : Array Oper} {e : Bool} {K : Env → World → Prop} {Q : Exit → Env → World → Prop} {ρ : Env} {w w0 wS : World} {d : Nat} {ty : TypeId} {pos : String} {af : Array Edge} {n B : Nat} {L : List Fact} {M : List (Nat × Array Value)}
theorem O_bdE {t : Nat} {place : Nat → Option (Nat × Nat)} {parts : Array (Nat × Operand)} {l : List (Nat × Value)} {lo : List (Nat × Array Value)} (h : TS B w0 w L M) (hp : strP P t place) (hz : zchk P t = true) (hl : parts.toList.map (fun p => (p.1, ev ρ p.2)) = l) (hf : Fits place (csz t) l lo) (hT : TyP B w t lo)
    (k : ∀ cs z : Array Value, cs.size = csz t → z.size = csz t → (∀ j, j < csz t → ∃ u, z[j]? = some u ∧ okZ (lay t j) u = true) → cs = fl z lo → TS B w0 w L ((t, cs) :: M) → K (put ρ d (.agg cs)) w) : WO P ops ⟨some d, .build t parts, ty, pos, af, none⟩ e K ρ w := by
  obtain ⟨v, h1, h2, h3⟩ := zchk.ok hz
  have hsz : (fl v.cells lo).size = csz t := by rw [fl_size, h2]
  refine O_bdt hp h1 hl (by rw [h2]; exact hf) (k _ v.cells hsz h2 h3 rfl (h.addM ⟨hsz, fl_ok _ _ _ h2 hf hT fun o u hu => ?_⟩))
  obtain ⟨u', e1, e2⟩ := h3 o (by have := get_lt hu; omega)
  rw [e1] at hu; cases hu; exact okZ.ok e2
theorem O_appM {s : Nat} {σ : VS} {t el by_ n cap b2 n2 c2 : Nat} {a : Option Addr} {cs : Array Value} {x y : Operand} {ats : Array TypeId} (h : TS B w0 w L M) (hV : V B w0 s σ) (hM : Mu B wS w0) (hm : (el, a, n, cap) ∈ L) (hm2 : (el, some ⟨b2, 0, none⟩, n2, c2) ∈ L) (hmt : mutT el = true) (hat : ats[0]? = some t) (hat2 : ats[1]? = some t) (ht : slcT P t el (csz el)) (hby : bytesT P el by_) (hb0 : by_ ≠ 0) (hz : zchk P el = true) (h0 : csz el ≠ 0)
    (hx : ev ρ x = .slice a n cap) (hy : ev ρ y = .slice (some ⟨b2, 0, none⟩) 1 1) (hbytes : (2 * (n + 1) + 768) * by_ ≤ 281474976710656) (hn : n + 1 < 1099511627776) (hS2 : Blk w b2 cs el) (hs2 : cs.size = csz el) (he : e = false)
    (k : ∀ w' b' cap', TS B w' w' ((el, some ⟨b', 0, none⟩, n + 1, cap') :: L) M → Mu B wS w' → App B w w' el a n b' cap' cs → V B w s σ → K (put ρ d (.slice (some ⟨b', 0, none⟩) (n + 1) cap')) w') : WO P ops ⟨some d, .call ⟨.builtin .append, #[x, y], ats⟩, ty, pos, af, none⟩ e K ρ w := by
  subst he
  have hS := h.slN hm
  refine O_app hat hat2 h.t ht hby hb0 hz h0 hx hy hbytes hn hS (h.row hm2).1 hS2 hs2 fun w' b' cap' hA => ?_
  refine k w' b' cap' ((h.renew hA.wt hA.shp).addL hA.sl) ((hM.trans (h.e.mu hV.B0)).trans (hA.mu h.t.sz (fun b e => ?_) (fun b c tb e hb => ?_) hmt)) hA (hV.ext h.e)
  · subst e
    rcases hS.2.2 with ⟨h1, _⟩ | ⟨b1, h1, h2, _⟩
    · cases h1
    · cases h1; exact .inr h2
  · subst e
    rcases hS.2.2 with ⟨h1, _⟩ | ⟨b1, h1, h2, c1, h3, _⟩
    · cases h1
    · cases h1; exact (hb.uniq h3).2
end
/-- The arenas may have grown; all else is as it was. -/
structure Sm (σ σ' : VS) : Prop where
  na : σ.na ≤ σ'.na
  ns : σ.ns ≤ σ'.ns
  nt : σ.nt ≤ σ'.nt
  nj : σ'.nj = σ.nj
  nl : σ'.nl = σ.nl
  nm : σ'.nm = σ.nm
  mks : σ'.mks = σ.mks
  ref : σ'.ref = σ.ref
  bal : σ'.bal = σ.bal
  val : σ'.val = σ.val
  orig : σ'.orig = σ.orig
  kd : σ'.kd = σ.kd
  ja : σ'.ja = σ.ja
  jn : σ'.jn = σ.jn
  jw : σ'.jw = σ.jw
theorem Sm.refl (σ : VS) : Sm σ σ := ⟨Nat.le_refl _, Nat.le_refl _, Nat.le_refl _, rfl, rfl, rfl, rfl, rfl, rfl, rfl, rfl, rfl, rfl, rfl, rfl⟩
theorem Sm.trans {a b c : VS} (h : Sm a b) (k : Sm b c) : Sm a c :=
  ⟨Nat.le_trans h.na k.na, Nat.le_trans h.ns k.ns, Nat.le_trans h.nt k.nt, k.nj.trans h.nj, k.nl.trans h.nl, k.nm.trans h.nm, k.mks.trans h.mks, k.ref.trans h.ref, k.bal.trans h.bal, k.val.trans h.val, k.orig.trans h.orig, k.kd.trans h.kd, k.ja.trans h.ja, k.jn.trans h.jn, k.jw.trans h.jw⟩
theorem VI.growA {σ : VS} (h : VI σ) {a : Option Addr} {c q : Nat} (hq : σ.atab q < 0) (hn : σ.na < 2560) : VI { σ with aA := a, na := σ.na + 1, cA := c, atab := upI σ.atab q σ.na } :=
  { h with
    na := hn
    zb := fun i k hi => h.zb i k (by have : σ.na + 1 ≤ i := hi; omega)
    pa := fun i hi hk => Nat.lt_succ_of_lt (h.pa i hi hk)
    ca := Nat.le_trans (cntT_up hq 4096) (Nat.succ_le_succ h.ca)
    ra := fun p => by
      have := h.ra p
      show -2147483648 ≤ upI σ.atab q σ.na p ∧ upI σ.atab q σ.na p < 2147483648
      unfold upI; split <;> omega }
theorem VI.growS {σ : VS} (h : VI σ) {a : Option Addr} {c q : Nat} (hq : σ.stab q < 0) (hn : σ.ns < 2560) : VI { σ with aS := a, ns := σ.ns + 1, cS := c, stab := upI σ.stab q σ.ns } :=
  { h with
    ns := hn
    zv := fun i k hi => h.zv i k (by have : σ.ns + 1 ≤ i := hi; omega)
    zo := fun i k hi => h.zo i k (by have : σ.ns + 1 ≤ i := hi; omega)
    ps := fun i hi hk => Nat.lt_succ_of_lt (h.ps i hi hk)
    cs := Nat.le_trans (cntT_up hq 4096) (Nat.succ_le_succ h.cs)
    rs := fun p => by
      have := h.rs p
      show -2147483648 ≤ upI σ.stab q σ.ns p ∧ upI σ.stab q σ.ns p < 2147483648
      unfold upI; split <;> omega }
theorem lay86 {o : Nat} (h1 : 2 ≤ o) (h2 : o < 8194) : lay 86 (o % csz 86) = 3 := by
  simp only [csz]
  rw [Nat.mod_eq_of_lt (by omega)]
  simp only [lay]
  rw [if_neg (by omega), if_neg (by omega), if_pos (by omega)]
/-- What a mutator leaves. -/
def Mt (B s : Nat) (w : World) (R : Value → VS → Prop) (v : Value) (w' : World) : Prop := Mu B w w' ∧ WT B w' ∧ ∃ σ', V B w' s σ' ∧ VI σ' ∧ R v σ'
theorem acct_ok {B s : Nat} {σ : VS} {w : World} (hT : WT B w) (hV : V B w s σ) (hI : VI σ) {f : Nat → Nat} (hf : ∀ i, f i < 256) : Ret Samg.prog 78 #[.pointer (some ⟨s, 0, none⟩), .agg (ns .u8 20 f)] w (Mt B s w fun v σ' => ∃ (a : Int) (p : Bool), v = .tuple #[.int .i32 a, .bool p] ∧ Sm σ σ' ∧ -1 ≤ a ∧ (p = true → 0 ≤ a ∧ a < σ'.na) ∧ (σ.na < 2560 → p = true) ∧ σ'.nt = σ.nt) := by
  refine W_enter (l := [_, _]) Samg.func78 rfl rfl rfl ?_
  have hS := hV.start hT; have hna := hI.na; have hns := hI.ns; have hnt := hI.nt; have hnj := hI.nj; have hnm := hI.nm; have hnl := hI.nl; have hMu := Mu.refl B w
  repeat' (first
    | (refine L_cons ?_)
    | (refine R_cons rfl ?_)
    | (refine W_seq ?_)
    | (refine W_region (by kernel_rfl) ?_)
    | (refine L_nil ?_)
    | (refine R_nil ?_)
    | (refine W_block ?_)
    | (refine W_skip ?_)
    | (refine W_exit ?_)
    | (refine W_ret ?_)
    | (guard_target =~ thenQ _ _ _ _ _; first | (refine T_next ?_) | (refine T_exit ?_) | (refine T_ret ?_))
    | (guard_target =~ blockQ _ _ _ _ _; first | (refine B_next ?_) | (refine B_same ?_) | (refine B_other (by kernel_rfl) ?_) | (refine B_ret ?_))
    | (refine W_true rfl rfl ?_)
    | (refine W_false rfl rfl ?_)
    | (guard_target =~ WO _ _ (Oper.mk _ (Op.build 148 _) _ _ _ none) _ _ _ _; first | (refine O_bdE (l := [(0, .agg (ns .u8 20 _))]) (by assumption) st148 zc148 rfl ⟨_, _, rfl, rfl, rfl, rfl⟩ ⟨run8_ok (by assumption) rfl, trivial⟩ ?_; intro cs z hcs hz hzz hfl hSb; change cs = fl z [(0, ns .u8 20 _)] at hfl))
    | (guard_target =~ WO _ _ (Oper.mk _ (Op.buildSlice 78 1 _) _ _ _ none) _ _ _ _; first | (refine O_one (v := .agg _) (by assumption) sl78 zc148 (by decide) rfl rfl (TS.okA (t := 148) (by assumption) (by repeat (first | exact List.Mem.head _ | refine List.Mem.tail _ ?_))).1 (TS.okA (t := 148) (by assumption) (by repeat (first | exact List.Mem.head _ | refine List.Mem.tail _ ?_))).2 ?_; intro w2 b2 hE2 hn2 _ hB2 hS2) | (refine O_one (v := .agg _) (by assumption) sl78 zc148 (by decide) rfl rfl (TS.okA (t := 148) (by assumption) (by repeat (first | exact List.Mem.head _ | refine List.Mem.tail _ ?_))).1 (TS.okA (t := 148) (by assumption) (by repeat (first | exact List.Mem.head _ | refine List.Mem.tail _ ?_))).2 ?_; intro _ _ _ _ _ _ _))
    | (guard_target =~ WO _ _ (Oper.mk _ (Op.call (Call.mk (Callee.value (Operand.func 83)) _ _)) _ _ _ none) _ _ _ _; first | (refine O_rd (l := [.pointer (some ⟨s, 0, none⟩), .agg (ns .u8 20 _)]) (by assumption) cl83 rfl (findAcct_ok (TS.t (by assumption)) (hV.ext (TS.e (by assumption))) hI (by assumption)) ?_; rintro _ _ ⟨at_, fr, rfl, hat⟩ _ _))
    | (guard_target =~ WO _ _ (Oper.mk _ (Op.load 78 _) _ _ _ none) _ _ _ _; first | (refine O_ldV (by assumption) on78 rfl hV.acc hV.lt ?_) | (refine O_lds (t' := 148) (by assumption) (by repeat (first | exact List.Mem.head _ | refine List.Mem.tail _ ?_)) on78 rfl (by first | omega | (simp only [csz]; omega)) (by first | rfl | exact layMod rfl rfl) ?_; intro _ _ _ _ _ _))
    | (guard_target =~ WO _ _ (Oper.mk _ (Op.load 79 _) _ _ _ none) _ _ _ _; first | (refine O_ldV (by assumption) on79 rfl hV.slo hV.lt ?_))
    | (guard_target =~ WO _ _ (Oper.mk _ (Op.load 81 _) _ _ _ none) _ _ _ _; first | (refine O_ldV (by assumption) on81 rfl hV.jou hV.lt ?_))
    | (guard_target =~ WO _ _ (Oper.mk _ (Op.load 46 _) _ _ _ none) _ _ _ _; first | (refine O_ldV (by assumption) on46 rfl hV.log hV.lt ?_))
    | (guard_target =~ WO _ _ (Oper.mk _ (Op.load 83 _) _ _ _ none) _ _ _ _; first | (refine O_ldV (by assumption) on83 rfl hV.tem hV.lt ?_))
    | (guard_target =~ WO _ _ (Oper.mk _ (Op.load 84 _) _ _ _ none) _ _ _ _; first | (refine O_ldV (by assumption) on84 rfl hV.tta hV.lt ?_))
    | (guard_target =~ WO _ _ (Oper.mk _ (Op.load 21 _) _ _ _ none) _ _ _ _; first | (refine O_ldV (by assumption) on21 rfl hV.nmk hV.lt ?_))
    | (guard_target =~ WO _ _ (Oper.mk _ (Op.load 27 _) _ _ _ none) _ _ _ _; first | (refine O_ldV (by assumption) on27 rfl hV.rf hV.lt ?_))
    | (guard_target =~ WO _ _ (Oper.mk _ _ _ _ _ (some _)) _ _ _ _; first | (refine G_yes rfl ?_) | (refine G_no rfl ?_))
    | (guard_target =~ WC _ _ (Code.region 7 _ true) _ _ _; first | (refine W_drawnT (id := 7) [7] [0, 1, 2, 3, 4, 5, 6, 7, 8, 9, 10, 11] mixed (by kernel_rfl) (by kernel_rfl) (by assumption) ?_; intro _ _ _))
    | (guard_target =~ WO _ _ (Oper.mk _ (Op.box 24 _) _ _ _ none) _ _ _ _; first | (refine O_bx8 (by assumption) rfl (by assumption) rfl rfl ?_; intro _ _ _ _))
    | (guard_target =~ WO _ _ (Oper.mk _ (Op.assign _) _ _ _ none) _ _ _ _; first | (refine O_assign (v := (.int _ _)) rfl ?_) | (refine O_assign (v := (.bool _)) rfl ?_) | (refine O_assign (v := (.pointer _)) rfl ?_) | (refine O_assign (v := (.slice _ _ _)) rfl ?_) | (refine O_assign (v := (.agg _)) rfl ?_) | (refine O_assign (v := (.tuple _)) rfl ?_))
    | (guard_target =~ WO _ _ (Oper.mk _ (Op.move _) _ _ _ none) _ _ _ _; first | (refine O_move (v := (.int _ _)) rfl ?_) | (refine O_move (v := (.bool _)) rfl ?_) | (refine O_move (v := (.pointer _)) rfl ?_) | (refine O_move (v := (.slice _ _ _)) rfl ?_) | (refine O_move (v := (.agg _)) rfl ?_) | (refine O_move (v := (.tuple _)) rfl ?_))
    | (guard_target =~ WO _ _ (Oper.mk _ (Op.load 24 _) _ _ _ none) _ _ _ _; first | (refine O_ldn8 (by assumption) (by repeat (first | exact List.Mem.head _ | refine List.Mem.tail _ ?_)) ag24 rfl (by first | omega | (simp only [csz]; omega)) (by first | exact layRun0 rfl rfl | exact layRun rfl rfl rfl) ?_; intro _ _))
    | (guard_target =~ WO _ _ (Oper.mk _ (Op.extract _ _) _ _ _ none) _ _ _ _; first | (refine O_extract rfl rfl ?_))
    | (guard_target =~ WO _ _ (Oper.mk _ (Op.binOp BinOp.geq 21 _ _ _) _ _ _ none) _ _ _ _; first | (first | (refine O_geqS rfl rfl (fun h => absurd h (by omega)) ?_; intro _) | (refine O_geqS rfl rfl ?_ (fun h => absurd h (by omega)); intro _) | (refine O_geqS rfl rfl ?_ ?_ <;> intro _)))
    | (guard_target =~ WO _ _ (Oper.mk _ (Op.binOp BinOp.lss 21 _ _ _) _ _ _ none) _ _ _ _; first | (first | (refine O_lssS rfl rfl (fun h => absurd h (by omega)) ?_; intro _) | (refine O_lssS rfl rfl ?_ (fun h => absurd h (by omega)); intro _) | (refine O_lssS rfl rfl ?_ ?_ <;> intro _)))
    | (guard_target =~ WO _ _ (Oper.mk _ (Op.nilCheck _) _ _ _ none) _ _ _ _; first | (refine O_nil rfl ?_))
    | (guard_target =~ WO _ _ (Oper.mk _ (Op.fieldAddr 86 _ 0) _ _ _ none) _ _ _ _; first | (refine O_fdT fd86_0 (by decide) rfl ?_) | (refine O_field fd86_0 (by decide) rfl ?_))
    | (guard_target =~ WO _ _ (Oper.mk _ (Op.call _) _ _ _ none) _ _ _ _; first | (refine O_len Samg.underlying78 rfl rfl ?_))
    | (guard_target =~ WO _ _ (Oper.mk _ (Op.binOp BinOp.geq 3 _ _ _) _ _ _ none) _ _ _ _; first | (first | (refine O_geqS rfl rfl (fun h => absurd h (by omega)) ?_; intro _) | (refine O_geqS rfl rfl ?_ (fun h => absurd h (by omega)); intro _) | (refine O_geqS rfl rfl ?_ ?_ <;> intro _)))
    | (guard_target =~ WO _ _ (Oper.mk _ (Op.pick _ _ _) _ _ _ none) _ _ _ _; first | (refine O_pick_t (v := (.bool _)) rfl rfl ?_) | (refine O_pick_f (v := (.bool _)) rfl rfl ?_))
    | (guard_target =~ WO _ _ (Oper.mk _ (Op.convert 3 21 _) _ _ _ none) _ _ _ _; first | (refine O_convZ Samg.underlying3 Samg.underlying21 rfl (by simp only [rngZ]; omega) ?_) | (refine O_convA Samg.underlying3 Samg.underlying21 rfl rfl ?_; intro _ hr; simp only [rngZ] at hr))
    | (guard_target =~ WO _ _ (Oper.mk _ (Op.build 148 #[(0, _)]) _ _ _ none) _ _ _ _; first | (refine O_bd (l := [(0, .agg (ns .u8 20 _))]) (by assumption) st148 zc148 rfl ⟨_, _, rfl, rfl, rfl, rfl⟩ ⟨run8_ok (by assumption) rfl, trivial⟩ ?_; intro _ _ _))
    | (guard_target =~ WO _ _ (Oper.mk _ (Op.store 78 _ _) _ _ _ none) _ _ _ _; first | (refine O_st (by assumption) (by repeat (first | exact List.Mem.head _ | refine List.Mem.tail _ ?_)) (by omega) on78 rfl rfl (by first | omega | (simp only [csz]; omega)) (okp (c' := 100 + 148) (by first | rfl | exact layMod rfl rfl) (okS (by first | exact Sl.nil _ | exact TS.slN (by assumption) (by repeat (first | exact List.Mem.head _ | refine List.Mem.tail _ ?_))))) rfl ?_; intro _ _))
    | (guard_target =~ WO _ _ (Oper.mk _ (Op.fieldAddr 86 _ 2) _ _ _ none) _ _ _ _; first | (refine O_fdT fd86_2 (by decide) rfl ?_) | (refine O_field fd86_2 (by decide) rfl ?_))
    | (guard_target =~ WO _ _ (Oper.mk _ (Op.indexAddr 80 _ _) _ _ _ none) _ _ _ _; first | (refine O_ixa ar80 rfl rfl (by omega) (by omega) ?_; rintro _ _))
    | (guard_target =~ WO _ _ (Oper.mk _ (Op.store 21 _ _) _ _ _ none) _ _ _ _; first | (refine O_st (by assumption) (by repeat (first | exact List.Mem.head _ | refine List.Mem.tail _ ?_)) (by omega) on21 rfl rfl (by first | omega | (simp only [csz]; omega)) (by first | exact okp (c' := 2) (by first | rfl | exact layMod rfl rfl) (ok64 (by omega)) | exact okp (c' := 1) (by first | rfl | exact layMod rfl rfl) (ok8 (by omega)) | exact okp (c' := 3) (by first | rfl | exact layMod rfl rfl) (ok32 (by omega) (by omega)) | exact okp (c' := 4) (by first | rfl | exact layMod rfl rfl) okB_) rfl ?_; intro _ _)))
  · exact E_ret2 rfl rfl rfl rfl rfl ⟨TS.mu (by assumption) hV.B0, TS.t (by assumption), σ, hV.ext (TS.e (by assumption)), hI, _, _, rfl, Sm.refl σ, by omega, fun _ => (by omega), fun _ => rfl, rfl⟩
  · exact E_ret2 rfl rfl rfl rfl rfl ⟨TS.mu (by assumption) hV.B0, TS.t (by assumption), σ, hV.ext (TS.e (by assumption)), hI, _, _, rfl, Sm.refl σ, by omega, fun h => (by cases h), fun _ => (by omega), rfl⟩
  · refine O_appM (by assumption) hV hMu (by repeat (first | exact List.Mem.head _ | refine List.Mem.tail _ ?_)) (by repeat (first | exact List.Mem.head _ | refine List.Mem.tail _ ?_)) rfl rfl rfl sl78 by148 (by decide) zc148 (by decide) rfl rfl (by omega) (by omega) hB2 hcs rfl ?_
    intro w3 b3 cap3 hS3 hMu3 hA3 hV2
    have hV3 := hV2.app hA3 (by decide) (fun _ => ⟨rfl, rfl⟩) (fun h => by cases h) (fun h => by cases h)
    have hnew : ∀ k, k < 4 → cs[21 + k]? = some (.int .u64 0) := by
      intro k hk
      rw [hfl]
      simp only [fl]
      rw [spl_get _ _ _ _ (by rw [hz, Array.length_toList, ns_size]; simp only [csz]; omega), if_neg (by rw [Array.length_toList, ns_size]; omega)]
      obtain ⟨u, e1, e2⟩ := hzz (21 + k) (by simp only [csz]; omega)
      rw [e1]
      have : lay 148 (21 + k) = 2 := by simp only [lay]; rw [if_neg (by omega), if_pos (by omega)]
      rw [this] at e2
      rw [okZ_2 e2]
    have htold : ∀ b, some (⟨b3, 0, none⟩ : Addr) = some ⟨b, 0, none⟩ → ∀ i k, i < σ.na + 1 → k < 4 → w3.cell? ⟨b, i * 29 + (21 + k), none⟩ = some (.int .u64 (σ.bal i k : Int)) := by
      intro b hb i k hi hk
      cases hb
      by_cases hin : i < σ.na
      · exact hA3.told hV2.sA (by simp only [csz]; omega) (fun b0 e => hV2.ba b0 e i k hin hk)
      · have : i = σ.na := by omega
        subst this
        have e1 := hA3.new (21 + k) (by simp only [csz]; omega)
        rw [show csz 148 = 29 from rfl] at e1
        rw [e1]
        show cs[21 + k]? = _
        rw [hnew k hk, hI.zb _ k (Nat.le_refl _)]
        rfl
    repeat' (first
      | (refine L_cons ?_)
      | (refine R_cons rfl ?_)
      | (refine W_seq ?_)
      | (refine W_region (by kernel_rfl) ?_)
      | (refine L_nil ?_)
      | (refine R_nil ?_)
      | (refine W_block ?_)
      | (refine W_skip ?_)
      | (refine W_exit ?_)
      | (refine W_ret ?_)
      | (guard_target =~ thenQ _ _ _ _ _; first | (refine T_next ?_) | (refine T_exit ?_) | (refine T_ret ?_))
      | (guard_target =~ blockQ _ _ _ _ _; first | (refine B_next ?_) | (refine B_same ?_) | (refine B_other (by kernel_rfl) ?_) | (refine B_ret ?_))
      | (refine W_true rfl rfl ?_)
      | (refine W_false rfl rfl ?_)
      | (guard_target =~ WO _ _ (Oper.mk _ (Op.store 78 _ _) _ _ _ none) _ _ _ _; first | (refine O_stM (by assumption) hV3 hMu3 (by repeat (first | exact List.Mem.head _ | refine List.Mem.tail _ ?_)) rfl on78 rfl rfl (by simp only [csz]; omega) (okp (c' := 100 + 148) rfl (okS (TS.slN (by assumption) (by repeat (first | exact List.Mem.head _ | refine List.Mem.tail _ ?_))))) rfl ?_; intro w4 hS4 hMu4 he4 _ hW4; have hV4 := hV3.setAcc hnm hA3.sl htold he4 hW4) | (refine O_st (by assumption) (by repeat (first | exact List.Mem.head _ | refine List.Mem.tail _ ?_)) (by omega) on78 rfl rfl (by first | omega | (simp only [csz]; omega)) (okp (c' := 100 + 148) (by first | rfl | exact layMod rfl rfl) (okS (by first | exact Sl.nil _ | exact TS.slN (by assumption) (by repeat (first | exact List.Mem.head _ | refine List.Mem.tail _ ?_))))) rfl ?_; intro _ _))
      | (guard_target =~ WO _ _ (Oper.mk _ (Op.indexAddr 80 _ _) _ _ _ none) _ _ _ _; first | (refine O_ixa ar80 rfl rfl (by omega) (by omega) ?_; rintro p hp) | (refine O_ixa ar80 rfl rfl (by omega) (by omega) ?_; rintro _ _))
      | (guard_target =~ WO _ _ (Oper.mk _ (Op.store 21 _ _) _ _ _ none) _ _ _ _; first | (refine O_stM (by assumption) hV4 hMu4 (by repeat (first | exact List.Mem.head _ | refine List.Mem.tail _ ?_)) rfl on21 rfl rfl (by simp only [csz]; omega) (okp (c' := 3) (lay86 (by omega) (by omega)) (ok32 (by omega) (by omega))) rfl ?_; intro w5 hS5 hMu5 he5 _ hW5; have hV5 := hV4.setAta hnm (by omega) he5 hW5) | (refine O_st (by assumption) (by repeat (first | exact List.Mem.head _ | refine List.Mem.tail _ ?_)) (by omega) on21 rfl rfl (by first | omega | (simp only [csz]; omega)) (by first | exact okp (c' := 2) (by first | rfl | exact layMod rfl rfl) (ok64 (by omega)) | exact okp (c' := 1) (by first | rfl | exact layMod rfl rfl) (ok8 (by omega)) | exact okp (c' := 3) (by first | rfl | exact layMod rfl rfl) (ok32 (by omega) (by omega)) | exact okp (c' := 4) (by first | rfl | exact layMod rfl rfl) okB_) rfl ?_; intro _ _))
      | (guard_target =~ WO _ _ (Oper.mk _ (Op.load 78 _) _ _ _ none) _ _ _ _; first | (refine O_ldV (by assumption) on78 rfl hV.acc hV.lt ?_) | (refine O_lds (t' := 148) (by assumption) (by repeat (first | exact List.Mem.head _ | refine List.Mem.tail _ ?_)) on78 rfl (by first | omega | (simp only [csz]; omega)) (by first | rfl | exact layMod rfl rfl) ?_; intro _ _ _ _ _ _))
      | (guard_target =~ WO _ _ (Oper.mk _ (Op.load 79 _) _ _ _ none) _ _ _ _; first | (refine O_ldV (by assumption) on79 rfl hV.slo hV.lt ?_))
      | (guard_target =~ WO _ _ (Oper.mk _ (Op.load 81 _) _ _ _ none) _ _ _ _; first | (refine O_ldV (by assumption) on81 rfl hV.jou hV.lt ?_))
      | (guard_target =~ WO _ _ (Oper.mk _ (Op.load 46 _) _ _ _ none) _ _ _ _; first | (refine O_ldV (by assumption) on46 rfl hV.log hV.lt ?_))
      | (guard_target =~ WO _ _ (Oper.mk _ (Op.load 83 _) _ _ _ none) _ _ _ _; first | (refine O_ldV (by assumption) on83 rfl hV.tem hV.lt ?_))
      | (guard_target =~ WO _ _ (Oper.mk _ (Op.load 84 _) _ _ _ none) _ _ _ _; first | (refine O_ldV (by assumption) on84 rfl hV.tta hV.lt ?_))
      | (guard_target =~ WO _ _ (Oper.mk _ (Op.load 21 _) _ _ _ none) _ _ _ _; first | (refine O_ldV (by assumption) on21 rfl hV.nmk hV.lt ?_))
      | (guard_target =~ WO _ _ (Oper.mk _ (Op.load 27 _) _ _ _ none) _ _ _ _; first | (refine O_ldV (by assumption) on27 rfl hV.rf hV.lt ?_))
      | (guard_target =~ WO _ _ (Oper.mk _ _ _ _ _ (some _)) _ _ _ _; first | (refine G_yes rfl ?_) | (refine G_no rfl ?_))
      | (guard_target =~ WC _ _ (Code.region 7 _ true) _ _ _; first | (refine W_drawnT (id := 7) [7] [0, 1, 2, 3, 4, 5, 6, 7, 8, 9, 10, 11] mixed (by kernel_rfl) (by kernel_rfl) (by assumption) ?_; intro _ _ _))
      | (guard_target =~ WO _ _ (Oper.mk _ (Op.box 24 _) _ _ _ none) _ _ _ _; first | (refine O_bx8 (by assumption) rfl (by assumption) rfl rfl ?_; intro _ _ _ _))
      | (guard_target =~ WO _ _ (Oper.mk _ (Op.assign _) _ _ _ none) _ _ _ _; first | (refine O_assign (v := (.int _ _)) rfl ?_) | (refine O_assign (v := (.bool _)) rfl ?_) | (refine O_assign (v := (.pointer _)) rfl ?_) | (refine O_assign (v := (.slice _ _ _)) rfl ?_) | (refine O_assign (v := (.agg _)) rfl ?_) | (refine O_assign (v := (.tuple _)) rfl ?_))
      | (guard_target =~ WO _ _ (Oper.mk _ (Op.move _) _ _ _ none) _ _ _ _; first | (refine O_move (v := (.int _ _)) rfl ?_) | (refine O_move (v := (.bool _)) rfl ?_) | (refine O_move (v := (.pointer _)) rfl ?_) | (refine O_move (v := (.slice _ _ _)) rfl ?_) | (refine O_move (v := (.agg _)) rfl ?_) | (refine O_move (v := (.tuple _)) rfl ?_))
      | (guard_target =~ WO _ _ (Oper.mk _ (Op.load 24 _) _ _ _ none) _ _ _ _; first | (refine O_ldn8 (by assumption) (by repeat (first | exact List.Mem.head _ | refine List.Mem.tail _ ?_)) ag24 rfl (by first | omega | (simp only [csz]; omega)) (by first | exact layRun0 rfl rfl | exact layRun rfl rfl rfl) ?_; intro _ _))
      | (guard_target =~ WO _ _ (Oper.mk _ (Op.extract _ _) _ _ _ none) _ _ _ _; first | (refine O_extract rfl rfl ?_))
      | (guard_target =~ WO _ _ (Oper.mk _ (Op.binOp BinOp.geq 21 _ _ _) _ _ _ none) _ _ _ _; first | (first | (refine O_geqS rfl rfl (fun h => absurd h (by omega)) ?_; intro _) | (refine O_geqS rfl rfl ?_ (fun h => absurd h (by omega)); intro _) | (refine O_geqS rfl rfl ?_ ?_ <;> intro _)))
      | (guard_target =~ WO _ _ (Oper.mk _ (Op.binOp BinOp.lss 21 _ _ _) _ _ _ none) _ _ _ _; first | (first | (refine O_lssS rfl rfl (fun h => absurd h (by omega)) ?_; intro _) | (refine O_lssS rfl rfl ?_ (fun h => absurd h (by omega)); intro _) | (refine O_lssS rfl rfl ?_ ?_ <;> intro _)))
      | (guard_target =~ WO _ _ (Oper.mk _ (Op.nilCheck _) _ _ _ none) _ _ _ _; first | (refine O_nil rfl ?_))
      | (guard_target =~ WO _ _ (Oper.mk _ (Op.fieldAddr 86 _ 0) _ _ _ none) _ _ _ _; first | (refine O_fdT fd86_0 (by decide) rfl ?_) | (refine O_field fd86_0 (by decide) rfl ?_))
      | (guard_target =~ WO _ _ (Oper.mk _ (Op.call _) _ _ _ none) _ _ _ _; first | (refine O_len Samg.underlying78 rfl rfl ?_))
      | (guard_target =~ WO _ _ (Oper.mk _ (Op.binOp BinOp.geq 3 _ _ _) _ _ _ none) _ _ _ _; first | (first | (refine O_geqS rfl rfl (fun h => absurd h (by omega)) ?_; intro _) | (refine O_geqS rfl rfl ?_ (fun h => absurd h (by omega)); intro _) | (refine O_geqS rfl rfl ?_ ?_ <;> intro _)))
      | (guard_target =~ WO _ _ (Oper.mk _ (Op.pick _ _ _) _ _ _ none) _ _ _ _; first | (refine O_pick_t (v := (.bool _)) rfl rfl ?_) | (refine O_pick_f (v := (.bool _)) rfl rfl ?_))
      | (guard_target =~ WO _ _ (Oper.mk _ (Op.convert 3 21 _) _ _ _ none) _ _ _ _; first | (refine O_convZ Samg.underlying3 Samg.underlying21 rfl (by simp only [rngZ]; omega) ?_) | (refine O_convA Samg.underlying3 Samg.underlying21 rfl rfl ?_; intro _ hr; simp only [rngZ] at hr))
      | (guard_target =~ WO _ _ (Oper.mk _ (Op.build 148 #[(0, _)]) _ _ _ none) _ _ _ _; first | (refine O_bd (l := [(0, .agg (ns .u8 20 _))]) (by assumption) st148 zc148 rfl ⟨_, _, rfl, rfl, rfl, rfl⟩ ⟨run8_ok (by assumption) rfl, trivial⟩ ?_; intro _ _ _))
      | (guard_target =~ WO _ _ (Oper.mk _ (Op.buildSlice 78 1 _) _ _ _ none) _ _ _ _; first | (refine O_one (v := .agg _) (by assumption) sl78 zc148 (by decide) rfl rfl (TS.okA (t := 148) (by assumption) (by repeat (first | exact List.Mem.head _ | refine List.Mem.tail _ ?_))).1 (TS.okA (t := 148) (by assumption) (by repeat (first | exact List.Mem.head _ | refine List.Mem.tail _ ?_))).2 ?_; intro _ _ _ _ _ _ _))
      | (guard_target =~ WO _ _ (Oper.mk _ (Op.fieldAddr 86 _ 2) _ _ _ none) _ _ _ _; first | (refine O_fdT fd86_2 (by decide) rfl ?_) | (refine O_field fd86_2 (by decide) rfl ?_)))
    have hp2 : fr.toNat = p := by omega
    rw [hp2] at hat
    exact E_ret2 rfl rfl rfl rfl rfl ⟨hMu5, hS5.t, _, hV5, hI.growA (by omega) (by omega), _, _, rfl, ⟨Nat.le_succ _, Nat.le_refl _, Nat.le_refl _, rfl, rfl, rfl, rfl, rfl, rfl, rfl, rfl, rfl, rfl, rfl, rfl⟩, by omega, fun _ => ⟨by omega, by show (σ.na : Int) < ((σ.na + 1 : Nat) : Int); omega⟩, fun _ => rfl, rfl⟩
theorem slot_ok {B s : Nat} {σ : VS} {w : World} (hT : WT B w) (hV : V B w s σ) (hI : VI σ) {z0 : Int} {f : Nat → Nat} (hz0 : -2147483648 ≤ z0 ∧ z0 < 2147483648) (hf : ∀ i, f i < 18446744073709551616) : Ret Samg.prog 80 #[.pointer (some ⟨s, 0, none⟩), .int .i32 z0, .agg (ns .u64 4 f)] w (Mt B s w fun v σ' => ∃ (a : Int) (p : Bool), v = .tuple #[.int .i32 a, .bool p] ∧ Sm σ σ' ∧ -1 ≤ a ∧ (p = true → 0 ≤ a ∧ a < σ'.ns) ∧ (σ.ns < 2560 → p = true)) := by
  refine W_enter (l := [_, _, _]) Samg.func80 rfl rfl rfl ?_
  have hS := hV.start hT; have hna := hI.na; have hns := hI.ns; have hnt := hI.nt; have hnj := hI.nj; have hnm := hI.nm; have hnl := hI.nl; have hMu := Mu.refl B w
  repeat' (first
    | (refine L_cons ?_)
    | (refine R_cons rfl ?_)
    | (refine W_seq ?_)
    | (refine W_region (by kernel_rfl) ?_)
    | (refine L_nil ?_)
    | (refine R_nil ?_)
    | (refine W_block ?_)
    | (refine W_skip ?_)
    | (refine W_exit ?_)
    | (refine W_ret ?_)
    | (guard_target =~ thenQ _ _ _ _ _; first | (refine T_next ?_) | (refine T_exit ?_) | (refine T_ret ?_))
    | (guard_target =~ blockQ _ _ _ _ _; first | (refine B_next ?_) | (refine B_same ?_) | (refine B_other (by kernel_rfl) ?_) | (refine B_ret ?_))
    | (refine W_true rfl rfl ?_)
    | (refine W_false rfl rfl ?_)
    | (guard_target =~ WO _ _ (Oper.mk _ (Op.build 153 _) _ _ _ none) _ _ _ _; first | (refine O_bdE (l := [(0, .int .i32 _), (1, .agg (ns .u64 4 _))]) (by assumption) st153 zc153 rfl ⟨_, _, rfl, rfl, rfl, ⟨_, _, rfl, rfl, rfl, rfl⟩⟩ ⟨one_ok (c' := 3) rfl (ok32 (by omega) (by omega)), ⟨run64_ok (by assumption) rfl, trivial⟩⟩ ?_; intro cs z hcs hz hzz hfl hSb; change cs = fl z [(0, #[.int .i32 _]), (1, ns .u64 4 _)] at hfl))
    | (guard_target =~ WO _ _ (Oper.mk _ (Op.buildSlice 79 1 _) _ _ _ none) _ _ _ _; first | (refine O_one (v := .agg _) (by assumption) sl79 zc153 (by decide) rfl rfl (TS.okA (t := 153) (by assumption) (by repeat (first | exact List.Mem.head _ | refine List.Mem.tail _ ?_))).1 (TS.okA (t := 153) (by assumption) (by repeat (first | exact List.Mem.head _ | refine List.Mem.tail _ ?_))).2 ?_; intro w2 b2 hE2 hn2 _ hB2 hS2) | (refine O_one (v := .agg _) (by assumption) sl79 zc153 (by decide) rfl rfl (TS.okA (t := 153) (by assumption) (by repeat (first | exact List.Mem.head _ | refine List.Mem.tail _ ?_))).1 (TS.okA (t := 153) (by assumption) (by repeat (first | exact List.Mem.head _ | refine List.Mem.tail _ ?_))).2 ?_; intro _ _ _ _ _ _ _))
    | (guard_target =~ WO _ _ (Oper.mk _ (Op.call (Call.mk (Callee.value (Operand.func 114)) _ _)) _ _ _ none) _ _ _ _; first | (refine O_rd (l := [.pointer (some ⟨s, 0, none⟩), .int .i32 _, .agg (ns .u64 4 _)]) (by assumption) cl114 rfl (findSlot_ok (TS.t (by assumption)) (hV.ext (TS.e (by assumption))) hI (by assumption)) ?_; rintro _ _ ⟨at_, fr, rfl, hat⟩ _ _))
    | (guard_target =~ WO _ _ (Oper.mk _ (Op.load 78 _) _ _ _ none) _ _ _ _; first | (refine O_ldV (by assumption) on78 rfl hV.acc hV.lt ?_))
    | (guard_target =~ WO _ _ (Oper.mk _ (Op.load 79 _) _ _ _ none) _ _ _ _; first | (refine O_ldV (by assumption) on79 rfl hV.slo hV.lt ?_) | (refine O_lds (t' := 153) (by assumption) (by repeat (first | exact List.Mem.head _ | refine List.Mem.tail _ ?_)) on79 rfl (by first | omega | (simp only [csz]; omega)) (by first | rfl | exact layMod rfl rfl) ?_; intro _ _ _ _ _ _))
    | (guard_target =~ WO _ _ (Oper.mk _ (Op.load 81 _) _ _ _ none) _ _ _ _; first | (refine O_ldV (by assumption) on81 rfl hV.jou hV.lt ?_))
    | (guard_target =~ WO _ _ (Oper.mk _ (Op.load 46 _) _ _ _ none) _ _ _ _; first | (refine O_ldV (by assumption) on46 rfl hV.log hV.lt ?_))
    | (guard_target =~ WO _ _ (Oper.mk _ (Op.load 83 _) _ _ _ none) _ _ _ _; first | (refine O_ldV (by assumption) on83 rfl hV.tem hV.lt ?_))
    | (guard_target =~ WO _ _ (Oper.mk _ (Op.load 84 _) _ _ _ none) _ _ _ _; first | (refine O_ldV (by assumption) on84 rfl hV.tta hV.lt ?_))
    | (guard_target =~ WO _ _ (Oper.mk _ (Op.load 21 _) _ _ _ none) _ _ _ _; first | (refine O_ldV (by assumption) on21 rfl hV.nmk hV.lt ?_))
    | (guard_target =~ WO _ _ (Oper.mk _ (Op.load 27 _) _ _ _ none) _ _ _ _; first | (refine O_ldV (by assumption) on27 rfl hV.rf hV.lt ?_))
    | (guard_target =~ WO _ _ (Oper.mk _ _ _ _ _ (some _)) _ _ _ _; first | (refine G_yes rfl ?_) | (refine G_no rfl ?_))
    | (guard_target =~ WC _ _ (Code.region 7 _ true) _ _ _; first | (refine W_drawnT (id := 7) [8] [0, 1, 2, 3, 4, 5, 6, 7, 8, 9, 10, 11, 12] mixed (by kernel_rfl) (by kernel_rfl) (by assumption) ?_; intro _ _ _))
    | (guard_target =~ WO _ _ (Oper.mk _ (Op.box 45 _) _ _ _ none) _ _ _ _; first | (refine O_bx64 (by assumption) rfl (by assumption) rfl rfl ?_; intro _ _ _ _))
    | (guard_target =~ WO _ _ (Oper.mk _ (Op.assign _) _ _ _ none) _ _ _ _; first | (refine O_assign (v := (.int _ _)) rfl ?_) | (refine O_assign (v := (.bool _)) rfl ?_) | (refine O_assign (v := (.pointer _)) rfl ?_) | (refine O_assign (v := (.slice _ _ _)) rfl ?_) | (refine O_assign (v := (.agg _)) rfl ?_) | (refine O_assign (v := (.tuple _)) rfl ?_))
    | (guard_target =~ WO _ _ (Oper.mk _ (Op.move _) _ _ _ none) _ _ _ _; first | (refine O_move (v := (.int _ _)) rfl ?_) | (refine O_move (v := (.bool _)) rfl ?_) | (refine O_move (v := (.pointer _)) rfl ?_) | (refine O_move (v := (.slice _ _ _)) rfl ?_) | (refine O_move (v := (.agg _)) rfl ?_) | (refine O_move (v := (.tuple _)) rfl ?_))
    | (guard_target =~ WO _ _ (Oper.mk _ (Op.load 45 _) _ _ _ none) _ _ _ _; first | (refine O_ldn64 (by assumption) (by repeat (first | exact List.Mem.head _ | refine List.Mem.tail _ ?_)) ag45 rfl (by first | omega | (simp only [csz]; omega)) (by first | exact layRun0 rfl rfl | exact layRun rfl rfl rfl) ?_; intro _ _))
    | (guard_target =~ WO _ _ (Oper.mk _ (Op.extract _ _) _ _ _ none) _ _ _ _; first | (refine O_extract rfl rfl ?_))
    | (guard_target =~ WO _ _ (Oper.mk _ (Op.binOp BinOp.geq 21 _ _ _) _ _ _ none) _ _ _ _; first | (first | (refine O_geqS rfl rfl (fun h => absurd h (by omega)) ?_; intro _) | (refine O_geqS rfl rfl ?_ (fun h => absurd h (by omega)); intro _) | (refine O_geqS rfl rfl ?_ ?_ <;> intro _)))
    | (guard_target =~ WO _ _ (Oper.mk _ (Op.binOp BinOp.lss 21 _ _ _) _ _ _ none) _ _ _ _; first | (first | (refine O_lssS rfl rfl (fun h => absurd h (by omega)) ?_; intro _) | (refine O_lssS rfl rfl ?_ (fun h => absurd h (by omega)); intro _) | (refine O_lssS rfl rfl ?_ ?_ <;> intro _)))
    | (guard_target =~ WO _ _ (Oper.mk _ (Op.nilCheck _) _ _ _ none) _ _ _ _; first | (refine O_nil rfl ?_))
    | (guard_target =~ WO _ _ (Oper.mk _ (Op.fieldAddr 86 _ 1) _ _ _ none) _ _ _ _; first | (refine O_fdT fd86_1 (by decide) rfl ?_) | (refine O_field fd86_1 (by decide) rfl ?_))
    | (guard_target =~ WO _ _ (Oper.mk _ (Op.call _) _ _ _ none) _ _ _ _; first | (refine O_len Samg.underlying79 rfl rfl ?_))
    | (guard_target =~ WO _ _ (Oper.mk _ (Op.binOp BinOp.geq 3 _ _ _) _ _ _ none) _ _ _ _; first | (first | (refine O_geqS rfl rfl (fun h => absurd h (by omega)) ?_; intro _) | (refine O_geqS rfl rfl ?_ (fun h => absurd h (by omega)); intro _) | (refine O_geqS rfl rfl ?_ ?_ <;> intro _)))
    | (guard_target =~ WO _ _ (Oper.mk _ (Op.pick _ _ _) _ _ _ none) _ _ _ _; first | (refine O_pick_t (v := (.bool _)) rfl rfl ?_) | (refine O_pick_f (v := (.bool _)) rfl rfl ?_))
    | (guard_target =~ WO _ _ (Oper.mk _ (Op.convert 3 21 _) _ _ _ none) _ _ _ _; first | (refine O_convZ Samg.underlying3 Samg.underlying21 rfl (by simp only [rngZ]; omega) ?_) | (refine O_convA Samg.underlying3 Samg.underlying21 rfl rfl ?_; intro _ hr; simp only [rngZ] at hr))
    | (guard_target =~ WO _ _ (Oper.mk _ (Op.build 153 #[(0, _), (1, _)]) _ _ _ none) _ _ _ _; first | (refine O_bd (l := [(0, .int .i32 _), (1, .agg (ns .u64 4 _))]) (by assumption) st153 zc153 rfl ⟨_, _, rfl, rfl, rfl, ⟨_, _, rfl, rfl, rfl, rfl⟩⟩ ⟨one_ok (c' := 3) rfl (ok32 (by omega) (by omega)), ⟨run64_ok (by assumption) rfl, trivial⟩⟩ ?_; intro _ _ _))
    | (guard_target =~ WO _ _ (Oper.mk _ (Op.store 79 _ _) _ _ _ none) _ _ _ _; first | (refine O_st (by assumption) (by repeat (first | exact List.Mem.head _ | refine List.Mem.tail _ ?_)) (by omega) on79 rfl rfl (by first | omega | (simp only [csz]; omega)) (okp (c' := 100 + 153) (by first | rfl | exact layMod rfl rfl) (okS (by first | exact Sl.nil _ | exact TS.slN (by assumption) (by repeat (first | exact List.Mem.head _ | refine List.Mem.tail _ ?_))))) rfl ?_; intro _ _))
    | (guard_target =~ WO _ _ (Oper.mk _ (Op.fieldAddr 86 _ 3) _ _ _ none) _ _ _ _; first | (refine O_fdT fd86_3 (by decide) rfl ?_) | (refine O_field fd86_3 (by decide) rfl ?_))
    | (guard_target =~ WO _ _ (Oper.mk _ (Op.indexAddr 80 _ _) _ _ _ none) _ _ _ _; first | (refine O_ixa ar80 rfl rfl (by omega) (by omega) ?_; rintro _ _))
    | (guard_target =~ WO _ _ (Oper.mk _ (Op.store 21 _ _) _ _ _ none) _ _ _ _; first | (refine O_st (by assumption) (by repeat (first | exact List.Mem.head _ | refine List.Mem.tail _ ?_)) (by omega) on21 rfl rfl (by first | omega | (simp only [csz]; omega)) (by first | exact okp (c' := 2) (by first | rfl | exact layMod rfl rfl) (ok64 (by omega)) | exact okp (c' := 1) (by first | rfl | exact layMod rfl rfl) (ok8 (by omega)) | exact okp (c' := 3) (by first | rfl | exact layMod rfl rfl) (ok32 (by omega) (by omega)) | exact okp (c' := 4) (by first | rfl | exact layMod rfl rfl) okB_) rfl ?_; intro _ _)))
  · exact E_ret2 rfl rfl rfl rfl rfl ⟨TS.mu (by assumption) hV.B0, TS.t (by assumption), σ, hV.ext (TS.e (by assumption)), hI, _, _, rfl, Sm.refl σ, by omega, fun _ => (by omega), fun _ => rfl⟩
  · exact E_ret2 rfl rfl rfl rfl rfl ⟨TS.mu (by assumption) hV.B0, TS.t (by assumption), σ, hV.ext (TS.e (by assumption)), hI, _, _, rfl, Sm.refl σ, by omega, fun h => (by cases h), fun _ => (by omega)⟩
  · refine O_appM (by assumption) hV hMu (by repeat (first | exact List.Mem.head _ | refine List.Mem.tail _ ?_)) (by repeat (first | exact List.Mem.head _ | refine List.Mem.tail _ ?_)) rfl rfl rfl sl79 by153 (by decide) zc153 (by decide) rfl rfl (by omega) (by omega) hB2 hcs rfl ?_
    intro w3 b3 cap3 hS3 hMu3 hA3 hV2
    have hV3 := hV2.app hA3 (by decide) (fun h => by cases h) (fun _ => ⟨rfl, rfl⟩) (fun h => by cases h)
    have hnew : ∀ k, k < 8 → cs[5 + k]? = some (.int .u64 0) := by
      intro k hk
      rw [hfl]
      simp only [fl]
      rw [spl_get _ _ _ _ (by rw [spl_size, hz, Array.length_toList, ns_size]; simp only [csz]; omega), if_neg (by rw [Array.length_toList, ns_size]; omega), spl_get _ _ _ _ (by rw [hz]; simp only [csz]; simp), if_neg (by simp)]
      obtain ⟨u, e1, e2⟩ := hzz (5 + k) (by simp only [csz]; omega)
      rw [e1]
      have : lay 153 (5 + k) = 2 := by simp only [lay]; rw [if_neg (by omega), if_pos (by omega)]
      rw [this] at e2
      rw [okZ_2 e2]
    have ht1 : ∀ b, some (⟨b3, 0, none⟩ : Addr) = some ⟨b, 0, none⟩ → ∀ i k, i < σ.ns + 1 → k < 4 → w3.cell? ⟨b, i * 14 + (5 + k), none⟩ = some (.int .u64 (σ.val i k : Int)) := by
      intro b hb i k hi hk
      cases hb
      by_cases hin : i < σ.ns
      · exact hA3.told hV2.sS (by simp only [csz]; omega) (fun b0 e => hV2.va b0 e i k hin hk)
      · have : i = σ.ns := by omega
        subst this
        have e1 := hA3.new (5 + k) (by simp only [csz]; omega)
        rw [show csz 153 = 14 from rfl] at e1
        rw [e1]
        show cs[5 + k]? = _
        rw [hnew k (by omega), hI.zv _ k (Nat.le_refl _)]
        rfl
    have ht2 : ∀ b, some (⟨b3, 0, none⟩ : Addr) = some ⟨b, 0, none⟩ → ∀ i k, i < σ.ns + 1 → k < 4 → w3.cell? ⟨b, i * 14 + (9 + k), none⟩ = some (.int .u64 (σ.orig i k : Int)) := by
      intro b hb i k hi hk
      cases hb
      by_cases hin : i < σ.ns
      · exact hA3.told hV2.sS (by simp only [csz]; omega) (fun b0 e => hV2.og b0 e i k hin hk)
      · have : i = σ.ns := by omega
        subst this
        have e1 := hA3.new (9 + k) (by simp only [csz]; omega)
        rw [show csz 153 = 14 from rfl] at e1
        rw [e1]
        show cs[9 + k]? = _
        rw [show 9 + k = 5 + (4 + k) by omega, hnew (4 + k) (by omega), hI.zo _ k (Nat.le_refl _)]
        rfl
    repeat' (first
      | (refine L_cons ?_)
      | (refine R_cons rfl ?_)
      | (refine W_seq ?_)
      | (refine W_region (by kernel_rfl) ?_)
      | (refine L_nil ?_)
      | (refine R_nil ?_)
      | (refine W_block ?_)
      | (refine W_skip ?_)
      | (refine W_exit ?_)
      | (refine W_ret ?_)
      | (guard_target =~ thenQ _ _ _ _ _; first | (refine T_next ?_) | (refine T_exit ?_) | (refine T_ret ?_))
      | (guard_target =~ blockQ _ _ _ _ _; first | (refine B_next ?_) | (refine B_same ?_) | (refine B_other (by kernel_rfl) ?_) | (refine B_ret ?_))
      | (refine W_true rfl rfl ?_)
      | (refine W_false rfl rfl ?_)
      | (guard_target =~ WO _ _ (Oper.mk _ (Op.store 79 _ _) _ _ _ none) _ _ _ _; first | (refine O_stM (by assumption) hV3 hMu3 (by repeat (first | exact List.Mem.head _ | refine List.Mem.tail _ ?_)) rfl on79 rfl rfl (by simp only [csz]; omega) (okp (c' := 100 + 153) rfl (okS (TS.slN (by assumption) (by repeat (first | exact List.Mem.head _ | refine List.Mem.tail _ ?_))))) rfl ?_; intro w4 hS4 hMu4 he4 _ hW4; have hV4 := hV3.setSlo hnm hA3.sl ht1 ht2 he4 hW4) | (refine O_st (by assumption) (by repeat (first | exact List.Mem.head _ | refine List.Mem.tail _ ?_)) (by omega) on79 rfl rfl (by first | omega | (simp only [csz]; omega)) (okp (c' := 100 + 153) (by first | rfl | exact layMod rfl rfl) (okS (by first | exact Sl.nil _ | exact TS.slN (by assumption) (by repeat (first | exact List.Mem.head _ | refine List.Mem.tail _ ?_))))) rfl ?_; intro _ _))
      | (guard_target =~ WO _ _ (Oper.mk _ (Op.indexAddr 80 _ _) _ _ _ none) _ _ _ _; first | (refine O_ixa ar80 rfl rfl (by omega) (by omega) ?_; rintro p hp) | (refine O_ixa ar80 rfl rfl (by omega) (by omega) ?_; rintro _ _))
      | (guard_target =~ WO _ _ (Oper.mk _ (Op.store 21 _ _) _ _ _ none) _ _ _ _; first | (refine O_stM (by assumption) hV4 hMu4 (by repeat (first | exact List.Mem.head _ | refine List.Mem.tail _ ?_)) rfl on21 rfl rfl (by simp only [csz]; omega) (okp (c' := 3) (lay86 (by omega) (by omega)) (ok32 (by omega) (by omega))) rfl ?_; intro w5 hS5 hMu5 he5 _ hW5; have hV5 := hV4.setSta hnm (by omega) he5 hW5) | (refine O_st (by assumption) (by repeat (first | exact List.Mem.head _ | refine List.Mem.tail _ ?_)) (by omega) on21 rfl rfl (by first | omega | (simp only [csz]; omega)) (by first | exact okp (c' := 2) (by first | rfl | exact layMod rfl rfl) (ok64 (by omega)) | exact okp (c' := 1) (by first | rfl | exact layMod rfl rfl) (ok8 (by omega)) | exact okp (c' := 3) (by first | rfl | exact layMod rfl rfl) (ok32 (by omega) (by omega)) | exact okp (c' := 4) (by first | rfl | exact layMod rfl rfl) okB_) rfl ?_; intro _ _))
      | (guard_target =~ WO _ _ (Oper.mk _ (Op.load 78 _) _ _ _ none) _ _ _ _; first | (refine O_ldV (by assumption) on78 rfl hV.acc hV.lt ?_))
      | (guard_target =~ WO _ _ (Oper.mk _ (Op.load 79 _) _ _ _ none) _ _ _ _; first | (refine O_ldV (by assumption) on79 rfl hV.slo hV.lt ?_) | (refine O_lds (t' := 153) (by assumption) (by repeat (first | exact List.Mem.head _ | refine List.Mem.tail _ ?_)) on79 rfl (by first | omega | (simp only [csz]; omega)) (by first | rfl | exact layMod rfl rfl) ?_; intro _ _ _ _ _ _))
      | (guard_target =~ WO _ _ (Oper.mk _ (Op.load 81 _) _ _ _ none) _ _ _ _; first | (refine O_ldV (by assumption) on81 rfl hV.jou hV.lt ?_))
      | (guard_target =~ WO _ _ (Oper.mk _ (Op.load 46 _) _ _ _ none) _ _ _ _; first | (refine O_ldV (by assumption) on46 rfl hV.log hV.lt ?_))
      | (guard_target =~ WO _ _ (Oper.mk _ (Op.load 83 _) _ _ _ none) _ _ _ _; first | (refine O_ldV (by assumption) on83 rfl hV.tem hV.lt ?_))
      | (guard_target =~ WO _ _ (Oper.mk _ (Op.load 84 _) _ _ _ none) _ _ _ _; first | (refine O_ldV (by assumption) on84 rfl hV.tta hV.lt ?_))
      | (guard_target =~ WO _ _ (Oper.mk _ (Op.load 21 _) _ _ _ none) _ _ _ _; first | (refine O_ldV (by assumption) on21 rfl hV.nmk hV.lt ?_))
      | (guard_target =~ WO _ _ (Oper.mk _ (Op.load 27 _) _ _ _ none) _ _ _ _; first | (refine O_ldV (by assumption) on27 rfl hV.rf hV.lt ?_))
      | (guard_target =~ WO _ _ (Oper.mk _ _ _ _ _ (some _)) _ _ _ _; first | (refine G_yes rfl ?_) | (refine G_no rfl ?_))
      | (guard_target =~ WC _ _ (Code.region 7 _ true) _ _ _; first | (refine W_drawnT (id := 7) [8] [0, 1, 2, 3, 4, 5, 6, 7, 8, 9, 10, 11, 12] mixed (by kernel_rfl) (by kernel_rfl) (by assumption) ?_; intro _ _ _))
      | (guard_target =~ WO _ _ (Oper.mk _ (Op.box 45 _) _ _ _ none) _ _ _ _; first | (refine O_bx64 (by assumption) rfl (by assumption) rfl rfl ?_; intro _ _ _ _))
      | (guard_target =~ WO _ _ (Oper.mk _ (Op.assign _) _ _ _ none) _ _ _ _; first | (refine O_assign (v := (.int _ _)) rfl ?_) | (refine O_assign (v := (.bool _)) rfl ?_) | (refine O_assign (v := (.pointer _)) rfl ?_) | (refine O_assign (v := (.slice _ _ _)) rfl ?_) | (refine O_assign (v := (.agg _)) rfl ?_) | (refine O_assign (v := (.tuple _)) rfl ?_))
      | (guard_target =~ WO _ _ (Oper.mk _ (Op.move _) _ _ _ none) _ _ _ _; first | (refine O_move (v := (.int _ _)) rfl ?_) | (refine O_move (v := (.bool _)) rfl ?_) | (refine O_move (v := (.pointer _)) rfl ?_) | (refine O_move (v := (.slice _ _ _)) rfl ?_) | (refine O_move (v := (.agg _)) rfl ?_) | (refine O_move (v := (.tuple _)) rfl ?_))
      | (guard_target =~ WO _ _ (Oper.mk _ (Op.load 45 _) _ _ _ none) _ _ _ _; first | (refine O_ldn64 (by assumption) (by repeat (first | exact List.Mem.head _ | refine List.Mem.tail _ ?_)) ag45 rfl (by first | omega | (simp only [csz]; omega)) (by first | exact layRun0 rfl rfl | exact layRun rfl rfl rfl) ?_; intro _ _))
      | (guard_target =~ WO _ _ (Oper.mk _ (Op.extract _ _) _ _ _ none) _ _ _ _; first | (refine O_extract rfl rfl ?_))
      | (guard_target =~ WO _ _ (Oper.mk _ (Op.binOp BinOp.geq 21 _ _ _) _ _ _ none) _ _ _ _; first | (first | (refine O_geqS rfl rfl (fun h => absurd h (by omega)) ?_; intro _) | (refine O_geqS rfl rfl ?_ (fun h => absurd h (by omega)); intro _) | (refine O_geqS rfl rfl ?_ ?_ <;> intro _)))
      | (guard_target =~ WO _ _ (Oper.mk _ (Op.binOp BinOp.lss 21 _ _ _) _ _ _ none) _ _ _ _; first | (first | (refine O_lssS rfl rfl (fun h => absurd h (by omega)) ?_; intro _) | (refine O_lssS rfl rfl ?_ (fun h => absurd h (by omega)); intro _) | (refine O_lssS rfl rfl ?_ ?_ <;> intro _)))
      | (guard_target =~ WO _ _ (Oper.mk _ (Op.nilCheck _) _ _ _ none) _ _ _ _; first | (refine O_nil rfl ?_))
      | (guard_target =~ WO _ _ (Oper.mk _ (Op.fieldAddr 86 _ 1) _ _ _ none) _ _ _ _; first | (refine O_fdT fd86_1 (by decide) rfl ?_) | (refine O_field fd86_1 (by decide) rfl ?_))
      | (guard_target =~ WO _ _ (Oper.mk _ (Op.call _) _ _ _ none) _ _ _ _; first | (refine O_len Samg.underlying79 rfl rfl ?_))
      | (guard_target =~ WO _ _ (Oper.mk _ (Op.binOp BinOp.geq 3 _ _ _) _ _ _ none) _ _ _ _; first | (first | (refine O_geqS rfl rfl (fun h => absurd h (by omega)) ?_; intro _) | (refine O_geqS rfl rfl ?_ (fun h => absurd h (by omega)); intro _) | (refine O_geqS rfl rfl ?_ ?_ <;> intro _)))
      | (guard_target =~ WO _ _ (Oper.mk _ (Op.pick _ _ _) _ _ _ none) _ _ _ _; first | (refine O_pick_t (v := (.bool _)) rfl rfl ?_) | (refine O_pick_f (v := (.bool _)) rfl rfl ?_))
      | (guard_target =~ WO _ _ (Oper.mk _ (Op.convert 3 21 _) _ _ _ none) _ _ _ _; first | (refine O_convZ Samg.underlying3 Samg.underlying21 rfl (by simp only [rngZ]; omega) ?_) | (refine O_convA Samg.underlying3 Samg.underlying21 rfl rfl ?_; intro _ hr; simp only [rngZ] at hr))
      | (guard_target =~ WO _ _ (Oper.mk _ (Op.build 153 #[(0, _), (1, _)]) _ _ _ none) _ _ _ _; first | (refine O_bd (l := [(0, .int .i32 _), (1, .agg (ns .u64 4 _))]) (by assumption) st153 zc153 rfl ⟨_, _, rfl, rfl, rfl, ⟨_, _, rfl, rfl, rfl, rfl⟩⟩ ⟨one_ok (c' := 3) rfl (ok32 (by omega) (by omega)), ⟨run64_ok (by assumption) rfl, trivial⟩⟩ ?_; intro _ _ _))
      | (guard_target =~ WO _ _ (Oper.mk _ (Op.buildSlice 79 1 _) _ _ _ none) _ _ _ _; first | (refine O_one (v := .agg _) (by assumption) sl79 zc153 (by decide) rfl rfl (TS.okA (t := 153) (by assumption) (by repeat (first | exact List.Mem.head _ | refine List.Mem.tail _ ?_))).1 (TS.okA (t := 153) (by assumption) (by repeat (first | exact List.Mem.head _ | refine List.Mem.tail _ ?_))).2 ?_; intro _ _ _ _ _ _ _))
      | (guard_target =~ WO _ _ (Oper.mk _ (Op.fieldAddr 86 _ 3) _ _ _ none) _ _ _ _; first | (refine O_fdT fd86_3 (by decide) rfl ?_) | (refine O_field fd86_3 (by decide) rfl ?_)))
    have hp2 : fr.toNat = p := by omega
    rw [hp2] at hat
    exact E_ret2 rfl rfl rfl rfl rfl ⟨hMu5, hS5.t, _, hV5, hI.growS (by omega) (by omega), _, _, rfl, ⟨Nat.le_refl _, Nat.le_succ _, Nat.le_refl _, rfl, rfl, rfl, rfl, rfl, rfl, rfl, rfl, rfl, rfl, rfl, rfl⟩, by omega, fun _ => ⟨by omega, by show (σ.ns : Int) < ((σ.ns + 1 : Nat) : Int); omega⟩, fun _ => rfl⟩
end Go.Proofs.Ygcsam
