/-
  Fill: the vault's first content. Own work.
-/
import Derived.Test.YgcsamG5
import Derived.Test.YgcsamG2
namespace Go.Proofs.Ygcsam
set_option linter.unusedVariables false
set_option linter.unusedSimpArgs false
set_option maxRecDepth 4000
/-! ### arguments lie below B -/
theorem cell_low {W w : World} {b o : Nat} {v : Value} (h : W.cell? ⟨b, o, none⟩ = some v) (e : ∀ k, k < W.heap.size → w.heap[k]? = W.heap[k]?) : w.cell? ⟨b, o, none⟩ = some v := by
  rw [← h]; unfold World.cell?; simp only [e b (cell_lt h)]
theorem By.low {W w : World} {b o n : Nat} {f : Nat → Nat} (h : By W b o n f) (e : ∀ k, k < W.heap.size → w.heap[k]? = W.heap[k]?) : By w b o n f := fun j hj => cell_low (h j hj) e
theorem AccAt.low {W w : World} {b o i : Nat} {ω : WA} (h : AccAt W b o ω i) (e : ∀ k, k < W.heap.size → w.heap[k]? = W.heap[k]?) : AccAt w b o ω i := ⟨h.ad.low e, cell_low h.no e, h.bl.low e, cell_low h.co e, cell_low h.sl e⟩
theorem AW.low {W w : World} {a : Option Addr} {cap : Nat} {ω : WA} (h : AW W a cap ω) (e : ∀ k, k < W.heap.size → w.heap[k]? = W.heap[k]?) : AW w a cap ω where
  le := h.le
  cap := h.cap
  rad := h.rad
  rno := h.rno
  rbl := h.rbl
  rcb := h.rcb
  rky := h.rky
  rvl := h.rvl
  rcn := h.rcn
  rsn := h.rsn
  rows := by
    rcases h.rows with h0 | ⟨b, o, h1, h2⟩
    · exact .inl h0
    · exact .inr ⟨b, o, h1, fun i hi => (h2 i hi).low e⟩
  code := fun i hi => by
    rcases h.code i hi with h0 | ⟨b, o, h1, h2⟩
    · exact .inl h0
    · exact .inr ⟨b, o, h1, h2.low e⟩
  slots := fun i hi => by
    rcases h.slots i hi with h0 | ⟨b, o, h1, h2⟩
    · exact .inl h0
    · exact .inr ⟨b, o, h1, fun k hk => ⟨(h2 k hk).1.low e, (h2 k hk).2.low e⟩⟩
def AWB (B : Nat) (w : World) (a : Option Addr) (cap : Nat) (ω : WA) : Prop := ∃ W : World, W.heap.size ≤ B ∧ (∀ k, k < W.heap.size → w.heap[k]? = W.heap[k]?) ∧ AW W a cap ω
theorem AWB.aw {B : Nat} {w : World} {a : Option Addr} {cap : Nat} {ω : WA} (h : AWB B w a cap ω) : AW w a cap ω := by
  obtain ⟨W, h1, h2, h3⟩ := h
  exact h3.low h2
theorem AWB.mu {B : Nat} {w w' : World} {a : Option Addr} {cap : Nat} {ω : WA} (h : AWB B w a cap ω) (hM : Mu B w w') : AWB B w' a cap ω := by
  obtain ⟨W, h1, h2, h3⟩ := h
  exact ⟨W, h1, fun k hk => (hM.low k (by omega)).trans (h2 k hk), h3⟩
/-! ### the vault before its filling -/
def zv (at_ st : Nat → Int) : VS := ⟨none, 0, 0, none, 0, 0, none, 0, 0, none, 0, 0, none, 0, 0, none, 0, 0, at_, st, 0, fun _ => 0, 0, fun _ _ => 0, fun _ _ => 0, fun _ _ => 0, fun _ => 0, fun _ => 0, fun _ => 0, fun _ _ => 0⟩
theorem cntT_neg {tab : Nat → Int} : ∀ n, (∀ p, p < n → tab p = -1) → cntT tab n = 0
  | 0, _ => rfl
  | n + 1, h => by
    have h1 := cntT_neg n fun p hp => h p (by omega)
    have h2 := h n (by omega)
    simp only [cntT, h1, h2]
    rfl
theorem zv_VI {at_ st : Nat → Int} (h1 : ∀ p, p < 4096 → at_ p = -1 ∧ st p = -1) (h2 : ∀ p, (at_ p = -1 ∨ at_ p = 0) ∧ (st p = -1 ∨ st p = 0)) : VI (zv at_ st) where
  na := Nat.zero_le _
  ns := Nat.zero_le _
  nj := Nat.zero_le _
  nm := Nat.zero_le _
  nl := Nat.zero_le _
  nt := Nat.zero_le _
  mle := fun i hi => absurd hi (Nat.not_lt_zero _)
  mono := fun i j _ hj => absurd hj (Nat.not_lt_zero _)
  bal := fun _ _ => Nat.lt_of_le_of_lt (Nat.le_refl 0) (by decide)
  val := fun _ _ => Nat.lt_of_le_of_lt (Nat.le_refl 0) (by decide)
  orig := fun _ _ => Nat.lt_of_le_of_lt (Nat.le_refl 0) (by decide)
  jw := fun _ _ => Nat.lt_of_le_of_lt (Nat.le_refl 0) (by decide)
  jn := fun _ => Nat.lt_of_le_of_lt (Nat.le_refl 0) (by decide)
  ref := Nat.lt_of_le_of_lt (Nat.le_refl 0) (by decide)
  kd := fun i hi => absurd hi (Nat.not_lt_zero _)
  zb := fun _ _ _ => rfl
  zv := fun _ _ _ => rfl
  zo := fun _ _ _ => rfl
  pa := fun i hi => absurd hi (Nat.not_lt_zero _)
  ps := fun i hi => absurd hi (Nat.not_lt_zero _)
  pt := fun i hi => absurd hi (Nat.not_lt_zero _)
  jr := fun i hi => absurd hi (Nat.not_lt_zero _)
  logs := rfl
  ca := Nat.le_of_eq (cntT_neg 4096 fun p hp => (h1 p hp).1)
  cs := Nat.le_of_eq (cntT_neg 4096 fun p hp => (h1 p hp).2)
  ra := fun p => by
    show -2147483648 ≤ at_ p ∧ at_ p < 2147483648
    have := (h2 p).1; omega
  rs := fun p => by
    show -2147483648 ≤ st p ∧ st p < 2147483648
    have := (h2 p).2; omega
theorem VI.setBal {σ : VS} (h : VI σ) {i0 : Nat} {g : Nat → Nat} (hi : i0 < σ.na) (hg : ∀ k, g k < 18446744073709551616) : VI { σ with bal := fun i k => if i = i0 then g k else σ.bal i k } :=
  { h with
    bal := fun i k => by
      show (if i = i0 then g k else σ.bal i k) < _
      split
      · exact hg k
      · exact h.bal i k
    zb := fun i k hk => by
      have hk : σ.na ≤ i := hk
      show (if i = i0 then g k else σ.bal i k) = 0
      rw [if_neg (by omega)]; exact h.zb i k hk }
theorem VI.setVal {σ : VS} (h : VI σ) {i0 : Nat} {g : Nat → Nat} (hi : i0 < σ.ns) (hg : ∀ k, g k < 18446744073709551616) : VI { σ with val := fun i k => if i = i0 then g k else σ.val i k } :=
  { h with
    val := fun i k => by
      show (if i = i0 then g k else σ.val i k) < _
      split
      · exact hg k
      · exact h.val i k
    zv := fun i k hk => by
      have hk : σ.ns ≤ i := hk
      show (if i = i0 then g k else σ.val i k) = 0
      rw [if_neg (by omega)]; exact h.zv i k hk }
theorem VI.setOrig {σ : VS} (h : VI σ) {i0 : Nat} {g : Nat → Nat} (hi : i0 < σ.ns) (hg : ∀ k, g k < 18446744073709551616) : VI { σ with orig := fun i k => if i = i0 then g k else σ.orig i k } :=
  { h with
    orig := fun i k => by
      show (if i = i0 then g k else σ.orig i k) < _
      split
      · exact hg k
      · exact h.orig i k
    zo := fun i k hk => by
      have hk : σ.ns ≤ i := hk
      show (if i = i0 then g k else σ.orig i k) = 0
      rw [if_neg (by omega)]; exact h.zo i k hk }
theorem By.join {w : World} {b o : Nat} {f g : Nat → Nat} (h1 : By w b (o + 0) 32 f) (h2 : By w b (o + 32) 32 g) : By w b o 64 (fun j => if j < 32 then f j else g (j - 32)) := fun j hj => by
  show _ = some (Value.int .u8 (((if j < 32 then f j else g (j - 32) : Nat)) : Int))
  by_cases e : j < 32
  · have := h1 j e
    rw [if_pos e]; rw [Nat.add_zero] at this; exact this
  · have := h2 (j - 32) (by omega)
    rw [if_neg e]; rw [show o + 32 + (j - 32) = o + j by omega] at this; exact this
/-- What New and Fill need of the arguments once WorldOK has said yes. -/
theorem WOK.n {ω : WA} (h : WOK ω) : ω.n ≤ 8 := h.1
theorem WOK.sn {ω : WA} (h : WOK ω) {i : Nat} (hi : i < ω.n) : ω.sn i ≤ 16 := (h.2 i hi).2.1.2.2.1
theorem WOK.cn {ω : WA} (h : WOK ω) {i : Nat} (hi : i < ω.n) : ω.cn i ≤ 256 := (h.2 i hi).2.1.2.1
set_option maxHeartbeats 16000000 in
theorem fill_ok {B s cap : Nat} {a : Option Addr} {ω : WA} {w : World} (hT : WT B w) (hV : V B w s (zv (fun _ => 0) (fun _ => 0))) (hA : AWB B w a cap ω) :
    Ret Samg.prog 27 #[.pointer (some ⟨s, 0, none⟩), .slice a ω.n cap] w fun v w' => Mu B w w' ∧ WT B w' ∧ ∃ p : Bool, v = .bool p ∧ (p = true ↔ WOK ω) ∧ (p = true → ∃ σ', V B w' s σ' ∧ VI σ') := by
  refine W_enter (l := [_, _]) Samg.func27 rfl rfl rfl ?_
  have hS := hV.start hT
  have hcap := hA.aw.cap
  have hle := hA.aw.le
  repeat' (first
    | (refine L_cons ?_)
    | (refine R_cons rfl ?_)
    | (refine W_seq ?_)
    | (refine W_region (by kernel_rfl) ?_)
    | (refine L_nil ?_)
    | (refine R_nil ?_)
    | (refine W_block ?_)
    | (refine W_skip ?_)
    | (refine W_exit ?_)
    | (refine W_ret ?_)
    | (guard_target =~ thenQ _ _ _ _ _; first | (refine T_next ?_) | (refine T_exit ?_) | (refine T_ret ?_))
    | (guard_target =~ blockQ _ _ _ _ _; first | (refine B_next ?_) | (refine B_same ?_) | (refine B_other (by kernel_rfl) ?_) | (refine B_ret ?_))
    | (refine W_true rfl rfl ?_)
    | (refine W_false rfl rfl ?_)
    | (guard_target =~ WO _ _ (Oper.mk _ (Op.call (Call.mk (Callee.value (Operand.func 12)) _ _)) _ _ _ none) _ _ _ _; first | (refine O_rd (l := [.slice a ω.n cap]) (by assumption) cl12 rfl (worldOK_ok (TS.t (by assumption)) (hA.aw.ext (TS.e (by assumption)))) ?_; rintro _ w1 ⟨pw, rfl, hpw⟩ hS1 _; cases pw))
    | (guard_target =~ WC _ _ (Code.region 13 _ true) _ _ _; first | (refine W_drawnT (id := 13) [] [0, 1, 2, 3, 4, 5, 6, 7, 8, 9, 10, 11, 12] mixed (by kernel_rfl) (by kernel_rfl) (by assumption) ?_; intro _ _ _))
    | (guard_target =~ WC _ _ (Code.region 14 _ true) _ _ _; first | (refine W_drawnT (id := 14) [10] [0, 1, 2, 3, 4, 5, 6, 7, 8, 9, 10, 11, 12, 13] mixed (by kernel_rfl) (by kernel_rfl) (by assumption) ?_; intro _ _ _))
    | (guard_target =~ WC _ _ (Code.region 15 _ true) _ _ _; first | (refine W_drawnT (id := 15) [10] [0, 1, 2, 3, 4, 5, 6, 7, 8, 9, 10, 11, 12, 13] mixed (by kernel_rfl) (by kernel_rfl) (by assumption) ?_; intro _ _ _))
    | (guard_target =~ WC _ _ (Code.region 20 _ true) _ _ _; first | (refine W_drawnT (id := 20) [7] [0, 1, 2, 3, 4, 5, 6, 7, 8, 9, 10] mixed (by kernel_rfl) (by kernel_rfl) (by assumption) ?_; intro _ _ _))
    | (guard_target =~ WC _ _ (Code.region 21 _ true) _ _ _; first | (refine W_drawnT (id := 21) [] [0, 1, 2, 3, 4, 5, 6, 7, 8, 9, 10, 11, 12, 13, 14, 15] mixed (by kernel_rfl) (by kernel_rfl) (by assumption) ?_; intro _ _ _))
    | (guard_target =~ WO _ _ (Oper.mk _ (Op.assign _) _ _ _ none) _ _ _ _; first | (refine O_assign (v := (.int _ _)) rfl ?_) | (refine O_assign (v := (.bool _)) rfl ?_) | (refine O_assign (v := (.pointer _)) rfl ?_) | (refine O_assign (v := (.slice _ _ _)) rfl ?_) | (refine O_assign (v := (.agg _)) rfl ?_) | (refine O_assign (v := (.tuple _)) rfl ?_))
    | (guard_target =~ WO _ _ (Oper.mk _ (Op.move _) _ _ _ none) _ _ _ _; first | (refine O_move (v := (.int _ _)) rfl ?_) | (refine O_move (v := (.bool _)) rfl ?_) | (refine O_move (v := (.pointer _)) rfl ?_) | (refine O_move (v := (.slice _ _ _)) rfl ?_) | (refine O_move (v := (.agg _)) rfl ?_) | (refine O_move (v := (.tuple _)) rfl ?_))
    | (guard_target =~ WO _ _ (Oper.mk _ (Op.unOp _ _ _) _ _ _ none) _ _ _ _; first | (refine O_not rfl ?_))
    | (guard_target =~ WO _ _ (Oper.mk _ (Op.binOp BinOp.lss 3 _ _ _) _ _ _ none) _ _ _ _; first | (first | (refine O_lssS rfl rfl (fun h => absurd h (by omega)) ?_; intro _) | (refine O_lssS rfl rfl ?_ (fun h => absurd h (by omega)); intro _) | (refine O_lssS rfl rfl ?_ ?_ <;> intro _)))
    | (guard_target =~ WO _ _ (Oper.mk _ (Op.nilCheck _) _ _ _ none) _ _ _ _; first | (refine O_nil rfl ?_))
    | (guard_target =~ WO _ _ (Oper.mk _ (Op.fieldAddr 86 _ 2) _ _ _ none) _ _ _ _; first | (refine O_fdT fd86_2 (by decide) rfl ?_) | (refine O_field fd86_2 (by decide) rfl ?_))
    | (guard_target =~ WO _ _ (Oper.mk _ (Op.indexAddr 80 _ _) _ _ _ none) _ _ _ _; first | (refine O_ixa ar80 rfl rfl (by omega) (by omega) ?_; rintro _ _))
    | (guard_target =~ WO _ _ (Oper.mk _ (Op.store 21 _ _) _ _ _ none) _ _ _ _; first | (refine O_st (by assumption) (by repeat (first | exact List.Mem.head _ | refine List.Mem.tail _ ?_)) (by omega) on21 rfl rfl (by first | omega | (simp only [csz]; omega)) (by first | exact okp (c' := 2) (by first | rfl | exact layMod rfl rfl) (ok64 (by omega)) | exact okp (c' := 1) (by first | rfl | exact layMod rfl rfl) (ok8 (by omega)) | exact okp (c' := 3) (by first | rfl | exact layMod rfl rfl) (ok32 (by omega) (by omega)) | exact okp (c' := 4) (by first | rfl | exact layMod rfl rfl) okB_) rfl ?_; intro _ _))
    | (guard_target =~ WO _ _ (Oper.mk _ (Op.fieldAddr 86 _ 3) _ _ _ none) _ _ _ _; first | (refine O_fdT fd86_3 (by decide) rfl ?_) | (refine O_field fd86_3 (by decide) rfl ?_))
    | (guard_target =~ WO _ _ (Oper.mk _ (Op.binOp BinOp.add 3 _ _ _) _ _ _ none) _ _ _ _; first | (refine O_addZ rfl rfl (by simp only [rngZ]; omega) ?_))
    | (guard_target =~ WO _ _ (Oper.mk _ (Op.call _) _ _ _ none) _ _ _ _; first | (refine O_len Samg.underlying35 rfl rfl ?_) | (refine O_len Samg.underlying88 rfl rfl ?_))
    | (guard_target =~ WO _ _ (Oper.mk _ (Op.indexAddr 35 _ _) _ _ _ none) _ _ _ _; first | (refine O_ixK (by assumption) (by repeat (first | exact List.Mem.head _ | refine List.Mem.tail _ ?_)) sl35 rfl rfl (by omega) (by omega) ?_; rintro _ _ _) | (refine O_ixN (by assumption) (by repeat (first | exact List.Mem.head _ | refine List.Mem.tail _ ?_)) sl35 rfl rfl (by omega) (by omega) ?_; rintro _ _ _ _ _ _))
    | (guard_target =~ WO _ _ (Oper.mk _ (Op.fieldAddr 90 _ 0) _ _ _ none) _ _ _ _; first | (refine O_fdT fd90_0 (by decide) rfl ?_) | (refine O_field fd90_0 (by decide) rfl ?_))
    | (guard_target =~ WO _ _ (Oper.mk _ (Op.load 24 _) _ _ _ none) _ _ _ _; first | (refine O_ldn8 (by assumption) (by repeat (first | exact List.Mem.head _ | refine List.Mem.tail _ ?_)) ag24 rfl (by first | omega | (simp only [csz]; omega)) (by first | exact layRun0 rfl rfl | exact layRun rfl rfl rfl) ?_; intro _ _))
    | (guard_target =~ WO _ _ (Oper.mk _ (Op.extract _ _) _ _ _ none) _ _ _ _; first | (refine O_extract rfl rfl ?_))
    | (guard_target =~ WO _ _ (Oper.mk _ (Op.fieldAddr 86 _ 0) _ _ _ none) _ _ _ _; first | (refine O_fdT fd86_0 (by decide) rfl ?_) | (refine O_field fd86_0 (by decide) rfl ?_))
    | (guard_target =~ WO _ _ (Oper.mk _ (Op.load 78 _) _ _ _ none) _ _ _ _; first | (refine O_lds (t' := 148) (by assumption) (by repeat (first | exact List.Mem.head _ | refine List.Mem.tail _ ?_)) on78 rfl (by first | omega | (simp only [csz]; omega)) (by first | rfl | exact layMod rfl rfl) ?_; intro _ _ _ _ _ _))
    | (guard_target =~ WO _ _ (Oper.mk _ (Op.fieldAddr 90 _ 1) _ _ _ none) _ _ _ _; first | (refine O_fdT fd90_1 (by decide) rfl ?_) | (refine O_field fd90_1 (by decide) rfl ?_))
    | (guard_target =~ WO _ _ (Oper.mk _ (Op.load 27 _) _ _ _ none) _ _ _ _; first | (refine O_ld64 (by assumption) (by repeat (first | exact List.Mem.head _ | refine List.Mem.tail _ ?_)) on27 rfl (by first | omega | (simp only [csz]; omega)) (by first | rfl | exact layMod rfl rfl) ?_; intro _ _))
    | (guard_target =~ WO _ _ (Oper.mk _ (Op.indexAddr 78 _ _) _ _ _ none) _ _ _ _; first | (refine O_ixK (by assumption) (by repeat (first | exact List.Mem.head _ | refine List.Mem.tail _ ?_)) sl78 rfl rfl (by omega) (by omega) ?_; rintro _ _ _) | (refine O_ixN (by assumption) (by repeat (first | exact List.Mem.head _ | refine List.Mem.tail _ ?_)) sl78 rfl rfl (by omega) (by omega) ?_; rintro _ _ _ _ _ _))
    | (guard_target =~ WO _ _ (Oper.mk _ (Op.fieldAddr 148 _ 1) _ _ _ none) _ _ _ _; first | (refine O_fdT fd148_1 (by decide) rfl ?_) | (refine O_field fd148_1 (by decide) rfl ?_))
    | (guard_target =~ WO _ _ (Oper.mk _ (Op.store 27 _ _) _ _ _ none) _ _ _ _; first | (refine O_st (by assumption) (by repeat (first | exact List.Mem.head _ | refine List.Mem.tail _ ?_)) (by omega) on27 rfl rfl (by first | omega | (simp only [csz]; omega)) (by first | exact okp (c' := 2) (by first | rfl | exact layMod rfl rfl) (ok64 (by omega)) | exact okp (c' := 1) (by first | rfl | exact layMod rfl rfl) (ok8 (by omega)) | exact okp (c' := 3) (by first | rfl | exact layMod rfl rfl) (ok32 (by omega) (by omega)) | exact okp (c' := 4) (by first | rfl | exact layMod rfl rfl) okB_) rfl ?_; intro _ _))
    | (guard_target =~ WO _ _ (Oper.mk _ (Op.fieldAddr 90 _ 2) _ _ _ none) _ _ _ _; first | (refine O_fdT fd90_2 (by decide) rfl ?_) | (refine O_field fd90_2 (by decide) rfl ?_))
    | (guard_target =~ WO _ _ (Oper.mk _ (Op.load 87 _) _ _ _ none) _ _ _ _; first | (refine O_ldn8 (by assumption) (by repeat (first | exact List.Mem.head _ | refine List.Mem.tail _ ?_)) ag87 rfl (by first | omega | (simp only [csz]; omega)) (by first | exact layRun0 rfl rfl | exact layRun rfl rfl rfl) ?_; intro _ _))
    | (guard_target =~ WO _ _ (Oper.mk _ (Op.fieldAddr 148 _ 2) _ _ _ none) _ _ _ _; first | (refine O_fdT fd148_2 (by decide) rfl ?_) | (refine O_field fd148_2 (by decide) rfl ?_))
    | (guard_target =~ WO _ _ (Oper.mk _ (Op.store 45 _ _) _ _ _ none) _ _ _ _; first | (refine O_stn64 (by assumption) (by repeat (first | exact List.Mem.head _ | refine List.Mem.tail _ ?_)) (by omega) ag45 rfl rfl (by assumption) (by first | omega | (simp only [csz]; omega)) (by first | exact layRun0 rfl rfl | exact layRun rfl rfl rfl) rfl ?_; intro _ _))
    | (guard_target =~ WO _ _ (Oper.mk _ (Op.fieldAddr 90 _ 3) _ _ _ none) _ _ _ _; first | (refine O_fdT fd90_3 (by decide) rfl ?_) | (refine O_field fd90_3 (by decide) rfl ?_))
    | (guard_target =~ WO _ _ (Oper.mk _ (Op.load 31 _) _ _ _ none) _ _ _ _; first | (refine O_lds (t' := 5) (by assumption) (by repeat (first | exact List.Mem.head _ | refine List.Mem.tail _ ?_)) on31 rfl (by first | omega | (simp only [csz]; omega)) (by first | rfl | exact layMod rfl rfl) ?_; intro _ _ _ _ _ _))
    | (guard_target =~ WO _ _ (Oper.mk _ (Op.fieldAddr 148 _ 3) _ _ _ none) _ _ _ _; first | (refine O_fdT fd148_3 (by decide) rfl ?_) | (refine O_field fd148_3 (by decide) rfl ?_))
    | (guard_target =~ WO _ _ (Oper.mk _ (Op.store 31 _ _) _ _ _ none) _ _ _ _; first | (refine O_st (by assumption) (by repeat (first | exact List.Mem.head _ | refine List.Mem.tail _ ?_)) (by omega) on31 rfl rfl (by first | omega | (simp only [csz]; omega)) (okp (c' := 100 + 5) (by first | rfl | exact layMod rfl rfl) (okS (by first | exact Sl.nil _ | exact TS.slN (by assumption) (by repeat (first | exact List.Mem.head _ | refine List.Mem.tail _ ?_))))) rfl ?_; intro _ _))
    | (guard_target =~ WO _ _ (Oper.mk _ (Op.fieldAddr 90 _ 4) _ _ _ none) _ _ _ _; first | (refine O_fdT fd90_4 (by decide) rfl ?_) | (refine O_field fd90_4 (by decide) rfl ?_))
    | (guard_target =~ WO _ _ (Oper.mk _ (Op.load 88 _) _ _ _ none) _ _ _ _; first | (refine O_lds (t' := 150) (by assumption) (by repeat (first | exact List.Mem.head _ | refine List.Mem.tail _ ?_)) on88 rfl (by first | omega | (simp only [csz]; omega)) (by first | rfl | exact layMod rfl rfl) ?_; intro _ _ _ _ _ _))
    | (guard_target =~ WO _ _ (Oper.mk _ (Op.indexAddr 88 _ _) _ _ _ none) _ _ _ _; first | (refine O_ixK (by assumption) (by repeat (first | exact List.Mem.head _ | refine List.Mem.tail _ ?_)) sl88 rfl rfl (by omega) (by omega) ?_; rintro _ _ _) | (refine O_ixN (by assumption) (by repeat (first | exact List.Mem.head _ | refine List.Mem.tail _ ?_)) sl88 rfl rfl (by omega) (by omega) ?_; rintro _ _ _ _ _ _))
    | (guard_target =~ WO _ _ (Oper.mk _ (Op.load 150 _) _ _ _ none) _ _ _ _; first | (refine O_lda (by assumption) (by repeat (first | exact List.Mem.head _ | refine List.Mem.tail _ ?_)) ag150 rfl (by first | omega | (simp only [csz]; omega)) (by first | exact laySub0 rfl rfl | exact laySub rfl rfl rfl | exact laySame (by decide)) ?_; intro _ _ _))
    | (guard_target =~ WO _ _ (Oper.mk _ (Op.alloc 150) _ _ _ none) _ _ _ _; first | (refine O_al (by assumption) zc150 (by decide) ?_; intro _ _ _ _))
    | (guard_target =~ WO _ _ (Oper.mk _ (Op.store 150 _ _) _ _ _ none) _ _ _ _; first | (refine O_sts (by assumption) (by repeat (first | exact List.Mem.head _ | refine List.Mem.tail _ ?_)) (by omega) (by repeat (first | exact List.Mem.head _ | refine List.Mem.tail _ ?_)) ag150 rfl rfl (by first | omega | (simp only [csz]; omega)) (by first | exact laySub0 rfl rfl | exact laySub rfl rfl rfl | exact laySame (by decide)) rfl ?_; intro _ _))
    | (guard_target =~ WO _ _ (Oper.mk _ (Op.fieldAddr 150 _ 0) _ _ _ none) _ _ _ _; first | (refine O_fdT fd150_0 (by decide) rfl ?_) | (refine O_field fd150_0 (by decide) rfl ?_))
    | (guard_target =~ WO _ _ (Oper.mk _ (Op.fieldAddr 86 _ 1) _ _ _ none) _ _ _ _; first | (refine O_fdT fd86_1 (by decide) rfl ?_) | (refine O_field fd86_1 (by decide) rfl ?_))
    | (guard_target =~ WO _ _ (Oper.mk _ (Op.load 79 _) _ _ _ none) _ _ _ _; first | (refine O_lds (t' := 153) (by assumption) (by repeat (first | exact List.Mem.head _ | refine List.Mem.tail _ ?_)) on79 rfl (by first | omega | (simp only [csz]; omega)) (by first | rfl | exact layMod rfl rfl) ?_; intro _ _ _ _ _ _))
    | (guard_target =~ WO _ _ (Oper.mk _ (Op.fieldAddr 150 _ 1) _ _ _ none) _ _ _ _; first | (refine O_fdT fd150_1 (by decide) rfl ?_) | (refine O_field fd150_1 (by decide) rfl ?_))
    | (guard_target =~ WO _ _ (Oper.mk _ (Op.indexAddr 79 _ _) _ _ _ none) _ _ _ _; first | (refine O_ixK (by assumption) (by repeat (first | exact List.Mem.head _ | refine List.Mem.tail _ ?_)) sl79 rfl rfl (by omega) (by omega) ?_; rintro _ _ _) | (refine O_ixN (by assumption) (by repeat (first | exact List.Mem.head _ | refine List.Mem.tail _ ?_)) sl79 rfl rfl (by omega) (by omega) ?_; rintro _ _ _ _ _ _))
    | (guard_target =~ WO _ _ (Oper.mk _ (Op.fieldAddr 153 _ 2) _ _ _ none) _ _ _ _; first | (refine O_fdT fd153_2 (by decide) rfl ?_) | (refine O_field fd153_2 (by decide) rfl ?_))
    | (guard_target =~ WO _ _ (Oper.mk _ (Op.load 45 _) _ _ _ none) _ _ _ _; first | (refine O_ldn64 (by assumption) (by repeat (first | exact List.Mem.head _ | refine List.Mem.tail _ ?_)) ag45 rfl (by first | omega | (simp only [csz]; omega)) (by first | exact layRun0 rfl rfl | exact layRun rfl rfl rfl) ?_; intro _ _))
    | (guard_target =~ WO _ _ (Oper.mk _ (Op.fieldAddr 153 _ 3) _ _ _ none) _ _ _ _; first | (refine O_fdT fd153_3 (by decide) rfl ?_) | (refine O_field fd153_3 (by decide) rfl ?_)))
  · exact E_ret rfl rfl rfl ⟨TS.mu (by assumption) hV.B0, TS.t (by assumption), false, rfl, hpw, fun h => (by cases h)⟩
  have hok : WOK ω := hpw.1 rfl
  have hn8 := hok.n
  have hMu : Mu B w w1 := hS1.mu hV.B0
  replace hV := hV.ext hS1.e
  clear hpw hS
  refine W_loop (fun m ρ w' => ∃ (i : Nat) (at_ st : Nat → Int), m = 4096 - i ∧ i ≤ 4096 ∧ (∀ p, p < i → at_ p = -1 ∧ st p = -1) ∧ (∀ p, (at_ p = -1 ∨ at_ p = 0) ∧ (st p = -1 ∨ st p = 0)) ∧ V B w' s (zv at_ st) ∧ Mu B w w' ∧ WT B w' ∧ Has ρ [(0, .pointer (some ⟨s, 0, none⟩)), (1, .slice a ω.n cap), (16, .int .i64 ((i : Nat) : Int))]) 4096 ⟨0, fun _ => 0, fun _ => 0, by omega, by omega, fun p hp => absurd hp (Nat.not_lt_zero _), fun p => ⟨.inr rfl, .inr rfl⟩, hV, hMu, hS1.t, Has.mk ⟨rfl, rfl, rfl, trivial⟩⟩ ?_
  clear hS1 hMu hV
  rintro m ρ w2 ⟨i, at_, st, rfl, hi, h1, h2, hV, hMu, hT2, ρ', rfl⟩
  have hS2 := hV.start hT2
  by_cases hin : i < 4096
  · repeat' (first
      | (refine L_cons ?_)
      | (refine R_cons rfl ?_)
      | (refine W_seq ?_)
      | (refine W_region (by kernel_rfl) ?_)
      | (refine L_nil ?_)
      | (refine R_nil ?_)
      | (refine W_block ?_)
      | (refine W_skip ?_)
      | (refine W_exit ?_)
      | (refine W_ret ?_)
      | (guard_target =~ thenQ _ _ _ _ _; first | (refine T_next ?_) | (refine T_exit ?_) | (refine T_ret ?_))
      | (guard_target =~ blockQ _ _ _ _ _; first | (refine B_next ?_) | (refine B_same ?_) | (refine B_other (by kernel_rfl) ?_) | (refine B_ret ?_))
      | (refine W_true rfl rfl ?_)
      | (refine W_false rfl rfl ?_)
      | (guard_target =~ WO _ _ (Oper.mk _ (Op.indexAddr 80 _ _) _ _ _ none) _ _ _ _; first | (refine O_ixa ar80 rfl rfl (by omega) (by omega) ?_; rintro p hp; have hpi : i = p := (by omega); subst hpi) | (refine O_ixa ar80 rfl rfl (by omega) (by omega) ?_; rintro _ _))
      | (guard_target =~ WO _ _ (Oper.mk _ (Op.store 21 (Operand.tmp 23) _) _ _ _ none) _ _ _ _; first | (refine O_stM (by assumption) hV hMu (T := 86) (by repeat (first | exact List.Mem.head _ | refine List.Mem.tail _ ?_)) rfl on21 rfl rfl (by simp only [csz]; omega) (okp (c' := 3) (lay86 (by omega) (by omega)) (ok32 (by omega) (by omega))) rfl ?_; intro w5 hS5 hMu he5 hV0 hW5; have hV : V B w5 s (zv (upI at_ i (-1)) st) := hV0.setAta (Nat.zero_le _) (by omega) he5 hW5))
      | (guard_target =~ WO _ _ (Oper.mk _ (Op.store 21 (Operand.tmp 28) _) _ _ _ none) _ _ _ _; first | (refine O_stM (by assumption) hV hMu (T := 86) (by repeat (first | exact List.Mem.head _ | refine List.Mem.tail _ ?_)) rfl on21 rfl rfl (by simp only [csz]; omega) (okp (c' := 3) (lay86 (by omega) (by omega)) (ok32 (by omega) (by omega))) rfl ?_; intro w6 hS6 hMu he6 hV0 hW6; have hV : V B w6 s (zv (upI at_ i (-1)) (upI st i (-1))) := hV0.setSta (Nat.zero_le _) (by omega) he6 hW6))
      | (guard_target =~ WC _ _ (Code.region 13 _ true) _ _ _; first | (refine W_drawnT (id := 13) [] [0, 1, 2, 3, 4, 5, 6, 7, 8, 9, 10, 11, 12] mixed (by kernel_rfl) (by kernel_rfl) (by assumption) ?_; intro _ _ _))
      | (guard_target =~ WC _ _ (Code.region 14 _ true) _ _ _; first | (refine W_drawnT (id := 14) [10] [0, 1, 2, 3, 4, 5, 6, 7, 8, 9, 10, 11, 12, 13] mixed (by kernel_rfl) (by kernel_rfl) (by assumption) ?_; intro _ _ _))
      | (guard_target =~ WC _ _ (Code.region 15 _ true) _ _ _; first | (refine W_drawnT (id := 15) [10] [0, 1, 2, 3, 4, 5, 6, 7, 8, 9, 10, 11, 12, 13] mixed (by kernel_rfl) (by kernel_rfl) (by assumption) ?_; intro _ _ _))
      | (guard_target =~ WC _ _ (Code.region 20 _ true) _ _ _; first | (refine W_drawnT (id := 20) [7] [0, 1, 2, 3, 4, 5, 6, 7, 8, 9, 10] mixed (by kernel_rfl) (by kernel_rfl) (by assumption) ?_; intro _ _ _))
      | (guard_target =~ WC _ _ (Code.region 21 _ true) _ _ _; first | (refine W_drawnT (id := 21) [] [0, 1, 2, 3, 4, 5, 6, 7, 8, 9, 10, 11, 12, 13, 14, 15] mixed (by kernel_rfl) (by kernel_rfl) (by assumption) ?_; intro _ _ _))
      | (guard_target =~ WO _ _ (Oper.mk _ (Op.assign _) _ _ _ none) _ _ _ _; first | (refine O_assign (v := (.int _ _)) rfl ?_) | (refine O_assign (v := (.bool _)) rfl ?_) | (refine O_assign (v := (.pointer _)) rfl ?_) | (refine O_assign (v := (.slice _ _ _)) rfl ?_) | (refine O_assign (v := (.agg _)) rfl ?_) | (refine O_assign (v := (.tuple _)) rfl ?_))
      | (guard_target =~ WO _ _ (Oper.mk _ (Op.move _) _ _ _ none) _ _ _ _; first | (refine O_move (v := (.int _ _)) rfl ?_) | (refine O_move (v := (.bool _)) rfl ?_) | (refine O_move (v := (.pointer _)) rfl ?_) | (refine O_move (v := (.slice _ _ _)) rfl ?_) | (refine O_move (v := (.agg _)) rfl ?_) | (refine O_move (v := (.tuple _)) rfl ?_))
      | (guard_target =~ WO _ _ (Oper.mk _ (Op.unOp _ _ _) _ _ _ none) _ _ _ _; first | (refine O_not rfl ?_))
      | (guard_target =~ WO _ _ (Oper.mk _ (Op.binOp BinOp.lss 3 _ _ _) _ _ _ none) _ _ _ _; first | (first | (refine O_lssS rfl rfl (fun h => absurd h (by omega)) ?_; intro _) | (refine O_lssS rfl rfl ?_ (fun h => absurd h (by omega)); intro _) | (refine O_lssS rfl rfl ?_ ?_ <;> intro _)))
      | (guard_target =~ WO _ _ (Oper.mk _ (Op.nilCheck _) _ _ _ none) _ _ _ _; first | (refine O_nil rfl ?_))
      | (guard_target =~ WO _ _ (Oper.mk _ (Op.fieldAddr 86 _ 2) _ _ _ none) _ _ _ _; first | (refine O_fdT fd86_2 (by decide) rfl ?_) | (refine O_field fd86_2 (by decide) rfl ?_))
      | (guard_target =~ WO _ _ (Oper.mk _ (Op.store 21 _ _) _ _ _ none) _ _ _ _; first | (refine O_st (by assumption) (by repeat (first | exact List.Mem.head _ | refine List.Mem.tail _ ?_)) (by omega) on21 rfl rfl (by first | omega | (simp only [csz]; omega)) (by first | exact okp (c' := 2) (by first | rfl | exact layMod rfl rfl) (ok64 (by omega)) | exact okp (c' := 1) (by first | rfl | exact layMod rfl rfl) (ok8 (by omega)) | exact okp (c' := 3) (by first | rfl | exact layMod rfl rfl) (ok32 (by omega) (by omega)) | exact okp (c' := 4) (by first | rfl | exact layMod rfl rfl) okB_) rfl ?_; intro _ _))
      | (guard_target =~ WO _ _ (Oper.mk _ (Op.fieldAddr 86 _ 3) _ _ _ none) _ _ _ _; first | (refine O_fdT fd86_3 (by decide) rfl ?_) | (refine O_field fd86_3 (by decide) rfl ?_))
      | (guard_target =~ WO _ _ (Oper.mk _ (Op.binOp BinOp.add 3 _ _ _) _ _ _ none) _ _ _ _; first | (refine O_addZ rfl rfl (by simp only [rngZ]; omega) ?_))
      | (guard_target =~ WO _ _ (Oper.mk _ (Op.call _) _ _ _ none) _ _ _ _; first | (refine O_len Samg.underlying35 rfl rfl ?_) | (refine O_len Samg.underlying88 rfl rfl ?_))
      | (guard_target =~ WO _ _ (Oper.mk _ (Op.indexAddr 35 _ _) _ _ _ none) _ _ _ _; first | (refine O_ixK (by assumption) (by repeat (first | exact List.Mem.head _ | refine List.Mem.tail _ ?_)) sl35 rfl rfl (by omega) (by omega) ?_; rintro _ _ _) | (refine O_ixN (by assumption) (by repeat (first | exact List.Mem.head _ | refine List.Mem.tail _ ?_)) sl35 rfl rfl (by omega) (by omega) ?_; rintro _ _ _ _ _ _))
      | (guard_target =~ WO _ _ (Oper.mk _ (Op.fieldAddr 90 _ 0) _ _ _ none) _ _ _ _; first | (refine O_fdT fd90_0 (by decide) rfl ?_) | (refine O_field fd90_0 (by decide) rfl ?_))
      | (guard_target =~ WO _ _ (Oper.mk _ (Op.load 24 _) _ _ _ none) _ _ _ _; first | (refine O_ldn8 (by assumption) (by repeat (first | exact List.Mem.head _ | refine List.Mem.tail _ ?_)) ag24 rfl (by first | omega | (simp only [csz]; omega)) (by first | exact layRun0 rfl rfl | exact layRun rfl rfl rfl) ?_; intro _ _))
      | (guard_target =~ WO _ _ (Oper.mk _ (Op.extract _ _) _ _ _ none) _ _ _ _; first | (refine O_extract rfl rfl ?_))
      | (guard_target =~ WO _ _ (Oper.mk _ (Op.fieldAddr 86 _ 0) _ _ _ none) _ _ _ _; first | (refine O_fdT fd86_0 (by decide) rfl ?_) | (refine O_field fd86_0 (by decide) rfl ?_))
      | (guard_target =~ WO _ _ (Oper.mk _ (Op.load 78 _) _ _ _ none) _ _ _ _; first | (refine O_lds (t' := 148) (by assumption) (by repeat (first | exact List.Mem.head _ | refine List.Mem.tail _ ?_)) on78 rfl (by first | omega | (simp only [csz]; omega)) (by first | rfl | exact layMod rfl rfl) ?_; intro _ _ _ _ _ _))
      | (guard_target =~ WO _ _ (Oper.mk _ (Op.fieldAddr 90 _ 1) _ _ _ none) _ _ _ _; first | (refine O_fdT fd90_1 (by decide) rfl ?_) | (refine O_field fd90_1 (by decide) rfl ?_))
      | (guard_target =~ WO _ _ (Oper.mk _ (Op.load 27 _) _ _ _ none) _ _ _ _; first | (refine O_ld64 (by assumption) (by repeat (first | exact List.Mem.head _ | refine List.Mem.tail _ ?_)) on27 rfl (by first | omega | (simp only [csz]; omega)) (by first | rfl | exact layMod rfl rfl) ?_; intro _ _))
      | (guard_target =~ WO _ _ (Oper.mk _ (Op.indexAddr 78 _ _) _ _ _ none) _ _ _ _; first | (refine O_ixK (by assumption) (by repeat (first | exact List.Mem.head _ | refine List.Mem.tail _ ?_)) sl78 rfl rfl (by omega) (by omega) ?_; rintro _ _ _) | (refine O_ixN (by assumption) (by repeat (first | exact List.Mem.head _ | refine List.Mem.tail _ ?_)) sl78 rfl rfl (by omega) (by omega) ?_; rintro _ _ _ _ _ _))
      | (guard_target =~ WO _ _ (Oper.mk _ (Op.fieldAddr 148 _ 1) _ _ _ none) _ _ _ _; first | (refine O_fdT fd148_1 (by decide) rfl ?_) | (refine O_field fd148_1 (by decide) rfl ?_))
      | (guard_target =~ WO _ _ (Oper.mk _ (Op.store 27 _ _) _ _ _ none) _ _ _ _; first | (refine O_st (by assumption) (by repeat (first | exact List.Mem.head _ | refine List.Mem.tail _ ?_)) (by omega) on27 rfl rfl (by first | omega | (simp only [csz]; omega)) (by first | exact okp (c' := 2) (by first | rfl | exact layMod rfl rfl) (ok64 (by omega)) | exact okp (c' := 1) (by first | rfl | exact layMod rfl rfl) (ok8 (by omega)) | exact okp (c' := 3) (by first | rfl | exact layMod rfl rfl) (ok32 (by omega) (by omega)) | exact okp (c' := 4) (by first | rfl | exact layMod rfl rfl) okB_) rfl ?_; intro _ _))
      | (guard_target =~ WO _ _ (Oper.mk _ (Op.fieldAddr 90 _ 2) _ _ _ none) _ _ _ _; first | (refine O_fdT fd90_2 (by decide) rfl ?_) | (refine O_field fd90_2 (by decide) rfl ?_))
      | (guard_target =~ WO _ _ (Oper.mk _ (Op.load 87 _) _ _ _ none) _ _ _ _; first | (refine O_ldn8 (by assumption) (by repeat (first | exact List.Mem.head _ | refine List.Mem.tail _ ?_)) ag87 rfl (by first | omega | (simp only [csz]; omega)) (by first | exact layRun0 rfl rfl | exact layRun rfl rfl rfl) ?_; intro _ _))
      | (guard_target =~ WO _ _ (Oper.mk _ (Op.fieldAddr 148 _ 2) _ _ _ none) _ _ _ _; first | (refine O_fdT fd148_2 (by decide) rfl ?_) | (refine O_field fd148_2 (by decide) rfl ?_))
      | (guard_target =~ WO _ _ (Oper.mk _ (Op.store 45 _ _) _ _ _ none) _ _ _ _; first | (refine O_stn64 (by assumption) (by repeat (first | exact List.Mem.head _ | refine List.Mem.tail _ ?_)) (by omega) ag45 rfl rfl (by assumption) (by first | omega | (simp only [csz]; omega)) (by first | exact layRun0 rfl rfl | exact layRun rfl rfl rfl) rfl ?_; intro _ _))
      | (guard_target =~ WO _ _ (Oper.mk _ (Op.fieldAddr 90 _ 3) _ _ _ none) _ _ _ _; first | (refine O_fdT fd90_3 (by decide) rfl ?_) | (refine O_field fd90_3 (by decide) rfl ?_))
      | (guard_target =~ WO _ _ (Oper.mk _ (Op.load 31 _) _ _ _ none) _ _ _ _; first | (refine O_lds (t' := 5) (by assumption) (by repeat (first | exact List.Mem.head _ | refine List.Mem.tail _ ?_)) on31 rfl (by first | omega | (simp only [csz]; omega)) (by first | rfl | exact layMod rfl rfl) ?_; intro _ _ _ _ _ _))
      | (guard_target =~ WO _ _ (Oper.mk _ (Op.fieldAddr 148 _ 3) _ _ _ none) _ _ _ _; first | (refine O_fdT fd148_3 (by decide) rfl ?_) | (refine O_field fd148_3 (by decide) rfl ?_))
      | (guard_target =~ WO _ _ (Oper.mk _ (Op.store 31 _ _) _ _ _ none) _ _ _ _; first | (refine O_st (by assumption) (by repeat (first | exact List.Mem.head _ | refine List.Mem.tail _ ?_)) (by omega) on31 rfl rfl (by first | omega | (simp only [csz]; omega)) (okp (c' := 100 + 5) (by first | rfl | exact layMod rfl rfl) (okS (by first | exact Sl.nil _ | exact TS.slN (by assumption) (by repeat (first | exact List.Mem.head _ | refine List.Mem.tail _ ?_))))) rfl ?_; intro _ _))
      | (guard_target =~ WO _ _ (Oper.mk _ (Op.fieldAddr 90 _ 4) _ _ _ none) _ _ _ _; first | (refine O_fdT fd90_4 (by decide) rfl ?_) | (refine O_field fd90_4 (by decide) rfl ?_))
      | (guard_target =~ WO _ _ (Oper.mk _ (Op.load 88 _) _ _ _ none) _ _ _ _; first | (refine O_lds (t' := 150) (by assumption) (by repeat (first | exact List.Mem.head _ | refine List.Mem.tail _ ?_)) on88 rfl (by first | omega | (simp only [csz]; omega)) (by first | rfl | exact layMod rfl rfl) ?_; intro _ _ _ _ _ _))
      | (guard_target =~ WO _ _ (Oper.mk _ (Op.indexAddr 88 _ _) _ _ _ none) _ _ _ _; first | (refine O_ixK (by assumption) (by repeat (first | exact List.Mem.head _ | refine List.Mem.tail _ ?_)) sl88 rfl rfl (by omega) (by omega) ?_; rintro _ _ _) | (refine O_ixN (by assumption) (by repeat (first | exact List.Mem.head _ | refine List.Mem.tail _ ?_)) sl88 rfl rfl (by omega) (by omega) ?_; rintro _ _ _ _ _ _))
      | (guard_target =~ WO _ _ (Oper.mk _ (Op.load 150 _) _ _ _ none) _ _ _ _; first | (refine O_lda (by assumption) (by repeat (first | exact List.Mem.head _ | refine List.Mem.tail _ ?_)) ag150 rfl (by first | omega | (simp only [csz]; omega)) (by first | exact laySub0 rfl rfl | exact laySub rfl rfl rfl | exact laySame (by decide)) ?_; intro _ _ _))
      | (guard_target =~ WO _ _ (Oper.mk _ (Op.alloc 150) _ _ _ none) _ _ _ _; first | (refine O_al (by assumption) zc150 (by decide) ?_; intro _ _ _ _))
      | (guard_target =~ WO _ _ (Oper.mk _ (Op.store 150 _ _) _ _ _ none) _ _ _ _; first | (refine O_sts (by assumption) (by repeat (first | exact List.Mem.head _ | refine List.Mem.tail _ ?_)) (by omega) (by repeat (first | exact List.Mem.head _ | refine List.Mem.tail _ ?_)) ag150 rfl rfl (by first | omega | (simp only [csz]; omega)) (by first | exact laySub0 rfl rfl | exact laySub rfl rfl rfl | exact laySame (by decide)) rfl ?_; intro _ _))
      | (guard_target =~ WO _ _ (Oper.mk _ (Op.fieldAddr 150 _ 0) _ _ _ none) _ _ _ _; first | (refine O_fdT fd150_0 (by decide) rfl ?_) | (refine O_field fd150_0 (by decide) rfl ?_))
      | (guard_target =~ WO _ _ (Oper.mk _ (Op.fieldAddr 86 _ 1) _ _ _ none) _ _ _ _; first | (refine O_fdT fd86_1 (by decide) rfl ?_) | (refine O_field fd86_1 (by decide) rfl ?_))
      | (guard_target =~ WO _ _ (Oper.mk _ (Op.load 79 _) _ _ _ none) _ _ _ _; first | (refine O_lds (t' := 153) (by assumption) (by repeat (first | exact List.Mem.head _ | refine List.Mem.tail _ ?_)) on79 rfl (by first | omega | (simp only [csz]; omega)) (by first | rfl | exact layMod rfl rfl) ?_; intro _ _ _ _ _ _))
      | (guard_target =~ WO _ _ (Oper.mk _ (Op.fieldAddr 150 _ 1) _ _ _ none) _ _ _ _; first | (refine O_fdT fd150_1 (by decide) rfl ?_) | (refine O_field fd150_1 (by decide) rfl ?_))
      | (guard_target =~ WO _ _ (Oper.mk _ (Op.indexAddr 79 _ _) _ _ _ none) _ _ _ _; first | (refine O_ixK (by assumption) (by repeat (first | exact List.Mem.head _ | refine List.Mem.tail _ ?_)) sl79 rfl rfl (by omega) (by omega) ?_; rintro _ _ _) | (refine O_ixN (by assumption) (by repeat (first | exact List.Mem.head _ | refine List.Mem.tail _ ?_)) sl79 rfl rfl (by omega) (by omega) ?_; rintro _ _ _ _ _ _))
      | (guard_target =~ WO _ _ (Oper.mk _ (Op.fieldAddr 153 _ 2) _ _ _ none) _ _ _ _; first | (refine O_fdT fd153_2 (by decide) rfl ?_) | (refine O_field fd153_2 (by decide) rfl ?_))
      | (guard_target =~ WO _ _ (Oper.mk _ (Op.load 45 _) _ _ _ none) _ _ _ _; first | (refine O_ldn64 (by assumption) (by repeat (first | exact List.Mem.head _ | refine List.Mem.tail _ ?_)) ag45 rfl (by first | omega | (simp only [csz]; omega)) (by first | exact layRun0 rfl rfl | exact layRun rfl rfl rfl) ?_; intro _ _))
      | (guard_target =~ WO _ _ (Oper.mk _ (Op.fieldAddr 153 _ 3) _ _ _ none) _ _ _ _; first | (refine O_fdT fd153_3 (by decide) rfl ?_) | (refine O_field fd153_3 (by decide) rfl ?_)))
    exact ⟨4096 - (i + 1), by omega, i + 1, upI at_ i (-1), upI st i (-1), rfl, by omega, fun p hp => (by
      unfold upI
      by_cases e : p = i
      · rw [if_pos e, if_pos e]; exact ⟨rfl, rfl⟩
      · rw [if_neg e, if_neg e]; exact h1 p (by omega)), fun p => (by
      unfold upI
      by_cases e : p = i
      · rw [if_pos e, if_pos e]; exact ⟨.inl rfl, .inl rfl⟩
      · rw [if_neg e, if_neg e]; exact h2 p), hV, hMu, hS6.t, Has.mk ⟨rfl, rfl, rfl, trivial⟩⟩
  · have hI : VI (zv at_ st) := zv_VI (fun p hp => h1 p (by omega)) h2
    obtain ⟨W, hWB, hWl, hAW⟩ := hA
    have lowOf : ∀ {w' : World}, Mu B w w' → ∀ k, k < W.heap.size → w'.heap[k]? = W.heap[k]? := fun h k hk => (h.low k (by omega)).trans (hWl k hk)
    repeat' (first
      | (refine L_cons ?_)
      | (refine R_cons rfl ?_)
      | (refine W_seq ?_)
      | (refine W_region (by kernel_rfl) ?_)
      | (refine L_nil ?_)
      | (refine R_nil ?_)
      | (refine W_block ?_)
      | (refine W_skip ?_)
      | (refine W_exit ?_)
      | (refine W_ret ?_)
      | (guard_target =~ thenQ _ _ _ _ _; first | (refine T_next ?_) | (refine T_exit ?_) | (refine T_ret ?_))
      | (guard_target =~ blockQ _ _ _ _ _; first | (refine B_next ?_) | (refine B_same ?_) | (refine B_other (by kernel_rfl) ?_) | (refine B_ret ?_))
      | (refine W_true rfl rfl ?_)
      | (refine W_false rfl rfl ?_)
      | (guard_target =~ WC _ _ (Code.region 13 _ true) _ _ _; first | (refine W_drawnT (id := 13) [] [0, 1, 2, 3, 4, 5, 6, 7, 8, 9, 10, 11, 12] mixed (by kernel_rfl) (by kernel_rfl) (by assumption) ?_; intro _ _ _))
      | (guard_target =~ WC _ _ (Code.region 14 _ true) _ _ _; first | (refine W_drawnT (id := 14) [10] [0, 1, 2, 3, 4, 5, 6, 7, 8, 9, 10, 11, 12, 13] mixed (by kernel_rfl) (by kernel_rfl) (by assumption) ?_; intro _ _ _))
      | (guard_target =~ WC _ _ (Code.region 15 _ true) _ _ _; first | (refine W_drawnT (id := 15) [10] [0, 1, 2, 3, 4, 5, 6, 7, 8, 9, 10, 11, 12, 13] mixed (by kernel_rfl) (by kernel_rfl) (by assumption) ?_; intro _ _ _))
      | (guard_target =~ WC _ _ (Code.region 20 _ true) _ _ _; first | (refine W_drawnT (id := 20) [7] [0, 1, 2, 3, 4, 5, 6, 7, 8, 9, 10] mixed (by kernel_rfl) (by kernel_rfl) (by assumption) ?_; intro _ _ _))
      | (guard_target =~ WC _ _ (Code.region 21 _ true) _ _ _; first | (refine W_drawnT (id := 21) [] [0, 1, 2, 3, 4, 5, 6, 7, 8, 9, 10, 11, 12, 13, 14, 15] mixed (by kernel_rfl) (by kernel_rfl) (by assumption) ?_; intro _ _ _))
      | (guard_target =~ WO _ _ (Oper.mk _ (Op.assign _) _ _ _ none) _ _ _ _; first | (refine O_assign (v := (.int _ _)) rfl ?_) | (refine O_assign (v := (.bool _)) rfl ?_) | (refine O_assign (v := (.pointer _)) rfl ?_) | (refine O_assign (v := (.slice _ _ _)) rfl ?_) | (refine O_assign (v := (.agg _)) rfl ?_) | (refine O_assign (v := (.tuple _)) rfl ?_))
      | (guard_target =~ WO _ _ (Oper.mk _ (Op.move _) _ _ _ none) _ _ _ _; first | (refine O_move (v := (.int _ _)) rfl ?_) | (refine O_move (v := (.bool _)) rfl ?_) | (refine O_move (v := (.pointer _)) rfl ?_) | (refine O_move (v := (.slice _ _ _)) rfl ?_) | (refine O_move (v := (.agg _)) rfl ?_) | (refine O_move (v := (.tuple _)) rfl ?_))
      | (guard_target =~ WO _ _ (Oper.mk _ (Op.unOp _ _ _) _ _ _ none) _ _ _ _; first | (refine O_not rfl ?_))
      | (guard_target =~ WO _ _ (Oper.mk _ (Op.binOp BinOp.lss 3 _ _ _) _ _ _ none) _ _ _ _; first | (first | (refine O_lssS rfl rfl (fun h => absurd h (by omega)) ?_; intro _) | (refine O_lssS rfl rfl ?_ (fun h => absurd h (by omega)); intro _) | (refine O_lssS rfl rfl ?_ ?_ <;> intro _)))
      | (guard_target =~ WO _ _ (Oper.mk _ (Op.nilCheck _) _ _ _ none) _ _ _ _; first | (refine O_nil rfl ?_))
      | (guard_target =~ WO _ _ (Oper.mk _ (Op.fieldAddr 86 _ 2) _ _ _ none) _ _ _ _; first | (refine O_fdT fd86_2 (by decide) rfl ?_) | (refine O_field fd86_2 (by decide) rfl ?_))
      | (guard_target =~ WO _ _ (Oper.mk _ (Op.indexAddr 80 _ _) _ _ _ none) _ _ _ _; first | (refine O_ixa ar80 rfl rfl (by omega) (by omega) ?_; rintro _ _))
      | (guard_target =~ WO _ _ (Oper.mk _ (Op.store 21 _ _) _ _ _ none) _ _ _ _; first | (refine O_st (by assumption) (by repeat (first | exact List.Mem.head _ | refine List.Mem.tail _ ?_)) (by omega) on21 rfl rfl (by first | omega | (simp only [csz]; omega)) (by first | exact okp (c' := 2) (by first | rfl | exact layMod rfl rfl) (ok64 (by omega)) | exact okp (c' := 1) (by first | rfl | exact layMod rfl rfl) (ok8 (by omega)) | exact okp (c' := 3) (by first | rfl | exact layMod rfl rfl) (ok32 (by omega) (by omega)) | exact okp (c' := 4) (by first | rfl | exact layMod rfl rfl) okB_) rfl ?_; intro _ _))
      | (guard_target =~ WO _ _ (Oper.mk _ (Op.fieldAddr 86 _ 3) _ _ _ none) _ _ _ _; first | (refine O_fdT fd86_3 (by decide) rfl ?_) | (refine O_field fd86_3 (by decide) rfl ?_))
      | (guard_target =~ WO _ _ (Oper.mk _ (Op.binOp BinOp.add 3 _ _ _) _ _ _ none) _ _ _ _; first | (refine O_addZ rfl rfl (by simp only [rngZ]; omega) ?_))
      | (guard_target =~ WO _ _ (Oper.mk _ (Op.call _) _ _ _ none) _ _ _ _; first | (refine O_len Samg.underlying35 rfl rfl ?_) | (refine O_len Samg.underlying88 rfl rfl ?_))
      | (guard_target =~ WO _ _ (Oper.mk _ (Op.indexAddr 35 _ _) _ _ _ none) _ _ _ _; first | (refine O_ixK (by assumption) (by repeat (first | exact List.Mem.head _ | refine List.Mem.tail _ ?_)) sl35 rfl rfl (by omega) (by omega) ?_; rintro _ _ _) | (refine O_ixN (by assumption) (by repeat (first | exact List.Mem.head _ | refine List.Mem.tail _ ?_)) sl35 rfl rfl (by omega) (by omega) ?_; rintro _ _ _ _ _ _))
      | (guard_target =~ WO _ _ (Oper.mk _ (Op.fieldAddr 90 _ 0) _ _ _ none) _ _ _ _; first | (refine O_fdT fd90_0 (by decide) rfl ?_) | (refine O_field fd90_0 (by decide) rfl ?_))
      | (guard_target =~ WO _ _ (Oper.mk _ (Op.load 24 _) _ _ _ none) _ _ _ _; first | (refine O_ldn8 (by assumption) (by repeat (first | exact List.Mem.head _ | refine List.Mem.tail _ ?_)) ag24 rfl (by first | omega | (simp only [csz]; omega)) (by first | exact layRun0 rfl rfl | exact layRun rfl rfl rfl) ?_; intro _ _))
      | (guard_target =~ WO _ _ (Oper.mk _ (Op.extract _ _) _ _ _ none) _ _ _ _; first | (refine O_extract rfl rfl ?_))
      | (guard_target =~ WO _ _ (Oper.mk _ (Op.fieldAddr 86 _ 0) _ _ _ none) _ _ _ _; first | (refine O_fdT fd86_0 (by decide) rfl ?_) | (refine O_field fd86_0 (by decide) rfl ?_))
      | (guard_target =~ WO _ _ (Oper.mk _ (Op.load 78 _) _ _ _ none) _ _ _ _; first | (refine O_lds (t' := 148) (by assumption) (by repeat (first | exact List.Mem.head _ | refine List.Mem.tail _ ?_)) on78 rfl (by first | omega | (simp only [csz]; omega)) (by first | rfl | exact layMod rfl rfl) ?_; intro _ _ _ _ _ _))
      | (guard_target =~ WO _ _ (Oper.mk _ (Op.fieldAddr 90 _ 1) _ _ _ none) _ _ _ _; first | (refine O_fdT fd90_1 (by decide) rfl ?_) | (refine O_field fd90_1 (by decide) rfl ?_))
      | (guard_target =~ WO _ _ (Oper.mk _ (Op.load 27 _) _ _ _ none) _ _ _ _; first | (refine O_ld64 (by assumption) (by repeat (first | exact List.Mem.head _ | refine List.Mem.tail _ ?_)) on27 rfl (by first | omega | (simp only [csz]; omega)) (by first | rfl | exact layMod rfl rfl) ?_; intro _ _))
      | (guard_target =~ WO _ _ (Oper.mk _ (Op.indexAddr 78 _ _) _ _ _ none) _ _ _ _; first | (refine O_ixK (by assumption) (by repeat (first | exact List.Mem.head _ | refine List.Mem.tail _ ?_)) sl78 rfl rfl (by omega) (by omega) ?_; rintro _ _ _) | (refine O_ixN (by assumption) (by repeat (first | exact List.Mem.head _ | refine List.Mem.tail _ ?_)) sl78 rfl rfl (by omega) (by omega) ?_; rintro _ _ _ _ _ _))
      | (guard_target =~ WO _ _ (Oper.mk _ (Op.fieldAddr 148 _ 1) _ _ _ none) _ _ _ _; first | (refine O_fdT fd148_1 (by decide) rfl ?_) | (refine O_field fd148_1 (by decide) rfl ?_))
      | (guard_target =~ WO _ _ (Oper.mk _ (Op.store 27 _ _) _ _ _ none) _ _ _ _; first | (refine O_st (by assumption) (by repeat (first | exact List.Mem.head _ | refine List.Mem.tail _ ?_)) (by omega) on27 rfl rfl (by first | omega | (simp only [csz]; omega)) (by first | exact okp (c' := 2) (by first | rfl | exact layMod rfl rfl) (ok64 (by omega)) | exact okp (c' := 1) (by first | rfl | exact layMod rfl rfl) (ok8 (by omega)) | exact okp (c' := 3) (by first | rfl | exact layMod rfl rfl) (ok32 (by omega) (by omega)) | exact okp (c' := 4) (by first | rfl | exact layMod rfl rfl) okB_) rfl ?_; intro _ _))
      | (guard_target =~ WO _ _ (Oper.mk _ (Op.fieldAddr 90 _ 2) _ _ _ none) _ _ _ _; first | (refine O_fdT fd90_2 (by decide) rfl ?_) | (refine O_field fd90_2 (by decide) rfl ?_))
      | (guard_target =~ WO _ _ (Oper.mk _ (Op.load 87 _) _ _ _ none) _ _ _ _; first | (refine O_ldn8 (by assumption) (by repeat (first | exact List.Mem.head _ | refine List.Mem.tail _ ?_)) ag87 rfl (by first | omega | (simp only [csz]; omega)) (by first | exact layRun0 rfl rfl | exact layRun rfl rfl rfl) ?_; intro _ _))
      | (guard_target =~ WO _ _ (Oper.mk _ (Op.fieldAddr 148 _ 2) _ _ _ none) _ _ _ _; first | (refine O_fdT fd148_2 (by decide) rfl ?_) | (refine O_field fd148_2 (by decide) rfl ?_))
      | (guard_target =~ WO _ _ (Oper.mk _ (Op.store 45 _ _) _ _ _ none) _ _ _ _; first | (refine O_stn64 (by assumption) (by repeat (first | exact List.Mem.head _ | refine List.Mem.tail _ ?_)) (by omega) ag45 rfl rfl (by assumption) (by first | omega | (simp only [csz]; omega)) (by first | exact layRun0 rfl rfl | exact layRun rfl rfl rfl) rfl ?_; intro _ _))
      | (guard_target =~ WO _ _ (Oper.mk _ (Op.fieldAddr 90 _ 3) _ _ _ none) _ _ _ _; first | (refine O_fdT fd90_3 (by decide) rfl ?_) | (refine O_field fd90_3 (by decide) rfl ?_))
      | (guard_target =~ WO _ _ (Oper.mk _ (Op.load 31 _) _ _ _ none) _ _ _ _; first | (refine O_lds (t' := 5) (by assumption) (by repeat (first | exact List.Mem.head _ | refine List.Mem.tail _ ?_)) on31 rfl (by first | omega | (simp only [csz]; omega)) (by first | rfl | exact layMod rfl rfl) ?_; intro _ _ _ _ _ _))
      | (guard_target =~ WO _ _ (Oper.mk _ (Op.fieldAddr 148 _ 3) _ _ _ none) _ _ _ _; first | (refine O_fdT fd148_3 (by decide) rfl ?_) | (refine O_field fd148_3 (by decide) rfl ?_))
      | (guard_target =~ WO _ _ (Oper.mk _ (Op.store 31 _ _) _ _ _ none) _ _ _ _; first | (refine O_st (by assumption) (by repeat (first | exact List.Mem.head _ | refine List.Mem.tail _ ?_)) (by omega) on31 rfl rfl (by first | omega | (simp only [csz]; omega)) (okp (c' := 100 + 5) (by first | rfl | exact layMod rfl rfl) (okS (by first | exact Sl.nil _ | exact TS.slN (by assumption) (by repeat (first | exact List.Mem.head _ | refine List.Mem.tail _ ?_))))) rfl ?_; intro _ _))
      | (guard_target =~ WO _ _ (Oper.mk _ (Op.fieldAddr 90 _ 4) _ _ _ none) _ _ _ _; first | (refine O_fdT fd90_4 (by decide) rfl ?_) | (refine O_field fd90_4 (by decide) rfl ?_))
      | (guard_target =~ WO _ _ (Oper.mk _ (Op.load 88 _) _ _ _ none) _ _ _ _; first | (refine O_lds (t' := 150) (by assumption) (by repeat (first | exact List.Mem.head _ | refine List.Mem.tail _ ?_)) on88 rfl (by first | omega | (simp only [csz]; omega)) (by first | rfl | exact layMod rfl rfl) ?_; intro _ _ _ _ _ _))
      | (guard_target =~ WO _ _ (Oper.mk _ (Op.indexAddr 88 _ _) _ _ _ none) _ _ _ _; first | (refine O_ixK (by assumption) (by repeat (first | exact List.Mem.head _ | refine List.Mem.tail _ ?_)) sl88 rfl rfl (by omega) (by omega) ?_; rintro _ _ _) | (refine O_ixN (by assumption) (by repeat (first | exact List.Mem.head _ | refine List.Mem.tail _ ?_)) sl88 rfl rfl (by omega) (by omega) ?_; rintro _ _ _ _ _ _))
      | (guard_target =~ WO _ _ (Oper.mk _ (Op.load 150 _) _ _ _ none) _ _ _ _; first | (refine O_lda (by assumption) (by repeat (first | exact List.Mem.head _ | refine List.Mem.tail _ ?_)) ag150 rfl (by first | omega | (simp only [csz]; omega)) (by first | exact laySub0 rfl rfl | exact laySub rfl rfl rfl | exact laySame (by decide)) ?_; intro _ _ _))
      | (guard_target =~ WO _ _ (Oper.mk _ (Op.alloc 150) _ _ _ none) _ _ _ _; first | (refine O_al (by assumption) zc150 (by decide) ?_; intro _ _ _ _))
      | (guard_target =~ WO _ _ (Oper.mk _ (Op.store 150 _ _) _ _ _ none) _ _ _ _; first | (refine O_sts (by assumption) (by repeat (first | exact List.Mem.head _ | refine List.Mem.tail _ ?_)) (by omega) (by repeat (first | exact List.Mem.head _ | refine List.Mem.tail _ ?_)) ag150 rfl rfl (by first | omega | (simp only [csz]; omega)) (by first | exact laySub0 rfl rfl | exact laySub rfl rfl rfl | exact laySame (by decide)) rfl ?_; intro _ _))
      | (guard_target =~ WO _ _ (Oper.mk _ (Op.fieldAddr 150 _ 0) _ _ _ none) _ _ _ _; first | (refine O_fdT fd150_0 (by decide) rfl ?_) | (refine O_field fd150_0 (by decide) rfl ?_))
      | (guard_target =~ WO _ _ (Oper.mk _ (Op.fieldAddr 86 _ 1) _ _ _ none) _ _ _ _; first | (refine O_fdT fd86_1 (by decide) rfl ?_) | (refine O_field fd86_1 (by decide) rfl ?_))
      | (guard_target =~ WO _ _ (Oper.mk _ (Op.load 79 _) _ _ _ none) _ _ _ _; first | (refine O_lds (t' := 153) (by assumption) (by repeat (first | exact List.Mem.head _ | refine List.Mem.tail _ ?_)) on79 rfl (by first | omega | (simp only [csz]; omega)) (by first | rfl | exact layMod rfl rfl) ?_; intro _ _ _ _ _ _))
      | (guard_target =~ WO _ _ (Oper.mk _ (Op.fieldAddr 150 _ 1) _ _ _ none) _ _ _ _; first | (refine O_fdT fd150_1 (by decide) rfl ?_) | (refine O_field fd150_1 (by decide) rfl ?_))
      | (guard_target =~ WO _ _ (Oper.mk _ (Op.indexAddr 79 _ _) _ _ _ none) _ _ _ _; first | (refine O_ixK (by assumption) (by repeat (first | exact List.Mem.head _ | refine List.Mem.tail _ ?_)) sl79 rfl rfl (by omega) (by omega) ?_; rintro _ _ _) | (refine O_ixN (by assumption) (by repeat (first | exact List.Mem.head _ | refine List.Mem.tail _ ?_)) sl79 rfl rfl (by omega) (by omega) ?_; rintro _ _ _ _ _ _))
      | (guard_target =~ WO _ _ (Oper.mk _ (Op.fieldAddr 153 _ 2) _ _ _ none) _ _ _ _; first | (refine O_fdT fd153_2 (by decide) rfl ?_) | (refine O_field fd153_2 (by decide) rfl ?_))
      | (guard_target =~ WO _ _ (Oper.mk _ (Op.load 45 _) _ _ _ none) _ _ _ _; first | (refine O_ldn64 (by assumption) (by repeat (first | exact List.Mem.head _ | refine List.Mem.tail _ ?_)) ag45 rfl (by first | omega | (simp only [csz]; omega)) (by first | exact layRun0 rfl rfl | exact layRun rfl rfl rfl) ?_; intro _ _))
      | (guard_target =~ WO _ _ (Oper.mk _ (Op.fieldAddr 153 _ 3) _ _ _ none) _ _ _ _; first | (refine O_fdT fd153_3 (by decide) rfl ?_) | (refine O_field fd153_3 (by decide) rfl ?_)))
    refine W_loop (fun m ρ w' => ∃ (i : Nat) (σ : VS), m = ω.n - i ∧ i ≤ ω.n ∧ σ.na ≤ i ∧ σ.ns ≤ 16 * i ∧ V B w' s σ ∧ VI σ ∧ Mu B w w' ∧ WT B w' ∧ Has ρ [(0, .pointer (some ⟨s, 0, none⟩)), (1, .slice a ω.n cap), (31, .int .i64 ((ω.n : Nat) : Int)), (32, .int .i64 ((i : Nat) : Int))]) ω.n ⟨0, zv at_ st, by omega, by omega, Nat.zero_le _, Nat.zero_le _, hV.ext (TS.e (by assumption)), hI, hMu.trans (TS.mu (by assumption) hV.B0), TS.t (by assumption), Has.mk ⟨rfl, rfl, rfl, rfl, trivial⟩⟩ ?_
    clear hS2 hMu hV hI hT2 h1 h2 hin hi
    clear at_ st
    rintro m ρ w3 ⟨i, σ, rfl, hi, hna1, hns1, hV, hI, hMu, hT3, ρ', rfl⟩
    have hS3 := hV.start hT3
    by_cases hin : i < ω.n
    · obtain ⟨b, o, rfl, hr⟩ := hAW.rows.resolve_left (by omega)
      have hrW := hr i hin
      have hri := hrW.low (lowOf hMu)
      have hcW := hAW.code i hin
      have hsW := hAW.slots i hin
      have hcn := hok.cn hin
      have hsn := hok.sn hin
      repeat' (first
        | (refine L_cons ?_)
        | (refine R_cons rfl ?_)
        | (refine W_seq ?_)
        | (refine W_region (by kernel_rfl) ?_)
        | (refine L_nil ?_)
        | (refine R_nil ?_)
        | (refine W_block ?_)
        | (refine W_skip ?_)
        | (refine W_exit ?_)
        | (refine W_ret ?_)
        | (guard_target =~ thenQ _ _ _ _ _; first | (refine T_next ?_) | (refine T_exit ?_) | (refine T_ret ?_))
        | (guard_target =~ blockQ _ _ _ _ _; first | (refine B_next ?_) | (refine B_same ?_) | (refine B_other (by kernel_rfl) ?_) | (refine B_ret ?_))
        | (refine W_true rfl rfl ?_)
        | (refine W_false rfl rfl ?_)
        | (guard_target =~ WO _ _ (Oper.mk _ (Op.fieldAddr 90 _ 0) _ _ _ none) _ _ _ _; first | (refine O_field fd90_0 (by decide) rfl ?_) | (refine O_fdT fd90_0 (by decide) rfl ?_))
        | (guard_target =~ WO _ _ (Oper.mk _ (Op.fieldAddr 90 _ 1) _ _ _ none) _ _ _ _; first | (refine O_field fd90_1 (by decide) rfl ?_) | (refine O_fdT fd90_1 (by decide) rfl ?_))
        | (guard_target =~ WO _ _ (Oper.mk _ (Op.fieldAddr 90 _ 2) _ _ _ none) _ _ _ _; first | (refine O_field fd90_2 (by decide) rfl ?_) | (refine O_fdT fd90_2 (by decide) rfl ?_))
        | (guard_target =~ WO _ _ (Oper.mk _ (Op.fieldAddr 90 _ 3) _ _ _ none) _ _ _ _; first | (refine O_field fd90_3 (by decide) rfl ?_) | (refine O_fdT fd90_3 (by decide) rfl ?_))
        | (guard_target =~ WO _ _ (Oper.mk _ (Op.fieldAddr 90 _ 4) _ _ _ none) _ _ _ _; first | (refine O_field fd90_4 (by decide) rfl ?_) | (refine O_fdT fd90_4 (by decide) rfl ?_))
        | (guard_target =~ WO _ _ (Oper.mk _ (Op.indexAddr 35 _ _) _ _ _ none) _ _ _ _; first | (refine O_index_s (m := i) sl35 rfl rfl (by omega) ?_) | (refine O_ixK (by assumption) (by repeat (first | exact List.Mem.head _ | refine List.Mem.tail _ ?_)) sl35 rfl rfl (by omega) (by omega) ?_; rintro _ _ _) | (refine O_ixN (by assumption) (by repeat (first | exact List.Mem.head _ | refine List.Mem.tail _ ?_)) sl35 rfl rfl (by omega) (by omega) ?_; rintro _ _ _ _ _ _))
        | (guard_target =~ WO _ _ (Oper.mk _ (Op.load 24 _) _ _ _ none) _ _ _ _; first | (refine O_ldB (f := ω.ad i) ag24 rfl (hri.ad.ext (TS.e (by assumption))) ?_) | (refine O_ldn8 (by assumption) (by repeat (first | exact List.Mem.head _ | refine List.Mem.tail _ ?_)) ag24 rfl (by first | omega | (simp only [csz]; omega)) (by first | exact layRun0 rfl rfl | exact layRun rfl rfl rfl) ?_; intro _ _))
        | (guard_target =~ WO _ _ (Oper.mk _ (Op.call (Call.mk (Callee.value (Operand.func 78)) _ _)) _ _ _ none) _ _ _ _; first | (refine O_mt (l := [.pointer (some ⟨s, 0, none⟩), .agg (ns .u8 20 _)]) (by assumption) hV hMu cl78 rfl rfl (acctN_ok (TS.t (by assumption)) (hV.ext (TS.e (by assumption))) hI (hAW.rad i)) ?_; rintro _ w4 σ1 ⟨at1, p1, rfl, hSm1, hat0, hat1, hat2, hna2, hns2⟩ hV hI hMu hS4; obtain rfl := hat2 (by omega); obtain ⟨a1, rfl, ha1⟩ : ∃ m : Nat, at1 = m ∧ m < σ1.na := ⟨at1.toNat, by have := hat1 rfl; omega, by have := hat1 rfl; omega⟩; have hna := hI.na; have hns := hI.ns; have hnt := hI.nt; have hnj := hI.nj; have hnm := hI.nm; have hnl := hI.nl; replace hri := hrW.low (lowOf hMu); have rno := hAW.rno i))
        | (guard_target =~ WO _ _ (Oper.mk _ (Op.load 27 _) _ _ _ none) _ _ _ _; first | (refine O_ldV (v := .int .u64 ((ω.no i : Nat) : Int)) (by assumption) on27 rfl hri.no (cell_lt hri.no) ?_) | (refine O_ldV (by assumption) on27 rfl hV.rf hV.lt ?_) | (refine O_ld64 (by assumption) (by repeat (first | exact List.Mem.head _ | refine List.Mem.tail _ ?_)) on27 rfl (by first | omega | (simp only [csz]; omega)) (by first | rfl | exact layMod rfl rfl) ?_; intro _ _))
        | (guard_target =~ WO _ _ (Oper.mk _ (Op.indexAddr 78 _ _) _ _ _ none) _ _ _ _; first | (refine O_ixM (m := a1) (by assumption) (by repeat (first | exact List.Mem.head _ | refine List.Mem.tail _ ?_)) sl78 rfl rfl ha1 ?_; intro b6 hcap6 hb6 _) | (refine O_ixK (by assumption) (by repeat (first | exact List.Mem.head _ | refine List.Mem.tail _ ?_)) sl78 rfl rfl (by omega) (by omega) ?_; rintro _ _ _) | (refine O_ixN (by assumption) (by repeat (first | exact List.Mem.head _ | refine List.Mem.tail _ ?_)) sl78 rfl rfl (by omega) (by omega) ?_; rintro _ _ _ _ _ _))
        | (guard_target =~ WO _ _ (Oper.mk _ (Op.store 27 _ _) _ _ _ none) _ _ _ _; first | (refine O_stM (by assumption) hV hMu (T := 148) (by repeat (first | exact List.Mem.head _ | refine List.Mem.tail _ ?_)) rfl on27 rfl rfl (by simp only [csz]; omega) (okp (c' := 2) (layMod rfl rfl) (ok64 (by omega))) rfl ?_; intro w5 hS5 hMu he5 hV0 hW5; have hV := hV0.acctSet he5 hb6 hW5 (fun i k hk => by simp; omega); replace hri := hrW.low (lowOf hMu)) | (refine O_st (by assumption) (by repeat (first | exact List.Mem.head _ | refine List.Mem.tail _ ?_)) (by omega) on27 rfl rfl (by first | omega | (simp only [csz]; omega)) (by first | exact okp (c' := 2) (by first | rfl | exact layMod rfl rfl) (ok64 (by omega)) | exact okp (c' := 1) (by first | rfl | exact layMod rfl rfl) (ok8 (by omega)) | exact okp (c' := 3) (by first | rfl | exact layMod rfl rfl) (ok32 (by omega) (by omega)) | exact okp (c' := 4) (by first | rfl | exact layMod rfl rfl) okB_) rfl ?_; intro _ _))
        | (guard_target =~ WO _ _ (Oper.mk _ (Op.load 87 _) _ _ _ none) _ _ _ _; first | (refine O_ldB (f := ω.bl i) ag87 rfl (hri.bl.ext (TS.e (by assumption))) ?_) | (refine O_ldn8 (by assumption) (by repeat (first | exact List.Mem.head _ | refine List.Mem.tail _ ?_)) ag87 rfl (by first | omega | (simp only [csz]; omega)) (by first | exact layRun0 rfl rfl | exact layRun rfl rfl rfl) ?_; intro _ _))
        | (guard_target =~ WO _ _ (Oper.mk _ (Op.call (Call.mk (Callee.value (Operand.func 31)) _ _)) _ _ _ none) _ _ _ _; first | (refine O_rd (l := [.agg (ns .u8 32 _)]) (by assumption) cl31 rfl (fromBytes_ok (TS.t (by assumption)) (hAW.rbl i)) ?_; rintro _ _ ⟨g7, hg7, rfl⟩ _ _))
        | (guard_target =~ WO _ _ (Oper.mk _ (Op.store 45 _ _) _ _ _ none) _ _ _ _; first | (refine O_stM64 (by assumption) hV hMu (T := 148) (by repeat (first | exact List.Mem.head _ | refine List.Mem.tail _ ?_)) rfl ag45 rfl rfl (by assumption) (by simp only [csz]; omega) (layRun rfl rfl rfl) rfl ?_; intro w7 hS7 hMu he7 hV0 hW7; have hV := hV0.balSet he7 hb6 hW7; have hI := hI.setBal ha1 hg7; replace hri := hrW.low (lowOf hMu)) | (refine O_stn64 (by assumption) (by repeat (first | exact List.Mem.head _ | refine List.Mem.tail _ ?_)) (by omega) ag45 rfl rfl (by assumption) (by first | omega | (simp only [csz]; omega)) (by first | exact layRun0 rfl rfl | exact layRun rfl rfl rfl) rfl ?_; intro _ _))
        | (guard_target =~ WO _ _ (Oper.mk _ (Op.load 31 _) _ _ _ none) _ _ _ _; first | (refine O_ldV (v := .slice (ω.ca i) (ω.cn i) (ω.cc i)) (by assumption) on31 rfl hri.co (cell_lt hri.co) ?_) | (refine O_lds (t' := 5) (by assumption) (by repeat (first | exact List.Mem.head _ | refine List.Mem.tail _ ?_)) on31 rfl (by first | omega | (simp only [csz]; omega)) (by first | rfl | exact layMod rfl rfl) ?_; intro _ _ _ _ _ _))
        | (guard_target =~ WO _ _ (Oper.mk _ (Op.call (Call.mk (Callee.value (Operand.func 79)) _ _)) _ _ _ none) _ _ _ _; first | (refine O_rd (l := [.slice (ω.ca i) (ω.cn i) (ω.cc i)]) (by assumption) cl79 rfl (copied_arg (TS.t (by assumption)) (by omega) (hAW.rcb i) (hcW.imp id fun ⟨b, o, h1, h2⟩ => ⟨b, o, h1, (h2.low (lowOf hMu)).ext (TS.e (by assumption))⟩)) ?_; rintro _ _ ⟨_, _, _, rfl, hs1⟩ hS1 _; replace hS1 := hS1.addL hs1))
        | (guard_target =~ WO _ _ (Oper.mk _ (Op.store 31 _ _) _ _ _ none) _ _ _ _; first | (refine O_stM (by assumption) hV hMu (T := 148) (by repeat (first | exact List.Mem.head _ | refine List.Mem.tail _ ?_)) rfl on31 rfl rfl (by simp only [csz]; omega) (okp (c' := 100 + 5) (layMod rfl rfl) (okS (TS.slN (by assumption) (by repeat (first | exact List.Mem.head _ | refine List.Mem.tail _ ?_))))) rfl ?_; intro w8 hS8 hMu he8 hV0 hW8; have hV := hV0.acctSet he8 hb6 hW8 (fun i k hk => by simp; omega); replace hri := hrW.low (lowOf hMu)) | (refine O_st (by assumption) (by repeat (first | exact List.Mem.head _ | refine List.Mem.tail _ ?_)) (by omega) on31 rfl rfl (by first | omega | (simp only [csz]; omega)) (okp (c' := 100 + 5) (by first | rfl | exact layMod rfl rfl) (okS (by first | exact Sl.nil _ | exact TS.slN (by assumption) (by repeat (first | exact List.Mem.head _ | refine List.Mem.tail _ ?_))))) rfl ?_; intro _ _))
        | (guard_target =~ WO _ _ (Oper.mk _ (Op.load 88 _) _ _ _ none) _ _ _ _; first | (refine O_ldV (v := .slice (ω.sa i) (ω.sn i) (ω.sc i)) (by assumption) on88 rfl hri.sl (cell_lt hri.sl) ?_) | (refine O_lds (t' := 150) (by assumption) (by repeat (first | exact List.Mem.head _ | refine List.Mem.tail _ ?_)) on88 rfl (by first | omega | (simp only [csz]; omega)) (by first | rfl | exact layMod rfl rfl) ?_; intro _ _ _ _ _ _))
        | (guard_target =~ WO _ _ (Oper.mk _ (Op.load 78 _) _ _ _ none) _ _ _ _; first | (refine O_ldV (by assumption) on78 rfl hV.acc hV.lt ?_) | (refine O_lds (t' := 148) (by assumption) (by repeat (first | exact List.Mem.head _ | refine List.Mem.tail _ ?_)) on78 rfl (by first | omega | (simp only [csz]; omega)) (by first | rfl | exact layMod rfl rfl) ?_; intro _ _ _ _ _ _))
        | (guard_target =~ WO _ _ (Oper.mk _ (Op.load 79 _) _ _ _ none) _ _ _ _; first | (refine O_ldV (by assumption) on79 rfl hV.slo hV.lt ?_) | (refine O_lds (t' := 153) (by assumption) (by repeat (first | exact List.Mem.head _ | refine List.Mem.tail _ ?_)) on79 rfl (by first | omega | (simp only [csz]; omega)) (by first | rfl | exact layMod rfl rfl) ?_; intro _ _ _ _ _ _))
        | (guard_target =~ WO _ _ (Oper.mk _ (Op.load 81 _) _ _ _ none) _ _ _ _; first | (refine O_ldV (by assumption) on81 rfl hV.jou hV.lt ?_))
        | (guard_target =~ WO _ _ (Oper.mk _ (Op.load 46 _) _ _ _ none) _ _ _ _; first | (refine O_ldV (by assumption) on46 rfl hV.log hV.lt ?_))
        | (guard_target =~ WO _ _ (Oper.mk _ (Op.load 83 _) _ _ _ none) _ _ _ _; first | (refine O_ldV (by assumption) on83 rfl hV.tem hV.lt ?_))
        | (guard_target =~ WO _ _ (Oper.mk _ (Op.load 84 _) _ _ _ none) _ _ _ _; first | (refine O_ldV (by assumption) on84 rfl hV.tta hV.lt ?_))
        | (guard_target =~ WO _ _ (Oper.mk _ (Op.load 21 _) _ _ _ none) _ _ _ _; first | (refine O_ldV (by assumption) on21 rfl hV.nmk hV.lt ?_))
        | (guard_target =~ WC _ _ (Code.region 13 _ true) _ _ _; first | (refine W_drawnT (id := 13) [] [0, 1, 2, 3, 4, 5, 6, 7, 8, 9, 10, 11, 12] mixed (by kernel_rfl) (by kernel_rfl) (by assumption) ?_; intro _ _ _))
        | (guard_target =~ WC _ _ (Code.region 14 _ true) _ _ _; first | (refine W_drawnT (id := 14) [10] [0, 1, 2, 3, 4, 5, 6, 7, 8, 9, 10, 11, 12, 13] mixed (by kernel_rfl) (by kernel_rfl) (by assumption) ?_; intro _ _ _))
        | (guard_target =~ WC _ _ (Code.region 15 _ true) _ _ _; first | (refine W_drawnT (id := 15) [10] [0, 1, 2, 3, 4, 5, 6, 7, 8, 9, 10, 11, 12, 13] mixed (by kernel_rfl) (by kernel_rfl) (by assumption) ?_; intro _ _ _))
        | (guard_target =~ WC _ _ (Code.region 20 _ true) _ _ _; first | (refine W_drawnT (id := 20) [7] [0, 1, 2, 3, 4, 5, 6, 7, 8, 9, 10] mixed (by kernel_rfl) (by kernel_rfl) (by assumption) ?_; intro _ _ _))
        | (guard_target =~ WC _ _ (Code.region 21 _ true) _ _ _; first | (refine W_drawnT (id := 21) [] [0, 1, 2, 3, 4, 5, 6, 7, 8, 9, 10, 11, 12, 13, 14, 15] mixed (by kernel_rfl) (by kernel_rfl) (by assumption) ?_; intro _ _ _))
        | (guard_target =~ WO _ _ (Oper.mk _ (Op.assign _) _ _ _ none) _ _ _ _; first | (refine O_assign (v := (.int _ _)) rfl ?_) | (refine O_assign (v := (.bool _)) rfl ?_) | (refine O_assign (v := (.pointer _)) rfl ?_) | (refine O_assign (v := (.slice _ _ _)) rfl ?_) | (refine O_assign (v := (.agg _)) rfl ?_) | (refine O_assign (v := (.tuple _)) rfl ?_))
        | (guard_target =~ WO _ _ (Oper.mk _ (Op.move _) _ _ _ none) _ _ _ _; first | (refine O_move (v := (.int _ _)) rfl ?_) | (refine O_move (v := (.bool _)) rfl ?_) | (refine O_move (v := (.pointer _)) rfl ?_) | (refine O_move (v := (.slice _ _ _)) rfl ?_) | (refine O_move (v := (.agg _)) rfl ?_) | (refine O_move (v := (.tuple _)) rfl ?_))
        | (guard_target =~ WO _ _ (Oper.mk _ (Op.unOp _ _ _) _ _ _ none) _ _ _ _; first | (refine O_not rfl ?_))
        | (guard_target =~ WO _ _ (Oper.mk _ (Op.binOp BinOp.lss 3 _ _ _) _ _ _ none) _ _ _ _; first | (first | (refine O_lssS rfl rfl (fun h => absurd h (by omega)) ?_; intro _) | (refine O_lssS rfl rfl ?_ (fun h => absurd h (by omega)); intro _) | (refine O_lssS rfl rfl ?_ ?_ <;> intro _)))
        | (guard_target =~ WO _ _ (Oper.mk _ (Op.nilCheck _) _ _ _ none) _ _ _ _; first | (refine O_nil rfl ?_))
        | (guard_target =~ WO _ _ (Oper.mk _ (Op.fieldAddr 86 _ 2) _ _ _ none) _ _ _ _; first | (refine O_fdT fd86_2 (by decide) rfl ?_) | (refine O_field fd86_2 (by decide) rfl ?_))
        | (guard_target =~ WO _ _ (Oper.mk _ (Op.indexAddr 80 _ _) _ _ _ none) _ _ _ _; first | (refine O_ixa ar80 rfl rfl (by omega) (by omega) ?_; rintro _ _))
        | (guard_target =~ WO _ _ (Oper.mk _ (Op.store 21 _ _) _ _ _ none) _ _ _ _; first | (refine O_st (by assumption) (by repeat (first | exact List.Mem.head _ | refine List.Mem.tail _ ?_)) (by omega) on21 rfl rfl (by first | omega | (simp only [csz]; omega)) (by first | exact okp (c' := 2) (by first | rfl | exact layMod rfl rfl) (ok64 (by omega)) | exact okp (c' := 1) (by first | rfl | exact layMod rfl rfl) (ok8 (by omega)) | exact okp (c' := 3) (by first | rfl | exact layMod rfl rfl) (ok32 (by omega) (by omega)) | exact okp (c' := 4) (by first | rfl | exact layMod rfl rfl) okB_) rfl ?_; intro _ _))
        | (guard_target =~ WO _ _ (Oper.mk _ (Op.fieldAddr 86 _ 3) _ _ _ none) _ _ _ _; first | (refine O_fdT fd86_3 (by decide) rfl ?_) | (refine O_field fd86_3 (by decide) rfl ?_))
        | (guard_target =~ WO _ _ (Oper.mk _ (Op.binOp BinOp.add 3 _ _ _) _ _ _ none) _ _ _ _; first | (refine O_addZ rfl rfl (by simp only [rngZ]; omega) ?_))
        | (guard_target =~ WO _ _ (Oper.mk _ (Op.call _) _ _ _ none) _ _ _ _; first | (refine O_len Samg.underlying35 rfl rfl ?_) | (refine O_len Samg.underlying88 rfl rfl ?_))
        | (guard_target =~ WO _ _ (Oper.mk _ (Op.extract _ _) _ _ _ none) _ _ _ _; first | (refine O_extract rfl rfl ?_))
        | (guard_target =~ WO _ _ (Oper.mk _ (Op.fieldAddr 86 _ 0) _ _ _ none) _ _ _ _; first | (refine O_fdT fd86_0 (by decide) rfl ?_) | (refine O_field fd86_0 (by decide) rfl ?_))
        | (guard_target =~ WO _ _ (Oper.mk _ (Op.fieldAddr 148 _ 1) _ _ _ none) _ _ _ _; first | (refine O_fdT fd148_1 (by decide) rfl ?_) | (refine O_field fd148_1 (by decide) rfl ?_))
        | (guard_target =~ WO _ _ (Oper.mk _ (Op.fieldAddr 148 _ 2) _ _ _ none) _ _ _ _; first | (refine O_fdT fd148_2 (by decide) rfl ?_) | (refine O_field fd148_2 (by decide) rfl ?_))
        | (guard_target =~ WO _ _ (Oper.mk _ (Op.fieldAddr 148 _ 3) _ _ _ none) _ _ _ _; first | (refine O_fdT fd148_3 (by decide) rfl ?_) | (refine O_field fd148_3 (by decide) rfl ?_))
        | (guard_target =~ WO _ _ (Oper.mk _ (Op.indexAddr 88 _ _) _ _ _ none) _ _ _ _; first | (refine O_ixK (by assumption) (by repeat (first | exact List.Mem.head _ | refine List.Mem.tail _ ?_)) sl88 rfl rfl (by omega) (by omega) ?_; rintro _ _ _) | (refine O_ixN (by assumption) (by repeat (first | exact List.Mem.head _ | refine List.Mem.tail _ ?_)) sl88 rfl rfl (by omega) (by omega) ?_; rintro _ _ _ _ _ _))
        | (guard_target =~ WO _ _ (Oper.mk _ (Op.load 150 _) _ _ _ none) _ _ _ _; first | (refine O_lda (by assumption) (by repeat (first | exact List.Mem.head _ | refine List.Mem.tail _ ?_)) ag150 rfl (by first | omega | (simp only [csz]; omega)) (by first | exact laySub0 rfl rfl | exact laySub rfl rfl rfl | exact laySame (by decide)) ?_; intro _ _ _))
        | (guard_target =~ WO _ _ (Oper.mk _ (Op.alloc 150) _ _ _ none) _ _ _ _; first | (refine O_al (by assumption) zc150 (by decide) ?_; intro _ _ _ _))
        | (guard_target =~ WO _ _ (Oper.mk _ (Op.store 150 _ _) _ _ _ none) _ _ _ _; first | (refine O_sts (by assumption) (by repeat (first | exact List.Mem.head _ | refine List.Mem.tail _ ?_)) (by omega) (by repeat (first | exact List.Mem.head _ | refine List.Mem.tail _ ?_)) ag150 rfl rfl (by first | omega | (simp only [csz]; omega)) (by first | exact laySub0 rfl rfl | exact laySub rfl rfl rfl | exact laySame (by decide)) rfl ?_; intro _ _))
        | (guard_target =~ WO _ _ (Oper.mk _ (Op.fieldAddr 150 _ 0) _ _ _ none) _ _ _ _; first | (refine O_fdT fd150_0 (by decide) rfl ?_) | (refine O_field fd150_0 (by decide) rfl ?_))
        | (guard_target =~ WO _ _ (Oper.mk _ (Op.fieldAddr 86 _ 1) _ _ _ none) _ _ _ _; first | (refine O_fdT fd86_1 (by decide) rfl ?_) | (refine O_field fd86_1 (by decide) rfl ?_))
        | (guard_target =~ WO _ _ (Oper.mk _ (Op.fieldAddr 150 _ 1) _ _ _ none) _ _ _ _; first | (refine O_fdT fd150_1 (by decide) rfl ?_) | (refine O_field fd150_1 (by decide) rfl ?_))
        | (guard_target =~ WO _ _ (Oper.mk _ (Op.indexAddr 79 _ _) _ _ _ none) _ _ _ _; first | (refine O_ixK (by assumption) (by repeat (first | exact List.Mem.head _ | refine List.Mem.tail _ ?_)) sl79 rfl rfl (by omega) (by omega) ?_; rintro _ _ _) | (refine O_ixN (by assumption) (by repeat (first | exact List.Mem.head _ | refine List.Mem.tail _ ?_)) sl79 rfl rfl (by omega) (by omega) ?_; rintro _ _ _ _ _ _))
        | (guard_target =~ WO _ _ (Oper.mk _ (Op.fieldAddr 153 _ 2) _ _ _ none) _ _ _ _; first | (refine O_fdT fd153_2 (by decide) rfl ?_) | (refine O_field fd153_2 (by decide) rfl ?_))
        | (guard_target =~ WO _ _ (Oper.mk _ (Op.load 45 _) _ _ _ none) _ _ _ _; first | (refine O_ldn64 (by assumption) (by repeat (first | exact List.Mem.head _ | refine List.Mem.tail _ ?_)) ag45 rfl (by first | omega | (simp only [csz]; omega)) (by first | exact layRun0 rfl rfl | exact layRun rfl rfl rfl) ?_; intro _ _))
        | (guard_target =~ WO _ _ (Oper.mk _ (Op.fieldAddr 153 _ 3) _ _ _ none) _ _ _ _; first | (refine O_fdT fd153_3 (by decide) rfl ?_) | (refine O_field fd153_3 (by decide) rfl ?_)))
      clear hS3 hS4 hS5 hS7
      refine W_loop (fun m ρ w' => ∃ (j : Nat) (σ2 : VS), m = ω.sn i - j ∧ j ≤ ω.sn i ∧ a1 < σ2.na ∧ σ2.na ≤ i + 1 ∧ σ2.ns ≤ 16 * i + j ∧ V B w' s σ2 ∧ VI σ2 ∧ Mu B w w' ∧ WT B w' ∧ Has ρ [(0, .pointer (some ⟨s, 0, none⟩)), (1, .slice (some ⟨b, o, none⟩) ω.n cap), (7, .int .i32 ((a1 : Nat) : Int)), (31, .int .i64 ((ω.n : Nat) : Int)), (32, .int .i64 ((i : Nat) : Int)), (87, .slice (ω.sa i) (ω.sn i) (ω.sc i)), (88, .int .i64 ((ω.sn i : Nat) : Int)), (89, .int .i64 ((j : Nat) : Int))]) (ω.sn i) ⟨0, { σ1 with bal := fun i k => if i = a1 then g7 k else σ1.bal i k }, by omega, by omega, ha1, show σ1.na ≤ i + 1 by omega, show σ1.ns ≤ 16 * i + 0 by omega, hV.ext (TS.e (by assumption)), hI, hMu.trans (TS.mu (by assumption) hV.B0), TS.t (by assumption), Has.mk ⟨rfl, rfl, rfl, rfl, rfl, rfl, rfl, rfl, trivial⟩⟩ ?_
      clear hS8 hMu hV hI hri hna1 hns1
      rintro m ρ w9 ⟨j, σ2, rfl, hj, ha2, hna4, hns4, hV, hI, hMu, hT9, ρ', rfl⟩
      have hS9 := hV.start hT9
      by_cases hjn : j < ω.sn i
      · obtain ⟨bs, os, hsa, hrow⟩ := hsW.resolve_left (by omega)
        have h64 := (By.join (hrow j hjn).1 (hrow j hjn).2).low (lowOf hMu)
        have hF : ∀ q, (if q < 32 then ω.ky i j q else ω.vl i j (q - 32)) < 256 := fun q => by
          split
          · exact hAW.rky i j q
          · exact hAW.rvl i j (q - 32)
        repeat' (first
          | (refine L_cons ?_)
          | (refine R_cons rfl ?_)
          | (refine W_seq ?_)
          | (refine W_region (by kernel_rfl) ?_)
          | (refine L_nil ?_)
          | (refine R_nil ?_)
          | (refine W_block ?_)
          | (refine W_skip ?_)
          | (refine W_exit ?_)
          | (refine W_ret ?_)
          | (guard_target =~ thenQ _ _ _ _ _; first | (refine T_next ?_) | (refine T_exit ?_) | (refine T_ret ?_))
          | (guard_target =~ blockQ _ _ _ _ _; first | (refine B_next ?_) | (refine B_same ?_) | (refine B_other (by kernel_rfl) ?_) | (refine B_ret ?_))
          | (refine W_true rfl rfl ?_)
          | (refine W_false rfl rfl ?_)
          | (guard_target =~ WO _ _ (Oper.mk _ (Op.indexAddr 88 _ _) _ _ _ none) _ _ _ _; first | (refine O_index_s (m := j) sl88 (congrArg (fun x => Value.slice x (ω.sn i) (ω.sc i)) hsa) rfl (by omega) ?_) | (refine O_ixK (by assumption) (by repeat (first | exact List.Mem.head _ | refine List.Mem.tail _ ?_)) sl88 rfl rfl (by omega) (by omega) ?_; rintro _ _ _) | (refine O_ixN (by assumption) (by repeat (first | exact List.Mem.head _ | refine List.Mem.tail _ ?_)) sl88 rfl rfl (by omega) (by omega) ?_; rintro _ _ _ _ _ _))
          | (guard_target =~ WO _ _ (Oper.mk _ (Op.load 150 _) _ _ _ none) _ _ _ _; first | (refine O_ldB ag150 rfl (h64.ext (TS.e (by assumption))) ?_) | (refine O_lda (by assumption) (by repeat (first | exact List.Mem.head _ | refine List.Mem.tail _ ?_)) ag150 rfl (by first | omega | (simp only [csz]; omega)) (by first | exact laySub0 rfl rfl | exact laySub rfl rfl rfl | exact laySame (by decide)) ?_; intro _ _ _))
          | (guard_target =~ WO _ _ (Oper.mk _ (Op.store 150 _ _) _ _ _ none) _ _ _ _; first | (refine O_stn8 (by assumption) (by repeat (first | exact List.Mem.head _ | refine List.Mem.tail _ ?_)) (by omega) ag150 rfl rfl hF (by simp only [csz]; omega) (layRun0 rfl rfl) rfl ?_; intro _ _) | (refine O_sts (by assumption) (by repeat (first | exact List.Mem.head _ | refine List.Mem.tail _ ?_)) (by omega) (by repeat (first | exact List.Mem.head _ | refine List.Mem.tail _ ?_)) ag150 rfl rfl (by first | omega | (simp only [csz]; omega)) (by first | exact laySub0 rfl rfl | exact laySub rfl rfl rfl | exact laySame (by decide)) rfl ?_; intro _ _))
          | (guard_target =~ WO _ _ (Oper.mk _ (Op.call (Call.mk (Callee.value (Operand.func 31)) _ _)) _ _ _ none) _ _ _ _; first | (refine O_rd (l := [.agg (ns .u8 32 _)]) (by assumption) cl31 rfl (fromBytes_ok (TS.t (by assumption)) (by assumption)) ?_; rintro _ _ ⟨g7, hg7, rfl⟩ _ _))
          | (guard_target =~ WO _ _ (Oper.mk _ (Op.call (Call.mk (Callee.value (Operand.func 80)) _ _)) _ _ _ none) _ _ _ _; first | (refine O_mt (l := [.pointer (some ⟨s, 0, none⟩), .int .i32 ((a1 : Nat) : Int), .agg (ns .u64 4 _)]) (by assumption) hV hMu cl80 rfl rfl (slotN_ok (TS.t (by assumption)) (hV.ext (TS.e (by assumption))) hI (by omega) (by assumption)) ?_; rintro _ w4 σ3 ⟨at2, p2, rfl, hSm2, hat3, hat4, hat5, hns5, hna5⟩ hV hI hMu hS4; obtain rfl := hat5 (by omega); obtain ⟨q1, rfl, hq1⟩ : ∃ m : Nat, at2 = m ∧ m < σ3.ns := ⟨at2.toNat, by have := hat4 rfl; omega, by have := hat4 rfl; omega⟩; have hna := hI.na; have hns := hI.ns; have hnt := hI.nt; have hnj := hI.nj; have hnm := hI.nm; have hnl := hI.nl))
          | (guard_target =~ WO _ _ (Oper.mk _ (Op.indexAddr 79 _ _) _ _ _ none) _ _ _ _; first | (refine O_ixM (m := q1) (by assumption) (by repeat (first | exact List.Mem.head _ | refine List.Mem.tail _ ?_)) sl79 rfl rfl hq1 ?_; intro b6 hcap6 hb6 _) | (refine O_ixK (by assumption) (by repeat (first | exact List.Mem.head _ | refine List.Mem.tail _ ?_)) sl79 rfl rfl (by omega) (by omega) ?_; rintro _ _ _) | (refine O_ixN (by assumption) (by repeat (first | exact List.Mem.head _ | refine List.Mem.tail _ ?_)) sl79 rfl rfl (by omega) (by omega) ?_; rintro _ _ _ _ _ _))
          | (guard_target =~ WO _ _ (Oper.mk _ (Op.store 45 (Operand.tmp 111) _) _ _ _ none) _ _ _ _; first | (refine O_stM64 (by assumption) hV hMu (T := 153) (by repeat (first | exact List.Mem.head _ | refine List.Mem.tail _ ?_)) rfl ag45 rfl rfl (by assumption) (by simp only [csz]; omega) (layRun rfl rfl rfl) rfl ?_; intro w7 hS7 hMu he7 hV0 hW7; have hV := hV0.valSet he7 hb6 hW7; have hI := hI.setVal hq1 hg7))
          | (guard_target =~ WO _ _ (Oper.mk _ (Op.load 45 _) _ _ _ none) _ _ _ _; first | (refine O_ldn64 (T := 153) (by assumption) (by repeat (first | exact List.Mem.head _ | refine List.Mem.tail _ ?_)) ag45 rfl (by simp only [csz]; omega) (layRun rfl rfl rfl) ?_; intro g8 hg8) | (refine O_ldn64 (by assumption) (by repeat (first | exact List.Mem.head _ | refine List.Mem.tail _ ?_)) ag45 rfl (by first | omega | (simp only [csz]; omega)) (by first | exact layRun0 rfl rfl | exact layRun rfl rfl rfl) ?_; intro _ _))
          | (guard_target =~ WO _ _ (Oper.mk _ (Op.store 45 (Operand.tmp 126) _) _ _ _ none) _ _ _ _; first | (refine O_stM64 (by assumption) hV hMu (T := 153) (by repeat (first | exact List.Mem.head _ | refine List.Mem.tail _ ?_)) rfl ag45 rfl rfl (by assumption) (by simp only [csz]; omega) (layRun rfl rfl rfl) rfl ?_; intro w8 hS8 hMu he8 hV0 hW8; have hV := hV0.origSet he8 hb6 hW8; have hI := hI.setOrig hq1 hg8))
          | (guard_target =~ WO _ _ (Oper.mk _ (Op.load 78 _) _ _ _ none) _ _ _ _; first | (refine O_ldV (by assumption) on78 rfl hV.acc hV.lt ?_) | (refine O_lds (t' := 148) (by assumption) (by repeat (first | exact List.Mem.head _ | refine List.Mem.tail _ ?_)) on78 rfl (by first | omega | (simp only [csz]; omega)) (by first | rfl | exact layMod rfl rfl) ?_; intro _ _ _ _ _ _))
          | (guard_target =~ WO _ _ (Oper.mk _ (Op.load 79 _) _ _ _ none) _ _ _ _; first | (refine O_ldV (by assumption) on79 rfl hV.slo hV.lt ?_) | (refine O_lds (t' := 153) (by assumption) (by repeat (first | exact List.Mem.head _ | refine List.Mem.tail _ ?_)) on79 rfl (by first | omega | (simp only [csz]; omega)) (by first | rfl | exact layMod rfl rfl) ?_; intro _ _ _ _ _ _))
          | (guard_target =~ WO _ _ (Oper.mk _ (Op.load 81 _) _ _ _ none) _ _ _ _; first | (refine O_ldV (by assumption) on81 rfl hV.jou hV.lt ?_))
          | (guard_target =~ WO _ _ (Oper.mk _ (Op.load 46 _) _ _ _ none) _ _ _ _; first | (refine O_ldV (by assumption) on46 rfl hV.log hV.lt ?_))
          | (guard_target =~ WO _ _ (Oper.mk _ (Op.load 83 _) _ _ _ none) _ _ _ _; first | (refine O_ldV (by assumption) on83 rfl hV.tem hV.lt ?_))
          | (guard_target =~ WO _ _ (Oper.mk _ (Op.load 84 _) _ _ _ none) _ _ _ _; first | (refine O_ldV (by assumption) on84 rfl hV.tta hV.lt ?_))
          | (guard_target =~ WO _ _ (Oper.mk _ (Op.load 21 _) _ _ _ none) _ _ _ _; first | (refine O_ldV (by assumption) on21 rfl hV.nmk hV.lt ?_))
          | (guard_target =~ WO _ _ (Oper.mk _ (Op.load 27 _) _ _ _ none) _ _ _ _; first | (refine O_ldV (by assumption) on27 rfl hV.rf hV.lt ?_) | (refine O_ld64 (by assumption) (by repeat (first | exact List.Mem.head _ | refine List.Mem.tail _ ?_)) on27 rfl (by first | omega | (simp only [csz]; omega)) (by first | rfl | exact layMod rfl rfl) ?_; intro _ _))
          | (guard_target =~ WC _ _ (Code.region 13 _ true) _ _ _; first | (refine W_drawnT (id := 13) [] [0, 1, 2, 3, 4, 5, 6, 7, 8, 9, 10, 11, 12] mixed (by kernel_rfl) (by kernel_rfl) (by assumption) ?_; intro _ _ _))
          | (guard_target =~ WC _ _ (Code.region 14 _ true) _ _ _; first | (refine W_drawnT (id := 14) [10] [0, 1, 2, 3, 4, 5, 6, 7, 8, 9, 10, 11, 12, 13] mixed (by kernel_rfl) (by kernel_rfl) (by assumption) ?_; intro _ _ _))
          | (guard_target =~ WC _ _ (Code.region 15 _ true) _ _ _; first | (refine W_drawnT (id := 15) [10] [0, 1, 2, 3, 4, 5, 6, 7, 8, 9, 10, 11, 12, 13] mixed (by kernel_rfl) (by kernel_rfl) (by assumption) ?_; intro _ _ _))
          | (guard_target =~ WC _ _ (Code.region 20 _ true) _ _ _; first | (refine W_drawnT (id := 20) [7] [0, 1, 2, 3, 4, 5, 6, 7, 8, 9, 10] mixed (by kernel_rfl) (by kernel_rfl) (by assumption) ?_; intro _ _ _))
          | (guard_target =~ WC _ _ (Code.region 21 _ true) _ _ _; first | (refine W_drawnT (id := 21) [] [0, 1, 2, 3, 4, 5, 6, 7, 8, 9, 10, 11, 12, 13, 14, 15] mixed (by kernel_rfl) (by kernel_rfl) (by assumption) ?_; intro _ _ _))
          | (guard_target =~ WO _ _ (Oper.mk _ (Op.assign _) _ _ _ none) _ _ _ _; first | (refine O_assign (v := (.int _ _)) rfl ?_) | (refine O_assign (v := (.bool _)) rfl ?_) | (refine O_assign (v := (.pointer _)) rfl ?_) | (refine O_assign (v := (.slice _ _ _)) rfl ?_) | (refine O_assign (v := (.agg _)) rfl ?_) | (refine O_assign (v := (.tuple _)) rfl ?_))
          | (guard_target =~ WO _ _ (Oper.mk _ (Op.move _) _ _ _ none) _ _ _ _; first | (refine O_move (v := (.int _ _)) rfl ?_) | (refine O_move (v := (.bool _)) rfl ?_) | (refine O_move (v := (.pointer _)) rfl ?_) | (refine O_move (v := (.slice _ _ _)) rfl ?_) | (refine O_move (v := (.agg _)) rfl ?_) | (refine O_move (v := (.tuple _)) rfl ?_))
          | (guard_target =~ WO _ _ (Oper.mk _ (Op.unOp _ _ _) _ _ _ none) _ _ _ _; first | (refine O_not rfl ?_))
          | (guard_target =~ WO _ _ (Oper.mk _ (Op.binOp BinOp.lss 3 _ _ _) _ _ _ none) _ _ _ _; first | (first | (refine O_lssS rfl rfl (fun h => absurd h (by omega)) ?_; intro _) | (refine O_lssS rfl rfl ?_ (fun h => absurd h (by omega)); intro _) | (refine O_lssS rfl rfl ?_ ?_ <;> intro _)))
          | (guard_target =~ WO _ _ (Oper.mk _ (Op.nilCheck _) _ _ _ none) _ _ _ _; first | (refine O_nil rfl ?_))
          | (guard_target =~ WO _ _ (Oper.mk _ (Op.fieldAddr 86 _ 2) _ _ _ none) _ _ _ _; first | (refine O_fdT fd86_2 (by decide) rfl ?_) | (refine O_field fd86_2 (by decide) rfl ?_))
          | (guard_target =~ WO _ _ (Oper.mk _ (Op.indexAddr 80 _ _) _ _ _ none) _ _ _ _; first | (refine O_ixa ar80 rfl rfl (by omega) (by omega) ?_; rintro _ _))
          | (guard_target =~ WO _ _ (Oper.mk _ (Op.store 21 _ _) _ _ _ none) _ _ _ _; first | (refine O_st (by assumption) (by repeat (first | exact List.Mem.head _ | refine List.Mem.tail _ ?_)) (by omega) on21 rfl rfl (by first | omega | (simp only [csz]; omega)) (by first | exact okp (c' := 2) (by first | rfl | exact layMod rfl rfl) (ok64 (by omega)) | exact okp (c' := 1) (by first | rfl | exact layMod rfl rfl) (ok8 (by omega)) | exact okp (c' := 3) (by first | rfl | exact layMod rfl rfl) (ok32 (by omega) (by omega)) | exact okp (c' := 4) (by first | rfl | exact layMod rfl rfl) okB_) rfl ?_; intro _ _))
          | (guard_target =~ WO _ _ (Oper.mk _ (Op.fieldAddr 86 _ 3) _ _ _ none) _ _ _ _; first | (refine O_fdT fd86_3 (by decide) rfl ?_) | (refine O_field fd86_3 (by decide) rfl ?_))
          | (guard_target =~ WO _ _ (Oper.mk _ (Op.binOp BinOp.add 3 _ _ _) _ _ _ none) _ _ _ _; first | (refine O_addZ rfl rfl (by simp only [rngZ]; omega) ?_))
          | (guard_target =~ WO _ _ (Oper.mk _ (Op.call _) _ _ _ none) _ _ _ _; first | (refine O_len Samg.underlying35 rfl rfl ?_) | (refine O_len Samg.underlying88 rfl rfl ?_))
          | (guard_target =~ WO _ _ (Oper.mk _ (Op.indexAddr 35 _ _) _ _ _ none) _ _ _ _; first | (refine O_ixK (by assumption) (by repeat (first | exact List.Mem.head _ | refine List.Mem.tail _ ?_)) sl35 rfl rfl (by omega) (by omega) ?_; rintro _ _ _) | (refine O_ixN (by assumption) (by repeat (first | exact List.Mem.head _ | refine List.Mem.tail _ ?_)) sl35 rfl rfl (by omega) (by omega) ?_; rintro _ _ _ _ _ _))
          | (guard_target =~ WO _ _ (Oper.mk _ (Op.fieldAddr 90 _ 0) _ _ _ none) _ _ _ _; first | (refine O_fdT fd90_0 (by decide) rfl ?_) | (refine O_field fd90_0 (by decide) rfl ?_))
          | (guard_target =~ WO _ _ (Oper.mk _ (Op.load 24 _) _ _ _ none) _ _ _ _; first | (refine O_ldn8 (by assumption) (by repeat (first | exact List.Mem.head _ | refine List.Mem.tail _ ?_)) ag24 rfl (by first | omega | (simp only [csz]; omega)) (by first | exact layRun0 rfl rfl | exact layRun rfl rfl rfl) ?_; intro _ _))
          | (guard_target =~ WO _ _ (Oper.mk _ (Op.extract _ _) _ _ _ none) _ _ _ _; first | (refine O_extract rfl rfl ?_))
          | (guard_target =~ WO _ _ (Oper.mk _ (Op.fieldAddr 86 _ 0) _ _ _ none) _ _ _ _; first | (refine O_fdT fd86_0 (by decide) rfl ?_) | (refine O_field fd86_0 (by decide) rfl ?_))
          | (guard_target =~ WO _ _ (Oper.mk _ (Op.fieldAddr 90 _ 1) _ _ _ none) _ _ _ _; first | (refine O_fdT fd90_1 (by decide) rfl ?_) | (refine O_field fd90_1 (by decide) rfl ?_))
          | (guard_target =~ WO _ _ (Oper.mk _ (Op.indexAddr 78 _ _) _ _ _ none) _ _ _ _; first | (refine O_ixK (by assumption) (by repeat (first | exact List.Mem.head _ | refine List.Mem.tail _ ?_)) sl78 rfl rfl (by omega) (by omega) ?_; rintro _ _ _) | (refine O_ixN (by assumption) (by repeat (first | exact List.Mem.head _ | refine List.Mem.tail _ ?_)) sl78 rfl rfl (by omega) (by omega) ?_; rintro _ _ _ _ _ _))
          | (guard_target =~ WO _ _ (Oper.mk _ (Op.fieldAddr 148 _ 1) _ _ _ none) _ _ _ _; first | (refine O_fdT fd148_1 (by decide) rfl ?_) | (refine O_field fd148_1 (by decide) rfl ?_))
          | (guard_target =~ WO _ _ (Oper.mk _ (Op.store 27 _ _) _ _ _ none) _ _ _ _; first | (refine O_st (by assumption) (by repeat (first | exact List.Mem.head _ | refine List.Mem.tail _ ?_)) (by omega) on27 rfl rfl (by first | omega | (simp only [csz]; omega)) (by first | exact okp (c' := 2) (by first | rfl | exact layMod rfl rfl) (ok64 (by omega)) | exact okp (c' := 1) (by first | rfl | exact layMod rfl rfl) (ok8 (by omega)) | exact okp (c' := 3) (by first | rfl | exact layMod rfl rfl) (ok32 (by omega) (by omega)) | exact okp (c' := 4) (by first | rfl | exact layMod rfl rfl) okB_) rfl ?_; intro _ _))
          | (guard_target =~ WO _ _ (Oper.mk _ (Op.fieldAddr 90 _ 2) _ _ _ none) _ _ _ _; first | (refine O_fdT fd90_2 (by decide) rfl ?_) | (refine O_field fd90_2 (by decide) rfl ?_))
          | (guard_target =~ WO _ _ (Oper.mk _ (Op.load 87 _) _ _ _ none) _ _ _ _; first | (refine O_ldn8 (by assumption) (by repeat (first | exact List.Mem.head _ | refine List.Mem.tail _ ?_)) ag87 rfl (by first | omega | (simp only [csz]; omega)) (by first | exact layRun0 rfl rfl | exact layRun rfl rfl rfl) ?_; intro _ _))
          | (guard_target =~ WO _ _ (Oper.mk _ (Op.fieldAddr 148 _ 2) _ _ _ none) _ _ _ _; first | (refine O_fdT fd148_2 (by decide) rfl ?_) | (refine O_field fd148_2 (by decide) rfl ?_))
          | (guard_target =~ WO _ _ (Oper.mk _ (Op.store 45 _ _) _ _ _ none) _ _ _ _; first | (refine O_stn64 (by assumption) (by repeat (first | exact List.Mem.head _ | refine List.Mem.tail _ ?_)) (by omega) ag45 rfl rfl (by assumption) (by first | omega | (simp only [csz]; omega)) (by first | exact layRun0 rfl rfl | exact layRun rfl rfl rfl) rfl ?_; intro _ _))
          | (guard_target =~ WO _ _ (Oper.mk _ (Op.fieldAddr 90 _ 3) _ _ _ none) _ _ _ _; first | (refine O_fdT fd90_3 (by decide) rfl ?_) | (refine O_field fd90_3 (by decide) rfl ?_))
          | (guard_target =~ WO _ _ (Oper.mk _ (Op.load 31 _) _ _ _ none) _ _ _ _; first | (refine O_lds (t' := 5) (by assumption) (by repeat (first | exact List.Mem.head _ | refine List.Mem.tail _ ?_)) on31 rfl (by first | omega | (simp only [csz]; omega)) (by first | rfl | exact layMod rfl rfl) ?_; intro _ _ _ _ _ _))
          | (guard_target =~ WO _ _ (Oper.mk _ (Op.fieldAddr 148 _ 3) _ _ _ none) _ _ _ _; first | (refine O_fdT fd148_3 (by decide) rfl ?_) | (refine O_field fd148_3 (by decide) rfl ?_))
          | (guard_target =~ WO _ _ (Oper.mk _ (Op.store 31 _ _) _ _ _ none) _ _ _ _; first | (refine O_st (by assumption) (by repeat (first | exact List.Mem.head _ | refine List.Mem.tail _ ?_)) (by omega) on31 rfl rfl (by first | omega | (simp only [csz]; omega)) (okp (c' := 100 + 5) (by first | rfl | exact layMod rfl rfl) (okS (by first | exact Sl.nil _ | exact TS.slN (by assumption) (by repeat (first | exact List.Mem.head _ | refine List.Mem.tail _ ?_))))) rfl ?_; intro _ _))
          | (guard_target =~ WO _ _ (Oper.mk _ (Op.fieldAddr 90 _ 4) _ _ _ none) _ _ _ _; first | (refine O_fdT fd90_4 (by decide) rfl ?_) | (refine O_field fd90_4 (by decide) rfl ?_))
          | (guard_target =~ WO _ _ (Oper.mk _ (Op.load 88 _) _ _ _ none) _ _ _ _; first | (refine O_lds (t' := 150) (by assumption) (by repeat (first | exact List.Mem.head _ | refine List.Mem.tail _ ?_)) on88 rfl (by first | omega | (simp only [csz]; omega)) (by first | rfl | exact layMod rfl rfl) ?_; intro _ _ _ _ _ _))
          | (guard_target =~ WO _ _ (Oper.mk _ (Op.alloc 150) _ _ _ none) _ _ _ _; first | (refine O_al (by assumption) zc150 (by decide) ?_; intro _ _ _ _))
          | (guard_target =~ WO _ _ (Oper.mk _ (Op.fieldAddr 150 _ 0) _ _ _ none) _ _ _ _; first | (refine O_fdT fd150_0 (by decide) rfl ?_) | (refine O_field fd150_0 (by decide) rfl ?_))
          | (guard_target =~ WO _ _ (Oper.mk _ (Op.fieldAddr 86 _ 1) _ _ _ none) _ _ _ _; first | (refine O_fdT fd86_1 (by decide) rfl ?_) | (refine O_field fd86_1 (by decide) rfl ?_))
          | (guard_target =~ WO _ _ (Oper.mk _ (Op.fieldAddr 150 _ 1) _ _ _ none) _ _ _ _; first | (refine O_fdT fd150_1 (by decide) rfl ?_) | (refine O_field fd150_1 (by decide) rfl ?_))
          | (guard_target =~ WO _ _ (Oper.mk _ (Op.fieldAddr 153 _ 2) _ _ _ none) _ _ _ _; first | (refine O_fdT fd153_2 (by decide) rfl ?_) | (refine O_field fd153_2 (by decide) rfl ?_))
          | (guard_target =~ WO _ _ (Oper.mk _ (Op.fieldAddr 153 _ 3) _ _ _ none) _ _ _ _; first | (refine O_fdT fd153_3 (by decide) rfl ?_) | (refine O_field fd153_3 (by decide) rfl ?_)))
        exact ⟨ω.sn i - (j + 1), by omega, j + 1, { σ3 with val := fun i k => if i = q1 then g7 k else σ3.val i k, orig := fun i k => if i = q1 then g8 k else σ3.orig i k }, rfl, by omega, show a1 < σ3.na by omega, show σ3.na ≤ i + 1 by omega, show σ3.ns ≤ 16 * i + (j + 1) by omega, hV, hI, hMu, hS8.t, Has.mk ⟨rfl, rfl, rfl, rfl, rfl, rfl, rfl, rfl, trivial⟩⟩
      · repeat' (first
          | (refine L_cons ?_)
          | (refine R_cons rfl ?_)
          | (refine W_seq ?_)
          | (refine W_region (by kernel_rfl) ?_)
          | (refine L_nil ?_)
          | (refine R_nil ?_)
          | (refine W_block ?_)
          | (refine W_skip ?_)
          | (refine W_exit ?_)
          | (refine W_ret ?_)
          | (guard_target =~ thenQ _ _ _ _ _; first | (refine T_next ?_) | (refine T_exit ?_) | (refine T_ret ?_))
          | (guard_target =~ blockQ _ _ _ _ _; first | (refine B_next ?_) | (refine B_same ?_) | (refine B_other (by kernel_rfl) ?_) | (refine B_ret ?_))
          | (refine W_true rfl rfl ?_)
          | (refine W_false rfl rfl ?_)
          | (guard_target =~ WO _ _ (Oper.mk _ (Op.load 78 _) _ _ _ none) _ _ _ _; first | (refine O_ldV (by assumption) on78 rfl hV.acc hV.lt ?_) | (refine O_lds (t' := 148) (by assumption) (by repeat (first | exact List.Mem.head _ | refine List.Mem.tail _ ?_)) on78 rfl (by first | omega | (simp only [csz]; omega)) (by first | rfl | exact layMod rfl rfl) ?_; intro _ _ _ _ _ _))
          | (guard_target =~ WO _ _ (Oper.mk _ (Op.load 79 _) _ _ _ none) _ _ _ _; first | (refine O_ldV (by assumption) on79 rfl hV.slo hV.lt ?_) | (refine O_lds (t' := 153) (by assumption) (by repeat (first | exact List.Mem.head _ | refine List.Mem.tail _ ?_)) on79 rfl (by first | omega | (simp only [csz]; omega)) (by first | rfl | exact layMod rfl rfl) ?_; intro _ _ _ _ _ _))
          | (guard_target =~ WO _ _ (Oper.mk _ (Op.load 81 _) _ _ _ none) _ _ _ _; first | (refine O_ldV (by assumption) on81 rfl hV.jou hV.lt ?_))
          | (guard_target =~ WO _ _ (Oper.mk _ (Op.load 46 _) _ _ _ none) _ _ _ _; first | (refine O_ldV (by assumption) on46 rfl hV.log hV.lt ?_))
          | (guard_target =~ WO _ _ (Oper.mk _ (Op.load 83 _) _ _ _ none) _ _ _ _; first | (refine O_ldV (by assumption) on83 rfl hV.tem hV.lt ?_))
          | (guard_target =~ WO _ _ (Oper.mk _ (Op.load 84 _) _ _ _ none) _ _ _ _; first | (refine O_ldV (by assumption) on84 rfl hV.tta hV.lt ?_))
          | (guard_target =~ WO _ _ (Oper.mk _ (Op.load 21 _) _ _ _ none) _ _ _ _; first | (refine O_ldV (by assumption) on21 rfl hV.nmk hV.lt ?_))
          | (guard_target =~ WO _ _ (Oper.mk _ (Op.load 27 _) _ _ _ none) _ _ _ _; first | (refine O_ldV (by assumption) on27 rfl hV.rf hV.lt ?_) | (refine O_ld64 (by assumption) (by repeat (first | exact List.Mem.head _ | refine List.Mem.tail _ ?_)) on27 rfl (by first | omega | (simp only [csz]; omega)) (by first | rfl | exact layMod rfl rfl) ?_; intro _ _))
          | (guard_target =~ WC _ _ (Code.region 13 _ true) _ _ _; first | (refine W_drawnT (id := 13) [] [0, 1, 2, 3, 4, 5, 6, 7, 8, 9, 10, 11, 12] mixed (by kernel_rfl) (by kernel_rfl) (by assumption) ?_; intro _ _ _))
          | (guard_target =~ WC _ _ (Code.region 14 _ true) _ _ _; first | (refine W_drawnT (id := 14) [10] [0, 1, 2, 3, 4, 5, 6, 7, 8, 9, 10, 11, 12, 13] mixed (by kernel_rfl) (by kernel_rfl) (by assumption) ?_; intro _ _ _))
          | (guard_target =~ WC _ _ (Code.region 15 _ true) _ _ _; first | (refine W_drawnT (id := 15) [10] [0, 1, 2, 3, 4, 5, 6, 7, 8, 9, 10, 11, 12, 13] mixed (by kernel_rfl) (by kernel_rfl) (by assumption) ?_; intro _ _ _))
          | (guard_target =~ WC _ _ (Code.region 20 _ true) _ _ _; first | (refine W_drawnT (id := 20) [7] [0, 1, 2, 3, 4, 5, 6, 7, 8, 9, 10] mixed (by kernel_rfl) (by kernel_rfl) (by assumption) ?_; intro _ _ _))
          | (guard_target =~ WC _ _ (Code.region 21 _ true) _ _ _; first | (refine W_drawnT (id := 21) [] [0, 1, 2, 3, 4, 5, 6, 7, 8, 9, 10, 11, 12, 13, 14, 15] mixed (by kernel_rfl) (by kernel_rfl) (by assumption) ?_; intro _ _ _))
          | (guard_target =~ WO _ _ (Oper.mk _ (Op.assign _) _ _ _ none) _ _ _ _; first | (refine O_assign (v := (.int _ _)) rfl ?_) | (refine O_assign (v := (.bool _)) rfl ?_) | (refine O_assign (v := (.pointer _)) rfl ?_) | (refine O_assign (v := (.slice _ _ _)) rfl ?_) | (refine O_assign (v := (.agg _)) rfl ?_) | (refine O_assign (v := (.tuple _)) rfl ?_))
          | (guard_target =~ WO _ _ (Oper.mk _ (Op.move _) _ _ _ none) _ _ _ _; first | (refine O_move (v := (.int _ _)) rfl ?_) | (refine O_move (v := (.bool _)) rfl ?_) | (refine O_move (v := (.pointer _)) rfl ?_) | (refine O_move (v := (.slice _ _ _)) rfl ?_) | (refine O_move (v := (.agg _)) rfl ?_) | (refine O_move (v := (.tuple _)) rfl ?_))
          | (guard_target =~ WO _ _ (Oper.mk _ (Op.unOp _ _ _) _ _ _ none) _ _ _ _; first | (refine O_not rfl ?_))
          | (guard_target =~ WO _ _ (Oper.mk _ (Op.binOp BinOp.lss 3 _ _ _) _ _ _ none) _ _ _ _; first | (first | (refine O_lssS rfl rfl (fun h => absurd h (by omega)) ?_; intro _) | (refine O_lssS rfl rfl ?_ (fun h => absurd h (by omega)); intro _) | (refine O_lssS rfl rfl ?_ ?_ <;> intro _)))
          | (guard_target =~ WO _ _ (Oper.mk _ (Op.nilCheck _) _ _ _ none) _ _ _ _; first | (refine O_nil rfl ?_))
          | (guard_target =~ WO _ _ (Oper.mk _ (Op.fieldAddr 86 _ 2) _ _ _ none) _ _ _ _; first | (refine O_fdT fd86_2 (by decide) rfl ?_) | (refine O_field fd86_2 (by decide) rfl ?_))
          | (guard_target =~ WO _ _ (Oper.mk _ (Op.indexAddr 80 _ _) _ _ _ none) _ _ _ _; first | (refine O_ixa ar80 rfl rfl (by omega) (by omega) ?_; rintro _ _))
          | (guard_target =~ WO _ _ (Oper.mk _ (Op.store 21 _ _) _ _ _ none) _ _ _ _; first | (refine O_st (by assumption) (by repeat (first | exact List.Mem.head _ | refine List.Mem.tail _ ?_)) (by omega) on21 rfl rfl (by first | omega | (simp only [csz]; omega)) (by first | exact okp (c' := 2) (by first | rfl | exact layMod rfl rfl) (ok64 (by omega)) | exact okp (c' := 1) (by first | rfl | exact layMod rfl rfl) (ok8 (by omega)) | exact okp (c' := 3) (by first | rfl | exact layMod rfl rfl) (ok32 (by omega) (by omega)) | exact okp (c' := 4) (by first | rfl | exact layMod rfl rfl) okB_) rfl ?_; intro _ _))
          | (guard_target =~ WO _ _ (Oper.mk _ (Op.fieldAddr 86 _ 3) _ _ _ none) _ _ _ _; first | (refine O_fdT fd86_3 (by decide) rfl ?_) | (refine O_field fd86_3 (by decide) rfl ?_))
          | (guard_target =~ WO _ _ (Oper.mk _ (Op.binOp BinOp.add 3 _ _ _) _ _ _ none) _ _ _ _; first | (refine O_addZ rfl rfl (by simp only [rngZ]; omega) ?_))
          | (guard_target =~ WO _ _ (Oper.mk _ (Op.call _) _ _ _ none) _ _ _ _; first | (refine O_len Samg.underlying35 rfl rfl ?_) | (refine O_len Samg.underlying88 rfl rfl ?_))
          | (guard_target =~ WO _ _ (Oper.mk _ (Op.indexAddr 35 _ _) _ _ _ none) _ _ _ _; first | (refine O_ixK (by assumption) (by repeat (first | exact List.Mem.head _ | refine List.Mem.tail _ ?_)) sl35 rfl rfl (by omega) (by omega) ?_; rintro _ _ _) | (refine O_ixN (by assumption) (by repeat (first | exact List.Mem.head _ | refine List.Mem.tail _ ?_)) sl35 rfl rfl (by omega) (by omega) ?_; rintro _ _ _ _ _ _))
          | (guard_target =~ WO _ _ (Oper.mk _ (Op.fieldAddr 90 _ 0) _ _ _ none) _ _ _ _; first | (refine O_fdT fd90_0 (by decide) rfl ?_) | (refine O_field fd90_0 (by decide) rfl ?_))
          | (guard_target =~ WO _ _ (Oper.mk _ (Op.load 24 _) _ _ _ none) _ _ _ _; first | (refine O_ldn8 (by assumption) (by repeat (first | exact List.Mem.head _ | refine List.Mem.tail _ ?_)) ag24 rfl (by first | omega | (simp only [csz]; omega)) (by first | exact layRun0 rfl rfl | exact layRun rfl rfl rfl) ?_; intro _ _))
          | (guard_target =~ WO _ _ (Oper.mk _ (Op.extract _ _) _ _ _ none) _ _ _ _; first | (refine O_extract rfl rfl ?_))
          | (guard_target =~ WO _ _ (Oper.mk _ (Op.fieldAddr 86 _ 0) _ _ _ none) _ _ _ _; first | (refine O_fdT fd86_0 (by decide) rfl ?_) | (refine O_field fd86_0 (by decide) rfl ?_))
          | (guard_target =~ WO _ _ (Oper.mk _ (Op.fieldAddr 90 _ 1) _ _ _ none) _ _ _ _; first | (refine O_fdT fd90_1 (by decide) rfl ?_) | (refine O_field fd90_1 (by decide) rfl ?_))
          | (guard_target =~ WO _ _ (Oper.mk _ (Op.indexAddr 78 _ _) _ _ _ none) _ _ _ _; first | (refine O_ixK (by assumption) (by repeat (first | exact List.Mem.head _ | refine List.Mem.tail _ ?_)) sl78 rfl rfl (by omega) (by omega) ?_; rintro _ _ _) | (refine O_ixN (by assumption) (by repeat (first | exact List.Mem.head _ | refine List.Mem.tail _ ?_)) sl78 rfl rfl (by omega) (by omega) ?_; rintro _ _ _ _ _ _))
          | (guard_target =~ WO _ _ (Oper.mk _ (Op.fieldAddr 148 _ 1) _ _ _ none) _ _ _ _; first | (refine O_fdT fd148_1 (by decide) rfl ?_) | (refine O_field fd148_1 (by decide) rfl ?_))
          | (guard_target =~ WO _ _ (Oper.mk _ (Op.store 27 _ _) _ _ _ none) _ _ _ _; first | (refine O_st (by assumption) (by repeat (first | exact List.Mem.head _ | refine List.Mem.tail _ ?_)) (by omega) on27 rfl rfl (by first | omega | (simp only [csz]; omega)) (by first | exact okp (c' := 2) (by first | rfl | exact layMod rfl rfl) (ok64 (by omega)) | exact okp (c' := 1) (by first | rfl | exact layMod rfl rfl) (ok8 (by omega)) | exact okp (c' := 3) (by first | rfl | exact layMod rfl rfl) (ok32 (by omega) (by omega)) | exact okp (c' := 4) (by first | rfl | exact layMod rfl rfl) okB_) rfl ?_; intro _ _))
          | (guard_target =~ WO _ _ (Oper.mk _ (Op.fieldAddr 90 _ 2) _ _ _ none) _ _ _ _; first | (refine O_fdT fd90_2 (by decide) rfl ?_) | (refine O_field fd90_2 (by decide) rfl ?_))
          | (guard_target =~ WO _ _ (Oper.mk _ (Op.load 87 _) _ _ _ none) _ _ _ _; first | (refine O_ldn8 (by assumption) (by repeat (first | exact List.Mem.head _ | refine List.Mem.tail _ ?_)) ag87 rfl (by first | omega | (simp only [csz]; omega)) (by first | exact layRun0 rfl rfl | exact layRun rfl rfl rfl) ?_; intro _ _))
          | (guard_target =~ WO _ _ (Oper.mk _ (Op.fieldAddr 148 _ 2) _ _ _ none) _ _ _ _; first | (refine O_fdT fd148_2 (by decide) rfl ?_) | (refine O_field fd148_2 (by decide) rfl ?_))
          | (guard_target =~ WO _ _ (Oper.mk _ (Op.store 45 _ _) _ _ _ none) _ _ _ _; first | (refine O_stn64 (by assumption) (by repeat (first | exact List.Mem.head _ | refine List.Mem.tail _ ?_)) (by omega) ag45 rfl rfl (by assumption) (by first | omega | (simp only [csz]; omega)) (by first | exact layRun0 rfl rfl | exact layRun rfl rfl rfl) rfl ?_; intro _ _))
          | (guard_target =~ WO _ _ (Oper.mk _ (Op.fieldAddr 90 _ 3) _ _ _ none) _ _ _ _; first | (refine O_fdT fd90_3 (by decide) rfl ?_) | (refine O_field fd90_3 (by decide) rfl ?_))
          | (guard_target =~ WO _ _ (Oper.mk _ (Op.load 31 _) _ _ _ none) _ _ _ _; first | (refine O_lds (t' := 5) (by assumption) (by repeat (first | exact List.Mem.head _ | refine List.Mem.tail _ ?_)) on31 rfl (by first | omega | (simp only [csz]; omega)) (by first | rfl | exact layMod rfl rfl) ?_; intro _ _ _ _ _ _))
          | (guard_target =~ WO _ _ (Oper.mk _ (Op.fieldAddr 148 _ 3) _ _ _ none) _ _ _ _; first | (refine O_fdT fd148_3 (by decide) rfl ?_) | (refine O_field fd148_3 (by decide) rfl ?_))
          | (guard_target =~ WO _ _ (Oper.mk _ (Op.store 31 _ _) _ _ _ none) _ _ _ _; first | (refine O_st (by assumption) (by repeat (first | exact List.Mem.head _ | refine List.Mem.tail _ ?_)) (by omega) on31 rfl rfl (by first | omega | (simp only [csz]; omega)) (okp (c' := 100 + 5) (by first | rfl | exact layMod rfl rfl) (okS (by first | exact Sl.nil _ | exact TS.slN (by assumption) (by repeat (first | exact List.Mem.head _ | refine List.Mem.tail _ ?_))))) rfl ?_; intro _ _))
          | (guard_target =~ WO _ _ (Oper.mk _ (Op.fieldAddr 90 _ 4) _ _ _ none) _ _ _ _; first | (refine O_fdT fd90_4 (by decide) rfl ?_) | (refine O_field fd90_4 (by decide) rfl ?_))
          | (guard_target =~ WO _ _ (Oper.mk _ (Op.load 88 _) _ _ _ none) _ _ _ _; first | (refine O_lds (t' := 150) (by assumption) (by repeat (first | exact List.Mem.head _ | refine List.Mem.tail _ ?_)) on88 rfl (by first | omega | (simp only [csz]; omega)) (by first | rfl | exact layMod rfl rfl) ?_; intro _ _ _ _ _ _))
          | (guard_target =~ WO _ _ (Oper.mk _ (Op.indexAddr 88 _ _) _ _ _ none) _ _ _ _; first | (refine O_ixK (by assumption) (by repeat (first | exact List.Mem.head _ | refine List.Mem.tail _ ?_)) sl88 rfl rfl (by omega) (by omega) ?_; rintro _ _ _) | (refine O_ixN (by assumption) (by repeat (first | exact List.Mem.head _ | refine List.Mem.tail _ ?_)) sl88 rfl rfl (by omega) (by omega) ?_; rintro _ _ _ _ _ _))
          | (guard_target =~ WO _ _ (Oper.mk _ (Op.load 150 _) _ _ _ none) _ _ _ _; first | (refine O_lda (by assumption) (by repeat (first | exact List.Mem.head _ | refine List.Mem.tail _ ?_)) ag150 rfl (by first | omega | (simp only [csz]; omega)) (by first | exact laySub0 rfl rfl | exact laySub rfl rfl rfl | exact laySame (by decide)) ?_; intro _ _ _))
          | (guard_target =~ WO _ _ (Oper.mk _ (Op.alloc 150) _ _ _ none) _ _ _ _; first | (refine O_al (by assumption) zc150 (by decide) ?_; intro _ _ _ _))
          | (guard_target =~ WO _ _ (Oper.mk _ (Op.store 150 _ _) _ _ _ none) _ _ _ _; first | (refine O_sts (by assumption) (by repeat (first | exact List.Mem.head _ | refine List.Mem.tail _ ?_)) (by omega) (by repeat (first | exact List.Mem.head _ | refine List.Mem.tail _ ?_)) ag150 rfl rfl (by first | omega | (simp only [csz]; omega)) (by first | exact laySub0 rfl rfl | exact laySub rfl rfl rfl | exact laySame (by decide)) rfl ?_; intro _ _))
          | (guard_target =~ WO _ _ (Oper.mk _ (Op.fieldAddr 150 _ 0) _ _ _ none) _ _ _ _; first | (refine O_fdT fd150_0 (by decide) rfl ?_) | (refine O_field fd150_0 (by decide) rfl ?_))
          | (guard_target =~ WO _ _ (Oper.mk _ (Op.fieldAddr 86 _ 1) _ _ _ none) _ _ _ _; first | (refine O_fdT fd86_1 (by decide) rfl ?_) | (refine O_field fd86_1 (by decide) rfl ?_))
          | (guard_target =~ WO _ _ (Oper.mk _ (Op.fieldAddr 150 _ 1) _ _ _ none) _ _ _ _; first | (refine O_fdT fd150_1 (by decide) rfl ?_) | (refine O_field fd150_1 (by decide) rfl ?_))
          | (guard_target =~ WO _ _ (Oper.mk _ (Op.indexAddr 79 _ _) _ _ _ none) _ _ _ _; first | (refine O_ixK (by assumption) (by repeat (first | exact List.Mem.head _ | refine List.Mem.tail _ ?_)) sl79 rfl rfl (by omega) (by omega) ?_; rintro _ _ _) | (refine O_ixN (by assumption) (by repeat (first | exact List.Mem.head _ | refine List.Mem.tail _ ?_)) sl79 rfl rfl (by omega) (by omega) ?_; rintro _ _ _ _ _ _))
          | (guard_target =~ WO _ _ (Oper.mk _ (Op.fieldAddr 153 _ 2) _ _ _ none) _ _ _ _; first | (refine O_fdT fd153_2 (by decide) rfl ?_) | (refine O_field fd153_2 (by decide) rfl ?_))
          | (guard_target =~ WO _ _ (Oper.mk _ (Op.load 45 _) _ _ _ none) _ _ _ _; first | (refine O_ldn64 (by assumption) (by repeat (first | exact List.Mem.head _ | refine List.Mem.tail _ ?_)) ag45 rfl (by first | omega | (simp only [csz]; omega)) (by first | exact layRun0 rfl rfl | exact layRun rfl rfl rfl) ?_; intro _ _))
          | (guard_target =~ WO _ _ (Oper.mk _ (Op.fieldAddr 153 _ 3) _ _ _ none) _ _ _ _; first | (refine O_fdT fd153_3 (by decide) rfl ?_) | (refine O_field fd153_3 (by decide) rfl ?_)))
        exact ⟨ω.n - (i + 1), by omega, i + 1, σ2, rfl, by omega, by omega, by omega, hV.ext (TS.e (by assumption)), hI, hMu.trans (TS.mu (by assumption) hV.B0), TS.t (by assumption), Has.mk ⟨rfl, rfl, rfl, rfl, trivial⟩⟩
    · repeat' (first
        | (refine L_cons ?_)
        | (refine R_cons rfl ?_)
        | (refine W_seq ?_)
        | (refine W_region (by kernel_rfl) ?_)
        | (refine L_nil ?_)
        | (refine R_nil ?_)
        | (refine W_block ?_)
        | (refine W_skip ?_)
        | (refine W_exit ?_)
        | (refine W_ret ?_)
        | (guard_target =~ thenQ _ _ _ _ _; first | (refine T_next ?_) | (refine T_exit ?_) | (refine T_ret ?_))
        | (guard_target =~ blockQ _ _ _ _ _; first | (refine B_next ?_) | (refine B_same ?_) | (refine B_other (by kernel_rfl) ?_) | (refine B_ret ?_))
        | (refine W_true rfl rfl ?_)
        | (refine W_false rfl rfl ?_)
        | (guard_target =~ WC _ _ (Code.region 13 _ true) _ _ _; first | (refine W_drawnT (id := 13) [] [0, 1, 2, 3, 4, 5, 6, 7, 8, 9, 10, 11, 12] mixed (by kernel_rfl) (by kernel_rfl) (by assumption) ?_; intro _ _ _))
        | (guard_target =~ WC _ _ (Code.region 14 _ true) _ _ _; first | (refine W_drawnT (id := 14) [10] [0, 1, 2, 3, 4, 5, 6, 7, 8, 9, 10, 11, 12, 13] mixed (by kernel_rfl) (by kernel_rfl) (by assumption) ?_; intro _ _ _))
        | (guard_target =~ WC _ _ (Code.region 15 _ true) _ _ _; first | (refine W_drawnT (id := 15) [10] [0, 1, 2, 3, 4, 5, 6, 7, 8, 9, 10, 11, 12, 13] mixed (by kernel_rfl) (by kernel_rfl) (by assumption) ?_; intro _ _ _))
        | (guard_target =~ WC _ _ (Code.region 20 _ true) _ _ _; first | (refine W_drawnT (id := 20) [7] [0, 1, 2, 3, 4, 5, 6, 7, 8, 9, 10] mixed (by kernel_rfl) (by kernel_rfl) (by assumption) ?_; intro _ _ _))
        | (guard_target =~ WC _ _ (Code.region 21 _ true) _ _ _; first | (refine W_drawnT (id := 21) [] [0, 1, 2, 3, 4, 5, 6, 7, 8, 9, 10, 11, 12, 13, 14, 15] mixed (by kernel_rfl) (by kernel_rfl) (by assumption) ?_; intro _ _ _))
        | (guard_target =~ WO _ _ (Oper.mk _ (Op.assign _) _ _ _ none) _ _ _ _; first | (refine O_assign (v := (.int _ _)) rfl ?_) | (refine O_assign (v := (.bool _)) rfl ?_) | (refine O_assign (v := (.pointer _)) rfl ?_) | (refine O_assign (v := (.slice _ _ _)) rfl ?_) | (refine O_assign (v := (.agg _)) rfl ?_) | (refine O_assign (v := (.tuple _)) rfl ?_))
        | (guard_target =~ WO _ _ (Oper.mk _ (Op.move _) _ _ _ none) _ _ _ _; first | (refine O_move (v := (.int _ _)) rfl ?_) | (refine O_move (v := (.bool _)) rfl ?_) | (refine O_move (v := (.pointer _)) rfl ?_) | (refine O_move (v := (.slice _ _ _)) rfl ?_) | (refine O_move (v := (.agg _)) rfl ?_) | (refine O_move (v := (.tuple _)) rfl ?_))
        | (guard_target =~ WO _ _ (Oper.mk _ (Op.unOp _ _ _) _ _ _ none) _ _ _ _; first | (refine O_not rfl ?_))
        | (guard_target =~ WO _ _ (Oper.mk _ (Op.binOp BinOp.lss 3 _ _ _) _ _ _ none) _ _ _ _; first | (first | (refine O_lssS rfl rfl (fun h => absurd h (by omega)) ?_; intro _) | (refine O_lssS rfl rfl ?_ (fun h => absurd h (by omega)); intro _) | (refine O_lssS rfl rfl ?_ ?_ <;> intro _)))
        | (guard_target =~ WO _ _ (Oper.mk _ (Op.nilCheck _) _ _ _ none) _ _ _ _; first | (refine O_nil rfl ?_))
        | (guard_target =~ WO _ _ (Oper.mk _ (Op.fieldAddr 86 _ 2) _ _ _ none) _ _ _ _; first | (refine O_fdT fd86_2 (by decide) rfl ?_) | (refine O_field fd86_2 (by decide) rfl ?_))
        | (guard_target =~ WO _ _ (Oper.mk _ (Op.indexAddr 80 _ _) _ _ _ none) _ _ _ _; first | (refine O_ixa ar80 rfl rfl (by omega) (by omega) ?_; rintro _ _))
        | (guard_target =~ WO _ _ (Oper.mk _ (Op.store 21 _ _) _ _ _ none) _ _ _ _; first | (refine O_st (by assumption) (by repeat (first | exact List.Mem.head _ | refine List.Mem.tail _ ?_)) (by omega) on21 rfl rfl (by first | omega | (simp only [csz]; omega)) (by first | exact okp (c' := 2) (by first | rfl | exact layMod rfl rfl) (ok64 (by omega)) | exact okp (c' := 1) (by first | rfl | exact layMod rfl rfl) (ok8 (by omega)) | exact okp (c' := 3) (by first | rfl | exact layMod rfl rfl) (ok32 (by omega) (by omega)) | exact okp (c' := 4) (by first | rfl | exact layMod rfl rfl) okB_) rfl ?_; intro _ _))
        | (guard_target =~ WO _ _ (Oper.mk _ (Op.fieldAddr 86 _ 3) _ _ _ none) _ _ _ _; first | (refine O_fdT fd86_3 (by decide) rfl ?_) | (refine O_field fd86_3 (by decide) rfl ?_))
        | (guard_target =~ WO _ _ (Oper.mk _ (Op.binOp BinOp.add 3 _ _ _) _ _ _ none) _ _ _ _; first | (refine O_addZ rfl rfl (by simp only [rngZ]; omega) ?_))
        | (guard_target =~ WO _ _ (Oper.mk _ (Op.call _) _ _ _ none) _ _ _ _; first | (refine O_len Samg.underlying35 rfl rfl ?_) | (refine O_len Samg.underlying88 rfl rfl ?_))
        | (guard_target =~ WO _ _ (Oper.mk _ (Op.indexAddr 35 _ _) _ _ _ none) _ _ _ _; first | (refine O_ixK (by assumption) (by repeat (first | exact List.Mem.head _ | refine List.Mem.tail _ ?_)) sl35 rfl rfl (by omega) (by omega) ?_; rintro _ _ _) | (refine O_ixN (by assumption) (by repeat (first | exact List.Mem.head _ | refine List.Mem.tail _ ?_)) sl35 rfl rfl (by omega) (by omega) ?_; rintro _ _ _ _ _ _))
        | (guard_target =~ WO _ _ (Oper.mk _ (Op.fieldAddr 90 _ 0) _ _ _ none) _ _ _ _; first | (refine O_fdT fd90_0 (by decide) rfl ?_) | (refine O_field fd90_0 (by decide) rfl ?_))
        | (guard_target =~ WO _ _ (Oper.mk _ (Op.load 24 _) _ _ _ none) _ _ _ _; first | (refine O_ldn8 (by assumption) (by repeat (first | exact List.Mem.head _ | refine List.Mem.tail _ ?_)) ag24 rfl (by first | omega | (simp only [csz]; omega)) (by first | exact layRun0 rfl rfl | exact layRun rfl rfl rfl) ?_; intro _ _))
        | (guard_target =~ WO _ _ (Oper.mk _ (Op.extract _ _) _ _ _ none) _ _ _ _; first | (refine O_extract rfl rfl ?_))
        | (guard_target =~ WO _ _ (Oper.mk _ (Op.fieldAddr 86 _ 0) _ _ _ none) _ _ _ _; first | (refine O_fdT fd86_0 (by decide) rfl ?_) | (refine O_field fd86_0 (by decide) rfl ?_))
        | (guard_target =~ WO _ _ (Oper.mk _ (Op.load 78 _) _ _ _ none) _ _ _ _; first | (refine O_lds (t' := 148) (by assumption) (by repeat (first | exact List.Mem.head _ | refine List.Mem.tail _ ?_)) on78 rfl (by first | omega | (simp only [csz]; omega)) (by first | rfl | exact layMod rfl rfl) ?_; intro _ _ _ _ _ _))
        | (guard_target =~ WO _ _ (Oper.mk _ (Op.fieldAddr 90 _ 1) _ _ _ none) _ _ _ _; first | (refine O_fdT fd90_1 (by decide) rfl ?_) | (refine O_field fd90_1 (by decide) rfl ?_))
        | (guard_target =~ WO _ _ (Oper.mk _ (Op.load 27 _) _ _ _ none) _ _ _ _; first | (refine O_ld64 (by assumption) (by repeat (first | exact List.Mem.head _ | refine List.Mem.tail _ ?_)) on27 rfl (by first | omega | (simp only [csz]; omega)) (by first | rfl | exact layMod rfl rfl) ?_; intro _ _))
        | (guard_target =~ WO _ _ (Oper.mk _ (Op.indexAddr 78 _ _) _ _ _ none) _ _ _ _; first | (refine O_ixK (by assumption) (by repeat (first | exact List.Mem.head _ | refine List.Mem.tail _ ?_)) sl78 rfl rfl (by omega) (by omega) ?_; rintro _ _ _) | (refine O_ixN (by assumption) (by repeat (first | exact List.Mem.head _ | refine List.Mem.tail _ ?_)) sl78 rfl rfl (by omega) (by omega) ?_; rintro _ _ _ _ _ _))
        | (guard_target =~ WO _ _ (Oper.mk _ (Op.fieldAddr 148 _ 1) _ _ _ none) _ _ _ _; first | (refine O_fdT fd148_1 (by decide) rfl ?_) | (refine O_field fd148_1 (by decide) rfl ?_))
        | (guard_target =~ WO _ _ (Oper.mk _ (Op.store 27 _ _) _ _ _ none) _ _ _ _; first | (refine O_st (by assumption) (by repeat (first | exact List.Mem.head _ | refine List.Mem.tail _ ?_)) (by omega) on27 rfl rfl (by first | omega | (simp only [csz]; omega)) (by first | exact okp (c' := 2) (by first | rfl | exact layMod rfl rfl) (ok64 (by omega)) | exact okp (c' := 1) (by first | rfl | exact layMod rfl rfl) (ok8 (by omega)) | exact okp (c' := 3) (by first | rfl | exact layMod rfl rfl) (ok32 (by omega) (by omega)) | exact okp (c' := 4) (by first | rfl | exact layMod rfl rfl) okB_) rfl ?_; intro _ _))
        | (guard_target =~ WO _ _ (Oper.mk _ (Op.fieldAddr 90 _ 2) _ _ _ none) _ _ _ _; first | (refine O_fdT fd90_2 (by decide) rfl ?_) | (refine O_field fd90_2 (by decide) rfl ?_))
        | (guard_target =~ WO _ _ (Oper.mk _ (Op.load 87 _) _ _ _ none) _ _ _ _; first | (refine O_ldn8 (by assumption) (by repeat (first | exact List.Mem.head _ | refine List.Mem.tail _ ?_)) ag87 rfl (by first | omega | (simp only [csz]; omega)) (by first | exact layRun0 rfl rfl | exact layRun rfl rfl rfl) ?_; intro _ _))
        | (guard_target =~ WO _ _ (Oper.mk _ (Op.fieldAddr 148 _ 2) _ _ _ none) _ _ _ _; first | (refine O_fdT fd148_2 (by decide) rfl ?_) | (refine O_field fd148_2 (by decide) rfl ?_))
        | (guard_target =~ WO _ _ (Oper.mk _ (Op.store 45 _ _) _ _ _ none) _ _ _ _; first | (refine O_stn64 (by assumption) (by repeat (first | exact List.Mem.head _ | refine List.Mem.tail _ ?_)) (by omega) ag45 rfl rfl (by assumption) (by first | omega | (simp only [csz]; omega)) (by first | exact layRun0 rfl rfl | exact layRun rfl rfl rfl) rfl ?_; intro _ _))
        | (guard_target =~ WO _ _ (Oper.mk _ (Op.fieldAddr 90 _ 3) _ _ _ none) _ _ _ _; first | (refine O_fdT fd90_3 (by decide) rfl ?_) | (refine O_field fd90_3 (by decide) rfl ?_))
        | (guard_target =~ WO _ _ (Oper.mk _ (Op.load 31 _) _ _ _ none) _ _ _ _; first | (refine O_lds (t' := 5) (by assumption) (by repeat (first | exact List.Mem.head _ | refine List.Mem.tail _ ?_)) on31 rfl (by first | omega | (simp only [csz]; omega)) (by first | rfl | exact layMod rfl rfl) ?_; intro _ _ _ _ _ _))
        | (guard_target =~ WO _ _ (Oper.mk _ (Op.fieldAddr 148 _ 3) _ _ _ none) _ _ _ _; first | (refine O_fdT fd148_3 (by decide) rfl ?_) | (refine O_field fd148_3 (by decide) rfl ?_))
        | (guard_target =~ WO _ _ (Oper.mk _ (Op.store 31 _ _) _ _ _ none) _ _ _ _; first | (refine O_st (by assumption) (by repeat (first | exact List.Mem.head _ | refine List.Mem.tail _ ?_)) (by omega) on31 rfl rfl (by first | omega | (simp only [csz]; omega)) (okp (c' := 100 + 5) (by first | rfl | exact layMod rfl rfl) (okS (by first | exact Sl.nil _ | exact TS.slN (by assumption) (by repeat (first | exact List.Mem.head _ | refine List.Mem.tail _ ?_))))) rfl ?_; intro _ _))
        | (guard_target =~ WO _ _ (Oper.mk _ (Op.fieldAddr 90 _ 4) _ _ _ none) _ _ _ _; first | (refine O_fdT fd90_4 (by decide) rfl ?_) | (refine O_field fd90_4 (by decide) rfl ?_))
        | (guard_target =~ WO _ _ (Oper.mk _ (Op.load 88 _) _ _ _ none) _ _ _ _; first | (refine O_lds (t' := 150) (by assumption) (by repeat (first | exact List.Mem.head _ | refine List.Mem.tail _ ?_)) on88 rfl (by first | omega | (simp only [csz]; omega)) (by first | rfl | exact layMod rfl rfl) ?_; intro _ _ _ _ _ _))
        | (guard_target =~ WO _ _ (Oper.mk _ (Op.indexAddr 88 _ _) _ _ _ none) _ _ _ _; first | (refine O_ixK (by assumption) (by repeat (first | exact List.Mem.head _ | refine List.Mem.tail _ ?_)) sl88 rfl rfl (by omega) (by omega) ?_; rintro _ _ _) | (refine O_ixN (by assumption) (by repeat (first | exact List.Mem.head _ | refine List.Mem.tail _ ?_)) sl88 rfl rfl (by omega) (by omega) ?_; rintro _ _ _ _ _ _))
        | (guard_target =~ WO _ _ (Oper.mk _ (Op.load 150 _) _ _ _ none) _ _ _ _; first | (refine O_lda (by assumption) (by repeat (first | exact List.Mem.head _ | refine List.Mem.tail _ ?_)) ag150 rfl (by first | omega | (simp only [csz]; omega)) (by first | exact laySub0 rfl rfl | exact laySub rfl rfl rfl | exact laySame (by decide)) ?_; intro _ _ _))
        | (guard_target =~ WO _ _ (Oper.mk _ (Op.alloc 150) _ _ _ none) _ _ _ _; first | (refine O_al (by assumption) zc150 (by decide) ?_; intro _ _ _ _))
        | (guard_target =~ WO _ _ (Oper.mk _ (Op.store 150 _ _) _ _ _ none) _ _ _ _; first | (refine O_sts (by assumption) (by repeat (first | exact List.Mem.head _ | refine List.Mem.tail _ ?_)) (by omega) (by repeat (first | exact List.Mem.head _ | refine List.Mem.tail _ ?_)) ag150 rfl rfl (by first | omega | (simp only [csz]; omega)) (by first | exact laySub0 rfl rfl | exact laySub rfl rfl rfl | exact laySame (by decide)) rfl ?_; intro _ _))
        | (guard_target =~ WO _ _ (Oper.mk _ (Op.fieldAddr 150 _ 0) _ _ _ none) _ _ _ _; first | (refine O_fdT fd150_0 (by decide) rfl ?_) | (refine O_field fd150_0 (by decide) rfl ?_))
        | (guard_target =~ WO _ _ (Oper.mk _ (Op.fieldAddr 86 _ 1) _ _ _ none) _ _ _ _; first | (refine O_fdT fd86_1 (by decide) rfl ?_) | (refine O_field fd86_1 (by decide) rfl ?_))
        | (guard_target =~ WO _ _ (Oper.mk _ (Op.load 79 _) _ _ _ none) _ _ _ _; first | (refine O_lds (t' := 153) (by assumption) (by repeat (first | exact List.Mem.head _ | refine List.Mem.tail _ ?_)) on79 rfl (by first | omega | (simp only [csz]; omega)) (by first | rfl | exact layMod rfl rfl) ?_; intro _ _ _ _ _ _))
        | (guard_target =~ WO _ _ (Oper.mk _ (Op.fieldAddr 150 _ 1) _ _ _ none) _ _ _ _; first | (refine O_fdT fd150_1 (by decide) rfl ?_) | (refine O_field fd150_1 (by decide) rfl ?_))
        | (guard_target =~ WO _ _ (Oper.mk _ (Op.indexAddr 79 _ _) _ _ _ none) _ _ _ _; first | (refine O_ixK (by assumption) (by repeat (first | exact List.Mem.head _ | refine List.Mem.tail _ ?_)) sl79 rfl rfl (by omega) (by omega) ?_; rintro _ _ _) | (refine O_ixN (by assumption) (by repeat (first | exact List.Mem.head _ | refine List.Mem.tail _ ?_)) sl79 rfl rfl (by omega) (by omega) ?_; rintro _ _ _ _ _ _))
        | (guard_target =~ WO _ _ (Oper.mk _ (Op.fieldAddr 153 _ 2) _ _ _ none) _ _ _ _; first | (refine O_fdT fd153_2 (by decide) rfl ?_) | (refine O_field fd153_2 (by decide) rfl ?_))
        | (guard_target =~ WO _ _ (Oper.mk _ (Op.load 45 _) _ _ _ none) _ _ _ _; first | (refine O_ldn64 (by assumption) (by repeat (first | exact List.Mem.head _ | refine List.Mem.tail _ ?_)) ag45 rfl (by first | omega | (simp only [csz]; omega)) (by first | exact layRun0 rfl rfl | exact layRun rfl rfl rfl) ?_; intro _ _))
        | (guard_target =~ WO _ _ (Oper.mk _ (Op.fieldAddr 153 _ 3) _ _ _ none) _ _ _ _; first | (refine O_fdT fd153_3 (by decide) rfl ?_) | (refine O_field fd153_3 (by decide) rfl ?_)))
      exact E_ret rfl rfl rfl ⟨hMu.trans (TS.mu (by assumption) hV.B0), TS.t (by assumption), true, rfl, ⟨fun _ => hok, fun _ => rfl⟩, fun _ => ⟨σ, hV.ext (TS.e (by assumption)), hI⟩⟩
end Go.Proofs.Ygcsam
