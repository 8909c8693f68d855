/-
  SORTING THE KEYS: sorted. Own work.
-/
import Derived.Test.YgcsamE3
namespace Go.Proofs.Ygcsam
set_option linter.unusedVariables false
set_option linter.unusedSimpArgs false
set_option maxRecDepth 4000
section
variable {P : Program} {ops : Array Oper} {e : Bool} {K : Env → World → Prop} {ρ : Env} {w w0 : World} {d : Nat} {ty : TypeId} {pos : String} {af : Array Edge} {B : Nat} {L : List Fact} {M : List (Nat × Array Value)}
theorem O_min {k : IntKind} {a b : Int} {x y : Operand} {ats : Array TypeId} (hx : ev ρ x = .int k a) (hy : ev ρ y = .int k b) (kk : ∀ z : Int, (z = a ∨ z = b) → z ≤ a → z ≤ b → K (put ρ d (.int k z)) w) : WO P ops ⟨some d, .call ⟨.builtin .min, #[x, y], ats⟩, ty, pos, af, none⟩ e K ρ w := by
  by_cases h : b < a
  · refine O_pure (v := .int k b) rfl (fun w' => ?_) (kk b (.inr rfl) (by omega) (by omega))
    simp [execOp, resolve, invoke, builtin, Builtin.min_, Builtin.min2, hx, hy, h]
    try omega
  · refine O_pure (v := .int k a) rfl (fun w' => ?_) (kk a (.inl rfl) (by omega) (by omega))
    simp [execOp, resolve, invoke, builtin, Builtin.min_, Builtin.min2, hx, hy, h]
    try omega
theorem O_sl3 {t el s b len cap lo hi : Nat} {k1 k2 k3 : IntKind} {x x1 x2 x3 : Operand} (ht : slcT P t el s) (hx : ev ρ x = .slice (some ⟨b, 0, none⟩) len cap) (hlo : ev ρ x1 = .int k1 ((lo : Nat) : Int)) (hhi : ev ρ x2 = .int k2 ((hi : Nat) : Int)) (hmx : ev ρ x3 = .int k3 ((hi : Nat) : Int)) (h1 : lo ≤ hi) (h2 : hi ≤ cap)
    (k : ∀ oB, (hi = lo → oB = 0) → (hi ≠ lo → oB = lo) → K (put ρ d (.slice (some ⟨b, oB * s, none⟩) (hi - lo) (hi - lo))) w) : WO P ops ⟨some d, .slice t x (some x1) (some x2) (some x3), ty, pos, af, none⟩ e K ρ w := by
  refine O_slice_s (l := lo) (h := hi) (m := hi) ht hx ⟨_, hlo⟩ ⟨_, hhi⟩ ⟨_, hmx⟩ (fun _ => rfl) h1 (Nat.le_refl _) h2 ?_
  by_cases he : hi = lo
  · rw [if_pos he]
    have := k 0 (fun _ => rfl) (fun h => absurd he h)
    rw [Nat.zero_mul] at this; exact this
  · rw [if_neg he, addr_add, Nat.zero_add]
    exact k lo (fun h => absurd h he) (fun _ => rfl)
end
theorem TS.dropL {B : Nat} {w0 w : World} {L : List Fact} {M : List (Nat × Array Value)} {x : Fact} (h : TS B w0 w (x :: L) M) : TS B w0 w L M := ⟨h.t, h.e, fun y hy => h.l y (List.mem_cons_of_mem _ hy), h.m⟩
theorem sorted_ok {B lo R A n cap : Nat} {a : Option Addr} {w0 w : World} {L : List Fact} {M : List (Nat × Array Value)} (hS : TS B w0 w L M) (hm : (183, a, n, cap) ∈ L) (hn : n ≤ 4096) (hfr : n = 0 ∨ ∃ b, a = some ⟨b, 0, none⟩ ∧ w0.heap.size ≤ b ∧ ∀ x, x < n → KP w b x lo R A) :
    Ret Samg.prog 92 #[.slice a n cap] w fun v w' => TS B w0 w' L M ∧ ∃ a' c', v = .slice a' n c' ∧ Sl B w' 183 a' n c' ∧ (n = 0 ∨ ∃ b', a' = some ⟨b', 0, none⟩ ∧ w0.heap.size ≤ b' ∧ ∀ x, x < n → KP w' b' x lo R A) := by
  refine W_enter (l := [_]) Samg.func92 rfl rfl rfl ?_
  repeat' (first
    | (refine L_cons ?_)
    | (refine R_cons rfl ?_)
    | (refine W_seq ?_)
    | (refine W_region (by kernel_rfl) ?_)
    | (refine L_nil ?_)
    | (refine R_nil ?_)
    | (refine W_block ?_)
    | (refine W_skip ?_)
    | (refine W_exit ?_)
    | (refine W_ret ?_)
    | (guard_target =~ thenQ _ _ _ _ _; first | (refine T_next ?_) | (refine T_exit ?_) | (refine T_ret ?_))
    | (guard_target =~ blockQ _ _ _ _ _; first | (refine B_next ?_) | (refine B_same ?_) | (refine B_other (by kernel_rfl) ?_) | (refine B_ret ?_))
    | (refine W_true rfl rfl ?_)
    | (refine W_false rfl rfl ?_)
    | (guard_target =~ WO _ _ (Oper.mk _ (Op.makeSlice 181 _ _) _ _ _ none) _ _ _ _; first | (refine O_mkE (by assumption) sl181 by183 zc183 (by decide) rfl rfl (by omega) (by omega) ?_; intro w1 bT hE1 hm1 hn1 hS1) | (refine O_mk (by assumption) sl181 by183 zc183 (by decide) rfl rfl (by omega) (by omega) ?_; intro _ _ _ _))
    | (guard_target =~ WC _ _ (Code.region 11 _ true) _ _ _; first | (refine W_drawnT (id := 11) [] [0, 1, 2, 3, 4, 5, 6, 7, 8, 9, 10, 11, 12, 13, 14, 15] mixed (by kernel_rfl) (by kernel_rfl) (by assumption) ?_; intro _ _ _))
    | (guard_target =~ WO _ _ (Oper.mk _ (Op.assign _) _ _ _ none) _ _ _ _; first | (refine O_assign (v := (.int _ _)) rfl ?_) | (refine O_assign (v := (.bool _)) rfl ?_) | (refine O_assign (v := (.pointer _)) rfl ?_) | (refine O_assign (v := (.slice _ _ _)) rfl ?_) | (refine O_assign (v := (.agg _)) rfl ?_) | (refine O_assign (v := (.tuple _)) rfl ?_))
    | (guard_target =~ WO _ _ (Oper.mk _ (Op.move _) _ _ _ none) _ _ _ _; first | (refine O_move (v := (.int _ _)) rfl ?_) | (refine O_move (v := (.bool _)) rfl ?_) | (refine O_move (v := (.pointer _)) rfl ?_) | (refine O_move (v := (.slice _ _ _)) rfl ?_) | (refine O_move (v := (.agg _)) rfl ?_) | (refine O_move (v := (.tuple _)) rfl ?_))
    | (guard_target =~ WO _ _ (Oper.mk _ (Op.call _) _ _ _ none) _ _ _ _; first | (refine O_len Samg.underlying181 rfl rfl ?_))
    | (guard_target =~ WO _ _ (Oper.mk _ (Op.binOp BinOp.lss 3 _ _ _) _ _ _ none) _ _ _ _; first | (first | (refine O_lssS rfl rfl (fun h => absurd h (by omega)) ?_; intro _) | (refine O_lssS rfl rfl ?_ (fun h => absurd h (by omega)); intro _) | (refine O_lssS rfl rfl ?_ ?_ <;> intro _)))
    | (guard_target =~ WO _ _ (Oper.mk _ (Op.binOp BinOp.add 3 _ _ _) _ _ _ none) _ _ _ _; first | (refine O_addZ rfl rfl (by simp only [rngZ]; omega) ?_))
    | (guard_target =~ WO _ _ (Oper.mk _ (Op.binOp BinOp.mul 3 _ _ _) _ _ _ none) _ _ _ _; first | (refine O_mulZ rfl rfl (by simp only [rngZ]; omega) ?_)))
  by_cases h0 : n = 0
  · subst h0
    refine W_loop (fun m ρ w' => w' = w1 ∧ Has ρ [(3, .slice a 0 cap), (5, .int .i64 1)]) 0 ⟨rfl, Has.mk ⟨rfl, rfl, trivial⟩⟩ ?_
    rintro m ρ w2 ⟨rfl, σ', rfl⟩
    repeat' (first
      | (refine L_cons ?_)
      | (refine R_cons rfl ?_)
      | (refine W_seq ?_)
      | (refine W_region (by kernel_rfl) ?_)
      | (refine L_nil ?_)
      | (refine R_nil ?_)
      | (refine W_block ?_)
      | (refine W_skip ?_)
      | (refine W_exit ?_)
      | (refine W_ret ?_)
      | (guard_target =~ thenQ _ _ _ _ _; first | (refine T_next ?_) | (refine T_exit ?_) | (refine T_ret ?_))
      | (guard_target =~ blockQ _ _ _ _ _; first | (refine B_next ?_) | (refine B_same ?_) | (refine B_other (by kernel_rfl) ?_) | (refine B_ret ?_))
      | (refine W_true rfl rfl ?_)
      | (refine W_false rfl rfl ?_)
      | (guard_target =~ WC _ _ (Code.region 11 _ true) _ _ _; first | (refine W_drawnT (id := 11) [] [0, 1, 2, 3, 4, 5, 6, 7, 8, 9, 10, 11, 12, 13, 14, 15] mixed (by kernel_rfl) (by kernel_rfl) (by assumption) ?_; intro _ _ _))
      | (guard_target =~ WO _ _ (Oper.mk _ (Op.assign _) _ _ _ none) _ _ _ _; first | (refine O_assign (v := (.int _ _)) rfl ?_) | (refine O_assign (v := (.bool _)) rfl ?_) | (refine O_assign (v := (.pointer _)) rfl ?_) | (refine O_assign (v := (.slice _ _ _)) rfl ?_) | (refine O_assign (v := (.agg _)) rfl ?_) | (refine O_assign (v := (.tuple _)) rfl ?_))
      | (guard_target =~ WO _ _ (Oper.mk _ (Op.move _) _ _ _ none) _ _ _ _; first | (refine O_move (v := (.int _ _)) rfl ?_) | (refine O_move (v := (.bool _)) rfl ?_) | (refine O_move (v := (.pointer _)) rfl ?_) | (refine O_move (v := (.slice _ _ _)) rfl ?_) | (refine O_move (v := (.agg _)) rfl ?_) | (refine O_move (v := (.tuple _)) rfl ?_))
      | (guard_target =~ WO _ _ (Oper.mk _ (Op.call _) _ _ _ none) _ _ _ _; first | (refine O_len Samg.underlying181 rfl rfl ?_))
      | (guard_target =~ WO _ _ (Oper.mk _ (Op.makeSlice 181 _ _) _ _ _ none) _ _ _ _; first | (refine O_mk (by assumption) sl181 by183 zc183 (by decide) rfl rfl (by omega) (by omega) ?_; intro _ _ _ _))
      | (guard_target =~ WO _ _ (Oper.mk _ (Op.binOp BinOp.lss 3 _ _ _) _ _ _ none) _ _ _ _; first | (first | (refine O_lssS rfl rfl (fun h => absurd h (by omega)) ?_; intro _) | (refine O_lssS rfl rfl ?_ (fun h => absurd h (by omega)); intro _) | (refine O_lssS rfl rfl ?_ ?_ <;> intro _)))
      | (guard_target =~ WO _ _ (Oper.mk _ (Op.binOp BinOp.add 3 _ _ _) _ _ _ none) _ _ _ _; first | (refine O_addZ rfl rfl (by simp only [rngZ]; omega) ?_))
      | (guard_target =~ WO _ _ (Oper.mk _ (Op.binOp BinOp.mul 3 _ _ _) _ _ _ none) _ _ _ _; first | (refine O_mulZ rfl rfl (by simp only [rngZ]; omega) ?_)))
    exact E_ret rfl rfl rfl ⟨hS1.dropL, a, cap, rfl, (TS.slN hS1 (List.mem_cons_of_mem _ hm)), .inl rfl⟩
  · obtain ⟨bF, rfl, hnF, hF⟩ : ∃ b, a = some ⟨b, 0, none⟩ ∧ w0.heap.size ≤ b ∧ ∀ x, x < n → KP w b x lo R A := by
      rcases hfr with h | h
      · omega
      · exact h
    have hcap := (hS.slN hm).1
    have hbne : bF ≠ bT := by
      have := TS.ltC hS hm
      omega
    have hF1 : ∀ x, x < n → KP w1 bF x lo R A := fun x hx => (hF x hx).ext hE1
    clear hF hfr
    refine W_loop (fun m ρ w' => ∃ (bF bT cF cT wd : Nat), m = 2 * n - wd ∧ 1 ≤ wd ∧ wd < 2 * n ∧ bF ≠ bT ∧ w0.heap.size ≤ bF ∧ w0.heap.size ≤ bT ∧ n ≤ cF ∧ n ≤ cT ∧ TS B w0 w' ((183, some ⟨bF, 0, none⟩, n, cF) :: (183, some ⟨bT, 0, none⟩, n, cT) :: L) M ∧ (∀ x, x < n → KP w' bF x lo R A) ∧ Has ρ [(3, .slice (some ⟨bF, 0, none⟩) n cF), (4, .slice (some ⟨bT, 0, none⟩) n cT), (5, .int .i64 ((wd : Nat) : Int))]) (2 * n - 1) ⟨bF, bT, cap, n, 1, rfl, by omega, by omega, hbne, hnF, hn1, hcap, Nat.le_refl _, TS.pick hS1 (List.mem_cons_of_mem _ hm) hS1, hF1, Has.mk ⟨rfl, rfl, rfl, trivial⟩⟩ ?_
    clear hF1 hS1 hbne hnF hn1 hcap hm1
    rintro m ρ w2 ⟨bF, bT, cF, cT, wd, rfl, hw1, hw2, hbne, hnF, hnT, hcF, hcT, hS2, hF, σ', rfl⟩
    repeat' (first
      | (refine L_cons ?_)
      | (refine R_cons rfl ?_)
      | (refine W_seq ?_)
      | (refine W_region (by kernel_rfl) ?_)
      | (refine L_nil ?_)
      | (refine R_nil ?_)
      | (refine W_block ?_)
      | (refine W_skip ?_)
      | (refine W_exit ?_)
      | (refine W_ret ?_)
      | (guard_target =~ thenQ _ _ _ _ _; first | (refine T_next ?_) | (refine T_exit ?_) | (refine T_ret ?_))
      | (guard_target =~ blockQ _ _ _ _ _; first | (refine B_next ?_) | (refine B_same ?_) | (refine B_other (by kernel_rfl) ?_) | (refine B_ret ?_))
      | (refine W_true rfl rfl ?_)
      | (refine W_false rfl rfl ?_)
      | (guard_target =~ WC _ _ (Code.region 11 _ true) _ _ _; first | (refine W_drawnT (id := 11) [] [0, 1, 2, 3, 4, 5, 6, 7, 8, 9, 10, 11, 12, 13, 14, 15] mixed (by kernel_rfl) (by kernel_rfl) (by assumption) ?_; intro _ _ _))
      | (guard_target =~ WO _ _ (Oper.mk _ (Op.assign _) _ _ _ none) _ _ _ _; first | (refine O_assign (v := (.int _ _)) rfl ?_) | (refine O_assign (v := (.bool _)) rfl ?_) | (refine O_assign (v := (.pointer _)) rfl ?_) | (refine O_assign (v := (.slice _ _ _)) rfl ?_) | (refine O_assign (v := (.agg _)) rfl ?_) | (refine O_assign (v := (.tuple _)) rfl ?_))
      | (guard_target =~ WO _ _ (Oper.mk _ (Op.move _) _ _ _ none) _ _ _ _; first | (refine O_move (v := (.int _ _)) rfl ?_) | (refine O_move (v := (.bool _)) rfl ?_) | (refine O_move (v := (.pointer _)) rfl ?_) | (refine O_move (v := (.slice _ _ _)) rfl ?_) | (refine O_move (v := (.agg _)) rfl ?_) | (refine O_move (v := (.tuple _)) rfl ?_))
      | (guard_target =~ WO _ _ (Oper.mk _ (Op.call _) _ _ _ none) _ _ _ _; first | (refine O_len Samg.underlying181 rfl rfl ?_))
      | (guard_target =~ WO _ _ (Oper.mk _ (Op.makeSlice 181 _ _) _ _ _ none) _ _ _ _; first | (refine O_mk (by assumption) sl181 by183 zc183 (by decide) rfl rfl (by omega) (by omega) ?_; intro _ _ _ _))
      | (guard_target =~ WO _ _ (Oper.mk _ (Op.binOp BinOp.lss 3 _ _ _) _ _ _ none) _ _ _ _; first | (first | (refine O_lssS rfl rfl (fun h => absurd h (by omega)) ?_; intro _) | (refine O_lssS rfl rfl ?_ (fun h => absurd h (by omega)); intro _) | (refine O_lssS rfl rfl ?_ ?_ <;> intro _)))
      | (guard_target =~ WO _ _ (Oper.mk _ (Op.binOp BinOp.add 3 _ _ _) _ _ _ none) _ _ _ _; first | (refine O_addZ rfl rfl (by simp only [rngZ]; omega) ?_))
      | (guard_target =~ WO _ _ (Oper.mk _ (Op.binOp BinOp.mul 3 _ _ _) _ _ _ none) _ _ _ _; first | (refine O_mulZ rfl rfl (by simp only [rngZ]; omega) ?_)))
    · refine W_loop (fun m ρ w' => ∃ x : Nat, m = n - x ∧ x ≤ 3 * n + n ∧ TS B w0 w' ((183, some ⟨bF, 0, none⟩, n, cF) :: (183, some ⟨bT, 0, none⟩, n, cT) :: L) M ∧ (∀ y, y < n → KP w' bF y lo R A) ∧ (∀ y, y < x → y < n → KP w' bT y lo R A) ∧ Has ρ [(3, .slice (some ⟨bF, 0, none⟩) n cF), (4, .slice (some ⟨bT, 0, none⟩) n cT), (5, .int .i64 ((wd : Nat) : Int)), (6, .int .i64 ((x : Nat) : Int))]) n ⟨0, by omega, by omega, hS2, hF, fun y hy => by omega, Has.mk ⟨rfl, rfl, rfl, rfl, trivial⟩⟩ ?_
      clear hF hS2
      rintro m ρ w3 ⟨x, rfl, hx, hS3, hF, hD, σ3, rfl⟩
      by_cases hxn : x < n
      · obtain ⟨mid, hmid⟩ : ∃ mid, mid = Nat.min (x + wd) n := ⟨_, rfl⟩
        obtain ⟨hi, hhi⟩ : ∃ hi, hi = Nat.min (x + 2 * wd) n := ⟨_, rfl⟩
        have hmid1 : mid ≤ x + wd ∧ mid ≤ n ∧ (mid = x + wd ∨ mid = n) := by
          rw [hmid]; exact ⟨Nat.min_le_left _ _, Nat.min_le_right _ _, by rcases Nat.le_total (x + wd) n with h | h; exact .inl (Nat.min_eq_left h); exact .inr (Nat.min_eq_right h)⟩
        have hhi1 : hi ≤ x + 2 * wd ∧ hi ≤ n ∧ (hi = x + 2 * wd ∨ hi = n) := by
          rw [hhi]; exact ⟨Nat.min_le_left _ _, Nat.min_le_right _ _, by rcases Nat.le_total (x + 2 * wd) n with h | h; exact .inl (Nat.min_eq_left h); exact .inr (Nat.min_eq_right h)⟩
        clear hmid hhi
        repeat' (first
          | (refine L_cons ?_)
          | (refine R_cons rfl ?_)
          | (refine W_seq ?_)
          | (refine W_region (by kernel_rfl) ?_)
          | (refine L_nil ?_)
          | (refine R_nil ?_)
          | (refine W_block ?_)
          | (refine W_skip ?_)
          | (refine W_exit ?_)
          | (refine W_ret ?_)
          | (guard_target =~ thenQ _ _ _ _ _; first | (refine T_next ?_) | (refine T_exit ?_) | (refine T_ret ?_))
          | (guard_target =~ blockQ _ _ _ _ _; first | (refine B_next ?_) | (refine B_same ?_) | (refine B_other (by kernel_rfl) ?_) | (refine B_ret ?_))
          | (refine W_true rfl rfl ?_)
          | (refine W_false rfl rfl ?_)
          | (guard_target =~ WO _ _ (Oper.mk _ (Op.call (Call.mk (Callee.builtin Builtin.min) #[Operand.tmp 29, _] _)) _ _ _ none) _ _ _ _; first | (refine O_min rfl rfl ?_; intro zm hzm hz1 hz2; obtain rfl : zm = ((mid : Nat) : Int) := by omega))
          | (guard_target =~ WO _ _ (Oper.mk _ (Op.call (Call.mk (Callee.builtin Builtin.min) #[Operand.tmp 36, _] _)) _ _ _ none) _ _ _ _; first | (refine O_min rfl rfl ?_; intro zm hzm hz1 hz2; obtain rfl : zm = ((hi : Nat) : Int) := by omega))
          | (guard_target =~ WC _ _ (Code.region 11 _ true) _ _ _; first | (refine W_drawnT (id := 11) [] [0, 1, 2, 3, 4, 5, 6, 7, 8, 9, 10, 11, 12, 13, 14, 15] mixed (by kernel_rfl) (by kernel_rfl) (by assumption) ?_; intro w4 hS4 hh4; have hF : ∀ y, y < n → KP w4 bF y lo R A := (fun y hy => (hF y hy).heap hh4); have hD : ∀ y, y < x → y < n → KP w4 bT y lo R A := (fun y hy hn => (hD y hy hn).heap hh4)) | (refine W_drawnT (id := 11) [] [0, 1, 2, 3, 4, 5, 6, 7, 8, 9, 10, 11, 12, 13, 14, 15] mixed (by kernel_rfl) (by kernel_rfl) (by assumption) ?_; intro _ _ _))
          | (guard_target =~ WO _ _ (Oper.mk _ (Op.slice 181 (Operand.tmp 40) (some _) (some _) (some _)) _ _ _ none) _ _ _ _; first | (refine O_sl3 (b := bT) (lo := x) (hi := hi) sl181 rfl rfl rfl rfl (by omega) (by omega) ?_; intro oT hoT1 hoT2; have hoT : x = oT := (hoT2 (by omega)).symm; subst hoT))
          | (guard_target =~ WO _ _ (Oper.mk _ (Op.slice 181 (Operand.tmp 45) (some _) (some _) (some _)) _ _ _ none) _ _ _ _; first | (refine O_sl3 (b := bF) (lo := x) (hi := mid) sl181 rfl rfl rfl rfl (by omega) (by omega) ?_; intro oA hoA1 hoA2; have hoA : x = oA := (hoA2 (by omega)).symm; subst hoA))
          | (guard_target =~ WO _ _ (Oper.mk _ (Op.slice 181 (Operand.tmp 50) (some _) (some _) (some _)) _ _ _ none) _ _ _ _; first | (refine O_sl3 (b := bF) (lo := mid) (hi := hi) sl181 rfl rfl rfl rfl (by omega) (by omega) ?_; intro oB hoB1 hoB2))
          | (guard_target =~ WO _ _ (Oper.mk _ (Op.assign _) _ _ _ none) _ _ _ _; first | (refine O_assign (v := (.int _ _)) rfl ?_) | (refine O_assign (v := (.bool _)) rfl ?_) | (refine O_assign (v := (.pointer _)) rfl ?_) | (refine O_assign (v := (.slice _ _ _)) rfl ?_) | (refine O_assign (v := (.agg _)) rfl ?_) | (refine O_assign (v := (.tuple _)) rfl ?_))
          | (guard_target =~ WO _ _ (Oper.mk _ (Op.move _) _ _ _ none) _ _ _ _; first | (refine O_move (v := (.int _ _)) rfl ?_) | (refine O_move (v := (.bool _)) rfl ?_) | (refine O_move (v := (.pointer _)) rfl ?_) | (refine O_move (v := (.slice _ _ _)) rfl ?_) | (refine O_move (v := (.agg _)) rfl ?_) | (refine O_move (v := (.tuple _)) rfl ?_))
          | (guard_target =~ WO _ _ (Oper.mk _ (Op.call _) _ _ _ none) _ _ _ _; first | (refine O_len Samg.underlying181 rfl rfl ?_))
          | (guard_target =~ WO _ _ (Oper.mk _ (Op.makeSlice 181 _ _) _ _ _ none) _ _ _ _; first | (refine O_mk (by assumption) sl181 by183 zc183 (by decide) rfl rfl (by omega) (by omega) ?_; intro _ _ _ _))
          | (guard_target =~ WO _ _ (Oper.mk _ (Op.binOp BinOp.lss 3 _ _ _) _ _ _ none) _ _ _ _; first | (first | (refine O_lssS rfl rfl (fun h => absurd h (by omega)) ?_; intro _) | (refine O_lssS rfl rfl ?_ (fun h => absurd h (by omega)); intro _) | (refine O_lssS rfl rfl ?_ ?_ <;> intro _)))
          | (guard_target =~ WO _ _ (Oper.mk _ (Op.binOp BinOp.add 3 _ _ _) _ _ _ none) _ _ _ _; first | (refine O_addZ rfl rfl (by simp only [rngZ]; omega) ?_))
          | (guard_target =~ WO _ _ (Oper.mk _ (Op.binOp BinOp.mul 3 _ _ _) _ _ _ none) _ _ _ _; first | (refine O_mulZ rfl rfl (by simp only [rngZ]; omega) ?_)))
        refine O_call (l := [.slice (some ⟨bT, x * 6, none⟩) (hi - x) (hi - x), .slice (some ⟨bF, x * 6, none⟩) (mid - x) (mid - x), .slice (some ⟨bF, oB * 6, none⟩) (hi - mid) (hi - mid)]) cl119 rfl (Ret.mono (merge_ok hS4 (List.mem_cons_of_mem _ (List.mem_cons_self ..)) (List.mem_cons_self ..) hcT hcF hnT hbne (m := hi - x) (la := mid - x) (lb := hi - mid) (by omega) (by omega) (by omega) (by omega) (by by_cases hmh : hi = mid; rw [hoB1 hmh]; omega; rw [hoB2 hmh]; omega) hF (fun y hy => hD y hy (by omega))) ?_)
        rintro v w5 ⟨hS5, hF5, hD5⟩
        refine ⟨nof, ?_⟩
        repeat' (first
          | (refine L_cons ?_)
          | (refine R_cons rfl ?_)
          | (refine W_seq ?_)
          | (refine W_region (by kernel_rfl) ?_)
          | (refine L_nil ?_)
          | (refine R_nil ?_)
          | (refine W_block ?_)
          | (refine W_skip ?_)
          | (refine W_exit ?_)
          | (refine W_ret ?_)
          | (guard_target =~ thenQ _ _ _ _ _; first | (refine T_next ?_) | (refine T_exit ?_) | (refine T_ret ?_))
          | (guard_target =~ blockQ _ _ _ _ _; first | (refine B_next ?_) | (refine B_same ?_) | (refine B_other (by kernel_rfl) ?_) | (refine B_ret ?_))
          | (refine W_true rfl rfl ?_)
          | (refine W_false rfl rfl ?_)
          | (guard_target =~ WC _ _ (Code.region 11 _ true) _ _ _; first | (refine W_drawnT (id := 11) [] [0, 1, 2, 3, 4, 5, 6, 7, 8, 9, 10, 11, 12, 13, 14, 15] mixed (by kernel_rfl) (by kernel_rfl) (by assumption) ?_; intro _ _ _))
          | (guard_target =~ WO _ _ (Oper.mk _ (Op.assign _) _ _ _ none) _ _ _ _; first | (refine O_assign (v := (.int _ _)) rfl ?_) | (refine O_assign (v := (.bool _)) rfl ?_) | (refine O_assign (v := (.pointer _)) rfl ?_) | (refine O_assign (v := (.slice _ _ _)) rfl ?_) | (refine O_assign (v := (.agg _)) rfl ?_) | (refine O_assign (v := (.tuple _)) rfl ?_))
          | (guard_target =~ WO _ _ (Oper.mk _ (Op.move _) _ _ _ none) _ _ _ _; first | (refine O_move (v := (.int _ _)) rfl ?_) | (refine O_move (v := (.bool _)) rfl ?_) | (refine O_move (v := (.pointer _)) rfl ?_) | (refine O_move (v := (.slice _ _ _)) rfl ?_) | (refine O_move (v := (.agg _)) rfl ?_) | (refine O_move (v := (.tuple _)) rfl ?_))
          | (guard_target =~ WO _ _ (Oper.mk _ (Op.call _) _ _ _ none) _ _ _ _; first | (refine O_len Samg.underlying181 rfl rfl ?_))
          | (guard_target =~ WO _ _ (Oper.mk _ (Op.makeSlice 181 _ _) _ _ _ none) _ _ _ _; first | (refine O_mk (by assumption) sl181 by183 zc183 (by decide) rfl rfl (by omega) (by omega) ?_; intro _ _ _ _))
          | (guard_target =~ WO _ _ (Oper.mk _ (Op.binOp BinOp.lss 3 _ _ _) _ _ _ none) _ _ _ _; first | (first | (refine O_lssS rfl rfl (fun h => absurd h (by omega)) ?_; intro _) | (refine O_lssS rfl rfl ?_ (fun h => absurd h (by omega)); intro _) | (refine O_lssS rfl rfl ?_ ?_ <;> intro _)))
          | (guard_target =~ WO _ _ (Oper.mk _ (Op.binOp BinOp.add 3 _ _ _) _ _ _ none) _ _ _ _; first | (refine O_addZ rfl rfl (by simp only [rngZ]; omega) ?_))
          | (guard_target =~ WO _ _ (Oper.mk _ (Op.binOp BinOp.mul 3 _ _ _) _ _ _ none) _ _ _ _; first | (refine O_mulZ rfl rfl (by simp only [rngZ]; omega) ?_)))
        exact ⟨n - (x + 2 * wd), by omega, x + 2 * wd, rfl, by omega, hS5, hF5, fun y hy hyn => hD5 y (by omega), Has.mk ⟨rfl, rfl, rfl, rfl, trivial⟩⟩
      · repeat' (first
          | (refine L_cons ?_)
          | (refine R_cons rfl ?_)
          | (refine W_seq ?_)
          | (refine W_region (by kernel_rfl) ?_)
          | (refine L_nil ?_)
          | (refine R_nil ?_)
          | (refine W_block ?_)
          | (refine W_skip ?_)
          | (refine W_exit ?_)
          | (refine W_ret ?_)
          | (guard_target =~ thenQ _ _ _ _ _; first | (refine T_next ?_) | (refine T_exit ?_) | (refine T_ret ?_))
          | (guard_target =~ blockQ _ _ _ _ _; first | (refine B_next ?_) | (refine B_same ?_) | (refine B_other (by kernel_rfl) ?_) | (refine B_ret ?_))
          | (refine W_true rfl rfl ?_)
          | (refine W_false rfl rfl ?_)
          | (guard_target =~ WC _ _ (Code.region 11 _ true) _ _ _; first | (refine W_drawnT (id := 11) [] [0, 1, 2, 3, 4, 5, 6, 7, 8, 9, 10, 11, 12, 13, 14, 15] mixed (by kernel_rfl) (by kernel_rfl) (by assumption) ?_; intro _ _ _))
          | (guard_target =~ WO _ _ (Oper.mk _ (Op.assign _) _ _ _ none) _ _ _ _; first | (refine O_assign (v := (.int _ _)) rfl ?_) | (refine O_assign (v := (.bool _)) rfl ?_) | (refine O_assign (v := (.pointer _)) rfl ?_) | (refine O_assign (v := (.slice _ _ _)) rfl ?_) | (refine O_assign (v := (.agg _)) rfl ?_) | (refine O_assign (v := (.tuple _)) rfl ?_))
          | (guard_target =~ WO _ _ (Oper.mk _ (Op.move _) _ _ _ none) _ _ _ _; first | (refine O_move (v := (.int _ _)) rfl ?_) | (refine O_move (v := (.bool _)) rfl ?_) | (refine O_move (v := (.pointer _)) rfl ?_) | (refine O_move (v := (.slice _ _ _)) rfl ?_) | (refine O_move (v := (.agg _)) rfl ?_) | (refine O_move (v := (.tuple _)) rfl ?_))
          | (guard_target =~ WO _ _ (Oper.mk _ (Op.call _) _ _ _ none) _ _ _ _; first | (refine O_len Samg.underlying181 rfl rfl ?_))
          | (guard_target =~ WO _ _ (Oper.mk _ (Op.makeSlice 181 _ _) _ _ _ none) _ _ _ _; first | (refine O_mk (by assumption) sl181 by183 zc183 (by decide) rfl rfl (by omega) (by omega) ?_; intro _ _ _ _))
          | (guard_target =~ WO _ _ (Oper.mk _ (Op.binOp BinOp.lss 3 _ _ _) _ _ _ none) _ _ _ _; first | (first | (refine O_lssS rfl rfl (fun h => absurd h (by omega)) ?_; intro _) | (refine O_lssS rfl rfl ?_ (fun h => absurd h (by omega)); intro _) | (refine O_lssS rfl rfl ?_ ?_ <;> intro _)))
          | (guard_target =~ WO _ _ (Oper.mk _ (Op.binOp BinOp.add 3 _ _ _) _ _ _ none) _ _ _ _; first | (refine O_addZ rfl rfl (by simp only [rngZ]; omega) ?_))
          | (guard_target =~ WO _ _ (Oper.mk _ (Op.binOp BinOp.mul 3 _ _ _) _ _ _ none) _ _ _ _; first | (refine O_mulZ rfl rfl (by simp only [rngZ]; omega) ?_)))
        exact ⟨2 * n - 2 * wd, by omega, bT, bF, cT, cF, 2 * wd, rfl, by omega, by omega, hbne.symm, hnT, hnF, hcT, hcF, TS.pick hS3 (List.mem_cons_of_mem _ (List.mem_cons_self ..)) (TS.pick hS3 (List.mem_cons_self ..) hS3.dropL.dropL), fun y hy => hD y (by omega) hy, Has.mk ⟨rfl, rfl, congrArg (Value.int .i64) (by omega), trivial⟩⟩
    · exact E_ret rfl rfl rfl ⟨hS2.dropL.dropL, _, cF, rfl, TS.slN hS2 (List.mem_cons_self ..), .inr ⟨bF, rfl, hnF, hF⟩⟩
end Go.Proofs.Ygcsam
