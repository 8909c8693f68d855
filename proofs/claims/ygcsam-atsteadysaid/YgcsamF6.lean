/-
  THE WORLD THAT CAME IN, told; addTo, accountOK, WorldOK answer as plain propositions. Own work.
-/
import Derived.Test.YgcsamF5
namespace Go.Proofs.Ygcsam
set_option linter.unusedVariables false
set_option linter.unusedSimpArgs false
set_option maxRecDepth 4000
structure WA where
  n : Nat
  ad : Nat → Nat → Nat
  no : Nat → Nat
  bl : Nat → Nat → Nat
  ca : Nat → Option Addr
  cn : Nat → Nat
  cc : Nat → Nat
  cb : Nat → Nat → Nat
  sa : Nat → Option Addr
  sn : Nat → Nat
  sc : Nat → Nat
  ky : Nat → Nat → Nat → Nat
  vl : Nat → Nat → Nat → Nat
/-- The account i at o. -/
structure AccAt (w : World) (b o : Nat) (ω : WA) (i : Nat) : Prop where
  ad : By w b (o + 0) 20 (ω.ad i)
  no : w.cell? ⟨b, o + 20, none⟩ = some (.int .u64 ((ω.no i : Nat) : Int))
  bl : By w b (o + 21) 32 (ω.bl i)
  co : w.cell? ⟨b, o + 53, none⟩ = some (.slice (ω.ca i) (ω.cn i) (ω.cc i))
  sl : w.cell? ⟨b, o + 54, none⟩ = some (.slice (ω.sa i) (ω.sn i) (ω.sc i))
structure AW (w : World) (a : Option Addr) (cap : Nat) (ω : WA) : Prop where
  le : ω.n ≤ cap
  cap : cap < 9223372036854775808
  rad : ∀ i j, ω.ad i j < 256
  rno : ∀ i, ω.no i < 18446744073709551616
  rbl : ∀ i j, ω.bl i j < 256
  rcb : ∀ i j, ω.cb i j < 256
  rky : ∀ i k j, ω.ky i k j < 256
  rvl : ∀ i k j, ω.vl i k j < 256
  rcn : ∀ i, ω.cn i < 9223372036854775808
  rsn : ∀ i, ω.sn i < 9223372036854775808
  rows : ω.n = 0 ∨ ∃ b o, a = some ⟨b, o, none⟩ ∧ ∀ i, i < ω.n → AccAt w b (o + i * 55) ω i
  code : ∀ i, i < ω.n → ω.cn i = 0 ∨ ∃ b o, ω.ca i = some ⟨b, o, none⟩ ∧ By w b o (ω.cn i) (ω.cb i)
  slots : ∀ i, i < ω.n → ω.sn i = 0 ∨ ∃ b o, ω.sa i = some ⟨b, o, none⟩ ∧ ∀ k, k < ω.sn i → By w b (o + k * 64 + 0) 32 (ω.ky i k) ∧ By w b (o + k * 64 + 32) 32 (ω.vl i k)
theorem AccAt.ext {w w' : World} {b o i : Nat} {ω : WA} (h : AccAt w b o ω i) (e : Ext w w') : AccAt w' b o ω i := ⟨h.ad.ext e, cell_ext h.no e, h.bl.ext e, cell_ext h.co e, cell_ext h.sl e⟩
theorem AW.ext {w w' : World} {a : Option Addr} {cap : Nat} {ω : WA} (h : AW w a cap ω) (e : Ext w w') : AW w' a cap ω where
  le := h.le
  cap := h.cap
  rad := h.rad
  rno := h.rno
  rbl := h.rbl
  rcb := h.rcb
  rky := h.rky
  rvl := h.rvl
  rcn := h.rcn
  rsn := h.rsn
  rows := by
    rcases h.rows with h0 | ⟨b, o, h1, h2⟩
    · exact .inl h0
    · exact .inr ⟨b, o, h1, fun i hi => (h2 i hi).ext e⟩
  code := fun i hi => by
    rcases h.code i hi with h0 | ⟨b, o, h1, h2⟩
    · exact .inl h0
    · exact .inr ⟨b, o, h1, h2.ext e⟩
  slots := fun i hi => by
    rcases h.slots i hi with h0 | ⟨b, o, h1, h2⟩
    · exact .inl h0
    · exact .inr ⟨b, o, h1, fun k hk => ⟨(h2 k hk).1.ext e, (h2 k hk).2.ext e⟩⟩
section
variable {P : Program} {ops : Array Oper} {e : Bool} {K : Env → World → Prop} {ρ : Env} {w w0 : World} {d : Nat} {ty : TypeId} {pos : String} {af : Array Edge} {B : Nat} {L : List Fact} {M : List (Nat × Array Value)}
theorem W_drawnC {Q : Exit → Env → World → Prop} {n id : Nat} {ops : Array Oper} (ext order : List Nat) (hm : P.follows .mixedOrders = true) (hB : Cv.planB ops ext order = true) (hok : okB n ops = true) (h : TS B w0 w L M)
    (k : ∀ w', TS B w0 w' L M → w'.heap = w.heap → Cv.WR P ops ext Q order ρ w') : WC P n (.region id ops true) Q ρ w :=
  Cv.W_drawn ext order hm hB hok (k _ h.drew rfl)
theorem O_cv8 {s t a : Nat} {k : IntKind} {ds : TypeDesc} {x : Operand} (hs : P.underlying s = some ds) (ht : P.underlying t = some (.int .u8)) (hx : ev ρ x = .int k ((a : Nat) : Int)) (kk : K (put ρ d (.int .u8 ((a % 256 : Nat) : Int))) w) : WO P ops ⟨some d, .convert s t x, ty, pos, af, none⟩ e K ρ w :=
  O_pure rfl (fun w' => by
    have h : IntKind.u8.wrap ((a : Nat) : Int) = ((a % 256 : Nat) : Int) := by
      simp [IntKind.wrap, IntKind.signed, IntKind.bits]
    simp [execOp, Go.convert, hx, run_underlying' hs, run_underlying' ht, Conv.intToInt, h]) kk
end
/-- Adding 32 bytes from the last on: the bytes and the carry after k rounds. -/
def addS (t b : Nat → Nat) : Nat → (Nat → Nat) × Nat
  | 0 => (t, 0)
  | k + 1 => let p := addS t b k; let s := p.2 + (p.1 (31 - k) + b (31 - k)); ((fun j => if j = 31 - k then s % 256 else p.1 j), s / 256)
theorem addS_lt {t b : Nat → Nat} (ht : ∀ j, t j < 256) (hb : ∀ j, b j < 256) : ∀ k, (∀ j, (addS t b k).1 j < 256) ∧ (addS t b k).2 ≤ 1
  | 0 => ⟨ht, by simp [addS]⟩
  | k + 1 => by
    obtain ⟨h1, h2⟩ := addS_lt ht hb k
    have := h1 (31 - k)
    have := hb (31 - k)
    refine ⟨fun j => ?_, ?_⟩
    · simp only [addS]; split
      · omega
      · exact h1 j
    · simp only [addS]; omega
def totS (ω : WA) : Nat → Nat → Nat
  | 0 => fun _ => 0
  | i + 1 => (addS (totS ω i) (ω.bl i) 32).1
theorem totS_lt {ω : WA} (h : ∀ i j, ω.bl i j < 256) : ∀ i j, totS ω i j < 256
  | 0, _ => by simp [totS]
  | i + 1, j => (addS_lt (totS_lt h i) (h i) 32).1 j
def AOK (ω : WA) (i : Nat) : Prop := ¬(ω.no i = 0 ∧ ω.cn i = 0 ∧ ((∀ j, j < 32 → ω.bl i j = 0) ∨ 0 < ω.sn i)) ∧ ω.cn i ≤ 256 ∧ ω.sn i ≤ 16 ∧ ∀ k, k < ω.sn i → ¬(∀ j, j < 32 → ω.vl i k j = 0) ∧ (0 < k → sge (strF 32 (ω.ky i (k - 1))) (strF 32 (ω.ky i k)) = false)
def WOK (ω : WA) : Prop := ω.n ≤ 8 ∧ ∀ i, i < ω.n → (0 < i → sge (strF 20 (ω.ad (i - 1))) (strF 20 (ω.ad i)) = false) ∧ AOK ω i ∧ (addS (totS ω i) (ω.bl i) 32).2 = 0

theorem addTo_ok {B bt b o : Nat} {t f : Nat → Nat} {w0 w : World} {L : List Fact} {M : List (Nat × Array Value)} (hS : TS B w0 w L M) (hm : (87, some ⟨bt, 0, none⟩, 1, 1) ∈ L) (hbt : w0.heap.size ≤ bt) (ht : By w bt 0 32 t) (hb : b < w0.heap.size) (hf : By w b o 32 f) (rt : ∀ j, t j < 256) (rf : ∀ j, f j < 256) :
    Ret Samg.prog 29 #[.pointer (some ⟨bt, 0, none⟩), .pointer (some ⟨b, o, none⟩)] w fun v w' => TS B w0 w' L M ∧ By w' bt 0 32 (addS t f 32).1 ∧ ∃ p : Bool, v = .bool p ∧ (p = true ↔ (addS t f 32).2 = 0) := by
  refine W_enter (l := [_, _]) Samg.func29 rfl rfl rfl ?_
  repeat' (first
    | (refine L_cons ?_)
    | (refine R_cons rfl ?_)
    | (refine W_seq ?_)
    | (refine W_region (by kernel_rfl) ?_)
    | (refine L_nil ?_)
    | (refine R_nil ?_)
    | (refine W_block ?_)
    | (refine W_skip ?_)
    | (refine W_exit ?_)
    | (refine W_ret ?_)
    | (guard_target =~ thenQ _ _ _ _ _; first | (refine T_next ?_) | (refine T_exit ?_) | (refine T_ret ?_))
    | (guard_target =~ blockQ _ _ _ _ _; first | (refine B_next ?_) | (refine B_same ?_) | (refine B_other (by kernel_rfl) ?_) | (refine B_ret ?_))
    | (refine W_true rfl rfl ?_)
    | (refine W_false rfl rfl ?_)
    | (guard_target =~ WC _ _ (Code.region 5 _ true) _ _ _; first | (refine W_drawnT (id := 5) [] [0, 1, 2, 3, 4, 5, 6, 7, 8, 9, 10, 11, 12, 13, 14, 15, 16, 17] mixed (by kernel_rfl) (by kernel_rfl) (by assumption) ?_; intro _ _ _))
    | (guard_target =~ WO _ _ (Oper.mk _ (Op.assign _) _ _ _ none) _ _ _ _; first | (refine O_assign (v := (.int _ _)) rfl ?_) | (refine O_assign (v := (.bool _)) rfl ?_) | (refine O_assign (v := (.pointer _)) rfl ?_) | (refine O_assign (v := (.slice _ _ _)) rfl ?_) | (refine O_assign (v := (.agg _)) rfl ?_) | (refine O_assign (v := (.tuple _)) rfl ?_))
    | (guard_target =~ WO _ _ (Oper.mk _ (Op.move _) _ _ _ none) _ _ _ _; first | (refine O_move (v := (.int _ _)) rfl ?_) | (refine O_move (v := (.bool _)) rfl ?_) | (refine O_move (v := (.pointer _)) rfl ?_) | (refine O_move (v := (.slice _ _ _)) rfl ?_) | (refine O_move (v := (.agg _)) rfl ?_) | (refine O_move (v := (.tuple _)) rfl ?_))
    | (guard_target =~ WO _ _ (Oper.mk _ (Op.binOp BinOp.gtr 3 _ _ _) _ _ _ none) _ _ _ _; first | (first | (refine O_gtrS rfl rfl (fun h => absurd h (by omega)) ?_; intro _) | (refine O_gtrS rfl rfl ?_ (fun h => absurd h (by omega)); intro _) | (refine O_gtrS rfl rfl ?_ ?_ <;> intro _)))
    | (guard_target =~ WO _ _ (Oper.mk _ (Op.binOp BinOp.sub 3 _ _ _) _ _ _ none) _ _ _ _; first | (refine O_subZ rfl rfl (by simp only [rngZ]; omega) ?_))
    | (guard_target =~ WO _ _ (Oper.mk _ (Op.nilCheck _) _ _ _ none) _ _ _ _; first | (refine O_nil rfl ?_))
    | (guard_target =~ WO _ _ (Oper.mk _ (Op.indexAddr 87 _ _) _ _ _ none) _ _ _ _; first | (refine O_ixa ar87 rfl rfl (by omega) (by omega) ?_; rintro _ _))
    | (guard_target =~ WO _ _ (Oper.mk _ (Op.load 5 _) _ _ _ none) _ _ _ _; first | (refine O_ld8 (by assumption) (by repeat (first | exact List.Mem.head _ | refine List.Mem.tail _ ?_)) on5 rfl (by first | omega | (simp only [csz]; omega)) (by first | rfl | exact layMod rfl rfl) ?_; intro _ _))
    | (guard_target =~ WO _ _ (Oper.mk _ (Op.convert 5 22 _) _ _ _ none) _ _ _ _; first | (refine O_convZ Samg.underlying5 Samg.underlying22 rfl (by simp only [rngZ]; omega) ?_) | (refine O_convA Samg.underlying5 Samg.underlying22 rfl rfl ?_; intro _ hr; simp only [rngZ] at hr))
    | (guard_target =~ WO _ _ (Oper.mk _ (Op.binOp BinOp.add 22 _ _ _) _ _ _ none) _ _ _ _; first | (refine O_addZ rfl rfl (by simp only [rngZ]; omega) ?_))
    | (guard_target =~ WO _ _ (Oper.mk _ (Op.convert 22 5 _) _ _ _ none) _ _ _ _; first | (refine O_convZ Samg.underlying22 Samg.underlying5 rfl (by simp only [rngZ]; omega) ?_) | (refine O_convA Samg.underlying22 Samg.underlying5 rfl rfl ?_; intro _ hr; simp only [rngZ] at hr))
    | (guard_target =~ WO _ _ (Oper.mk _ (Op.store 5 _ _) _ _ _ none) _ _ _ _; first | (refine O_st (by assumption) (by repeat (first | exact List.Mem.head _ | refine List.Mem.tail _ ?_)) (by omega) on5 rfl rfl (by first | omega | (simp only [csz]; omega)) (by first | exact okp (c' := 2) (by first | rfl | exact layMod rfl rfl) (ok64 (by omega)) | exact okp (c' := 1) (by first | rfl | exact layMod rfl rfl) (ok8 (by omega)) | exact okp (c' := 3) (by first | rfl | exact layMod rfl rfl) (ok32 (by omega) (by omega)) | exact okp (c' := 4) (by first | rfl | exact layMod rfl rfl) okB_) rfl ?_; intro _ _))
    | (guard_target =~ WO _ _ (Oper.mk _ (Op.binOp BinOp.shr 22 _ (Operand.const (Value.int _ 8)) _) _ _ _ none) _ _ _ _; first | (refine O_shrA (bb := 8) rfl (by omega) rfl (by omega) ?_; intro _ _))
    | (guard_target =~ WO _ _ (Oper.mk _ (Op.binOp BinOp.eql 22 _ _ _) _ _ _ none) _ _ _ _; first | (first | (refine O_eqlS rfl rfl (fun h => absurd h (by omega)) ?_; intro _) | (refine O_eqlS rfl rfl ?_ (fun h => absurd (by omega) h); intro _) | (refine O_eqlS rfl rfl ?_ ?_ <;> intro _))))
  refine W_loop (fun m ρ w' => ∃ k : Nat, m = 32 - k ∧ k ≤ 32 ∧ TS B w0 w' L M ∧ By w' bt 0 32 (addS t f k).1 ∧ By w' b o 32 f ∧ Has ρ [(0, .pointer (some ⟨bt, 0, none⟩)), (1, .pointer (some ⟨b, o, none⟩)), (5, .int .u16 (((addS t f k).2 : Nat) : Int)), (6, .int .i64 ((32 - k : Nat) : Int))]) 32 ⟨0, by omega, by omega, hS, ht, hf, Has.mk ⟨rfl, rfl, rfl, rfl, trivial⟩⟩ ?_
  clear hS ht hf
  rintro m ρ w1 ⟨k, rfl, hk, hS1, ht, hf, σ', rfl⟩
  obtain ⟨r1, r2⟩ := addS_lt rt rf k
  by_cases hk32 : k < 32
  · obtain ⟨j, hj⟩ : ∃ j, j = 31 - k := ⟨_, rfl⟩
    have ht1 := ht j (by omega)
    have hf1 := hf j (by omega)
    have q1 := r1 j
    have q2 := rf j
    obtain ⟨s, hs⟩ : ∃ s, s = (addS t f k).2 + ((addS t f k).1 j + f j) := ⟨_, rfl⟩
    repeat' (first
      | (refine L_cons ?_)
      | (refine R_cons rfl ?_)
      | (refine W_seq ?_)
      | (refine W_region (by kernel_rfl) ?_)
      | (refine L_nil ?_)
      | (refine R_nil ?_)
      | (refine W_block ?_)
      | (refine W_skip ?_)
      | (refine W_exit ?_)
      | (refine W_ret ?_)
      | (guard_target =~ thenQ _ _ _ _ _; first | (refine T_next ?_) | (refine T_exit ?_) | (refine T_ret ?_))
      | (guard_target =~ blockQ _ _ _ _ _; first | (refine B_next ?_) | (refine B_same ?_) | (refine B_other (by kernel_rfl) ?_) | (refine B_ret ?_))
      | (refine W_true rfl rfl ?_)
      | (refine W_false rfl rfl ?_)
      | (guard_target =~ WC _ _ (Code.region 5 _ true) _ _ _; first | (refine W_drawnT (id := 5) [] [0, 1, 2, 3, 4, 5, 6, 7, 8, 9, 10, 11, 12, 13, 14, 15, 16, 17] mixed (by kernel_rfl) (by kernel_rfl) (by assumption) ?_; intro w2 hS2 hh2; replace ht := ht.heap hh2; replace hf := hf.heap hh2; replace ht1 := cell_heap ht1 hh2; replace hf1 := cell_heap hf1 hh2) | (refine W_drawnT (id := 5) [] [0, 1, 2, 3, 4, 5, 6, 7, 8, 9, 10, 11, 12, 13, 14, 15, 16, 17] mixed (by kernel_rfl) (by kernel_rfl) (by assumption) ?_; intro _ _ _))
      | (guard_target =~ WO _ _ (Oper.mk _ (Op.indexAddr 87 _ _) _ _ _ none) _ _ _ _; first | (refine O_index1 (m := j) ar87 rfl (congrArg (Value.int .i64) (by omega)) (by omega) ?_) | (refine O_ixa ar87 rfl rfl (by omega) (by omega) ?_; rintro _ _))
      | (guard_target =~ WO _ _ (Oper.mk _ (Op.load 5 _) _ _ _ none) _ _ _ _; first | (first | (refine O_ldC (v := .int .u8 (((addS t f k).1 j : Nat) : Int)) on5 rfl ht1 ?_) | (refine O_ldC (v := .int .u8 ((f j : Nat) : Int)) on5 rfl hf1 ?_)) | (refine O_ld8 (by assumption) (by repeat (first | exact List.Mem.head _ | refine List.Mem.tail _ ?_)) on5 rfl (by first | omega | (simp only [csz]; omega)) (by first | rfl | exact layMod rfl rfl) ?_; intro _ _))
      | (guard_target =~ WO _ _ (Oper.mk _ (Op.assign (Operand.tmp 27)) _ _ _ none) _ _ _ _; first | (refine O_assign (v := .int .u16 ((s : Nat) : Int)) (congrArg (Value.int .u16) (by omega)) ?_))
      | (guard_target =~ WO _ _ (Oper.mk _ (Op.convert 22 5 _) _ _ _ none) _ _ _ _; first | (refine O_cv8 Samg.underlying22 Samg.underlying5 rfl ?_) | (refine O_convZ Samg.underlying22 Samg.underlying5 rfl (by simp only [rngZ]; omega) ?_) | (refine O_convA Samg.underlying22 Samg.underlying5 rfl rfl ?_; intro _ hr; simp only [rngZ] at hr))
      | (guard_target =~ WO _ _ (Oper.mk _ (Op.store 5 _ _) _ _ _ none) _ _ _ _; first | (refine O_stW (T := 87) (n := 1) (cap := 1) (v := .int .u8 ((s % 256 : Nat) : Int)) (by assumption) hm hbt on5 rfl rfl (by simp only [csz]; omega) (okp (c' := 1) rfl (ok8 (by omega))) rfl ?_; intro w3 hS3 hW3) | (refine O_st (by assumption) (by repeat (first | exact List.Mem.head _ | refine List.Mem.tail _ ?_)) (by omega) on5 rfl rfl (by first | omega | (simp only [csz]; omega)) (by first | exact okp (c' := 2) (by first | rfl | exact layMod rfl rfl) (ok64 (by omega)) | exact okp (c' := 1) (by first | rfl | exact layMod rfl rfl) (ok8 (by omega)) | exact okp (c' := 3) (by first | rfl | exact layMod rfl rfl) (ok32 (by omega) (by omega)) | exact okp (c' := 4) (by first | rfl | exact layMod rfl rfl) okB_) rfl ?_; intro _ _))
      | (guard_target =~ WO _ _ (Oper.mk _ (Op.binOp BinOp.shr 22 _ _ _) _ _ _ none) _ _ _ _; first | (refine O_shr (a := s) (b := 8) rfl rfl (by decide) ?_))
      | (guard_target =~ WO _ _ (Oper.mk _ (Op.assign (Operand.tmp 36)) _ _ _ none) _ _ _ _; first | (refine O_assign (v := .int .u16 ((s / 256 : Nat) : Int)) (congrArg (fun z : Nat => Value.int .u16 (z : Int)) (Nat.shiftRight_eq_div_pow s 8)) ?_))
      | (guard_target =~ WO _ _ (Oper.mk _ (Op.assign _) _ _ _ none) _ _ _ _; first | (refine O_assign (v := (.int _ _)) rfl ?_) | (refine O_assign (v := (.bool _)) rfl ?_) | (refine O_assign (v := (.pointer _)) rfl ?_) | (refine O_assign (v := (.slice _ _ _)) rfl ?_) | (refine O_assign (v := (.agg _)) rfl ?_) | (refine O_assign (v := (.tuple _)) rfl ?_))
      | (guard_target =~ WO _ _ (Oper.mk _ (Op.move _) _ _ _ none) _ _ _ _; first | (refine O_move (v := (.int _ _)) rfl ?_) | (refine O_move (v := (.bool _)) rfl ?_) | (refine O_move (v := (.pointer _)) rfl ?_) | (refine O_move (v := (.slice _ _ _)) rfl ?_) | (refine O_move (v := (.agg _)) rfl ?_) | (refine O_move (v := (.tuple _)) rfl ?_))
      | (guard_target =~ WO _ _ (Oper.mk _ (Op.binOp BinOp.gtr 3 _ _ _) _ _ _ none) _ _ _ _; first | (first | (refine O_gtrS rfl rfl (fun h => absurd h (by omega)) ?_; intro _) | (refine O_gtrS rfl rfl ?_ (fun h => absurd h (by omega)); intro _) | (refine O_gtrS rfl rfl ?_ ?_ <;> intro _)))
      | (guard_target =~ WO _ _ (Oper.mk _ (Op.binOp BinOp.sub 3 _ _ _) _ _ _ none) _ _ _ _; first | (refine O_subZ rfl rfl (by simp only [rngZ]; omega) ?_))
      | (guard_target =~ WO _ _ (Oper.mk _ (Op.nilCheck _) _ _ _ none) _ _ _ _; first | (refine O_nil rfl ?_))
      | (guard_target =~ WO _ _ (Oper.mk _ (Op.convert 5 22 _) _ _ _ none) _ _ _ _; first | (refine O_convZ Samg.underlying5 Samg.underlying22 rfl (by simp only [rngZ]; omega) ?_) | (refine O_convA Samg.underlying5 Samg.underlying22 rfl rfl ?_; intro _ hr; simp only [rngZ] at hr))
      | (guard_target =~ WO _ _ (Oper.mk _ (Op.binOp BinOp.add 22 _ _ _) _ _ _ none) _ _ _ _; first | (refine O_addZ rfl rfl (by simp only [rngZ]; omega) ?_))
      | (guard_target =~ WO _ _ (Oper.mk _ (Op.binOp BinOp.shr 22 _ (Operand.const (Value.int _ 8)) _) _ _ _ none) _ _ _ _; first | (refine O_shrA (bb := 8) rfl (by omega) rfl (by omega) ?_; intro _ _))
      | (guard_target =~ WO _ _ (Oper.mk _ (Op.binOp BinOp.eql 22 _ _ _) _ _ _ none) _ _ _ _; first | (first | (refine O_eqlS rfl rfl (fun h => absurd h (by omega)) ?_; intro _) | (refine O_eqlS rfl rfl ?_ (fun h => absurd (by omega) h); intro _) | (refine O_eqlS rfl rfl ?_ ?_ <;> intro _))))
    refine ⟨32 - (k + 1), by omega, k + 1, rfl, by omega, hS3, fun i hi => ?_, fun i hi => hW3.keep (by omega) (hf i hi), Has.mk ⟨rfl, rfl, ?_, congrArg (Value.int .i64) (by omega), trivial⟩⟩
    · show w3.cell? ⟨bt, 0 + i, none⟩ = some (.int .u8 (((if i = 31 - k then ((addS t f k).2 + ((addS t f k).1 (31 - k) + f (31 - k))) % 256 else (addS t f k).1 i : Nat)) : Int))
      by_cases hij : i = j
      · subst hij
        rw [hW3.at1, if_pos hj, ← hj, ← hs]
      · rw [if_neg (by omega), hW3, if_neg (fun h => by have := h.2; simp at this; omega)]
        exact ht i hi
    · subst hs; subst hj; rfl
  · obtain rfl : k = 32 := by omega
    repeat' (first
      | (refine L_cons ?_)
      | (refine R_cons rfl ?_)
      | (refine W_seq ?_)
      | (refine W_region (by kernel_rfl) ?_)
      | (refine L_nil ?_)
      | (refine R_nil ?_)
      | (refine W_block ?_)
      | (refine W_skip ?_)
      | (refine W_exit ?_)
      | (refine W_ret ?_)
      | (guard_target =~ thenQ _ _ _ _ _; first | (refine T_next ?_) | (refine T_exit ?_) | (refine T_ret ?_))
      | (guard_target =~ blockQ _ _ _ _ _; first | (refine B_next ?_) | (refine B_same ?_) | (refine B_other (by kernel_rfl) ?_) | (refine B_ret ?_))
      | (refine W_true rfl rfl ?_)
      | (refine W_false rfl rfl ?_)
      | (guard_target =~ WC _ _ (Code.region 5 _ true) _ _ _; first | (refine W_drawnT (id := 5) [] [0, 1, 2, 3, 4, 5, 6, 7, 8, 9, 10, 11, 12, 13, 14, 15, 16, 17] mixed (by kernel_rfl) (by kernel_rfl) (by assumption) ?_; intro _ _ _))
      | (guard_target =~ WO _ _ (Oper.mk _ (Op.assign _) _ _ _ none) _ _ _ _; first | (refine O_assign (v := (.int _ _)) rfl ?_) | (refine O_assign (v := (.bool _)) rfl ?_) | (refine O_assign (v := (.pointer _)) rfl ?_) | (refine O_assign (v := (.slice _ _ _)) rfl ?_) | (refine O_assign (v := (.agg _)) rfl ?_) | (refine O_assign (v := (.tuple _)) rfl ?_))
      | (guard_target =~ WO _ _ (Oper.mk _ (Op.move _) _ _ _ none) _ _ _ _; first | (refine O_move (v := (.int _ _)) rfl ?_) | (refine O_move (v := (.bool _)) rfl ?_) | (refine O_move (v := (.pointer _)) rfl ?_) | (refine O_move (v := (.slice _ _ _)) rfl ?_) | (refine O_move (v := (.agg _)) rfl ?_) | (refine O_move (v := (.tuple _)) rfl ?_))
      | (guard_target =~ WO _ _ (Oper.mk _ (Op.binOp BinOp.gtr 3 _ _ _) _ _ _ none) _ _ _ _; first | (first | (refine O_gtrS rfl rfl (fun h => absurd h (by omega)) ?_; intro _) | (refine O_gtrS rfl rfl ?_ (fun h => absurd h (by omega)); intro _) | (refine O_gtrS rfl rfl ?_ ?_ <;> intro _)))
      | (guard_target =~ WO _ _ (Oper.mk _ (Op.binOp BinOp.sub 3 _ _ _) _ _ _ none) _ _ _ _; first | (refine O_subZ rfl rfl (by simp only [rngZ]; omega) ?_))
      | (guard_target =~ WO _ _ (Oper.mk _ (Op.nilCheck _) _ _ _ none) _ _ _ _; first | (refine O_nil rfl ?_))
      | (guard_target =~ WO _ _ (Oper.mk _ (Op.indexAddr 87 _ _) _ _ _ none) _ _ _ _; first | (refine O_ixa ar87 rfl rfl (by omega) (by omega) ?_; rintro _ _))
      | (guard_target =~ WO _ _ (Oper.mk _ (Op.load 5 _) _ _ _ none) _ _ _ _; first | (refine O_ld8 (by assumption) (by repeat (first | exact List.Mem.head _ | refine List.Mem.tail _ ?_)) on5 rfl (by first | omega | (simp only [csz]; omega)) (by first | rfl | exact layMod rfl rfl) ?_; intro _ _))
      | (guard_target =~ WO _ _ (Oper.mk _ (Op.convert 5 22 _) _ _ _ none) _ _ _ _; first | (refine O_convZ Samg.underlying5 Samg.underlying22 rfl (by simp only [rngZ]; omega) ?_) | (refine O_convA Samg.underlying5 Samg.underlying22 rfl rfl ?_; intro _ hr; simp only [rngZ] at hr))
      | (guard_target =~ WO _ _ (Oper.mk _ (Op.binOp BinOp.add 22 _ _ _) _ _ _ none) _ _ _ _; first | (refine O_addZ rfl rfl (by simp only [rngZ]; omega) ?_))
      | (guard_target =~ WO _ _ (Oper.mk _ (Op.convert 22 5 _) _ _ _ none) _ _ _ _; first | (refine O_convZ Samg.underlying22 Samg.underlying5 rfl (by simp only [rngZ]; omega) ?_) | (refine O_convA Samg.underlying22 Samg.underlying5 rfl rfl ?_; intro _ hr; simp only [rngZ] at hr))
      | (guard_target =~ WO _ _ (Oper.mk _ (Op.store 5 _ _) _ _ _ none) _ _ _ _; first | (refine O_st (by assumption) (by repeat (first | exact List.Mem.head _ | refine List.Mem.tail _ ?_)) (by omega) on5 rfl rfl (by first | omega | (simp only [csz]; omega)) (by first | exact okp (c' := 2) (by first | rfl | exact layMod rfl rfl) (ok64 (by omega)) | exact okp (c' := 1) (by first | rfl | exact layMod rfl rfl) (ok8 (by omega)) | exact okp (c' := 3) (by first | rfl | exact layMod rfl rfl) (ok32 (by omega) (by omega)) | exact okp (c' := 4) (by first | rfl | exact layMod rfl rfl) okB_) rfl ?_; intro _ _))
      | (guard_target =~ WO _ _ (Oper.mk _ (Op.binOp BinOp.shr 22 _ (Operand.const (Value.int _ 8)) _) _ _ _ none) _ _ _ _; first | (refine O_shrA (bb := 8) rfl (by omega) rfl (by omega) ?_; intro _ _))
      | (guard_target =~ WO _ _ (Oper.mk _ (Op.binOp BinOp.eql 22 _ _ _) _ _ _ none) _ _ _ _; first | (first | (refine O_eqlS rfl rfl (fun h => absurd h (by omega)) ?_; intro _) | (refine O_eqlS rfl rfl ?_ (fun h => absurd (by omega) h); intro _) | (refine O_eqlS rfl rfl ?_ ?_ <;> intro _))))
    all_goals refine E_ret rfl rfl rfl ⟨hS1, ht, _, rfl, ?_⟩
    all_goals (constructor <;> intro h <;> first | omega | (cases h) | rfl)
theorem accountOK_ok {B b o i cap : Nat} {a : Option Addr} {ω : WA} {w : World} (hT : WT B w) (hA : AW w a cap ω) (hi : i < ω.n) (hr : AccAt w b o ω i) : Rd B Samg.prog 28 [.pointer (some ⟨b, o, none⟩)] w fun v w' => ∃ p : Bool, v = .bool p ∧ (p = true ↔ AOK ω i) := by
  refine W_enter (l := [_]) Samg.func28 rfl rfl rfl ?_
  have hS := TS.start hT
  have hcn := hA.rcn i
  have hsn := hA.rsn i
  refine W_cut3 (fun ρ w' => TS B w w' [] [] ∧ ¬(ω.no i = 0 ∧ ω.cn i = 0 ∧ ((∀ j, j < 32 → ω.bl i j = 0) ∨ 0 < ω.sn i)) ∧ ω.cn i ≤ 256 ∧ ω.sn i ≤ 16 ∧ Has ρ [(0, .pointer (some ⟨b, o, none⟩))]) ?_ ?_
  · repeat' (first
      | (refine L_cons ?_)
      | (refine R_cons rfl ?_)
      | (refine W_seq ?_)
      | (refine W_region (by kernel_rfl) ?_)
      | (refine L_nil ?_)
      | (refine R_nil ?_)
      | (refine W_block ?_)
      | (refine W_skip ?_)
      | (refine W_exit ?_)
      | (refine W_ret ?_)
      | (guard_target =~ thenQ _ _ _ _ _; first | (refine T_next ?_) | (refine T_exit ?_) | (refine T_ret ?_))
      | (guard_target =~ blockQ _ _ _ _ _; first | (refine B_next ?_) | (refine B_same ?_) | (refine B_other (by kernel_rfl) ?_) | (refine B_ret ?_))
      | (refine W_true rfl rfl ?_)
      | (refine W_false rfl rfl ?_)
      | (guard_target =~ WO _ _ (Oper.mk _ (Op.load 27 _) _ _ _ none) _ _ _ _; first | (refine O_ldV (by assumption) on27 rfl hr.no (cell_lt hr.no) ?_) | (refine O_ld64 (by assumption) (by repeat (first | exact List.Mem.head _ | refine List.Mem.tail _ ?_)) on27 rfl (by first | omega | (simp only [csz]; omega)) (by first | rfl | exact layMod rfl rfl) ?_; intro _ _))
      | (guard_target =~ WO _ _ (Oper.mk _ (Op.load 31 _) _ _ _ none) _ _ _ _; first | (refine O_ldV (by assumption) on31 rfl hr.co (cell_lt hr.co) ?_) | (refine O_lds (t' := 5) (by assumption) (by repeat (first | exact List.Mem.head _ | refine List.Mem.tail _ ?_)) on31 rfl (by first | omega | (simp only [csz]; omega)) (by first | rfl | exact layMod rfl rfl) ?_; intro _ _ _ _ _ _))
      | (guard_target =~ WO _ _ (Oper.mk _ (Op.load 88 _) _ _ _ none) _ _ _ _; first | (refine O_ldV (by assumption) on88 rfl hr.sl (cell_lt hr.sl) ?_) | (refine O_lds (t' := 150) (by assumption) (by repeat (first | exact List.Mem.head _ | refine List.Mem.tail _ ?_)) on88 rfl (by first | omega | (simp only [csz]; omega)) (by first | rfl | exact layMod rfl rfl) ?_; intro _ _ _ _ _ _))
      | (guard_target =~ WO _ _ (Oper.mk _ (Op.load 87 _) _ _ _ none) _ _ _ _; first | (refine O_ldB (f := ω.bl i) ag87 rfl (hr.bl.ext (TS.e (by assumption))) ?_) | (refine O_ldn8 (by assumption) (by repeat (first | exact List.Mem.head _ | refine List.Mem.tail _ ?_)) ag87 rfl (by first | omega | (simp only [csz]; omega)) (by first | exact layRun0 rfl rfl | exact layRun rfl rfl rfl) ?_; intro _ _))
      | (guard_target =~ WO _ _ (Oper.mk _ (Op.build 87 #[]) _ _ _ none) _ _ _ _; first | (refine O_bd0 ar87 zc87 rfl rfl ?_))
      | (guard_target =~ WO _ _ (Oper.mk _ (Op.binOp BinOp.eql 87 _ _ _) _ _ _ none) _ _ _ _; first | (refine O_eql_ns num87 rfl rfl ?_; (rcases Classical.em (∀ j, j < 32 → ω.bl i j = 0) with hz | hz) <;> first | rw [decide_eq_true hz] | rw [decide_eq_false hz]) | (refine O_eqA num87 rfl rfl ?_ ?_))
      | (guard_target =~ WO _ _ (Oper.mk _ _ _ _ _ (some _)) _ _ _ _; first | (refine G_yes rfl ?_) | (refine G_no rfl ?_))
      | (guard_target =~ WC _ _ (Code.region 10 _ true) _ _ _; first | (refine W_drawnT (id := 10) [] [0, 1, 2, 3, 4, 5, 6, 7, 8, 9, 10, 11, 12, 13, 14, 15, 16, 17, 18, 19, 20, 21, 22, 23] mixed (by kernel_rfl) (by kernel_rfl) (by assumption) ?_; intro _ _ _))
      | (guard_target =~ WO _ _ (Oper.mk _ (Op.assign _) _ _ _ none) _ _ _ _; first | (refine O_assign (v := (.int _ _)) rfl ?_) | (refine O_assign (v := (.bool _)) rfl ?_) | (refine O_assign (v := (.pointer _)) rfl ?_) | (refine O_assign (v := (.slice _ _ _)) rfl ?_) | (refine O_assign (v := (.agg _)) rfl ?_) | (refine O_assign (v := (.tuple _)) rfl ?_))
      | (guard_target =~ WO _ _ (Oper.mk _ (Op.move _) _ _ _ none) _ _ _ _; first | (refine O_move (v := (.int _ _)) rfl ?_) | (refine O_move (v := (.bool _)) rfl ?_) | (refine O_move (v := (.pointer _)) rfl ?_) | (refine O_move (v := (.slice _ _ _)) rfl ?_) | (refine O_move (v := (.agg _)) rfl ?_) | (refine O_move (v := (.tuple _)) rfl ?_))
      | (guard_target =~ WO _ _ (Oper.mk _ (Op.nilCheck _) _ _ _ none) _ _ _ _; first | (refine O_nil rfl ?_))
      | (guard_target =~ WO _ _ (Oper.mk _ (Op.fieldAddr 90 _ 1) _ _ _ none) _ _ _ _; first | (refine O_fdT fd90_1 (by decide) rfl ?_) | (refine O_field fd90_1 (by decide) rfl ?_))
      | (guard_target =~ WO _ _ (Oper.mk _ (Op.binOp BinOp.eql 27 _ _ _) _ _ _ none) _ _ _ _; first | (first | (refine O_eqlS rfl rfl (fun h => absurd h (by omega)) ?_; intro _) | (refine O_eqlS rfl rfl ?_ (fun h => absurd (by omega) h); intro _) | (refine O_eqlS rfl rfl ?_ ?_ <;> intro _)))
      | (guard_target =~ WO _ _ (Oper.mk _ (Op.fieldAddr 90 _ 3) _ _ _ none) _ _ _ _; first | (refine O_fdT fd90_3 (by decide) rfl ?_) | (refine O_field fd90_3 (by decide) rfl ?_))
      | (guard_target =~ WO _ _ (Oper.mk _ (Op.call _) _ _ _ none) _ _ _ _; first | (refine O_len Samg.underlying31 rfl rfl ?_) | (refine O_len Samg.underlying88 rfl rfl ?_))
      | (guard_target =~ WO _ _ (Oper.mk _ (Op.binOp BinOp.eql 3 _ _ _) _ _ _ none) _ _ _ _; first | (first | (refine O_eqlS rfl rfl (fun h => absurd h (by omega)) ?_; intro _) | (refine O_eqlS rfl rfl ?_ (fun h => absurd (by omega) h); intro _) | (refine O_eqlS rfl rfl ?_ ?_ <;> intro _)))
      | (guard_target =~ WO _ _ (Oper.mk _ (Op.pick _ _ _) _ _ _ none) _ _ _ _; first | (refine O_pick_t (v := (.bool _)) rfl rfl ?_) | (refine O_pick_f (v := (.bool _)) rfl rfl ?_))
      | (guard_target =~ WO _ _ (Oper.mk _ (Op.fieldAddr 90 _ 2) _ _ _ none) _ _ _ _; first | (refine O_fdT fd90_2 (by decide) rfl ?_) | (refine O_field fd90_2 (by decide) rfl ?_))
      | (guard_target =~ WO _ _ (Oper.mk _ (Op.fieldAddr 90 _ 4) _ _ _ none) _ _ _ _; first | (refine O_fdT fd90_4 (by decide) rfl ?_) | (refine O_field fd90_4 (by decide) rfl ?_))
      | (guard_target =~ WO _ _ (Oper.mk _ (Op.binOp BinOp.gtr 3 _ _ _) _ _ _ none) _ _ _ _; first | (first | (refine O_gtrS rfl rfl (fun h => absurd h (by omega)) ?_; intro _) | (refine O_gtrS rfl rfl ?_ (fun h => absurd h (by omega)); intro _) | (refine O_gtrS rfl rfl ?_ ?_ <;> intro _)))
      | (guard_target =~ WO _ _ (Oper.mk _ (Op.binOp BinOp.lss 3 _ _ _) _ _ _ none) _ _ _ _; first | (first | (refine O_lssS rfl rfl (fun h => absurd h (by omega)) ?_; intro _) | (refine O_lssS rfl rfl ?_ (fun h => absurd h (by omega)); intro _) | (refine O_lssS rfl rfl ?_ ?_ <;> intro _)))
      | (guard_target =~ WO _ _ (Oper.mk _ (Op.indexAddr 88 _ _) _ _ _ none) _ _ _ _; first | (refine O_ixK (by assumption) (by repeat (first | exact List.Mem.head _ | refine List.Mem.tail _ ?_)) sl88 rfl rfl (by omega) (by omega) ?_; rintro _ _ _) | (refine O_ixN (by assumption) (by repeat (first | exact List.Mem.head _ | refine List.Mem.tail _ ?_)) sl88 rfl rfl (by omega) (by omega) ?_; rintro _ _ _ _ _ _))
      | (guard_target =~ WO _ _ (Oper.mk _ (Op.fieldAddr 150 _ 1) _ _ _ none) _ _ _ _; first | (refine O_fdT fd150_1 (by decide) rfl ?_) | (refine O_field fd150_1 (by decide) rfl ?_))
      | (guard_target =~ WO _ _ (Oper.mk _ (Op.binOp BinOp.sub 3 _ _ _) _ _ _ none) _ _ _ _; first | (refine O_subZ rfl rfl (by simp only [rngZ]; omega) ?_))
      | (guard_target =~ WO _ _ (Oper.mk _ (Op.fieldAddr 150 _ 0) _ _ _ none) _ _ _ _; first | (refine O_fdT fd150_0 (by decide) rfl ?_) | (refine O_field fd150_0 (by decide) rfl ?_))
      | (guard_target =~ WO _ _ (Oper.mk _ (Op.slice 87 _ none none none) _ _ _ none) _ _ _ _; first | (refine O_sla ar87 rfl (by decide) ?_))
      | (guard_target =~ WO _ _ (Oper.mk _ (Op.binOp BinOp.add 3 _ _ _) _ _ _ none) _ _ _ _; first | (refine O_addZ rfl rfl (by simp only [rngZ]; omega) ?_)))
    all_goals first
      | (refine E_ret1T (by assumption) rfl rfl rfl ⟨false, rfl, fun h => (by cases h), fun h => absurd h ?_⟩
         rintro ⟨h1, h2, h3, h4⟩
         first | omega | exact h1 ⟨by omega, by omega, .inl hz⟩ | exact h1 ⟨by omega, by omega, .inr (by omega)⟩)
      | exact ⟨by assumption, fun h => (by omega), by omega, by omega, Has.mk ⟨rfl, trivial⟩⟩
      | exact ⟨by assumption, fun h => (by rcases h.2.2 with h | h; exact hz h; omega), by omega, by omega, Has.mk ⟨rfl, trivial⟩⟩
  · rintro ρ w1 ⟨hS1, f1, f2, f3, σ', rfl⟩
    repeat' (first
      | (refine L_cons ?_)
      | (refine R_cons rfl ?_)
      | (refine W_seq ?_)
      | (refine W_region (by kernel_rfl) ?_)
      | (refine L_nil ?_)
      | (refine R_nil ?_)
      | (refine W_block ?_)
      | (refine W_skip ?_)
      | (refine W_exit ?_)
      | (refine W_ret ?_)
      | (guard_target =~ thenQ _ _ _ _ _; first | (refine T_next ?_) | (refine T_exit ?_) | (refine T_ret ?_))
      | (guard_target =~ blockQ _ _ _ _ _; first | (refine B_next ?_) | (refine B_same ?_) | (refine B_other (by kernel_rfl) ?_) | (refine B_ret ?_))
      | (refine W_true rfl rfl ?_)
      | (refine W_false rfl rfl ?_)
      | (guard_target =~ WO _ _ (Oper.mk _ (Op.load 88 _) _ _ _ none) _ _ _ _; first | (refine O_ldV (by assumption) on88 rfl hr.sl (cell_lt hr.sl) ?_) | (refine O_lds (t' := 150) (by assumption) (by repeat (first | exact List.Mem.head _ | refine List.Mem.tail _ ?_)) on88 rfl (by first | omega | (simp only [csz]; omega)) (by first | rfl | exact layMod rfl rfl) ?_; intro _ _ _ _ _ _))
      | (guard_target =~ WO _ _ (Oper.mk _ _ _ _ _ (some _)) _ _ _ _; first | (refine G_yes rfl ?_) | (refine G_no rfl ?_))
      | (guard_target =~ WC _ _ (Code.region 10 _ true) _ _ _; first | (refine W_drawnT (id := 10) [] [0, 1, 2, 3, 4, 5, 6, 7, 8, 9, 10, 11, 12, 13, 14, 15, 16, 17, 18, 19, 20, 21, 22, 23] mixed (by kernel_rfl) (by kernel_rfl) (by assumption) ?_; intro _ _ _))
      | (guard_target =~ WO _ _ (Oper.mk _ (Op.assign _) _ _ _ none) _ _ _ _; first | (refine O_assign (v := (.int _ _)) rfl ?_) | (refine O_assign (v := (.bool _)) rfl ?_) | (refine O_assign (v := (.pointer _)) rfl ?_) | (refine O_assign (v := (.slice _ _ _)) rfl ?_) | (refine O_assign (v := (.agg _)) rfl ?_) | (refine O_assign (v := (.tuple _)) rfl ?_))
      | (guard_target =~ WO _ _ (Oper.mk _ (Op.move _) _ _ _ none) _ _ _ _; first | (refine O_move (v := (.int _ _)) rfl ?_) | (refine O_move (v := (.bool _)) rfl ?_) | (refine O_move (v := (.pointer _)) rfl ?_) | (refine O_move (v := (.slice _ _ _)) rfl ?_) | (refine O_move (v := (.agg _)) rfl ?_) | (refine O_move (v := (.tuple _)) rfl ?_))
      | (guard_target =~ WO _ _ (Oper.mk _ (Op.nilCheck _) _ _ _ none) _ _ _ _; first | (refine O_nil rfl ?_))
      | (guard_target =~ WO _ _ (Oper.mk _ (Op.fieldAddr 90 _ 1) _ _ _ none) _ _ _ _; first | (refine O_fdT fd90_1 (by decide) rfl ?_) | (refine O_field fd90_1 (by decide) rfl ?_))
      | (guard_target =~ WO _ _ (Oper.mk _ (Op.load 27 _) _ _ _ none) _ _ _ _; first | (refine O_ld64 (by assumption) (by repeat (first | exact List.Mem.head _ | refine List.Mem.tail _ ?_)) on27 rfl (by first | omega | (simp only [csz]; omega)) (by first | rfl | exact layMod rfl rfl) ?_; intro _ _))
      | (guard_target =~ WO _ _ (Oper.mk _ (Op.binOp BinOp.eql 27 _ _ _) _ _ _ none) _ _ _ _; first | (first | (refine O_eqlS rfl rfl (fun h => absurd h (by omega)) ?_; intro _) | (refine O_eqlS rfl rfl ?_ (fun h => absurd (by omega) h); intro _) | (refine O_eqlS rfl rfl ?_ ?_ <;> intro _)))
      | (guard_target =~ WO _ _ (Oper.mk _ (Op.fieldAddr 90 _ 3) _ _ _ none) _ _ _ _; first | (refine O_fdT fd90_3 (by decide) rfl ?_) | (refine O_field fd90_3 (by decide) rfl ?_))
      | (guard_target =~ WO _ _ (Oper.mk _ (Op.load 31 _) _ _ _ none) _ _ _ _; first | (refine O_lds (t' := 5) (by assumption) (by repeat (first | exact List.Mem.head _ | refine List.Mem.tail _ ?_)) on31 rfl (by first | omega | (simp only [csz]; omega)) (by first | rfl | exact layMod rfl rfl) ?_; intro _ _ _ _ _ _))
      | (guard_target =~ WO _ _ (Oper.mk _ (Op.call _) _ _ _ none) _ _ _ _; first | (refine O_len Samg.underlying31 rfl rfl ?_) | (refine O_len Samg.underlying88 rfl rfl ?_))
      | (guard_target =~ WO _ _ (Oper.mk _ (Op.binOp BinOp.eql 3 _ _ _) _ _ _ none) _ _ _ _; first | (first | (refine O_eqlS rfl rfl (fun h => absurd h (by omega)) ?_; intro _) | (refine O_eqlS rfl rfl ?_ (fun h => absurd (by omega) h); intro _) | (refine O_eqlS rfl rfl ?_ ?_ <;> intro _)))
      | (guard_target =~ WO _ _ (Oper.mk _ (Op.pick _ _ _) _ _ _ none) _ _ _ _; first | (refine O_pick_t (v := (.bool _)) rfl rfl ?_) | (refine O_pick_f (v := (.bool _)) rfl rfl ?_))
      | (guard_target =~ WO _ _ (Oper.mk _ (Op.fieldAddr 90 _ 2) _ _ _ none) _ _ _ _; first | (refine O_fdT fd90_2 (by decide) rfl ?_) | (refine O_field fd90_2 (by decide) rfl ?_))
      | (guard_target =~ WO _ _ (Oper.mk _ (Op.load 87 _) _ _ _ none) _ _ _ _; first | (refine O_ldn8 (by assumption) (by repeat (first | exact List.Mem.head _ | refine List.Mem.tail _ ?_)) ag87 rfl (by first | omega | (simp only [csz]; omega)) (by first | exact layRun0 rfl rfl | exact layRun rfl rfl rfl) ?_; intro _ _))
      | (guard_target =~ WO _ _ (Oper.mk _ (Op.binOp BinOp.eql 87 _ _ _) _ _ _ none) _ _ _ _; first | (refine O_eqA num87 rfl rfl ?_ ?_))
      | (guard_target =~ WO _ _ (Oper.mk _ (Op.fieldAddr 90 _ 4) _ _ _ none) _ _ _ _; first | (refine O_fdT fd90_4 (by decide) rfl ?_) | (refine O_field fd90_4 (by decide) rfl ?_))
      | (guard_target =~ WO _ _ (Oper.mk _ (Op.binOp BinOp.gtr 3 _ _ _) _ _ _ none) _ _ _ _; first | (first | (refine O_gtrS rfl rfl (fun h => absurd h (by omega)) ?_; intro _) | (refine O_gtrS rfl rfl ?_ (fun h => absurd h (by omega)); intro _) | (refine O_gtrS rfl rfl ?_ ?_ <;> intro _)))
      | (guard_target =~ WO _ _ (Oper.mk _ (Op.binOp BinOp.lss 3 _ _ _) _ _ _ none) _ _ _ _; first | (first | (refine O_lssS rfl rfl (fun h => absurd h (by omega)) ?_; intro _) | (refine O_lssS rfl rfl ?_ (fun h => absurd h (by omega)); intro _) | (refine O_lssS rfl rfl ?_ ?_ <;> intro _)))
      | (guard_target =~ WO _ _ (Oper.mk _ (Op.indexAddr 88 _ _) _ _ _ none) _ _ _ _; first | (refine O_ixK (by assumption) (by repeat (first | exact List.Mem.head _ | refine List.Mem.tail _ ?_)) sl88 rfl rfl (by omega) (by omega) ?_; rintro _ _ _) | (refine O_ixN (by assumption) (by repeat (first | exact List.Mem.head _ | refine List.Mem.tail _ ?_)) sl88 rfl rfl (by omega) (by omega) ?_; rintro _ _ _ _ _ _))
      | (guard_target =~ WO _ _ (Oper.mk _ (Op.fieldAddr 150 _ 1) _ _ _ none) _ _ _ _; first | (refine O_fdT fd150_1 (by decide) rfl ?_) | (refine O_field fd150_1 (by decide) rfl ?_))
      | (guard_target =~ WO _ _ (Oper.mk _ (Op.binOp BinOp.sub 3 _ _ _) _ _ _ none) _ _ _ _; first | (refine O_subZ rfl rfl (by simp only [rngZ]; omega) ?_))
      | (guard_target =~ WO _ _ (Oper.mk _ (Op.fieldAddr 150 _ 0) _ _ _ none) _ _ _ _; first | (refine O_fdT fd150_0 (by decide) rfl ?_) | (refine O_field fd150_0 (by decide) rfl ?_))
      | (guard_target =~ WO _ _ (Oper.mk _ (Op.slice 87 _ none none none) _ _ _ none) _ _ _ _; first | (refine O_sla ar87 rfl (by decide) ?_))
      | (guard_target =~ WO _ _ (Oper.mk _ (Op.binOp BinOp.add 3 _ _ _) _ _ _ none) _ _ _ _; first | (refine O_addZ rfl rfl (by simp only [rngZ]; omega) ?_)))
    refine W_loop (fun m ρ w' => ∃ k : Nat, m = ω.sn i - k ∧ k ≤ ω.sn i ∧ TS B w w' [] [] ∧ (∀ q, q < k → ¬(∀ j, j < 32 → ω.vl i q j = 0) ∧ (0 < q → sge (strF 32 (ω.ky i (q - 1))) (strF 32 (ω.ky i q)) = false)) ∧ Has ρ [(0, .pointer (some ⟨b, o, none⟩)), (51, .int .i64 ((ω.sn i : Nat) : Int)), (52, .int .i64 ((k : Nat) : Int))]) (ω.sn i) ⟨0, by omega, by omega, hS1, fun q hq => by omega, Has.mk ⟨rfl, rfl, rfl, trivial⟩⟩ ?_
    clear hS1 hS
    rintro m ρ w2 ⟨k, rfl, hk, hS2, hP, σ', rfl⟩
    by_cases hkn : k < ω.sn i
    · obtain ⟨b5, o5, hb5, hs5⟩ := (hA.slots i hi).resolve_left (by omega)
      have hsl := hr.sl
      rw [hb5] at hsl
      obtain ⟨h5, h6⟩ := hs5 k hkn
      have hlt5 : b5 < w.heap.size := cell_lt (h5 0 (by omega))
      rcases Nat.eq_zero_or_pos k with rfl | hk0
      · repeat' (first
          | (refine L_cons ?_)
          | (refine R_cons rfl ?_)
          | (refine W_seq ?_)
          | (refine W_region (by kernel_rfl) ?_)
          | (refine L_nil ?_)
          | (refine R_nil ?_)
          | (refine W_block ?_)
          | (refine W_skip ?_)
          | (refine W_exit ?_)
          | (refine W_ret ?_)
          | (guard_target =~ thenQ _ _ _ _ _; first | (refine T_next ?_) | (refine T_exit ?_) | (refine T_ret ?_))
          | (guard_target =~ blockQ _ _ _ _ _; first | (refine B_next ?_) | (refine B_same ?_) | (refine B_other (by kernel_rfl) ?_) | (refine B_ret ?_))
          | (refine W_true rfl rfl ?_)
          | (refine W_false rfl rfl ?_)
          | (refine Cv.R_cons rfl ?_)
          | (refine Cv.R_nil ?_)
          | (refine Cv.O_old ?_)
          | (guard_target =~ WO _ _ (Oper.mk _ (Op.load 88 _) _ _ _ none) _ _ _ _; first | (refine O_ldV (by assumption) on88 rfl hsl (cell_lt hsl) ?_) | (refine O_lds (t' := 150) (by assumption) (by repeat (first | exact List.Mem.head _ | refine List.Mem.tail _ ?_)) on88 rfl (by first | omega | (simp only [csz]; omega)) (by first | rfl | exact layMod rfl rfl) ?_; intro _ _ _ _ _ _))
          | (guard_target =~ WO _ _ (Oper.mk _ (Op.indexAddr 88 _ _) _ _ _ none) _ _ _ _; first | (refine O_index_s (m := 0) sl88 rfl rfl (by omega) ?_) | (refine O_ixK (by assumption) (by repeat (first | exact List.Mem.head _ | refine List.Mem.tail _ ?_)) sl88 rfl rfl (by omega) (by omega) ?_; rintro _ _ _) | (refine O_ixN (by assumption) (by repeat (first | exact List.Mem.head _ | refine List.Mem.tail _ ?_)) sl88 rfl rfl (by omega) (by omega) ?_; rintro _ _ _ _ _ _))
          | (guard_target =~ WO _ _ (Oper.mk _ (Op.load 87 _) _ _ _ none) _ _ _ _; first | (refine O_ldB (f := ω.vl i 0) ag87 rfl (h6.ext (TS.e (by assumption))) ?_) | (refine O_ldn8 (by assumption) (by repeat (first | exact List.Mem.head _ | refine List.Mem.tail _ ?_)) ag87 rfl (by first | omega | (simp only [csz]; omega)) (by first | exact layRun0 rfl rfl | exact layRun rfl rfl rfl) ?_; intro _ _))
          | (guard_target =~ WO _ _ (Oper.mk _ (Op.build 87 #[]) _ _ _ none) _ _ _ _; first | (refine O_bd0 ar87 zc87 rfl rfl ?_))
          | (guard_target =~ WO _ _ (Oper.mk _ (Op.binOp BinOp.eql 87 _ _ _) _ _ _ none) _ _ _ _; first | (refine O_eql_ns num87 rfl rfl ?_; (rcases Classical.em (∀ j, j < 32 → ω.vl i 0 j = 0) with hz | hz) <;> first | rw [decide_eq_true hz] | rw [decide_eq_false hz]) | (refine O_eqA num87 rfl rfl ?_ ?_))
          | (guard_target =~ WC _ _ (Code.region 10 _ true) _ _ _; first | (refine W_drawnC (id := 10) [] [0, 1, 2, 3, 4, 5, 6, 7, 8, 9, 10, 11, 12, 13, 14, 15, 16, 17, 18, 19, 20, 21, 22, 23] mixed (by kernel_rfl) (by kernel_rfl) (by assumption) ?_; intro w3 hS3 hh3) | (refine W_drawnT (id := 10) [] [0, 1, 2, 3, 4, 5, 6, 7, 8, 9, 10, 11, 12, 13, 14, 15, 16, 17, 18, 19, 20, 21, 22, 23] mixed (by kernel_rfl) (by kernel_rfl) (by assumption) ?_; intro _ _ _))
          | (guard_target =~ WO _ _ (Oper.mk _ _ _ _ _ (some _)) _ _ _ _; first | (refine G_yes rfl ?_) | (refine G_no rfl ?_))
          | (guard_target =~ WO _ _ (Oper.mk _ (Op.assign _) _ _ _ none) _ _ _ _; first | (refine O_assign (v := (.int _ _)) rfl ?_) | (refine O_assign (v := (.bool _)) rfl ?_) | (refine O_assign (v := (.pointer _)) rfl ?_) | (refine O_assign (v := (.slice _ _ _)) rfl ?_) | (refine O_assign (v := (.agg _)) rfl ?_) | (refine O_assign (v := (.tuple _)) rfl ?_))
          | (guard_target =~ WO _ _ (Oper.mk _ (Op.move _) _ _ _ none) _ _ _ _; first | (refine O_move (v := (.int _ _)) rfl ?_) | (refine O_move (v := (.bool _)) rfl ?_) | (refine O_move (v := (.pointer _)) rfl ?_) | (refine O_move (v := (.slice _ _ _)) rfl ?_) | (refine O_move (v := (.agg _)) rfl ?_) | (refine O_move (v := (.tuple _)) rfl ?_))
          | (guard_target =~ WO _ _ (Oper.mk _ (Op.nilCheck _) _ _ _ none) _ _ _ _; first | (refine O_nil rfl ?_))
          | (guard_target =~ WO _ _ (Oper.mk _ (Op.fieldAddr 90 _ 1) _ _ _ none) _ _ _ _; first | (refine O_fdT fd90_1 (by decide) rfl ?_) | (refine O_field fd90_1 (by decide) rfl ?_))
          | (guard_target =~ WO _ _ (Oper.mk _ (Op.load 27 _) _ _ _ none) _ _ _ _; first | (refine O_ld64 (by assumption) (by repeat (first | exact List.Mem.head _ | refine List.Mem.tail _ ?_)) on27 rfl (by first | omega | (simp only [csz]; omega)) (by first | rfl | exact layMod rfl rfl) ?_; intro _ _))
          | (guard_target =~ WO _ _ (Oper.mk _ (Op.binOp BinOp.eql 27 _ _ _) _ _ _ none) _ _ _ _; first | (first | (refine O_eqlS rfl rfl (fun h => absurd h (by omega)) ?_; intro _) | (refine O_eqlS rfl rfl ?_ (fun h => absurd (by omega) h); intro _) | (refine O_eqlS rfl rfl ?_ ?_ <;> intro _)))
          | (guard_target =~ WO _ _ (Oper.mk _ (Op.fieldAddr 90 _ 3) _ _ _ none) _ _ _ _; first | (refine O_fdT fd90_3 (by decide) rfl ?_) | (refine O_field fd90_3 (by decide) rfl ?_))
          | (guard_target =~ WO _ _ (Oper.mk _ (Op.load 31 _) _ _ _ none) _ _ _ _; first | (refine O_lds (t' := 5) (by assumption) (by repeat (first | exact List.Mem.head _ | refine List.Mem.tail _ ?_)) on31 rfl (by first | omega | (simp only [csz]; omega)) (by first | rfl | exact layMod rfl rfl) ?_; intro _ _ _ _ _ _))
          | (guard_target =~ WO _ _ (Oper.mk _ (Op.call _) _ _ _ none) _ _ _ _; first | (refine O_len Samg.underlying31 rfl rfl ?_) | (refine O_len Samg.underlying88 rfl rfl ?_))
          | (guard_target =~ WO _ _ (Oper.mk _ (Op.binOp BinOp.eql 3 _ _ _) _ _ _ none) _ _ _ _; first | (first | (refine O_eqlS rfl rfl (fun h => absurd h (by omega)) ?_; intro _) | (refine O_eqlS rfl rfl ?_ (fun h => absurd (by omega) h); intro _) | (refine O_eqlS rfl rfl ?_ ?_ <;> intro _)))
          | (guard_target =~ WO _ _ (Oper.mk _ (Op.pick _ _ _) _ _ _ none) _ _ _ _; first | (refine O_pick_t (v := (.bool _)) rfl rfl ?_) | (refine O_pick_f (v := (.bool _)) rfl rfl ?_))
          | (guard_target =~ WO _ _ (Oper.mk _ (Op.fieldAddr 90 _ 2) _ _ _ none) _ _ _ _; first | (refine O_fdT fd90_2 (by decide) rfl ?_) | (refine O_field fd90_2 (by decide) rfl ?_))
          | (guard_target =~ WO _ _ (Oper.mk _ (Op.fieldAddr 90 _ 4) _ _ _ none) _ _ _ _; first | (refine O_fdT fd90_4 (by decide) rfl ?_) | (refine O_field fd90_4 (by decide) rfl ?_))
          | (guard_target =~ WO _ _ (Oper.mk _ (Op.binOp BinOp.gtr 3 _ _ _) _ _ _ none) _ _ _ _; first | (first | (refine O_gtrS rfl rfl (fun h => absurd h (by omega)) ?_; intro _) | (refine O_gtrS rfl rfl ?_ (fun h => absurd h (by omega)); intro _) | (refine O_gtrS rfl rfl ?_ ?_ <;> intro _)))
          | (guard_target =~ WO _ _ (Oper.mk _ (Op.binOp BinOp.lss 3 _ _ _) _ _ _ none) _ _ _ _; first | (first | (refine O_lssS rfl rfl (fun h => absurd h (by omega)) ?_; intro _) | (refine O_lssS rfl rfl ?_ (fun h => absurd h (by omega)); intro _) | (refine O_lssS rfl rfl ?_ ?_ <;> intro _)))
          | (guard_target =~ WO _ _ (Oper.mk _ (Op.fieldAddr 150 _ 1) _ _ _ none) _ _ _ _; first | (refine O_fdT fd150_1 (by decide) rfl ?_) | (refine O_field fd150_1 (by decide) rfl ?_))
          | (guard_target =~ WO _ _ (Oper.mk _ (Op.binOp BinOp.sub 3 _ _ _) _ _ _ none) _ _ _ _; first | (refine O_subZ rfl rfl (by simp only [rngZ]; omega) ?_))
          | (guard_target =~ WO _ _ (Oper.mk _ (Op.fieldAddr 150 _ 0) _ _ _ none) _ _ _ _; first | (refine O_fdT fd150_0 (by decide) rfl ?_) | (refine O_field fd150_0 (by decide) rfl ?_))
          | (guard_target =~ WO _ _ (Oper.mk _ (Op.slice 87 _ none none none) _ _ _ none) _ _ _ _; first | (refine O_sla ar87 rfl (by decide) ?_))
          | (guard_target =~ WO _ _ (Oper.mk _ (Op.binOp BinOp.add 3 _ _ _) _ _ _ none) _ _ _ _; first | (refine O_addZ rfl rfl (by simp only [rngZ]; omega) ?_)))
        all_goals first
          | exact E_ret1T (by assumption) rfl rfl rfl ⟨false, rfl, fun h => (by cases h), fun h => absurd hz (h.2.2.2 0 hkn).1⟩
          | exact ⟨ω.sn i - 1, by omega, 1, rfl, by omega, by assumption, fun q hq => (by obtain rfl : q = 0 := (by omega); exact ⟨hz, fun h => absurd h (by omega)⟩), Has.mk ⟨rfl, rfl, rfl, trivial⟩⟩
      · obtain ⟨q, rfl⟩ : ∃ q, k = q + 1 := ⟨k - 1, by omega⟩
        obtain ⟨h7, h8⟩ := hs5 q (by omega)
        repeat' (first
          | (refine L_cons ?_)
          | (refine R_cons rfl ?_)
          | (refine W_seq ?_)
          | (refine W_region (by kernel_rfl) ?_)
          | (refine L_nil ?_)
          | (refine R_nil ?_)
          | (refine W_block ?_)
          | (refine W_skip ?_)
          | (refine W_exit ?_)
          | (refine W_ret ?_)
          | (guard_target =~ thenQ _ _ _ _ _; first | (refine T_next ?_) | (refine T_exit ?_) | (refine T_ret ?_))
          | (guard_target =~ blockQ _ _ _ _ _; first | (refine B_next ?_) | (refine B_same ?_) | (refine B_other (by kernel_rfl) ?_) | (refine B_ret ?_))
          | (refine W_true rfl rfl ?_)
          | (refine W_false rfl rfl ?_)
          | (refine Cv.R_cons rfl ?_)
          | (refine Cv.R_nil ?_)
          | (refine Cv.G_yes rfl ?_)
          | (refine O_cvS (f := ω.ky i q) Samg.underlying31 Samg.underlying5 Samg.underlying9 rfl hh7 ?_)
          | (refine O_cvS (f := ω.ky i (q + 1)) Samg.underlying31 Samg.underlying5 Samg.underlying9 rfl hh5 ?_)
          | (refine Cv.O_old ?_)
          | (guard_target =~ WO _ _ (Oper.mk _ (Op.load 88 _) _ _ _ none) _ _ _ _; first | (refine O_ldV (by assumption) on88 rfl hsl (cell_lt hsl) ?_) | (refine O_lds (t' := 150) (by assumption) (by repeat (first | exact List.Mem.head _ | refine List.Mem.tail _ ?_)) on88 rfl (by first | omega | (simp only [csz]; omega)) (by first | rfl | exact layMod rfl rfl) ?_; intro _ _ _ _ _ _))
          | (guard_target =~ WO _ _ (Oper.mk _ (Op.indexAddr 88 (Operand.tmp 71) _) _ _ _ none) _ _ _ _; first | (refine O_index_s (m := q) sl88 rfl (congrArg (Value.int .i64) (by omega)) (by omega) ?_))
          | (guard_target =~ WO _ _ (Oper.mk _ (Op.indexAddr 88 _ _) _ _ _ none) _ _ _ _; first | (refine O_index_s (m := q + 1) sl88 rfl rfl (by omega) ?_) | (refine O_ixK (by assumption) (by repeat (first | exact List.Mem.head _ | refine List.Mem.tail _ ?_)) sl88 rfl rfl (by omega) (by omega) ?_; rintro _ _ _) | (refine O_ixN (by assumption) (by repeat (first | exact List.Mem.head _ | refine List.Mem.tail _ ?_)) sl88 rfl rfl (by omega) (by omega) ?_; rintro _ _ _ _ _ _))
          | (guard_target =~ WO _ _ (Oper.mk _ (Op.load 87 _) _ _ _ none) _ _ _ _; first | (refine O_ldB (f := ω.vl i (q + 1)) ag87 rfl (h6.ext (TS.e (by assumption))) ?_) | (refine O_ldn8 (by assumption) (by repeat (first | exact List.Mem.head _ | refine List.Mem.tail _ ?_)) ag87 rfl (by first | omega | (simp only [csz]; omega)) (by first | exact layRun0 rfl rfl | exact layRun rfl rfl rfl) ?_; intro _ _))
          | (guard_target =~ WO _ _ (Oper.mk _ (Op.build 87 #[]) _ _ _ none) _ _ _ _; first | (refine O_bd0 ar87 zc87 rfl rfl ?_))
          | (guard_target =~ WO _ _ (Oper.mk _ (Op.binOp BinOp.eql 87 _ _ _) _ _ _ none) _ _ _ _; first | (refine O_eql_ns num87 rfl rfl ?_; (rcases Classical.em (∀ j, j < 32 → ω.vl i (q + 1) j = 0) with hz | hz) <;> first | rw [decide_eq_true hz] | rw [decide_eq_false hz]) | (refine O_eqA num87 rfl rfl ?_ ?_))
          | (guard_target =~ WC _ _ (Code.region 10 _ true) _ _ _; first | (refine W_drawnC (id := 10) [] [0, 1, 2, 3, 4, 5, 6, 7, 8, 9, 10, 11, 12, 13, 14, 15, 16, 17, 18, 19, 20, 21, 22, 23] mixed (by kernel_rfl) (by kernel_rfl) (by assumption) ?_; intro w3 hS3 hh3; have hh7 := h7.ext (TS.e hS3); have hh5 := h5.ext (TS.e hS3)) | (refine W_drawnT (id := 10) [] [0, 1, 2, 3, 4, 5, 6, 7, 8, 9, 10, 11, 12, 13, 14, 15, 16, 17, 18, 19, 20, 21, 22, 23] mixed (by kernel_rfl) (by kernel_rfl) (by assumption) ?_; intro _ _ _))
          | (guard_target =~ WO _ _ (Oper.mk _ (Op.slice 87 _ none none none) _ _ _ none) _ _ _ _; first | (refine O_sla2 ar87 rfl (by decide) ?_) | (refine O_sla ar87 rfl (by decide) ?_))
          | (guard_target =~ WO _ _ (Oper.mk _ (Op.binOp BinOp.geq 9 _ _ _) _ _ _ none) _ _ _ _; first | (refine O_sgeq Samg.underlying9 rfl rfl ?_; (rcases hsg : sge (strF 32 (ω.ky i q)) (strF 32 (ω.ky i (q + 1))))))
          | (guard_target =~ WO _ _ (Oper.mk _ _ _ _ _ (some _)) _ _ _ _; first | (refine G_yes rfl ?_) | (refine G_no rfl ?_))
          | (guard_target =~ WO _ _ (Oper.mk _ (Op.assign _) _ _ _ none) _ _ _ _; first | (refine O_assign (v := (.int _ _)) rfl ?_) | (refine O_assign (v := (.bool _)) rfl ?_) | (refine O_assign (v := (.pointer _)) rfl ?_) | (refine O_assign (v := (.slice _ _ _)) rfl ?_) | (refine O_assign (v := (.agg _)) rfl ?_) | (refine O_assign (v := (.tuple _)) rfl ?_))
          | (guard_target =~ WO _ _ (Oper.mk _ (Op.move _) _ _ _ none) _ _ _ _; first | (refine O_move (v := (.int _ _)) rfl ?_) | (refine O_move (v := (.bool _)) rfl ?_) | (refine O_move (v := (.pointer _)) rfl ?_) | (refine O_move (v := (.slice _ _ _)) rfl ?_) | (refine O_move (v := (.agg _)) rfl ?_) | (refine O_move (v := (.tuple _)) rfl ?_))
          | (guard_target =~ WO _ _ (Oper.mk _ (Op.nilCheck _) _ _ _ none) _ _ _ _; first | (refine O_nil rfl ?_))
          | (guard_target =~ WO _ _ (Oper.mk _ (Op.fieldAddr 90 _ 1) _ _ _ none) _ _ _ _; first | (refine O_fdT fd90_1 (by decide) rfl ?_) | (refine O_field fd90_1 (by decide) rfl ?_))
          | (guard_target =~ WO _ _ (Oper.mk _ (Op.load 27 _) _ _ _ none) _ _ _ _; first | (refine O_ld64 (by assumption) (by repeat (first | exact List.Mem.head _ | refine List.Mem.tail _ ?_)) on27 rfl (by first | omega | (simp only [csz]; omega)) (by first | rfl | exact layMod rfl rfl) ?_; intro _ _))
          | (guard_target =~ WO _ _ (Oper.mk _ (Op.binOp BinOp.eql 27 _ _ _) _ _ _ none) _ _ _ _; first | (first | (refine O_eqlS rfl rfl (fun h => absurd h (by omega)) ?_; intro _) | (refine O_eqlS rfl rfl ?_ (fun h => absurd (by omega) h); intro _) | (refine O_eqlS rfl rfl ?_ ?_ <;> intro _)))
          | (guard_target =~ WO _ _ (Oper.mk _ (Op.fieldAddr 90 _ 3) _ _ _ none) _ _ _ _; first | (refine O_fdT fd90_3 (by decide) rfl ?_) | (refine O_field fd90_3 (by decide) rfl ?_))
          | (guard_target =~ WO _ _ (Oper.mk _ (Op.load 31 _) _ _ _ none) _ _ _ _; first | (refine O_lds (t' := 5) (by assumption) (by repeat (first | exact List.Mem.head _ | refine List.Mem.tail _ ?_)) on31 rfl (by first | omega | (simp only [csz]; omega)) (by first | rfl | exact layMod rfl rfl) ?_; intro _ _ _ _ _ _))
          | (guard_target =~ WO _ _ (Oper.mk _ (Op.call _) _ _ _ none) _ _ _ _; first | (refine O_len Samg.underlying31 rfl rfl ?_) | (refine O_len Samg.underlying88 rfl rfl ?_))
          | (guard_target =~ WO _ _ (Oper.mk _ (Op.binOp BinOp.eql 3 _ _ _) _ _ _ none) _ _ _ _; first | (first | (refine O_eqlS rfl rfl (fun h => absurd h (by omega)) ?_; intro _) | (refine O_eqlS rfl rfl ?_ (fun h => absurd (by omega) h); intro _) | (refine O_eqlS rfl rfl ?_ ?_ <;> intro _)))
          | (guard_target =~ WO _ _ (Oper.mk _ (Op.pick _ _ _) _ _ _ none) _ _ _ _; first | (refine O_pick_t (v := (.bool _)) rfl rfl ?_) | (refine O_pick_f (v := (.bool _)) rfl rfl ?_))
          | (guard_target =~ WO _ _ (Oper.mk _ (Op.fieldAddr 90 _ 2) _ _ _ none) _ _ _ _; first | (refine O_fdT fd90_2 (by decide) rfl ?_) | (refine O_field fd90_2 (by decide) rfl ?_))
          | (guard_target =~ WO _ _ (Oper.mk _ (Op.fieldAddr 90 _ 4) _ _ _ none) _ _ _ _; first | (refine O_fdT fd90_4 (by decide) rfl ?_) | (refine O_field fd90_4 (by decide) rfl ?_))
          | (guard_target =~ WO _ _ (Oper.mk _ (Op.binOp BinOp.gtr 3 _ _ _) _ _ _ none) _ _ _ _; first | (first | (refine O_gtrS rfl rfl (fun h => absurd h (by omega)) ?_; intro _) | (refine O_gtrS rfl rfl ?_ (fun h => absurd h (by omega)); intro _) | (refine O_gtrS rfl rfl ?_ ?_ <;> intro _)))
          | (guard_target =~ WO _ _ (Oper.mk _ (Op.binOp BinOp.lss 3 _ _ _) _ _ _ none) _ _ _ _; first | (first | (refine O_lssS rfl rfl (fun h => absurd h (by omega)) ?_; intro _) | (refine O_lssS rfl rfl ?_ (fun h => absurd h (by omega)); intro _) | (refine O_lssS rfl rfl ?_ ?_ <;> intro _)))
          | (guard_target =~ WO _ _ (Oper.mk _ (Op.fieldAddr 150 _ 1) _ _ _ none) _ _ _ _; first | (refine O_fdT fd150_1 (by decide) rfl ?_) | (refine O_field fd150_1 (by decide) rfl ?_))
          | (guard_target =~ WO _ _ (Oper.mk _ (Op.binOp BinOp.sub 3 _ _ _) _ _ _ none) _ _ _ _; first | (refine O_subZ rfl rfl (by simp only [rngZ]; omega) ?_))
          | (guard_target =~ WO _ _ (Oper.mk _ (Op.fieldAddr 150 _ 0) _ _ _ none) _ _ _ _; first | (refine O_fdT fd150_0 (by decide) rfl ?_) | (refine O_field fd150_0 (by decide) rfl ?_))
          | (guard_target =~ WO _ _ (Oper.mk _ (Op.binOp BinOp.add 3 _ _ _) _ _ _ none) _ _ _ _; first | (refine O_addZ rfl rfl (by simp only [rngZ]; omega) ?_)))
        all_goals first
          | exact E_ret1T (by assumption) rfl rfl rfl ⟨false, rfl, fun h => (by cases h), fun h => absurd hz (h.2.2.2 (q + 1) hkn).1⟩
          | exact E_ret1T (by assumption) rfl rfl rfl ⟨false, rfl, fun h => (by cases h), fun h => (by have := (h.2.2.2 (q + 1) hkn).2 (by omega); rw [Nat.add_sub_cancel, hsg] at this; cases this)⟩
          | exact ⟨ω.sn i - (q + 2), by omega, q + 2, rfl, by omega, by assumption, fun r hr => (by by_cases hrq : r < q + 1; exact hP r hrq; obtain rfl : r = q + 1 := (by omega); exact ⟨hz, fun _ => (by rw [Nat.add_sub_cancel]; exact hsg)⟩), Has.mk ⟨rfl, rfl, rfl, trivial⟩⟩
    · repeat' (first
        | (refine L_cons ?_)
        | (refine R_cons rfl ?_)
        | (refine W_seq ?_)
        | (refine W_region (by kernel_rfl) ?_)
        | (refine L_nil ?_)
        | (refine R_nil ?_)
        | (refine W_block ?_)
        | (refine W_skip ?_)
        | (refine W_exit ?_)
        | (refine W_ret ?_)
        | (guard_target =~ thenQ _ _ _ _ _; first | (refine T_next ?_) | (refine T_exit ?_) | (refine T_ret ?_))
        | (guard_target =~ blockQ _ _ _ _ _; first | (refine B_next ?_) | (refine B_same ?_) | (refine B_other (by kernel_rfl) ?_) | (refine B_ret ?_))
        | (refine W_true rfl rfl ?_)
        | (refine W_false rfl rfl ?_)
        | (guard_target =~ WO _ _ (Oper.mk _ _ _ _ _ (some _)) _ _ _ _; first | (refine G_yes rfl ?_) | (refine G_no rfl ?_))
        | (guard_target =~ WC _ _ (Code.region 10 _ true) _ _ _; first | (refine W_drawnT (id := 10) [] [0, 1, 2, 3, 4, 5, 6, 7, 8, 9, 10, 11, 12, 13, 14, 15, 16, 17, 18, 19, 20, 21, 22, 23] mixed (by kernel_rfl) (by kernel_rfl) (by assumption) ?_; intro _ _ _))
        | (guard_target =~ WO _ _ (Oper.mk _ (Op.assign _) _ _ _ none) _ _ _ _; first | (refine O_assign (v := (.int _ _)) rfl ?_) | (refine O_assign (v := (.bool _)) rfl ?_) | (refine O_assign (v := (.pointer _)) rfl ?_) | (refine O_assign (v := (.slice _ _ _)) rfl ?_) | (refine O_assign (v := (.agg _)) rfl ?_) | (refine O_assign (v := (.tuple _)) rfl ?_))
        | (guard_target =~ WO _ _ (Oper.mk _ (Op.move _) _ _ _ none) _ _ _ _; first | (refine O_move (v := (.int _ _)) rfl ?_) | (refine O_move (v := (.bool _)) rfl ?_) | (refine O_move (v := (.pointer _)) rfl ?_) | (refine O_move (v := (.slice _ _ _)) rfl ?_) | (refine O_move (v := (.agg _)) rfl ?_) | (refine O_move (v := (.tuple _)) rfl ?_))
        | (guard_target =~ WO _ _ (Oper.mk _ (Op.nilCheck _) _ _ _ none) _ _ _ _; first | (refine O_nil rfl ?_))
        | (guard_target =~ WO _ _ (Oper.mk _ (Op.fieldAddr 90 _ 1) _ _ _ none) _ _ _ _; first | (refine O_fdT fd90_1 (by decide) rfl ?_) | (refine O_field fd90_1 (by decide) rfl ?_))
        | (guard_target =~ WO _ _ (Oper.mk _ (Op.load 27 _) _ _ _ none) _ _ _ _; first | (refine O_ld64 (by assumption) (by repeat (first | exact List.Mem.head _ | refine List.Mem.tail _ ?_)) on27 rfl (by first | omega | (simp only [csz]; omega)) (by first | rfl | exact layMod rfl rfl) ?_; intro _ _))
        | (guard_target =~ WO _ _ (Oper.mk _ (Op.binOp BinOp.eql 27 _ _ _) _ _ _ none) _ _ _ _; first | (first | (refine O_eqlS rfl rfl (fun h => absurd h (by omega)) ?_; intro _) | (refine O_eqlS rfl rfl ?_ (fun h => absurd (by omega) h); intro _) | (refine O_eqlS rfl rfl ?_ ?_ <;> intro _)))
        | (guard_target =~ WO _ _ (Oper.mk _ (Op.fieldAddr 90 _ 3) _ _ _ none) _ _ _ _; first | (refine O_fdT fd90_3 (by decide) rfl ?_) | (refine O_field fd90_3 (by decide) rfl ?_))
        | (guard_target =~ WO _ _ (Oper.mk _ (Op.load 31 _) _ _ _ none) _ _ _ _; first | (refine O_lds (t' := 5) (by assumption) (by repeat (first | exact List.Mem.head _ | refine List.Mem.tail _ ?_)) on31 rfl (by first | omega | (simp only [csz]; omega)) (by first | rfl | exact layMod rfl rfl) ?_; intro _ _ _ _ _ _))
        | (guard_target =~ WO _ _ (Oper.mk _ (Op.call _) _ _ _ none) _ _ _ _; first | (refine O_len Samg.underlying31 rfl rfl ?_) | (refine O_len Samg.underlying88 rfl rfl ?_))
        | (guard_target =~ WO _ _ (Oper.mk _ (Op.binOp BinOp.eql 3 _ _ _) _ _ _ none) _ _ _ _; first | (first | (refine O_eqlS rfl rfl (fun h => absurd h (by omega)) ?_; intro _) | (refine O_eqlS rfl rfl ?_ (fun h => absurd (by omega) h); intro _) | (refine O_eqlS rfl rfl ?_ ?_ <;> intro _)))
        | (guard_target =~ WO _ _ (Oper.mk _ (Op.pick _ _ _) _ _ _ none) _ _ _ _; first | (refine O_pick_t (v := (.bool _)) rfl rfl ?_) | (refine O_pick_f (v := (.bool _)) rfl rfl ?_))
        | (guard_target =~ WO _ _ (Oper.mk _ (Op.fieldAddr 90 _ 2) _ _ _ none) _ _ _ _; first | (refine O_fdT fd90_2 (by decide) rfl ?_) | (refine O_field fd90_2 (by decide) rfl ?_))
        | (guard_target =~ WO _ _ (Oper.mk _ (Op.load 87 _) _ _ _ none) _ _ _ _; first | (refine O_ldn8 (by assumption) (by repeat (first | exact List.Mem.head _ | refine List.Mem.tail _ ?_)) ag87 rfl (by first | omega | (simp only [csz]; omega)) (by first | exact layRun0 rfl rfl | exact layRun rfl rfl rfl) ?_; intro _ _))
        | (guard_target =~ WO _ _ (Oper.mk _ (Op.binOp BinOp.eql 87 _ _ _) _ _ _ none) _ _ _ _; first | (refine O_eqA num87 rfl rfl ?_ ?_))
        | (guard_target =~ WO _ _ (Oper.mk _ (Op.fieldAddr 90 _ 4) _ _ _ none) _ _ _ _; first | (refine O_fdT fd90_4 (by decide) rfl ?_) | (refine O_field fd90_4 (by decide) rfl ?_))
        | (guard_target =~ WO _ _ (Oper.mk _ (Op.load 88 _) _ _ _ none) _ _ _ _; first | (refine O_lds (t' := 150) (by assumption) (by repeat (first | exact List.Mem.head _ | refine List.Mem.tail _ ?_)) on88 rfl (by first | omega | (simp only [csz]; omega)) (by first | rfl | exact layMod rfl rfl) ?_; intro _ _ _ _ _ _))
        | (guard_target =~ WO _ _ (Oper.mk _ (Op.binOp BinOp.gtr 3 _ _ _) _ _ _ none) _ _ _ _; first | (first | (refine O_gtrS rfl rfl (fun h => absurd h (by omega)) ?_; intro _) | (refine O_gtrS rfl rfl ?_ (fun h => absurd h (by omega)); intro _) | (refine O_gtrS rfl rfl ?_ ?_ <;> intro _)))
        | (guard_target =~ WO _ _ (Oper.mk _ (Op.binOp BinOp.lss 3 _ _ _) _ _ _ none) _ _ _ _; first | (first | (refine O_lssS rfl rfl (fun h => absurd h (by omega)) ?_; intro _) | (refine O_lssS rfl rfl ?_ (fun h => absurd h (by omega)); intro _) | (refine O_lssS rfl rfl ?_ ?_ <;> intro _)))
        | (guard_target =~ WO _ _ (Oper.mk _ (Op.indexAddr 88 _ _) _ _ _ none) _ _ _ _; first | (refine O_ixK (by assumption) (by repeat (first | exact List.Mem.head _ | refine List.Mem.tail _ ?_)) sl88 rfl rfl (by omega) (by omega) ?_; rintro _ _ _) | (refine O_ixN (by assumption) (by repeat (first | exact List.Mem.head _ | refine List.Mem.tail _ ?_)) sl88 rfl rfl (by omega) (by omega) ?_; rintro _ _ _ _ _ _))
        | (guard_target =~ WO _ _ (Oper.mk _ (Op.fieldAddr 150 _ 1) _ _ _ none) _ _ _ _; first | (refine O_fdT fd150_1 (by decide) rfl ?_) | (refine O_field fd150_1 (by decide) rfl ?_))
        | (guard_target =~ WO _ _ (Oper.mk _ (Op.binOp BinOp.sub 3 _ _ _) _ _ _ none) _ _ _ _; first | (refine O_subZ rfl rfl (by simp only [rngZ]; omega) ?_))
        | (guard_target =~ WO _ _ (Oper.mk _ (Op.fieldAddr 150 _ 0) _ _ _ none) _ _ _ _; first | (refine O_fdT fd150_0 (by decide) rfl ?_) | (refine O_field fd150_0 (by decide) rfl ?_))
        | (guard_target =~ WO _ _ (Oper.mk _ (Op.slice 87 _ none none none) _ _ _ none) _ _ _ _; first | (refine O_sla ar87 rfl (by decide) ?_))
        | (guard_target =~ WO _ _ (Oper.mk _ (Op.binOp BinOp.add 3 _ _ _) _ _ _ none) _ _ _ _; first | (refine O_addZ rfl rfl (by simp only [rngZ]; omega) ?_)))
      exact E_ret1T (by assumption) rfl rfl rfl ⟨true, rfl, fun _ => ⟨f1, f2, f3, fun q hq => hP q (by omega)⟩, fun _ => rfl⟩
end Go.Proofs.Ygcsam
