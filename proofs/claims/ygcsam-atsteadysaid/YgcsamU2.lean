/-
  THE PROBES: findAcct, findSlot, findTemp. Own work.
-/
import Derived.Test.YgcsamU1
namespace Go.Proofs.Ygcsam
set_option linter.unusedVariables false
set_option linter.unusedSimpArgs false
set_option maxRecDepth 4000
theorem VI.hole {σ : VS} (h : VI σ) {q : Nat} (hq : q < 4096) (hall : ∀ j, j < 4096 → 0 ≤ σ.atab ((q + j) % 4096)) : False := by
  have h1 := cntT_full (tab := σ.atab) 4096 fun p hp => by
    by_cases hc : q ≤ p
    · have := hall (p - q) (by omega)
      rwa [show (q + (p - q)) % 4096 = p by omega] at this
    · have := hall (p + 4096 - q) (by omega)
      rwa [show (q + (p + 4096 - q)) % 4096 = p by omega] at this
  have := h.ca
  have := h.na
  omega
theorem VI.holeS {σ : VS} (h : VI σ) {q : Nat} (hq : q < 4096) (hall : ∀ j, j < 4096 → 0 ≤ σ.stab ((q + j) % 4096)) : False := by
  have h1 := cntT_full (tab := σ.stab) 4096 fun p hp => by
    by_cases hc : q ≤ p
    · have := hall (p - q) (by omega)
      rwa [show (q + (p - q)) % 4096 = p by omega] at this
    · have := hall (p + 4096 - q) (by omega)
      rwa [show (q + (p + 4096 - q)) % 4096 = p by omega] at this
  have := h.cs
  have := h.ns
  omega

section
variable {P : Program} {ops : Array Oper} {e : Bool} {K : Env → World → Prop} {ρ : Env} {w w0 : World} {d : Nat} {ty : TypeId} {pos : String} {af : Array Edge} {B : Nat} {L : List Fact} {M : List (Nat × Array Value)}
theorem O_ldI {t b o : Nat} {z : Int} {x : Operand} (h : TS B w0 w L M) (ht : oneT P t) (hx : ev ρ x = .pointer (some ⟨b, o, none⟩)) (hc : w0.cell? ⟨b, o, none⟩ = some (.int .i32 z)) (hr : -2147483648 ≤ z ∧ z < 2147483648) (hb : b < w0.heap.size) (k : -2147483648 ≤ z → z < 2147483648 → K (put ρ d (.int .i32 z)) w) : WO P ops ⟨some d, .load t x, ty, pos, af, none⟩ e K ρ w :=
  O_ldV h ht hx hc hb (k hr.1 hr.2)
end
theorem TS.clear2 {B : Nat} {w0 w : World} {L : List Fact} {M : List (Nat × Array Value)} (h : TS B w0 w L M) {x y : Fact} (hx : x ∈ L) (hy : y ∈ L) : TS B w0 w [x, y] [] := (h.clear.addL (h.l y hy)).addL (h.l x hx)
theorem TS.clear3 {B : Nat} {w0 w : World} {L : List Fact} {M : List (Nat × Array Value)} (h : TS B w0 w L M) {x y z : Fact} (hx : x ∈ L) (hy : y ∈ L) (hz : z ∈ L) : TS B w0 w [x, y, z] [] := ((h.clear.addL (h.l z hz)).addL (h.l y hy)).addL (h.l x hx)
theorem findAcct_ok {B s : Nat} {σ : VS} {f : Nat → Nat} {w : World} (hT : WT B w) (hV : V B w s σ) (hI : VI σ) (hf : ∀ i, f i < 256) : Rd B Samg.prog 83 [.pointer (some ⟨s, 0, none⟩), .agg (ns .u8 20 f)] w fun v w' =>
    ∃ a b : Int, v = .tuple #[.int .i32 a, .int .i32 b] ∧ ((a = -1 ∧ 0 ≤ b ∧ b < 4096 ∧ σ.atab b.toNat < 0) ∨ (0 ≤ a ∧ a < σ.na ∧ b = -1)) := by
  refine W_enter (l := [_, _]) Samg.func83 rfl rfl rfl ?_
  have hS := hV.start hT
  have hna := hI.na
  repeat' (first
    | (refine L_cons ?_)
    | (refine R_cons rfl ?_)
    | (refine W_seq ?_)
    | (refine W_region (by kernel_rfl) ?_)
    | (refine L_nil ?_)
    | (refine R_nil ?_)
    | (refine W_block ?_)
    | (refine W_skip ?_)
    | (refine W_exit ?_)
    | (refine W_ret ?_)
    | (guard_target =~ thenQ _ _ _ _ _; first | (refine T_next ?_) | (refine T_exit ?_) | (refine T_ret ?_))
    | (guard_target =~ blockQ _ _ _ _ _; first | (refine B_next ?_) | (refine B_same ?_) | (refine B_other (by kernel_rfl) ?_) | (refine B_ret ?_))
    | (refine W_true rfl rfl ?_)
    | (refine W_false rfl rfl ?_)
    | (guard_target =~ WO _ _ (Oper.mk _ (Op.call (Call.mk (Callee.value (Operand.func 116)) _ _)) _ _ _ none) _ _ _ _; first | (refine O_rd (l := [.agg (ns .u8 20 _)]) (by assumption) cl116 rfl (acctHome_ok (TS.t (by assumption)) (by assumption)) ?_; rintro _ _ ⟨q, hq0, hq1, rfl⟩ _ _))
    | (guard_target =~ WO _ _ (Oper.mk _ (Op.box 24 _) _ _ _ none) _ _ _ _; first | (refine O_bx8 (by assumption) rfl (by assumption) rfl rfl ?_; intro _ b1 _ _) | (refine O_bx8 (by assumption) rfl (by assumption) rfl rfl ?_; intro _ _ _ _))
    | (guard_target =~ WO _ _ (Oper.mk _ (Op.load 78 _) _ _ _ none) _ _ _ _; first | (refine O_ldV (by assumption) on78 rfl hV.acc hV.lt ?_) | (refine O_lds (t' := 148) (by assumption) (by repeat (first | exact List.Mem.head _ | refine List.Mem.tail _ ?_)) on78 rfl (by first | omega | (simp only [csz]; omega)) (by first | rfl | exact layMod rfl rfl) ?_; intro _ _ _ _ _ _))
    | (guard_target =~ WO _ _ (Oper.mk _ (Op.load 79 _) _ _ _ none) _ _ _ _; first | (refine O_ldV (by assumption) on79 rfl hV.slo hV.lt ?_))
    | (guard_target =~ WO _ _ (Oper.mk _ (Op.load 81 _) _ _ _ none) _ _ _ _; first | (refine O_ldV (by assumption) on81 rfl hV.jou hV.lt ?_))
    | (guard_target =~ WO _ _ (Oper.mk _ (Op.load 46 _) _ _ _ none) _ _ _ _; first | (refine O_ldV (by assumption) on46 rfl hV.log hV.lt ?_))
    | (guard_target =~ WO _ _ (Oper.mk _ (Op.load 83 _) _ _ _ none) _ _ _ _; first | (refine O_ldV (by assumption) on83 rfl hV.tem hV.lt ?_))
    | (guard_target =~ WO _ _ (Oper.mk _ (Op.load 84 _) _ _ _ none) _ _ _ _; first | (refine O_ldV (by assumption) on84 rfl hV.tta hV.lt ?_))
    | (guard_target =~ WO _ _ (Oper.mk _ (Op.load 21 _) _ _ _ none) _ _ _ _; first | (refine O_ldV (by assumption) on21 rfl hV.nmk hV.lt ?_) | (refine O_ld32 (by assumption) (by repeat (first | exact List.Mem.head _ | refine List.Mem.tail _ ?_)) on21 rfl (by first | omega | (simp only [csz]; omega)) (by first | rfl | exact layMod rfl rfl) ?_; intro _ _ _))
    | (guard_target =~ WO _ _ (Oper.mk _ (Op.load 27 _) _ _ _ none) _ _ _ _; first | (refine O_ldV (by assumption) on27 rfl hV.rf hV.lt ?_))
    | (guard_target =~ WO _ _ (Oper.mk _ _ _ _ _ (some _)) _ _ _ _; first | (refine G_yes rfl ?_) | (refine G_no rfl ?_))
    | (guard_target =~ WC _ _ (Code.region 8 _ true) _ _ _; first | (refine W_drawnT (id := 8) [] [0, 1, 2, 3, 4, 5, 6, 7, 8, 9, 10, 11, 12, 13, 14, 15, 16, 17, 18, 19] mixed (by kernel_rfl) (by kernel_rfl) (by assumption) ?_; intro _ _ _))
    | (guard_target =~ WO _ _ (Oper.mk _ (Op.assign _) _ _ _ none) _ _ _ _; first | (refine O_assign (v := (.int _ _)) rfl ?_) | (refine O_assign (v := (.bool _)) rfl ?_) | (refine O_assign (v := (.pointer _)) rfl ?_) | (refine O_assign (v := (.slice _ _ _)) rfl ?_) | (refine O_assign (v := (.agg _)) rfl ?_) | (refine O_assign (v := (.tuple _)) rfl ?_))
    | (guard_target =~ WO _ _ (Oper.mk _ (Op.load 24 _) _ _ _ none) _ _ _ _; first | (refine O_ldn8 (by assumption) (by repeat (first | exact List.Mem.head _ | refine List.Mem.tail _ ?_)) ag24 rfl (by first | omega | (simp only [csz]; omega)) (by first | exact layRun0 rfl rfl | exact layRun rfl rfl rfl) ?_; intro _ _))
    | (guard_target =~ WO _ _ (Oper.mk _ (Op.move _) _ _ _ none) _ _ _ _; first | (refine O_move (v := (.int _ _)) rfl ?_) | (refine O_move (v := (.bool _)) rfl ?_) | (refine O_move (v := (.pointer _)) rfl ?_) | (refine O_move (v := (.slice _ _ _)) rfl ?_) | (refine O_move (v := (.agg _)) rfl ?_) | (refine O_move (v := (.tuple _)) rfl ?_))
    | (guard_target =~ WO _ _ (Oper.mk _ (Op.binOp BinOp.lss 3 _ _ _) _ _ _ none) _ _ _ _; first | (first | (refine O_lssS rfl rfl (fun h => absurd h (by omega)) ?_; intro _) | (refine O_lssS rfl rfl ?_ (fun h => absurd h (by omega)); intro _) | (refine O_lssS rfl rfl ?_ ?_ <;> intro _)))
    | (guard_target =~ WO _ _ (Oper.mk _ (Op.nilCheck _) _ _ _ none) _ _ _ _; first | (refine O_nil rfl ?_))
    | (guard_target =~ WO _ _ (Oper.mk _ (Op.fieldAddr 86 _ 2) _ _ _ none) _ _ _ _; first | (refine O_fdT fd86_2 (by decide) rfl ?_) | (refine O_field fd86_2 (by decide) rfl ?_))
    | (guard_target =~ WO _ _ (Oper.mk _ (Op.indexAddr 80 _ _) _ _ _ none) _ _ _ _; first | (refine O_ixa ar80 rfl rfl (by omega) (by omega) ?_; rintro _ _))
    | (guard_target =~ WO _ _ (Oper.mk _ (Op.binOp BinOp.lss 21 _ _ _) _ _ _ none) _ _ _ _; first | (first | (refine O_lssS rfl rfl (fun h => absurd h (by omega)) ?_; intro _) | (refine O_lssS rfl rfl ?_ (fun h => absurd h (by omega)); intro _) | (refine O_lssS rfl rfl ?_ ?_ <;> intro _)))
    | (guard_target =~ WO _ _ (Oper.mk _ (Op.convert 207 21 _) _ _ _ none) _ _ _ _; first | (refine O_convZ Samg.underlying207 Samg.underlying21 rfl (by simp only [rngZ]; omega) ?_) | (refine O_convA Samg.underlying207 Samg.underlying21 rfl rfl ?_; intro _ hr; simp only [rngZ] at hr))
    | (guard_target =~ WO _ _ (Oper.mk _ (Op.convert 21 3 _) _ _ _ none) _ _ _ _; first | (refine O_convZ Samg.underlying21 Samg.underlying3 rfl (by simp only [rngZ]; omega) ?_) | (refine O_convA Samg.underlying21 Samg.underlying3 rfl rfl ?_; intro _ hr; simp only [rngZ] at hr))
    | (guard_target =~ WO _ _ (Oper.mk _ (Op.fieldAddr 86 _ 0) _ _ _ none) _ _ _ _; first | (refine O_fdT fd86_0 (by decide) rfl ?_) | (refine O_field fd86_0 (by decide) rfl ?_))
    | (guard_target =~ WO _ _ (Oper.mk _ (Op.call _) _ _ _ none) _ _ _ _; first | (refine O_len Samg.underlying78 rfl rfl ?_))
    | (guard_target =~ WO _ _ (Oper.mk _ (Op.indexAddr 78 _ _) _ _ _ none) _ _ _ _; first | (refine O_ixN (by assumption) (by repeat (first | exact List.Mem.head _ | refine List.Mem.tail _ ?_)) sl78 rfl rfl (by omega) (by omega) ?_; rintro _ _ _ _ _ _))
    | (guard_target =~ WO _ _ (Oper.mk _ (Op.fieldAddr 148 _ 0) _ _ _ none) _ _ _ _; first | (refine O_fdT fd148_0 (by decide) rfl ?_) | (refine O_field fd148_0 (by decide) rfl ?_))
    | (guard_target =~ WO _ _ (Oper.mk _ (Op.binOp BinOp.eql 24 _ _ _) _ _ _ none) _ _ _ _; first | (refine O_eqA num24 rfl rfl ?_ ?_))
    | (guard_target =~ WO _ _ (Oper.mk _ (Op.pick _ _ _) _ _ _ none) _ _ _ _; first | (refine O_pick_t (v := (.bool _)) rfl rfl ?_) | (refine O_pick_f (v := (.bool _)) rfl rfl ?_))
    | (guard_target =~ WO _ _ (Oper.mk _ (Op.binOp BinOp.add 207 _ _ _) _ _ _ none) _ _ _ _; first | (refine O_addZ rfl rfl (by simp only [rngZ]; omega) ?_))
    | (guard_target =~ WO _ _ (Oper.mk _ (Op.binOp BinOp.rem 207 _ _ _) _ _ _ none) _ _ _ _; first | (refine O_remZ rfl rfl (by omega) (by omega) ?_))
    | (guard_target =~ WO _ _ (Oper.mk _ (Op.binOp BinOp.add 3 _ _ _) _ _ _ none) _ _ _ _; first | (refine O_addZ rfl rfl (by simp only [rngZ]; omega) ?_)))
  obtain ⟨q, rfl⟩ := Int.eq_ofNat_of_zero_le hq0
  refine W_loop (fun m ρ w' => ∃ i : Nat, m = 4096 - i ∧ i ≤ 4096 ∧ (∀ j, j < i → 0 ≤ σ.atab ((q + j) % 4096)) ∧ TS B w w' [(24, some ⟨b1, 0, none⟩, 1, 1), (148, σ.aA, σ.na, σ.cA)] [] ∧ Has ρ [(0, .pointer (some ⟨s, 0, none⟩)), (3, .pointer (some ⟨b1, 0, none⟩)), (6, .int .u32 (((q + i) % 4096 : Nat) : Int)), (7, .int .i64 ((i : Nat) : Int))]) 4096 ?_ ?_
  · refine ⟨0, rfl, by omega, fun j hj => by omega, TS.pick (by assumption) (by repeat (first | exact List.Mem.head _ | refine List.Mem.tail _ ?_)) (TS.pick (by assumption) (by repeat (first | exact List.Mem.head _ | refine List.Mem.tail _ ?_)) (TS.clear (by assumption))), Has.mk ⟨rfl, rfl, ?_, rfl, trivial⟩⟩
    rw [Nat.add_zero, Nat.mod_eq_of_lt (by omega)]; rfl
  rintro m ρ w3 ⟨i, rfl, hi, hall, hS3, σ', rfl⟩
  repeat' (first
    | (refine L_cons ?_)
    | (refine R_cons rfl ?_)
    | (refine W_seq ?_)
    | (refine W_region (by kernel_rfl) ?_)
    | (refine L_nil ?_)
    | (refine R_nil ?_)
    | (refine W_block ?_)
    | (refine W_skip ?_)
    | (refine W_exit ?_)
    | (refine W_ret ?_)
    | (guard_target =~ thenQ _ _ _ _ _; first | (refine T_next ?_) | (refine T_exit ?_) | (refine T_ret ?_))
    | (guard_target =~ blockQ _ _ _ _ _; first | (refine B_next ?_) | (refine B_same ?_) | (refine B_other (by kernel_rfl) ?_) | (refine B_ret ?_))
    | (refine W_true rfl rfl ?_)
    | (refine W_false rfl rfl ?_)
    | (guard_target =~ WO _ _ (Oper.mk _ (Op.indexAddr 80 _ _) _ _ _ none) _ _ _ _; first | (refine O_ixa ar80 rfl rfl (by omega) (by omega) ?_; rintro p hp) | (refine O_ixa ar80 rfl rfl (by omega) (by omega) ?_; rintro _ _))
    | (guard_target =~ WO _ _ (Oper.mk _ (Op.load 21 _) _ _ _ none) _ _ _ _; first | (refine O_ldI (by assumption) on21 rfl (hV.ata _ (by omega)) (hI.ra _) hV.lt ?_; intro _ _) | (refine O_ldV (by assumption) on21 rfl hV.nmk hV.lt ?_) | (refine O_ld32 (by assumption) (by repeat (first | exact List.Mem.head _ | refine List.Mem.tail _ ?_)) on21 rfl (by first | omega | (simp only [csz]; omega)) (by first | rfl | exact layMod rfl rfl) ?_; intro _ _ _))
    | (guard_target =~ WO _ _ (Oper.mk _ (Op.load 78 _) _ _ _ none) _ _ _ _; first | (refine O_ldV (by assumption) on78 rfl hV.acc hV.lt ?_) | (refine O_lds (t' := 148) (by assumption) (by repeat (first | exact List.Mem.head _ | refine List.Mem.tail _ ?_)) on78 rfl (by first | omega | (simp only [csz]; omega)) (by first | rfl | exact layMod rfl rfl) ?_; intro _ _ _ _ _ _))
    | (guard_target =~ WO _ _ (Oper.mk _ (Op.load 79 _) _ _ _ none) _ _ _ _; first | (refine O_ldV (by assumption) on79 rfl hV.slo hV.lt ?_))
    | (guard_target =~ WO _ _ (Oper.mk _ (Op.load 81 _) _ _ _ none) _ _ _ _; first | (refine O_ldV (by assumption) on81 rfl hV.jou hV.lt ?_))
    | (guard_target =~ WO _ _ (Oper.mk _ (Op.load 46 _) _ _ _ none) _ _ _ _; first | (refine O_ldV (by assumption) on46 rfl hV.log hV.lt ?_))
    | (guard_target =~ WO _ _ (Oper.mk _ (Op.load 83 _) _ _ _ none) _ _ _ _; first | (refine O_ldV (by assumption) on83 rfl hV.tem hV.lt ?_))
    | (guard_target =~ WO _ _ (Oper.mk _ (Op.load 84 _) _ _ _ none) _ _ _ _; first | (refine O_ldV (by assumption) on84 rfl hV.tta hV.lt ?_))
    | (guard_target =~ WO _ _ (Oper.mk _ (Op.load 27 _) _ _ _ none) _ _ _ _; first | (refine O_ldV (by assumption) on27 rfl hV.rf hV.lt ?_))
    | (guard_target =~ WO _ _ (Oper.mk _ _ _ _ _ (some _)) _ _ _ _; first | (refine G_yes rfl ?_) | (refine G_no rfl ?_))
    | (guard_target =~ WC _ _ (Code.region 8 _ true) _ _ _; first | (refine W_drawnT (id := 8) [] [0, 1, 2, 3, 4, 5, 6, 7, 8, 9, 10, 11, 12, 13, 14, 15, 16, 17, 18, 19] mixed (by kernel_rfl) (by kernel_rfl) (by assumption) ?_; intro _ _ _))
    | (guard_target =~ WO _ _ (Oper.mk _ (Op.box 24 _) _ _ _ none) _ _ _ _; first | (refine O_bx8 (by assumption) rfl (by assumption) rfl rfl ?_; intro _ _ _ _))
    | (guard_target =~ WO _ _ (Oper.mk _ (Op.assign _) _ _ _ none) _ _ _ _; first | (refine O_assign (v := (.int _ _)) rfl ?_) | (refine O_assign (v := (.bool _)) rfl ?_) | (refine O_assign (v := (.pointer _)) rfl ?_) | (refine O_assign (v := (.slice _ _ _)) rfl ?_) | (refine O_assign (v := (.agg _)) rfl ?_) | (refine O_assign (v := (.tuple _)) rfl ?_))
    | (guard_target =~ WO _ _ (Oper.mk _ (Op.load 24 _) _ _ _ none) _ _ _ _; first | (refine O_ldn8 (by assumption) (by repeat (first | exact List.Mem.head _ | refine List.Mem.tail _ ?_)) ag24 rfl (by first | omega | (simp only [csz]; omega)) (by first | exact layRun0 rfl rfl | exact layRun rfl rfl rfl) ?_; intro _ _))
    | (guard_target =~ WO _ _ (Oper.mk _ (Op.move _) _ _ _ none) _ _ _ _; first | (refine O_move (v := (.int _ _)) rfl ?_) | (refine O_move (v := (.bool _)) rfl ?_) | (refine O_move (v := (.pointer _)) rfl ?_) | (refine O_move (v := (.slice _ _ _)) rfl ?_) | (refine O_move (v := (.agg _)) rfl ?_) | (refine O_move (v := (.tuple _)) rfl ?_))
    | (guard_target =~ WO _ _ (Oper.mk _ (Op.binOp BinOp.lss 3 _ _ _) _ _ _ none) _ _ _ _; first | (first | (refine O_lssS rfl rfl (fun h => absurd h (by omega)) ?_; intro _) | (refine O_lssS rfl rfl ?_ (fun h => absurd h (by omega)); intro _) | (refine O_lssS rfl rfl ?_ ?_ <;> intro _)))
    | (guard_target =~ WO _ _ (Oper.mk _ (Op.nilCheck _) _ _ _ none) _ _ _ _; first | (refine O_nil rfl ?_))
    | (guard_target =~ WO _ _ (Oper.mk _ (Op.fieldAddr 86 _ 2) _ _ _ none) _ _ _ _; first | (refine O_fdT fd86_2 (by decide) rfl ?_) | (refine O_field fd86_2 (by decide) rfl ?_))
    | (guard_target =~ WO _ _ (Oper.mk _ (Op.binOp BinOp.lss 21 _ _ _) _ _ _ none) _ _ _ _; first | (first | (refine O_lssS rfl rfl (fun h => absurd h (by omega)) ?_; intro _) | (refine O_lssS rfl rfl ?_ (fun h => absurd h (by omega)); intro _) | (refine O_lssS rfl rfl ?_ ?_ <;> intro _)))
    | (guard_target =~ WO _ _ (Oper.mk _ (Op.convert 207 21 _) _ _ _ none) _ _ _ _; first | (refine O_convZ Samg.underlying207 Samg.underlying21 rfl (by simp only [rngZ]; omega) ?_) | (refine O_convA Samg.underlying207 Samg.underlying21 rfl rfl ?_; intro _ hr; simp only [rngZ] at hr))
    | (guard_target =~ WO _ _ (Oper.mk _ (Op.convert 21 3 _) _ _ _ none) _ _ _ _; first | (refine O_convZ Samg.underlying21 Samg.underlying3 rfl (by simp only [rngZ]; omega) ?_) | (refine O_convA Samg.underlying21 Samg.underlying3 rfl rfl ?_; intro _ hr; simp only [rngZ] at hr))
    | (guard_target =~ WO _ _ (Oper.mk _ (Op.fieldAddr 86 _ 0) _ _ _ none) _ _ _ _; first | (refine O_fdT fd86_0 (by decide) rfl ?_) | (refine O_field fd86_0 (by decide) rfl ?_))
    | (guard_target =~ WO _ _ (Oper.mk _ (Op.call _) _ _ _ none) _ _ _ _; first | (refine O_len Samg.underlying78 rfl rfl ?_))
    | (guard_target =~ WO _ _ (Oper.mk _ (Op.indexAddr 78 _ _) _ _ _ none) _ _ _ _; first | (refine O_ixN (by assumption) (by repeat (first | exact List.Mem.head _ | refine List.Mem.tail _ ?_)) sl78 rfl rfl (by omega) (by omega) ?_; rintro _ _ _ _ _ _))
    | (guard_target =~ WO _ _ (Oper.mk _ (Op.fieldAddr 148 _ 0) _ _ _ none) _ _ _ _; first | (refine O_fdT fd148_0 (by decide) rfl ?_) | (refine O_field fd148_0 (by decide) rfl ?_))
    | (guard_target =~ WO _ _ (Oper.mk _ (Op.binOp BinOp.eql 24 _ _ _) _ _ _ none) _ _ _ _; first | (refine O_eqA num24 rfl rfl ?_ ?_))
    | (guard_target =~ WO _ _ (Oper.mk _ (Op.pick _ _ _) _ _ _ none) _ _ _ _; first | (refine O_pick_t (v := (.bool _)) rfl rfl ?_) | (refine O_pick_f (v := (.bool _)) rfl rfl ?_))
    | (guard_target =~ WO _ _ (Oper.mk _ (Op.binOp BinOp.add 207 _ _ _) _ _ _ none) _ _ _ _; first | (refine O_addZ rfl rfl (by simp only [rngZ]; omega) ?_))
    | (guard_target =~ WO _ _ (Oper.mk _ (Op.binOp BinOp.rem 207 _ _ _) _ _ _ none) _ _ _ _; first | (refine O_remZ rfl rfl (by omega) (by omega) ?_))
    | (guard_target =~ WO _ _ (Oper.mk _ (Op.binOp BinOp.add 3 _ _ _) _ _ _ none) _ _ _ _; first | (refine O_addZ rfl rfl (by simp only [rngZ]; omega) ?_)))
  all_goals first
    | (refine E_ret2T (by assumption) rfl rfl rfl rfl rfl ⟨_, _, rfl, .inl ⟨rfl, by omega, by omega, ?_⟩⟩; rw [hp, Int.toNat_natCast]; omega)
    | exact E_ret2T (by assumption) rfl rfl rfl rfl rfl ⟨_, _, rfl, .inr ⟨by omega, by omega, rfl⟩⟩
    | (refine ⟨4096 - (i + 1), by omega, i + 1, rfl, by omega, fun j hj => ?_, TS.clear2 (by assumption) (by repeat (first | exact List.Mem.head _ | refine List.Mem.tail _ ?_)) (by repeat (first | exact List.Mem.head _ | refine List.Mem.tail _ ?_)), Has.mk ⟨rfl, rfl, ?_, rfl, trivial⟩⟩
       · by_cases hj2 : j < i
         · exact hall j hj2
         · have e1 : (q + i) % 4096 = p := by omega
           rw [show j = i by omega, e1]; omega
       · show Value.int .u32 (((((q + i) % 4096 : Nat) : Int) + 1) % 4096) = _
         congr 1; omega)
    | exact absurd (fun j hj => hall j (by omega)) (fun h => hI.hole (by omega) h)

theorem findSlot_ok {B s : Nat} {σ : VS} {f : Nat → Nat} {z : Int} {w : World} (hT : WT B w) (hV : V B w s σ) (hI : VI σ) (hf : ∀ i, f i < 18446744073709551616) : Rd B Samg.prog 114 [.pointer (some ⟨s, 0, none⟩), .int .i32 z, .agg (ns .u64 4 f)] w fun v w' =>
    ∃ a b : Int, v = .tuple #[.int .i32 a, .int .i32 b] ∧ ((a = -1 ∧ 0 ≤ b ∧ b < 4096 ∧ σ.stab b.toNat < 0) ∨ (0 ≤ a ∧ a < σ.ns ∧ b = -1)) := by
  refine W_enter (l := [_, _, _]) Samg.func114 rfl rfl rfl ?_
  have hS := hV.start hT
  have hna := hI.ns
  repeat' (first
    | (refine L_cons ?_)
    | (refine R_cons rfl ?_)
    | (refine W_seq ?_)
    | (refine W_region (by kernel_rfl) ?_)
    | (refine L_nil ?_)
    | (refine R_nil ?_)
    | (refine W_block ?_)
    | (refine W_skip ?_)
    | (refine W_exit ?_)
    | (refine W_ret ?_)
    | (guard_target =~ thenQ _ _ _ _ _; first | (refine T_next ?_) | (refine T_exit ?_) | (refine T_ret ?_))
    | (guard_target =~ blockQ _ _ _ _ _; first | (refine B_next ?_) | (refine B_same ?_) | (refine B_other (by kernel_rfl) ?_) | (refine B_ret ?_))
    | (refine W_true rfl rfl ?_)
    | (refine W_false rfl rfl ?_)
    | (guard_target =~ WO _ _ (Oper.mk _ (Op.call (Call.mk (Callee.value (Operand.func 133)) _ _)) _ _ _ none) _ _ _ _; first | (refine O_rd (l := [.int .i32 _, .agg (ns .u64 4 _)]) (by assumption) cl133 rfl (slotHome_ok (TS.t (by assumption)) (by assumption)) ?_; rintro _ _ ⟨q, hq0, hq1, rfl⟩ _ _))
    | (guard_target =~ WO _ _ (Oper.mk _ (Op.box 45 _) _ _ _ none) _ _ _ _; first | (refine O_bx64 (by assumption) rfl (by assumption) rfl rfl ?_; intro _ b1 _ _) | (refine O_bx64 (by assumption) rfl (by assumption) rfl rfl ?_; intro _ _ _ _))
    | (guard_target =~ WO _ _ (Oper.mk _ (Op.load 78 _) _ _ _ none) _ _ _ _; first | (refine O_ldV (by assumption) on78 rfl hV.acc hV.lt ?_))
    | (guard_target =~ WO _ _ (Oper.mk _ (Op.load 79 _) _ _ _ none) _ _ _ _; first | (refine O_ldV (by assumption) on79 rfl hV.slo hV.lt ?_) | (refine O_lds (t' := 153) (by assumption) (by repeat (first | exact List.Mem.head _ | refine List.Mem.tail _ ?_)) on79 rfl (by first | omega | (simp only [csz]; omega)) (by first | rfl | exact layMod rfl rfl) ?_; intro _ _ _ _ _ _))
    | (guard_target =~ WO _ _ (Oper.mk _ (Op.load 81 _) _ _ _ none) _ _ _ _; first | (refine O_ldV (by assumption) on81 rfl hV.jou hV.lt ?_))
    | (guard_target =~ WO _ _ (Oper.mk _ (Op.load 46 _) _ _ _ none) _ _ _ _; first | (refine O_ldV (by assumption) on46 rfl hV.log hV.lt ?_))
    | (guard_target =~ WO _ _ (Oper.mk _ (Op.load 83 _) _ _ _ none) _ _ _ _; first | (refine O_ldV (by assumption) on83 rfl hV.tem hV.lt ?_))
    | (guard_target =~ WO _ _ (Oper.mk _ (Op.load 84 _) _ _ _ none) _ _ _ _; first | (refine O_ldV (by assumption) on84 rfl hV.tta hV.lt ?_))
    | (guard_target =~ WO _ _ (Oper.mk _ (Op.load 21 _) _ _ _ none) _ _ _ _; first | (refine O_ldV (by assumption) on21 rfl hV.nmk hV.lt ?_) | (refine O_ld32 (by assumption) (by repeat (first | exact List.Mem.head _ | refine List.Mem.tail _ ?_)) on21 rfl (by first | omega | (simp only [csz]; omega)) (by first | rfl | exact layMod rfl rfl) ?_; intro _ _ _))
    | (guard_target =~ WO _ _ (Oper.mk _ (Op.load 27 _) _ _ _ none) _ _ _ _; first | (refine O_ldV (by assumption) on27 rfl hV.rf hV.lt ?_))
    | (guard_target =~ WO _ _ (Oper.mk _ _ _ _ _ (some _)) _ _ _ _; first | (refine G_yes rfl ?_) | (refine G_no rfl ?_))
    | (guard_target =~ WC _ _ (Code.region 8 _ true) _ _ _; first | (refine W_drawnT (id := 8) [] [0, 1, 2, 3, 4, 5, 6, 7, 8, 9, 10, 11, 12, 13, 14, 15, 16, 17, 18, 19, 20, 21, 22, 23, 24, 25, 26, 27, 28, 29, 30, 31] mixed (by kernel_rfl) (by kernel_rfl) (by assumption) ?_; intro _ _ _))
    | (guard_target =~ WO _ _ (Oper.mk _ (Op.assign _) _ _ _ none) _ _ _ _; first | (refine O_assign (v := (.int _ _)) rfl ?_) | (refine O_assign (v := (.bool _)) rfl ?_) | (refine O_assign (v := (.pointer _)) rfl ?_) | (refine O_assign (v := (.slice _ _ _)) rfl ?_) | (refine O_assign (v := (.agg _)) rfl ?_) | (refine O_assign (v := (.tuple _)) rfl ?_))
    | (guard_target =~ WO _ _ (Oper.mk _ (Op.move _) _ _ _ none) _ _ _ _; first | (refine O_move (v := (.int _ _)) rfl ?_) | (refine O_move (v := (.bool _)) rfl ?_) | (refine O_move (v := (.pointer _)) rfl ?_) | (refine O_move (v := (.slice _ _ _)) rfl ?_) | (refine O_move (v := (.agg _)) rfl ?_) | (refine O_move (v := (.tuple _)) rfl ?_))
    | (guard_target =~ WO _ _ (Oper.mk _ (Op.load 45 _) _ _ _ none) _ _ _ _; first | (refine O_ldn64 (by assumption) (by repeat (first | exact List.Mem.head _ | refine List.Mem.tail _ ?_)) ag45 rfl (by first | omega | (simp only [csz]; omega)) (by first | exact layRun0 rfl rfl | exact layRun rfl rfl rfl) ?_; intro _ _))
    | (guard_target =~ WO _ _ (Oper.mk _ (Op.binOp BinOp.lss 3 _ _ _) _ _ _ none) _ _ _ _; first | (first | (refine O_lssS rfl rfl (fun h => absurd h (by omega)) ?_; intro _) | (refine O_lssS rfl rfl ?_ (fun h => absurd h (by omega)); intro _) | (refine O_lssS rfl rfl ?_ ?_ <;> intro _)))
    | (guard_target =~ WO _ _ (Oper.mk _ (Op.nilCheck _) _ _ _ none) _ _ _ _; first | (refine O_nil rfl ?_))
    | (guard_target =~ WO _ _ (Oper.mk _ (Op.fieldAddr 86 _ 3) _ _ _ none) _ _ _ _; first | (refine O_fdT fd86_3 (by decide) rfl ?_) | (refine O_field fd86_3 (by decide) rfl ?_))
    | (guard_target =~ WO _ _ (Oper.mk _ (Op.indexAddr 80 _ _) _ _ _ none) _ _ _ _; first | (refine O_ixa ar80 rfl rfl (by omega) (by omega) ?_; rintro _ _))
    | (guard_target =~ WO _ _ (Oper.mk _ (Op.binOp BinOp.lss 21 _ _ _) _ _ _ none) _ _ _ _; first | (first | (refine O_lssS rfl rfl (fun h => absurd h (by omega)) ?_; intro _) | (refine O_lssS rfl rfl ?_ (fun h => absurd h (by omega)); intro _) | (refine O_lssS rfl rfl ?_ ?_ <;> intro _)))
    | (guard_target =~ WO _ _ (Oper.mk _ (Op.convert 207 21 _) _ _ _ none) _ _ _ _; first | (refine O_convZ Samg.underlying207 Samg.underlying21 rfl (by simp only [rngZ]; omega) ?_) | (refine O_convA Samg.underlying207 Samg.underlying21 rfl rfl ?_; intro _ hr; simp only [rngZ] at hr))
    | (guard_target =~ WO _ _ (Oper.mk _ (Op.convert 21 3 _) _ _ _ none) _ _ _ _; first | (refine O_convZ Samg.underlying21 Samg.underlying3 rfl (by simp only [rngZ]; omega) ?_) | (refine O_convA Samg.underlying21 Samg.underlying3 rfl rfl ?_; intro _ hr; simp only [rngZ] at hr))
    | (guard_target =~ WO _ _ (Oper.mk _ (Op.fieldAddr 86 _ 1) _ _ _ none) _ _ _ _; first | (refine O_fdT fd86_1 (by decide) rfl ?_) | (refine O_field fd86_1 (by decide) rfl ?_))
    | (guard_target =~ WO _ _ (Oper.mk _ (Op.call _) _ _ _ none) _ _ _ _; first | (refine O_len Samg.underlying79 rfl rfl ?_))
    | (guard_target =~ WO _ _ (Oper.mk _ (Op.indexAddr 79 _ _) _ _ _ none) _ _ _ _; first | (refine O_ixN (by assumption) (by repeat (first | exact List.Mem.head _ | refine List.Mem.tail _ ?_)) sl79 rfl rfl (by omega) (by omega) ?_; rintro _ _ _ _ _ _))
    | (guard_target =~ WO _ _ (Oper.mk _ (Op.fieldAddr 153 _ 0) _ _ _ none) _ _ _ _; first | (refine O_fdT fd153_0 (by decide) rfl ?_) | (refine O_field fd153_0 (by decide) rfl ?_))
    | (guard_target =~ WO _ _ (Oper.mk _ (Op.binOp BinOp.eql 21 _ _ _) _ _ _ none) _ _ _ _; first | (first | (refine O_eqlS rfl rfl (fun h => absurd h (by omega)) ?_; intro _) | (refine O_eqlS rfl rfl ?_ (fun h => absurd h (by omega)); intro _) | (refine O_eqlS rfl rfl ?_ ?_ <;> intro _)))
    | (guard_target =~ WO _ _ (Oper.mk _ (Op.pick _ _ _) _ _ _ none) _ _ _ _; first | (refine O_pick_t (v := (.bool _)) rfl rfl ?_) | (refine O_pick_f (v := (.bool _)) rfl rfl ?_))
    | (guard_target =~ WO _ _ (Oper.mk _ (Op.fieldAddr 153 _ 1) _ _ _ none) _ _ _ _; first | (refine O_fdT fd153_1 (by decide) rfl ?_) | (refine O_field fd153_1 (by decide) rfl ?_))
    | (guard_target =~ WO _ _ (Oper.mk _ (Op.binOp BinOp.eql 45 _ _ _) _ _ _ none) _ _ _ _; first | (refine O_eqA num45 rfl rfl ?_ ?_))
    | (guard_target =~ WO _ _ (Oper.mk _ (Op.binOp BinOp.add 207 _ _ _) _ _ _ none) _ _ _ _; first | (refine O_addZ rfl rfl (by simp only [rngZ]; omega) ?_))
    | (guard_target =~ WO _ _ (Oper.mk _ (Op.binOp BinOp.rem 207 _ _ _) _ _ _ none) _ _ _ _; first | (refine O_remZ rfl rfl (by omega) (by omega) ?_))
    | (guard_target =~ WO _ _ (Oper.mk _ (Op.binOp BinOp.add 3 _ _ _) _ _ _ none) _ _ _ _; first | (refine O_addZ rfl rfl (by simp only [rngZ]; omega) ?_)))
  obtain ⟨q, rfl⟩ := Int.eq_ofNat_of_zero_le hq0
  refine W_loop (fun m ρ w' => ∃ i : Nat, m = 4096 - i ∧ i ≤ 4096 ∧ (∀ j, j < i → 0 ≤ σ.stab ((q + j) % 4096)) ∧ TS B w w' [(45, some ⟨b1, 0, none⟩, 1, 1), (153, σ.aS, σ.ns, σ.cS)] [] ∧ Has ρ [(0, .pointer (some ⟨s, 0, none⟩)), (1, .int .i32 z), (5, .pointer (some ⟨b1, 0, none⟩)), (8, .int .u32 (((q + i) % 4096 : Nat) : Int)), (9, .int .i64 ((i : Nat) : Int))]) 4096 ?_ ?_
  · refine ⟨0, rfl, by omega, fun j hj => by omega, TS.pick (by assumption) (by repeat (first | exact List.Mem.head _ | refine List.Mem.tail _ ?_)) (TS.pick (by assumption) (by repeat (first | exact List.Mem.head _ | refine List.Mem.tail _ ?_)) (TS.clear (by assumption))), Has.mk ⟨rfl, rfl, rfl, ?_, rfl, trivial⟩⟩
    rw [Nat.add_zero, Nat.mod_eq_of_lt (by omega)]; rfl
  rintro m ρ w3 ⟨i, rfl, hi, hall, hS3, σ', rfl⟩
  repeat' (first
    | (refine L_cons ?_)
    | (refine R_cons rfl ?_)
    | (refine W_seq ?_)
    | (refine W_region (by kernel_rfl) ?_)
    | (refine L_nil ?_)
    | (refine R_nil ?_)
    | (refine W_block ?_)
    | (refine W_skip ?_)
    | (refine W_exit ?_)
    | (refine W_ret ?_)
    | (guard_target =~ thenQ _ _ _ _ _; first | (refine T_next ?_) | (refine T_exit ?_) | (refine T_ret ?_))
    | (guard_target =~ blockQ _ _ _ _ _; first | (refine B_next ?_) | (refine B_same ?_) | (refine B_other (by kernel_rfl) ?_) | (refine B_ret ?_))
    | (refine W_true rfl rfl ?_)
    | (refine W_false rfl rfl ?_)
    | (guard_target =~ WO _ _ (Oper.mk _ (Op.indexAddr 80 _ _) _ _ _ none) _ _ _ _; first | (refine O_ixa ar80 rfl rfl (by omega) (by omega) ?_; rintro p hp) | (refine O_ixa ar80 rfl rfl (by omega) (by omega) ?_; rintro _ _))
    | (guard_target =~ WO _ _ (Oper.mk _ (Op.load 21 _) _ _ _ none) _ _ _ _; first | (refine O_ldI (by assumption) on21 rfl (hV.sta _ (by omega)) (hI.rs _) hV.lt ?_; intro _ _) | (refine O_ldV (by assumption) on21 rfl hV.nmk hV.lt ?_) | (refine O_ld32 (by assumption) (by repeat (first | exact List.Mem.head _ | refine List.Mem.tail _ ?_)) on21 rfl (by first | omega | (simp only [csz]; omega)) (by first | rfl | exact layMod rfl rfl) ?_; intro _ _ _))
    | (guard_target =~ WO _ _ (Oper.mk _ (Op.load 78 _) _ _ _ none) _ _ _ _; first | (refine O_ldV (by assumption) on78 rfl hV.acc hV.lt ?_))
    | (guard_target =~ WO _ _ (Oper.mk _ (Op.load 79 _) _ _ _ none) _ _ _ _; first | (refine O_ldV (by assumption) on79 rfl hV.slo hV.lt ?_) | (refine O_lds (t' := 153) (by assumption) (by repeat (first | exact List.Mem.head _ | refine List.Mem.tail _ ?_)) on79 rfl (by first | omega | (simp only [csz]; omega)) (by first | rfl | exact layMod rfl rfl) ?_; intro _ _ _ _ _ _))
    | (guard_target =~ WO _ _ (Oper.mk _ (Op.load 81 _) _ _ _ none) _ _ _ _; first | (refine O_ldV (by assumption) on81 rfl hV.jou hV.lt ?_))
    | (guard_target =~ WO _ _ (Oper.mk _ (Op.load 46 _) _ _ _ none) _ _ _ _; first | (refine O_ldV (by assumption) on46 rfl hV.log hV.lt ?_))
    | (guard_target =~ WO _ _ (Oper.mk _ (Op.load 83 _) _ _ _ none) _ _ _ _; first | (refine O_ldV (by assumption) on83 rfl hV.tem hV.lt ?_))
    | (guard_target =~ WO _ _ (Oper.mk _ (Op.load 84 _) _ _ _ none) _ _ _ _; first | (refine O_ldV (by assumption) on84 rfl hV.tta hV.lt ?_))
    | (guard_target =~ WO _ _ (Oper.mk _ (Op.load 27 _) _ _ _ none) _ _ _ _; first | (refine O_ldV (by assumption) on27 rfl hV.rf hV.lt ?_))
    | (guard_target =~ WO _ _ (Oper.mk _ _ _ _ _ (some _)) _ _ _ _; first | (refine G_yes rfl ?_) | (refine G_no rfl ?_))
    | (guard_target =~ WC _ _ (Code.region 8 _ true) _ _ _; first | (refine W_drawnT (id := 8) [] [0, 1, 2, 3, 4, 5, 6, 7, 8, 9, 10, 11, 12, 13, 14, 15, 16, 17, 18, 19, 20, 21, 22, 23, 24, 25, 26, 27, 28, 29, 30, 31] mixed (by kernel_rfl) (by kernel_rfl) (by assumption) ?_; intro _ _ _))
    | (guard_target =~ WO _ _ (Oper.mk _ (Op.box 45 _) _ _ _ none) _ _ _ _; first | (refine O_bx64 (by assumption) rfl (by assumption) rfl rfl ?_; intro _ _ _ _))
    | (guard_target =~ WO _ _ (Oper.mk _ (Op.assign _) _ _ _ none) _ _ _ _; first | (refine O_assign (v := (.int _ _)) rfl ?_) | (refine O_assign (v := (.bool _)) rfl ?_) | (refine O_assign (v := (.pointer _)) rfl ?_) | (refine O_assign (v := (.slice _ _ _)) rfl ?_) | (refine O_assign (v := (.agg _)) rfl ?_) | (refine O_assign (v := (.tuple _)) rfl ?_))
    | (guard_target =~ WO _ _ (Oper.mk _ (Op.move _) _ _ _ none) _ _ _ _; first | (refine O_move (v := (.int _ _)) rfl ?_) | (refine O_move (v := (.bool _)) rfl ?_) | (refine O_move (v := (.pointer _)) rfl ?_) | (refine O_move (v := (.slice _ _ _)) rfl ?_) | (refine O_move (v := (.agg _)) rfl ?_) | (refine O_move (v := (.tuple _)) rfl ?_))
    | (guard_target =~ WO _ _ (Oper.mk _ (Op.load 45 _) _ _ _ none) _ _ _ _; first | (refine O_ldn64 (by assumption) (by repeat (first | exact List.Mem.head _ | refine List.Mem.tail _ ?_)) ag45 rfl (by first | omega | (simp only [csz]; omega)) (by first | exact layRun0 rfl rfl | exact layRun rfl rfl rfl) ?_; intro _ _))
    | (guard_target =~ WO _ _ (Oper.mk _ (Op.binOp BinOp.lss 3 _ _ _) _ _ _ none) _ _ _ _; first | (first | (refine O_lssS rfl rfl (fun h => absurd h (by omega)) ?_; intro _) | (refine O_lssS rfl rfl ?_ (fun h => absurd h (by omega)); intro _) | (refine O_lssS rfl rfl ?_ ?_ <;> intro _)))
    | (guard_target =~ WO _ _ (Oper.mk _ (Op.nilCheck _) _ _ _ none) _ _ _ _; first | (refine O_nil rfl ?_))
    | (guard_target =~ WO _ _ (Oper.mk _ (Op.fieldAddr 86 _ 3) _ _ _ none) _ _ _ _; first | (refine O_fdT fd86_3 (by decide) rfl ?_) | (refine O_field fd86_3 (by decide) rfl ?_))
    | (guard_target =~ WO _ _ (Oper.mk _ (Op.binOp BinOp.lss 21 _ _ _) _ _ _ none) _ _ _ _; first | (first | (refine O_lssS rfl rfl (fun h => absurd h (by omega)) ?_; intro _) | (refine O_lssS rfl rfl ?_ (fun h => absurd h (by omega)); intro _) | (refine O_lssS rfl rfl ?_ ?_ <;> intro _)))
    | (guard_target =~ WO _ _ (Oper.mk _ (Op.convert 207 21 _) _ _ _ none) _ _ _ _; first | (refine O_convZ Samg.underlying207 Samg.underlying21 rfl (by simp only [rngZ]; omega) ?_) | (refine O_convA Samg.underlying207 Samg.underlying21 rfl rfl ?_; intro _ hr; simp only [rngZ] at hr))
    | (guard_target =~ WO _ _ (Oper.mk _ (Op.convert 21 3 _) _ _ _ none) _ _ _ _; first | (refine O_convZ Samg.underlying21 Samg.underlying3 rfl (by simp only [rngZ]; omega) ?_) | (refine O_convA Samg.underlying21 Samg.underlying3 rfl rfl ?_; intro _ hr; simp only [rngZ] at hr))
    | (guard_target =~ WO _ _ (Oper.mk _ (Op.fieldAddr 86 _ 1) _ _ _ none) _ _ _ _; first | (refine O_fdT fd86_1 (by decide) rfl ?_) | (refine O_field fd86_1 (by decide) rfl ?_))
    | (guard_target =~ WO _ _ (Oper.mk _ (Op.call _) _ _ _ none) _ _ _ _; first | (refine O_len Samg.underlying79 rfl rfl ?_))
    | (guard_target =~ WO _ _ (Oper.mk _ (Op.indexAddr 79 _ _) _ _ _ none) _ _ _ _; first | (refine O_ixN (by assumption) (by repeat (first | exact List.Mem.head _ | refine List.Mem.tail _ ?_)) sl79 rfl rfl (by omega) (by omega) ?_; rintro _ _ _ _ _ _))
    | (guard_target =~ WO _ _ (Oper.mk _ (Op.fieldAddr 153 _ 0) _ _ _ none) _ _ _ _; first | (refine O_fdT fd153_0 (by decide) rfl ?_) | (refine O_field fd153_0 (by decide) rfl ?_))
    | (guard_target =~ WO _ _ (Oper.mk _ (Op.binOp BinOp.eql 21 _ _ _) _ _ _ none) _ _ _ _; first | (first | (refine O_eqlS rfl rfl (fun h => absurd h (by omega)) ?_; intro _) | (refine O_eqlS rfl rfl ?_ (fun h => absurd h (by omega)); intro _) | (refine O_eqlS rfl rfl ?_ ?_ <;> intro _)))
    | (guard_target =~ WO _ _ (Oper.mk _ (Op.pick _ _ _) _ _ _ none) _ _ _ _; first | (refine O_pick_t (v := (.bool _)) rfl rfl ?_) | (refine O_pick_f (v := (.bool _)) rfl rfl ?_))
    | (guard_target =~ WO _ _ (Oper.mk _ (Op.fieldAddr 153 _ 1) _ _ _ none) _ _ _ _; first | (refine O_fdT fd153_1 (by decide) rfl ?_) | (refine O_field fd153_1 (by decide) rfl ?_))
    | (guard_target =~ WO _ _ (Oper.mk _ (Op.binOp BinOp.eql 45 _ _ _) _ _ _ none) _ _ _ _; first | (refine O_eqA num45 rfl rfl ?_ ?_))
    | (guard_target =~ WO _ _ (Oper.mk _ (Op.binOp BinOp.add 207 _ _ _) _ _ _ none) _ _ _ _; first | (refine O_addZ rfl rfl (by simp only [rngZ]; omega) ?_))
    | (guard_target =~ WO _ _ (Oper.mk _ (Op.binOp BinOp.rem 207 _ _ _) _ _ _ none) _ _ _ _; first | (refine O_remZ rfl rfl (by omega) (by omega) ?_))
    | (guard_target =~ WO _ _ (Oper.mk _ (Op.binOp BinOp.add 3 _ _ _) _ _ _ none) _ _ _ _; first | (refine O_addZ rfl rfl (by simp only [rngZ]; omega) ?_)))
  all_goals first
    | (refine E_ret2T (by assumption) rfl rfl rfl rfl rfl ⟨_, _, rfl, .inl ⟨rfl, by omega, by omega, ?_⟩⟩; rw [hp, Int.toNat_natCast]; omega)
    | exact E_ret2T (by assumption) rfl rfl rfl rfl rfl ⟨_, _, rfl, .inr ⟨by omega, by omega, rfl⟩⟩
    | (refine ⟨4096 - (i + 1), by omega, i + 1, rfl, by omega, fun j hj => ?_, TS.clear2 (by assumption) (by repeat (first | exact List.Mem.head _ | refine List.Mem.tail _ ?_)) (by repeat (first | exact List.Mem.head _ | refine List.Mem.tail _ ?_)), Has.mk ⟨rfl, rfl, rfl, ?_, rfl, trivial⟩⟩
       · by_cases hj2 : j < i
         · exact hall j hj2
         · have e1 : (q + i) % 4096 = p := by omega
           rw [show j = i by omega, e1]; omega
       · show Value.int .u32 (((((q + i) % 4096 : Nat) : Int) + 1) % 4096) = _
         congr 1; omega)
    | exact absurd (fun j hj => hall j (by omega)) (fun h => hI.holeS (by omega) h)

theorem findTemp_ok {B s : Nat} {σ : VS} {f : Nat → Nat} {z : Int} {w : World} (hT : WT B w) (hV : V B w s σ) (hI : VI σ) (hf : ∀ i, f i < 18446744073709551616) : Rd B Samg.prog 86 [.pointer (some ⟨s, 0, none⟩), .int .i32 z, .agg (ns .u64 4 f)] w fun v w' =>
    ∃ a b : Int, v = .tuple #[.int .i32 a, .int .i32 b] ∧ (a = -1 ∨ 0 ≤ a ∧ a < σ.nt) ∧ (b = -1 ∨ 0 ≤ b ∧ b < 16384 ∧ σ.nh = 16384) := by
  refine W_enter (l := [_, _, _]) Samg.func86 rfl rfl rfl ?_
  have hS := hV.start hT
  have hna := hI.nt
  repeat' (first
    | (refine L_cons ?_)
    | (refine R_cons rfl ?_)
    | (refine W_seq ?_)
    | (refine W_region (by kernel_rfl) ?_)
    | (refine L_nil ?_)
    | (refine R_nil ?_)
    | (refine W_block ?_)
    | (refine W_skip ?_)
    | (refine W_exit ?_)
    | (refine W_ret ?_)
    | (guard_target =~ thenQ _ _ _ _ _; first | (refine T_next ?_) | (refine T_exit ?_) | (refine T_ret ?_))
    | (guard_target =~ blockQ _ _ _ _ _; first | (refine B_next ?_) | (refine B_same ?_) | (refine B_other (by kernel_rfl) ?_) | (refine B_ret ?_))
    | (refine W_true rfl rfl ?_)
    | (refine W_false rfl rfl ?_)
    | (guard_target =~ WO _ _ (Oper.mk _ (Op.call (Call.mk (Callee.value (Operand.func 117)) _ _)) _ _ _ none) _ _ _ _; first | (refine O_rd (l := [.int .i32 _, .agg (ns .u64 4 _)]) (by assumption) cl117 rfl (mixSlot_ok (TS.t (by assumption)) (by assumption)) ?_; rintro _ _ ⟨q, hq0, rfl⟩ _ _))
    | (guard_target =~ WO _ _ (Oper.mk _ (Op.box 45 _) _ _ _ none) _ _ _ _; first | (refine O_bx64 (by assumption) rfl (by assumption) rfl rfl ?_; intro _ b1 _ _) | (refine O_bx64 (by assumption) rfl (by assumption) rfl rfl ?_; intro _ _ _ _))
    | (guard_target =~ WO _ _ (Oper.mk _ (Op.load 78 _) _ _ _ none) _ _ _ _; first | (refine O_ldV (by assumption) on78 rfl hV.acc hV.lt ?_))
    | (guard_target =~ WO _ _ (Oper.mk _ (Op.load 79 _) _ _ _ none) _ _ _ _; first | (refine O_ldV (by assumption) on79 rfl hV.slo hV.lt ?_))
    | (guard_target =~ WO _ _ (Oper.mk _ (Op.load 81 _) _ _ _ none) _ _ _ _; first | (refine O_ldV (by assumption) on81 rfl hV.jou hV.lt ?_))
    | (guard_target =~ WO _ _ (Oper.mk _ (Op.load 46 _) _ _ _ none) _ _ _ _; first | (refine O_ldV (by assumption) on46 rfl hV.log hV.lt ?_))
    | (guard_target =~ WO _ _ (Oper.mk _ (Op.load 83 _) _ _ _ none) _ _ _ _; first | (refine O_ldV (by assumption) on83 rfl hV.tem hV.lt ?_) | (refine O_lds (t' := 172) (by assumption) (by repeat (first | exact List.Mem.head _ | refine List.Mem.tail _ ?_)) on83 rfl (by first | omega | (simp only [csz]; omega)) (by first | rfl | exact layMod rfl rfl) ?_; intro _ _ _ _ _ _))
    | (guard_target =~ WO _ _ (Oper.mk _ (Op.load 84 _) _ _ _ none) _ _ _ _; first | (refine O_ldV (by assumption) on84 rfl hV.tta hV.lt ?_) | (refine O_lds (t' := 21) (by assumption) (by repeat (first | exact List.Mem.head _ | refine List.Mem.tail _ ?_)) on84 rfl (by first | omega | (simp only [csz]; omega)) (by first | rfl | exact layMod rfl rfl) ?_; intro _ _ _ _ _ _))
    | (guard_target =~ WO _ _ (Oper.mk _ (Op.load 21 _) _ _ _ none) _ _ _ _; first | (refine O_ldV (by assumption) on21 rfl hV.nmk hV.lt ?_) | (refine O_ld32 (by assumption) (by repeat (first | exact List.Mem.head _ | refine List.Mem.tail _ ?_)) on21 rfl (by first | omega | (simp only [csz]; omega)) (by first | rfl | exact layMod rfl rfl) ?_; intro _ _ _))
    | (guard_target =~ WO _ _ (Oper.mk _ (Op.load 27 _) _ _ _ none) _ _ _ _; first | (refine O_ldV (by assumption) on27 rfl hV.rf hV.lt ?_))
    | (guard_target =~ WO _ _ (Oper.mk _ _ _ _ _ (some _)) _ _ _ _; first | (refine G_yes rfl ?_) | (refine G_no rfl ?_))
    | (guard_target =~ WC _ _ (Code.region 10 _ true) _ _ _; first | (refine W_drawnT (id := 10) [] [0, 1, 2, 3, 4, 5, 6, 7, 8, 9, 10, 11, 12, 13, 14, 15, 16, 17, 18, 19, 20, 21, 22, 23, 24, 25, 26, 27, 28, 29, 30, 31] mixed (by kernel_rfl) (by kernel_rfl) (by assumption) ?_; intro _ _ _))
    | (guard_target =~ WO _ _ (Oper.mk _ (Op.assign _) _ _ _ none) _ _ _ _; first | (refine O_assign (v := (.int _ _)) rfl ?_) | (refine O_assign (v := (.bool _)) rfl ?_) | (refine O_assign (v := (.pointer _)) rfl ?_) | (refine O_assign (v := (.slice _ _ _)) rfl ?_) | (refine O_assign (v := (.agg _)) rfl ?_) | (refine O_assign (v := (.tuple _)) rfl ?_))
    | (guard_target =~ WO _ _ (Oper.mk _ (Op.move _) _ _ _ none) _ _ _ _; first | (refine O_move (v := (.int _ _)) rfl ?_) | (refine O_move (v := (.bool _)) rfl ?_) | (refine O_move (v := (.pointer _)) rfl ?_) | (refine O_move (v := (.slice _ _ _)) rfl ?_) | (refine O_move (v := (.agg _)) rfl ?_) | (refine O_move (v := (.tuple _)) rfl ?_))
    | (guard_target =~ WO _ _ (Oper.mk _ (Op.nilCheck _) _ _ _ none) _ _ _ _; first | (refine O_nil rfl ?_))
    | (guard_target =~ WO _ _ (Oper.mk _ (Op.fieldAddr 86 _ 10) _ _ _ none) _ _ _ _; first | (refine O_fdT fd86_10 (by decide) rfl ?_) | (refine O_field fd86_10 (by decide) rfl ?_))
    | (guard_target =~ WO _ _ (Oper.mk _ (Op.call _) _ _ _ none) _ _ _ _; first | (refine O_len Samg.underlying84 rfl rfl ?_) | (refine O_len Samg.underlying83 rfl rfl ?_))
    | (guard_target =~ WO _ _ (Oper.mk _ (Op.binOp BinOp.neq 3 _ _ _) _ _ _ none) _ _ _ _; first | (first | (refine O_neqS rfl rfl (fun h => absurd h (by omega)) ?_; intro _) | (refine O_neqS rfl rfl ?_ (fun h => absurd h (by omega)); intro _) | (refine O_neqS rfl rfl ?_ ?_ <;> intro _)))
    | (guard_target =~ WO _ _ (Oper.mk _ (Op.load 45 _) _ _ _ none) _ _ _ _; first | (refine O_ldn64 (by assumption) (by repeat (first | exact List.Mem.head _ | refine List.Mem.tail _ ?_)) ag45 rfl (by first | omega | (simp only [csz]; omega)) (by first | exact layRun0 rfl rfl | exact layRun rfl rfl rfl) ?_; intro _ _))
    | (guard_target =~ WO _ _ (Oper.mk _ (Op.binOp BinOp.rem 27 _ _ _) _ _ _ none) _ _ _ _; first | (refine O_remZ rfl rfl (by omega) (by omega) ?_))
    | (guard_target =~ WO _ _ (Oper.mk _ (Op.binOp BinOp.lss 3 _ _ _) _ _ _ none) _ _ _ _; first | (first | (refine O_lssS rfl rfl (fun h => absurd h (by omega)) ?_; intro _) | (refine O_lssS rfl rfl ?_ (fun h => absurd h (by omega)); intro _) | (refine O_lssS rfl rfl ?_ ?_ <;> intro _)))
    | (guard_target =~ WO _ _ (Oper.mk _ (Op.indexAddr 84 _ _) _ _ _ none) _ _ _ _; first | (refine O_ixN (by assumption) (by repeat (first | exact List.Mem.head _ | refine List.Mem.tail _ ?_)) sl84 rfl rfl (by omega) (by omega) ?_; rintro _ _ _ _ _ _))
    | (guard_target =~ WO _ _ (Oper.mk _ (Op.binOp BinOp.lss 21 _ _ _) _ _ _ none) _ _ _ _; first | (first | (refine O_lssS rfl rfl (fun h => absurd h (by omega)) ?_; intro _) | (refine O_lssS rfl rfl ?_ (fun h => absurd h (by omega)); intro _) | (refine O_lssS rfl rfl ?_ ?_ <;> intro _)))
    | (guard_target =~ WO _ _ (Oper.mk _ (Op.convert 27 21 _) _ _ _ none) _ _ _ _; first | (refine O_convZ Samg.underlying27 Samg.underlying21 rfl (by simp only [rngZ]; omega) ?_) | (refine O_convA Samg.underlying27 Samg.underlying21 rfl rfl ?_; intro _ hr; simp only [rngZ] at hr))
    | (guard_target =~ WO _ _ (Oper.mk _ (Op.convert 21 3 _) _ _ _ none) _ _ _ _; first | (refine O_convZ Samg.underlying21 Samg.underlying3 rfl (by simp only [rngZ]; omega) ?_) | (refine O_convA Samg.underlying21 Samg.underlying3 rfl rfl ?_; intro _ hr; simp only [rngZ] at hr))
    | (guard_target =~ WO _ _ (Oper.mk _ (Op.fieldAddr 86 _ 9) _ _ _ none) _ _ _ _; first | (refine O_fdT fd86_9 (by decide) rfl ?_) | (refine O_field fd86_9 (by decide) rfl ?_))
    | (guard_target =~ WO _ _ (Oper.mk _ (Op.indexAddr 83 _ _) _ _ _ none) _ _ _ _; first | (refine O_ixN (by assumption) (by repeat (first | exact List.Mem.head _ | refine List.Mem.tail _ ?_)) sl83 rfl rfl (by omega) (by omega) ?_; rintro _ _ _ _ _ _))
    | (guard_target =~ WO _ _ (Oper.mk _ (Op.fieldAddr 172 _ 0) _ _ _ none) _ _ _ _; first | (refine O_fdT fd172_0 (by decide) rfl ?_) | (refine O_field fd172_0 (by decide) rfl ?_))
    | (guard_target =~ WO _ _ (Oper.mk _ (Op.binOp BinOp.eql 21 _ _ _) _ _ _ none) _ _ _ _; first | (first | (refine O_eqlS rfl rfl (fun h => absurd h (by omega)) ?_; intro _) | (refine O_eqlS rfl rfl ?_ (fun h => absurd h (by omega)); intro _) | (refine O_eqlS rfl rfl ?_ ?_ <;> intro _)))
    | (guard_target =~ WO _ _ (Oper.mk _ (Op.pick _ _ _) _ _ _ none) _ _ _ _; first | (refine O_pick_t (v := (.bool _)) rfl rfl ?_) | (refine O_pick_f (v := (.bool _)) rfl rfl ?_))
    | (guard_target =~ WO _ _ (Oper.mk _ (Op.fieldAddr 172 _ 1) _ _ _ none) _ _ _ _; first | (refine O_fdT fd172_1 (by decide) rfl ?_) | (refine O_field fd172_1 (by decide) rfl ?_))
    | (guard_target =~ WO _ _ (Oper.mk _ (Op.binOp BinOp.eql 45 _ _ _) _ _ _ none) _ _ _ _; first | (refine O_eqA num45 rfl rfl ?_ ?_))
    | (guard_target =~ WO _ _ (Oper.mk _ (Op.binOp BinOp.add 27 _ _ _) _ _ _ none) _ _ _ _; first | (refine O_addZ rfl rfl (by simp only [rngZ]; omega) ?_) | (refine O_addA rfl rfl ?_; intro _ _))
    | (guard_target =~ WO _ _ (Oper.mk _ (Op.binOp BinOp.add 3 _ _ _) _ _ _ none) _ _ _ _; first | (refine O_addZ rfl rfl (by simp only [rngZ]; omega) ?_)))
  · exact E_ret2T (by assumption) rfl rfl rfl rfl rfl ⟨_, _, rfl, .inl rfl, .inl rfl⟩
  refine W_loop (fun m ρ w' => ∃ (i : Nat) (p : Int), m = 16384 - i ∧ i ≤ 16384 ∧ 0 ≤ p ∧ p < 16384 ∧ TS B w w' [(45, some ⟨b1, 0, none⟩, 1, 1), (172, σ.aT, σ.nt, σ.cT), (21, σ.aH, σ.nh, σ.cH)] [] ∧ Has ρ [(0, .pointer (some ⟨s, 0, none⟩)), (1, .int .i32 z), (5, .pointer (some ⟨b1, 0, none⟩)), (8, .int .u64 p), (9, .int .i64 ((i : Nat) : Int))]) 16384 ?_ ?_
  · refine ⟨0, _, rfl, by omega, ?_, ?_, TS.pick (by assumption) (by repeat (first | exact List.Mem.head _ | refine List.Mem.tail _ ?_)) (TS.pick (by assumption) (by repeat (first | exact List.Mem.head _ | refine List.Mem.tail _ ?_)) (TS.pick (by assumption) (by repeat (first | exact List.Mem.head _ | refine List.Mem.tail _ ?_)) (TS.clear (by assumption)))), Has.mk ⟨rfl, rfl, rfl, rfl, rfl, trivial⟩⟩ <;> omega
  rintro m ρ w3 ⟨i, p, rfl, hi, hp0, hp1, hS3, σ', rfl⟩
  repeat' (first
    | (refine L_cons ?_)
    | (refine R_cons rfl ?_)
    | (refine W_seq ?_)
    | (refine W_region (by kernel_rfl) ?_)
    | (refine L_nil ?_)
    | (refine R_nil ?_)
    | (refine W_block ?_)
    | (refine W_skip ?_)
    | (refine W_exit ?_)
    | (refine W_ret ?_)
    | (guard_target =~ thenQ _ _ _ _ _; first | (refine T_next ?_) | (refine T_exit ?_) | (refine T_ret ?_))
    | (guard_target =~ blockQ _ _ _ _ _; first | (refine B_next ?_) | (refine B_same ?_) | (refine B_other (by kernel_rfl) ?_) | (refine B_ret ?_))
    | (refine W_true rfl rfl ?_)
    | (refine W_false rfl rfl ?_)
    | (guard_target =~ WO _ _ (Oper.mk _ (Op.load 21 _) _ _ _ none) _ _ _ _; first | (refine O_ld32 (by assumption) (by repeat (first | exact List.Mem.head _ | refine List.Mem.tail _ ?_)) on21 rfl (by first | omega | (simp only [csz]; omega)) (by first | rfl | exact layMod rfl rfl) ?_; intro _ _ _) | (refine O_ldV (by assumption) on21 rfl hV.nmk hV.lt ?_))
    | (guard_target =~ WO _ _ (Oper.mk _ (Op.load 78 _) _ _ _ none) _ _ _ _; first | (refine O_ldV (by assumption) on78 rfl hV.acc hV.lt ?_))
    | (guard_target =~ WO _ _ (Oper.mk _ (Op.load 79 _) _ _ _ none) _ _ _ _; first | (refine O_ldV (by assumption) on79 rfl hV.slo hV.lt ?_))
    | (guard_target =~ WO _ _ (Oper.mk _ (Op.load 81 _) _ _ _ none) _ _ _ _; first | (refine O_ldV (by assumption) on81 rfl hV.jou hV.lt ?_))
    | (guard_target =~ WO _ _ (Oper.mk _ (Op.load 46 _) _ _ _ none) _ _ _ _; first | (refine O_ldV (by assumption) on46 rfl hV.log hV.lt ?_))
    | (guard_target =~ WO _ _ (Oper.mk _ (Op.load 83 _) _ _ _ none) _ _ _ _; first | (refine O_ldV (by assumption) on83 rfl hV.tem hV.lt ?_) | (refine O_lds (t' := 172) (by assumption) (by repeat (first | exact List.Mem.head _ | refine List.Mem.tail _ ?_)) on83 rfl (by first | omega | (simp only [csz]; omega)) (by first | rfl | exact layMod rfl rfl) ?_; intro _ _ _ _ _ _))
    | (guard_target =~ WO _ _ (Oper.mk _ (Op.load 84 _) _ _ _ none) _ _ _ _; first | (refine O_ldV (by assumption) on84 rfl hV.tta hV.lt ?_) | (refine O_lds (t' := 21) (by assumption) (by repeat (first | exact List.Mem.head _ | refine List.Mem.tail _ ?_)) on84 rfl (by first | omega | (simp only [csz]; omega)) (by first | rfl | exact layMod rfl rfl) ?_; intro _ _ _ _ _ _))
    | (guard_target =~ WO _ _ (Oper.mk _ (Op.load 27 _) _ _ _ none) _ _ _ _; first | (refine O_ldV (by assumption) on27 rfl hV.rf hV.lt ?_))
    | (guard_target =~ WO _ _ (Oper.mk _ _ _ _ _ (some _)) _ _ _ _; first | (refine G_yes rfl ?_) | (refine G_no rfl ?_))
    | (guard_target =~ WC _ _ (Code.region 10 _ true) _ _ _; first | (refine W_drawnT (id := 10) [] [0, 1, 2, 3, 4, 5, 6, 7, 8, 9, 10, 11, 12, 13, 14, 15, 16, 17, 18, 19, 20, 21, 22, 23, 24, 25, 26, 27, 28, 29, 30, 31] mixed (by kernel_rfl) (by kernel_rfl) (by assumption) ?_; intro _ _ _))
    | (guard_target =~ WO _ _ (Oper.mk _ (Op.box 45 _) _ _ _ none) _ _ _ _; first | (refine O_bx64 (by assumption) rfl (by assumption) rfl rfl ?_; intro _ _ _ _))
    | (guard_target =~ WO _ _ (Oper.mk _ (Op.assign _) _ _ _ none) _ _ _ _; first | (refine O_assign (v := (.int _ _)) rfl ?_) | (refine O_assign (v := (.bool _)) rfl ?_) | (refine O_assign (v := (.pointer _)) rfl ?_) | (refine O_assign (v := (.slice _ _ _)) rfl ?_) | (refine O_assign (v := (.agg _)) rfl ?_) | (refine O_assign (v := (.tuple _)) rfl ?_))
    | (guard_target =~ WO _ _ (Oper.mk _ (Op.move _) _ _ _ none) _ _ _ _; first | (refine O_move (v := (.int _ _)) rfl ?_) | (refine O_move (v := (.bool _)) rfl ?_) | (refine O_move (v := (.pointer _)) rfl ?_) | (refine O_move (v := (.slice _ _ _)) rfl ?_) | (refine O_move (v := (.agg _)) rfl ?_) | (refine O_move (v := (.tuple _)) rfl ?_))
    | (guard_target =~ WO _ _ (Oper.mk _ (Op.nilCheck _) _ _ _ none) _ _ _ _; first | (refine O_nil rfl ?_))
    | (guard_target =~ WO _ _ (Oper.mk _ (Op.fieldAddr 86 _ 10) _ _ _ none) _ _ _ _; first | (refine O_fdT fd86_10 (by decide) rfl ?_) | (refine O_field fd86_10 (by decide) rfl ?_))
    | (guard_target =~ WO _ _ (Oper.mk _ (Op.call _) _ _ _ none) _ _ _ _; first | (refine O_len Samg.underlying84 rfl rfl ?_) | (refine O_len Samg.underlying83 rfl rfl ?_))
    | (guard_target =~ WO _ _ (Oper.mk _ (Op.binOp BinOp.neq 3 _ _ _) _ _ _ none) _ _ _ _; first | (first | (refine O_neqS rfl rfl (fun h => absurd h (by omega)) ?_; intro _) | (refine O_neqS rfl rfl ?_ (fun h => absurd h (by omega)); intro _) | (refine O_neqS rfl rfl ?_ ?_ <;> intro _)))
    | (guard_target =~ WO _ _ (Oper.mk _ (Op.load 45 _) _ _ _ none) _ _ _ _; first | (refine O_ldn64 (by assumption) (by repeat (first | exact List.Mem.head _ | refine List.Mem.tail _ ?_)) ag45 rfl (by first | omega | (simp only [csz]; omega)) (by first | exact layRun0 rfl rfl | exact layRun rfl rfl rfl) ?_; intro _ _))
    | (guard_target =~ WO _ _ (Oper.mk _ (Op.binOp BinOp.rem 27 _ _ _) _ _ _ none) _ _ _ _; first | (refine O_remZ rfl rfl (by omega) (by omega) ?_))
    | (guard_target =~ WO _ _ (Oper.mk _ (Op.binOp BinOp.lss 3 _ _ _) _ _ _ none) _ _ _ _; first | (first | (refine O_lssS rfl rfl (fun h => absurd h (by omega)) ?_; intro _) | (refine O_lssS rfl rfl ?_ (fun h => absurd h (by omega)); intro _) | (refine O_lssS rfl rfl ?_ ?_ <;> intro _)))
    | (guard_target =~ WO _ _ (Oper.mk _ (Op.indexAddr 84 _ _) _ _ _ none) _ _ _ _; first | (refine O_ixN (by assumption) (by repeat (first | exact List.Mem.head _ | refine List.Mem.tail _ ?_)) sl84 rfl rfl (by omega) (by omega) ?_; rintro _ _ _ _ _ _))
    | (guard_target =~ WO _ _ (Oper.mk _ (Op.binOp BinOp.lss 21 _ _ _) _ _ _ none) _ _ _ _; first | (first | (refine O_lssS rfl rfl (fun h => absurd h (by omega)) ?_; intro _) | (refine O_lssS rfl rfl ?_ (fun h => absurd h (by omega)); intro _) | (refine O_lssS rfl rfl ?_ ?_ <;> intro _)))
    | (guard_target =~ WO _ _ (Oper.mk _ (Op.convert 27 21 _) _ _ _ none) _ _ _ _; first | (refine O_convZ Samg.underlying27 Samg.underlying21 rfl (by simp only [rngZ]; omega) ?_) | (refine O_convA Samg.underlying27 Samg.underlying21 rfl rfl ?_; intro _ hr; simp only [rngZ] at hr))
    | (guard_target =~ WO _ _ (Oper.mk _ (Op.convert 21 3 _) _ _ _ none) _ _ _ _; first | (refine O_convZ Samg.underlying21 Samg.underlying3 rfl (by simp only [rngZ]; omega) ?_) | (refine O_convA Samg.underlying21 Samg.underlying3 rfl rfl ?_; intro _ hr; simp only [rngZ] at hr))
    | (guard_target =~ WO _ _ (Oper.mk _ (Op.fieldAddr 86 _ 9) _ _ _ none) _ _ _ _; first | (refine O_fdT fd86_9 (by decide) rfl ?_) | (refine O_field fd86_9 (by decide) rfl ?_))
    | (guard_target =~ WO _ _ (Oper.mk _ (Op.indexAddr 83 _ _) _ _ _ none) _ _ _ _; first | (refine O_ixN (by assumption) (by repeat (first | exact List.Mem.head _ | refine List.Mem.tail _ ?_)) sl83 rfl rfl (by omega) (by omega) ?_; rintro _ _ _ _ _ _))
    | (guard_target =~ WO _ _ (Oper.mk _ (Op.fieldAddr 172 _ 0) _ _ _ none) _ _ _ _; first | (refine O_fdT fd172_0 (by decide) rfl ?_) | (refine O_field fd172_0 (by decide) rfl ?_))
    | (guard_target =~ WO _ _ (Oper.mk _ (Op.binOp BinOp.eql 21 _ _ _) _ _ _ none) _ _ _ _; first | (first | (refine O_eqlS rfl rfl (fun h => absurd h (by omega)) ?_; intro _) | (refine O_eqlS rfl rfl ?_ (fun h => absurd h (by omega)); intro _) | (refine O_eqlS rfl rfl ?_ ?_ <;> intro _)))
    | (guard_target =~ WO _ _ (Oper.mk _ (Op.pick _ _ _) _ _ _ none) _ _ _ _; first | (refine O_pick_t (v := (.bool _)) rfl rfl ?_) | (refine O_pick_f (v := (.bool _)) rfl rfl ?_))
    | (guard_target =~ WO _ _ (Oper.mk _ (Op.fieldAddr 172 _ 1) _ _ _ none) _ _ _ _; first | (refine O_fdT fd172_1 (by decide) rfl ?_) | (refine O_field fd172_1 (by decide) rfl ?_))
    | (guard_target =~ WO _ _ (Oper.mk _ (Op.binOp BinOp.eql 45 _ _ _) _ _ _ none) _ _ _ _; first | (refine O_eqA num45 rfl rfl ?_ ?_))
    | (guard_target =~ WO _ _ (Oper.mk _ (Op.binOp BinOp.add 27 _ _ _) _ _ _ none) _ _ _ _; first | (refine O_addZ rfl rfl (by simp only [rngZ]; omega) ?_) | (refine O_addA rfl rfl ?_; intro _ _))
    | (guard_target =~ WO _ _ (Oper.mk _ (Op.binOp BinOp.add 3 _ _ _) _ _ _ none) _ _ _ _; first | (refine O_addZ rfl rfl (by simp only [rngZ]; omega) ?_)))
  all_goals first
    | (refine E_ret2T (by assumption) rfl rfl rfl rfl rfl ⟨_, _, rfl, .inl rfl, ?_⟩; omega)
    | exact E_ret2T (by assumption) rfl rfl rfl rfl rfl ⟨_, _, rfl, .inr ⟨by omega, by omega⟩, .inl rfl⟩
    | (refine ⟨16384 - (i + 1), by omega, i + 1, _, rfl, by omega, ?_, ?_, TS.clear3 (by assumption) (by repeat (first | exact List.Mem.head _ | refine List.Mem.tail _ ?_)) (by repeat (first | exact List.Mem.head _ | refine List.Mem.tail _ ?_)) (by repeat (first | exact List.Mem.head _ | refine List.Mem.tail _ ?_)), Has.mk ⟨rfl, rfl, rfl, rfl, rfl, trivial⟩⟩ <;> omega)
end Go.Proofs.Ygcsam
