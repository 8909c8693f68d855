/-
  u256: IsZero and AddOver, told in full. Own work.
-/
import Derived.Test.YgcsamS2
namespace Go.Proofs.Ygcsam
set_option linter.unusedVariables false
set_option linter.unusedSimpArgs false
set_option maxRecDepth 4000
def isZ (f : Nat → Nat) : Bool := decide ((((f 0 ||| f 1) ||| f 2) ||| f 3) = 0)
def cyF (f g : Nat → Nat) : Nat → Nat
  | 0 => 0
  | i + 1 => (f i + g i + cyF f g i) / 18446744073709551616
def smF (f g : Nat → Nat) (i : Nat) : Nat := (f i + g i + cyF f g i) % 18446744073709551616
theorem cyF_le {f g : Nat → Nat} (hf : ∀ i, f i < 18446744073709551616) (hg : ∀ i, g i < 18446744073709551616) : ∀ i, cyF f g i ≤ 1
  | 0 => by simp [cyF]
  | i + 1 => by
    have := cyF_le hf hg i
    have := hf i
    have := hg i
    simp only [cyF]; omega
theorem smF_lt (f g : Nat → Nat) (i : Nat) : smF f g i < 18446744073709551616 := Nat.mod_lt _ (by omega)
theorem orlt {a b : Nat} (ha : a < 18446744073709551616) (hb : b < 18446744073709551616) : a ||| b < 18446744073709551616 := Nat.or_lt_two_pow (n := 64) ha hb
theorem z45 : zeroT Samg.prog 45 (.agg (ns .u64 4 fun _ => 0)) := by unfold zeroT; kernel_rfl

theorem isZero_ok {B : Nat} {f : Nat → Nat} {w : World} (hT : WT B w) (hf : ∀ i, f i < 18446744073709551616) : Rd B Samg.prog 90 [.agg (ns .u64 4 f)] w fun v w' => v = .bool (isZ f) := by
  refine W_enter (l := [_]) Samg.func90 rfl rfl rfl ?_
  have hS := TS.start hT
  repeat' (first
    | (refine L_cons ?_)
    | (refine R_cons rfl ?_)
    | (refine W_seq ?_)
    | (refine W_region (by kernel_rfl) ?_)
    | (refine L_nil ?_)
    | (refine R_nil ?_)
    | (refine W_block ?_)
    | (refine W_skip ?_)
    | (refine W_exit ?_)
    | (refine W_ret ?_)
    | (guard_target =~ thenQ _ _ _ _ _; first | (refine T_next ?_) | (refine T_exit ?_) | (refine T_ret ?_))
    | (guard_target =~ blockQ _ _ _ _ _; first | (refine B_next ?_) | (refine B_same ?_) | (refine B_other (by kernel_rfl) ?_) | (refine B_ret ?_))
    | (refine W_true rfl rfl ?_)
    | (refine W_false rfl rfl ?_)
    | (guard_target =~ WO _ _ (Oper.mk _ (Op.box 45 _) _ _ _ none) _ _ _ _; first | (refine O_bxB (t := 45) (v := .agg (ns .u64 4 f)) hS rfl (ns_size _ _ _) (ns_ok64 hf) ?_; intro w1 b hE1 _ hn1 hb1 hS1) | (refine O_bx64 (by assumption) rfl (by assumption) rfl rfl ?_; intro _ _ _ _))
    | (guard_target =~ WO _ _ (Oper.mk _ (Op.load 27 _) _ _ _ none) _ _ _ _; first | (refine O_load_ns on27 rfl hb1 (by omega) ?_) | (refine O_ld64 (by assumption) (by repeat (first | exact List.Mem.head _ | refine List.Mem.tail _ ?_)) on27 rfl (by first | omega | (simp only [csz]; omega)) (by first | rfl | exact layMod rfl rfl) ?_; intro _ _))
    | (guard_target =~ WO _ _ (Oper.mk _ (Op.binOp BinOp.or 27 _ _ _) _ _ _ none) _ _ _ _; first | (refine O_or rfl rfl rfl (fit_u64 (by first | exact hf _ | exact orlt (hf _) (hf _) | exact orlt (orlt (hf _) (hf _)) (hf _))) (fit_u64 (hf _)) ?_) | (refine O_orA rfl rfl ?_; intro _ _))
    | (guard_target =~ WO _ _ (Oper.mk _ (Op.binOp BinOp.eql 27 _ _ _) _ _ _ none) _ _ _ _; first | (refine O_eql (b := 0) rfl rfl ?_) | (first | (refine O_eqlS rfl rfl (fun h => absurd h (by omega)) ?_; intro _) | (refine O_eqlS rfl rfl ?_ (fun h => absurd h (by omega)); intro _) | (refine O_eqlS rfl rfl ?_ ?_ <;> intro _)))
    | (guard_target =~ WO _ _ (Oper.mk _ (Op.assign _) _ _ _ none) _ _ _ _; first | (refine O_assign (v := (.int _ _)) rfl ?_) | (refine O_assign (v := (.bool _)) rfl ?_) | (refine O_assign (v := (.pointer _)) rfl ?_) | (refine O_assign (v := (.slice _ _ _)) rfl ?_) | (refine O_assign (v := (.agg _)) rfl ?_) | (refine O_assign (v := (.tuple _)) rfl ?_))
    | (guard_target =~ WO _ _ (Oper.mk _ (Op.indexAddr 45 _ (Operand.const (Value.int _ 0))) _ _ _ none) _ _ _ _; first | (refine O_index1 (m := 0) ar45 rfl rfl (by omega) ?_))
    | (guard_target =~ WO _ _ (Oper.mk _ (Op.indexAddr 45 _ (Operand.const (Value.int _ 1))) _ _ _ none) _ _ _ _; first | (refine O_index1 (m := 1) ar45 rfl rfl (by omega) ?_))
    | (guard_target =~ WO _ _ (Oper.mk _ (Op.indexAddr 45 _ (Operand.const (Value.int _ 2))) _ _ _ none) _ _ _ _; first | (refine O_index1 (m := 2) ar45 rfl rfl (by omega) ?_))
    | (guard_target =~ WO _ _ (Oper.mk _ (Op.indexAddr 45 _ (Operand.const (Value.int _ 3))) _ _ _ none) _ _ _ _; first | (refine O_index1 (m := 3) ar45 rfl rfl (by omega) ?_)))
  exact E_ret1T (by assumption) rfl rfl rfl rfl

theorem addOver_ok {B : Nat} {f g : Nat → Nat} {w : World} (hT : WT B w) (hf : ∀ i, f i < 18446744073709551616) (hg : ∀ i, g i < 18446744073709551616) : Rd B Samg.prog 89 [.agg (ns .u64 4 f), .agg (ns .u64 4 g)] w fun v w' => v = .tuple #[.agg (ns .u64 4 (smF f g)), .bool (decide (cyF f g 4 ≠ 0))] := by
  refine W_enter (l := [_, _]) Samg.func89 rfl rfl rfl ?_
  have hS := TS.start hT
  refine W_seq (W_region (by kernel_rfl) (L_cons ?_))
  refine O_bxB (t := 45) (v := .agg (ns .u64 4 f)) hS rfl (ns_size _ _ _) (ns_ok64 hf) ?_; intro w1 b1 hE1 hm1 hn1 hb1 hS1
  refine L_cons ?_
  refine O_bxB (t := 45) (v := .agg (ns .u64 4 g)) hS1 rfl (ns_size _ _ _) (ns_ok64 hg) ?_; intro w2 b2 hE2 hm2 hn2 hb2 hS2
  refine L_cons ?_
  refine O_alB (t := 45) hS2 z45 (ns_size _ _ _) (ns_ok64 (fun _ => by omega)) ?_; intro w3 b3 hE3 hm3 hn3 hb3 hS3
  have hb1' := (hb1.ext hE2).ext hE3
  have hb2' := hb2.ext hE3
  repeat' (first
    | (refine L_cons ?_)
    | (refine R_cons rfl ?_)
    | (refine W_seq ?_)
    | (refine W_region (by kernel_rfl) ?_)
    | (refine L_nil ?_)
    | (refine R_nil ?_)
    | (refine W_block ?_)
    | (refine W_skip ?_)
    | (refine W_exit ?_)
    | (refine W_ret ?_)
    | (guard_target =~ thenQ _ _ _ _ _; first | (refine T_next ?_) | (refine T_exit ?_) | (refine T_ret ?_))
    | (guard_target =~ blockQ _ _ _ _ _; first | (refine B_next ?_) | (refine B_same ?_) | (refine B_other (by kernel_rfl) ?_) | (refine B_ret ?_))
    | (refine W_true rfl rfl ?_)
    | (refine W_false rfl rfl ?_)
    | (guard_target =~ WO _ _ (Oper.mk _ (Op.load 27 _) _ _ _ none) _ _ _ _; first | (first | refine O_load_ns on27 rfl hb1' (by omega) ?_ | refine O_load_ns on27 rfl hb2' (by omega) ?_) | (refine O_ld64 (by assumption) (by repeat (first | exact List.Mem.head _ | refine List.Mem.tail _ ?_)) on27 rfl (by first | omega | (simp only [csz]; omega)) (by first | rfl | exact layMod rfl rfl) ?_; intro _ _))
    | (guard_target =~ WO _ _ (Oper.mk _ (Op.call (Call.mk (Callee.value (Operand.func 118)) _ _)) _ _ _ none) _ _ _ _; first | (first | (refine O_call (l := [.int .u64 (Nat.cast (f 0)), .int .u64 (Nat.cast (g 0)), .int .u64 (Nat.cast (cyF f g 0))]) cl118 rfl (Ret.mono (add64_ok (cyF_le hf hg 0) _) ?_); rintro _ _ ⟨rfl, rfl⟩; refine ⟨nof, ?_⟩) | (refine O_call (l := [.int .u64 (Nat.cast (f 1)), .int .u64 (Nat.cast (g 1)), .int .u64 (Nat.cast (cyF f g 1))]) cl118 rfl (Ret.mono (add64_ok (cyF_le hf hg 1) _) ?_); rintro _ _ ⟨rfl, rfl⟩; refine ⟨nof, ?_⟩) | (refine O_call (l := [.int .u64 (Nat.cast (f 2)), .int .u64 (Nat.cast (g 2)), .int .u64 (Nat.cast (cyF f g 2))]) cl118 rfl (Ret.mono (add64_ok (cyF_le hf hg 2) _) ?_); rintro _ _ ⟨rfl, rfl⟩; refine ⟨nof, ?_⟩) | (refine O_call (l := [.int .u64 (Nat.cast (f 3)), .int .u64 (Nat.cast (g 3)), .int .u64 (Nat.cast (cyF f g 3))]) cl118 rfl (Ret.mono (add64_ok (cyF_le hf hg 3) _) ?_); rintro _ _ ⟨rfl, rfl⟩; refine ⟨nof, ?_⟩)))
    | (guard_target =~ WO _ _ (Oper.mk _ (Op.build 45 _) _ _ _ none) _ _ _ _; first | (refine O_build_arr (c := ns .u64 4 (smF f g)) (l := [(0, .int .u64 (Nat.cast (smF f g 0))), (1, .int .u64 (Nat.cast (smF f g 1))), (2, .int .u64 (Nat.cast (smF f g 2))), (3, .int .u64 (Nat.cast (smF f g 3)))]) ar45 z45 rfl rfl ?_))
    | (guard_target =~ WO _ _ (Oper.mk _ (Op.binOp BinOp.neq 27 _ _ _) _ _ _ none) _ _ _ _; first | (refine O_neq (a := cyF f g 4) (b := 0) rfl rfl ?_) | (first | (refine O_neqS rfl rfl (fun h => absurd h (by omega)) ?_; intro _) | (refine O_neqS rfl rfl ?_ (fun h => absurd h (by omega)); intro _) | (refine O_neqS rfl rfl ?_ ?_ <;> intro _)))
    | (guard_target =~ WO _ _ (Oper.mk _ (Op.store 45 _ _) _ _ _ none) _ _ _ _; first | (refine O_store_nss ag45 rfl rfl hb3 (by omega) rfl ?_; intro w4 hU) | (refine O_stn64 (by assumption) (by repeat (first | exact List.Mem.head _ | refine List.Mem.tail _ ?_)) (by omega) ag45 rfl rfl (by assumption) (by first | omega | (simp only [csz]; omega)) (by first | exact layRun0 rfl rfl | exact layRun rfl rfl rfl) rfl ?_; intro _ _))
    | (guard_target =~ WO _ _ (Oper.mk _ (Op.box 45 _) _ _ _ none) _ _ _ _; first | (refine O_bx64 (by assumption) rfl (by assumption) rfl rfl ?_; intro _ _ _ _))
    | (guard_target =~ WO _ _ (Oper.mk _ (Op.alloc 45) _ _ _ none) _ _ _ _; first | (refine O_al (by assumption) zc45 (by decide) ?_; intro _ _ _ _))
    | (guard_target =~ WO _ _ (Oper.mk _ (Op.assign _) _ _ _ none) _ _ _ _; first | (refine O_assign (v := (.int _ _)) rfl ?_) | (refine O_assign (v := (.bool _)) rfl ?_) | (refine O_assign (v := (.pointer _)) rfl ?_) | (refine O_assign (v := (.slice _ _ _)) rfl ?_) | (refine O_assign (v := (.agg _)) rfl ?_) | (refine O_assign (v := (.tuple _)) rfl ?_))
    | (guard_target =~ WO _ _ (Oper.mk _ (Op.indexAddr 45 _ (Operand.const (Value.int _ 0))) _ _ _ none) _ _ _ _; first | (refine O_index1 (m := 0) ar45 rfl rfl (by omega) ?_))
    | (guard_target =~ WO _ _ (Oper.mk _ (Op.move _) _ _ _ none) _ _ _ _; first | (refine O_move (v := (.int _ _)) rfl ?_) | (refine O_move (v := (.bool _)) rfl ?_) | (refine O_move (v := (.pointer _)) rfl ?_) | (refine O_move (v := (.slice _ _ _)) rfl ?_) | (refine O_move (v := (.agg _)) rfl ?_) | (refine O_move (v := (.tuple _)) rfl ?_))
    | (guard_target =~ WO _ _ (Oper.mk _ (Op.extract _ _) _ _ _ none) _ _ _ _; first | (refine O_extract rfl rfl ?_))
    | (guard_target =~ WO _ _ (Oper.mk _ (Op.indexAddr 45 _ (Operand.const (Value.int _ 1))) _ _ _ none) _ _ _ _; first | (refine O_index1 (m := 1) ar45 rfl rfl (by omega) ?_))
    | (guard_target =~ WO _ _ (Oper.mk _ (Op.indexAddr 45 _ (Operand.const (Value.int _ 2))) _ _ _ none) _ _ _ _; first | (refine O_index1 (m := 2) ar45 rfl rfl (by omega) ?_))
    | (guard_target =~ WO _ _ (Oper.mk _ (Op.indexAddr 45 _ (Operand.const (Value.int _ 3))) _ _ _ none) _ _ _ _; first | (refine O_index1 (m := 3) ar45 rfl rfl (by omega) ?_))
    | (guard_target =~ WO _ _ (Oper.mk _ (Op.build 45 #[(0, _), (1, _), (2, _), (3, _)]) _ _ _ none) _ _ _ _; first | (refine O_bdn64 (l := [(0, .int .u64 (Nat.cast _)), (1, .int .u64 (Nat.cast _)), (2, .int .u64 (Nat.cast _)), (3, .int .u64 (Nat.cast _))]) (by assumption) ar45 zc45 rfl rfl rfl ⟨_, _, rfl, rfl, rfl, ⟨_, _, rfl, rfl, rfl, ⟨_, _, rfl, rfl, rfl, ⟨_, _, rfl, rfl, rfl, rfl⟩⟩⟩⟩ ⟨one_ok (c' := 2) rfl (ok64 (by omega)), ⟨one_ok (c' := 2) rfl (ok64 (by omega)), ⟨one_ok (c' := 2) rfl (ok64 (by omega)), ⟨one_ok (c' := 2) rfl (ok64 (by omega)), trivial⟩⟩⟩⟩ ?_; intro _ _)))
  have hS4 : TS B w w4 [] [] := TS.clear (hS3.upd hn3 hb3 hU (by rw [ns_size]; exact (ns_size _ _ _).symm) (ns_ok64 (fun i => by have := smF_lt f g (i - 0); split <;> omega)))
  have he : ns .u64 4 (fun j => if 0 ≤ j ∧ j < 0 + 4 then smF f g (j - 0) else 0) = ns .u64 4 (smF f g) := ns_congr fun i hi => by rw [if_pos (by omega), Nat.sub_zero]
  have hb4 := hU.here
  refine E_ct rfl rfl rfl ag45 rfl hb4 (by rw [ns_size]; omega) rfl ⟨hS4.e, hS4.t, ?_⟩
  rw [he]
  have hx : (ns .u64 4 (smF f g)).extract 0 (0 + 4) = ns .u64 4 (smF f g) := by
    rw [ns_extract (by omega)]; exact ns_congr fun i _ => by rw [Nat.zero_add]
  rw [hx]; rfl
theorem cyF_zero {f : Nat → Nat} (hf : ∀ i, f i < 18446744073709551616) : ∀ i, cyF f (fun _ => 0) i = 0
  | 0 => rfl
  | i + 1 => by
    simp only [cyF, cyF_zero hf i]
    have := hf i
    omega
theorem smF_zero {f : Nat → Nat} (hf : ∀ i, f i < 18446744073709551616) : smF f (fun _ => 0) = f := by
  funext i
  simp only [smF, cyF_zero hf i]
  have := hf i
  omega
end Go.Proofs.Ygcsam
