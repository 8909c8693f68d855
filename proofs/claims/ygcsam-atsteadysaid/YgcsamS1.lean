/-
  SMALL FUNCTIONS, by shape. Own work.
-/
import Derived.Test.YgcsamT5
namespace Go.Proofs.Ygcsam
set_option linter.unusedVariables false
set_option maxRecDepth 4000

theorem inside_ok {n o : Int} (h0 : 0 ≤ o) (h1 : o + 8 ≤ n) (h2 : n < 1000) (w : World) : Ret Samg.prog 115 #[.int .i64 n, .int .i64 o] w fun v w' => v = .bool true ∧ w' = w := by
  refine W_enter (l := [_, _]) Samg.func115 rfl rfl rfl ?_
  repeat' (first
    | (refine L_cons ?_)
    | (refine R_cons rfl ?_)
    | (refine W_seq ?_)
    | (refine W_region (by kernel_rfl) ?_)
    | (refine L_nil ?_)
    | (refine R_nil ?_)
    | (refine W_block ?_)
    | (refine W_skip ?_)
    | (refine W_exit ?_)
    | (refine W_ret ?_)
    | (guard_target =~ thenQ _ _ _ _ _; first | (refine T_next ?_) | (refine T_exit ?_) | (refine T_ret ?_))
    | (guard_target =~ blockQ _ _ _ _ _; first | (refine B_next ?_) | (refine B_same ?_) | (refine B_other (by kernel_rfl) ?_) | (refine B_ret ?_))
    | (refine W_true rfl rfl ?_)
    | (refine W_false rfl rfl ?_)
    | (guard_target =~ WO _ _ (Oper.mk _ _ _ _ _ (some _)) _ _ _ _; first | (refine G_yes rfl ?_) | (refine G_no rfl ?_))
    | (guard_target =~ WO _ _ (Oper.mk _ (Op.assign _) _ _ _ none) _ _ _ _; first | (refine O_assign (v := (.int _ _)) rfl ?_) | (refine O_assign (v := (.bool _)) rfl ?_) | (refine O_assign (v := (.pointer _)) rfl ?_) | (refine O_assign (v := (.slice _ _ _)) rfl ?_) | (refine O_assign (v := (.agg _)) rfl ?_) | (refine O_assign (v := (.tuple _)) rfl ?_))
    | (guard_target =~ WO _ _ (Oper.mk _ (Op.move _) _ _ _ none) _ _ _ _; first | (refine O_move (v := (.int _ _)) rfl ?_) | (refine O_move (v := (.bool _)) rfl ?_) | (refine O_move (v := (.pointer _)) rfl ?_) | (refine O_move (v := (.slice _ _ _)) rfl ?_) | (refine O_move (v := (.agg _)) rfl ?_) | (refine O_move (v := (.tuple _)) rfl ?_))
    | (guard_target =~ WO _ _ (Oper.mk _ (Op.binOp BinOp.geq 3 _ _ _) _ _ _ none) _ _ _ _; first | (first | (refine O_geqS rfl rfl (fun h => absurd h (by omega)) ?_; intro _) | (refine O_geqS rfl rfl ?_ (fun h => absurd h (by omega)); intro _) | (refine O_geqS rfl rfl ?_ ?_ <;> intro _)))
    | (guard_target =~ WO _ _ (Oper.mk _ (Op.pick _ _ _) _ _ _ none) _ _ _ _; first | (refine O_pick_t (v := (.bool _)) rfl rfl ?_) | (refine O_pick_f (v := (.bool _)) rfl rfl ?_))
    | (guard_target =~ WO _ _ (Oper.mk _ (Op.binOp BinOp.sub 3 _ _ _) _ _ _ none) _ _ _ _; first | (refine O_subZ rfl rfl (by simp only [rngZ]; omega) ?_))
    | (guard_target =~ WO _ _ (Oper.mk _ (Op.binOp BinOp.leq 3 _ _ _) _ _ _ none) _ _ _ _; first | (first | (refine O_leqS rfl rfl (fun h => absurd h (by omega)) ?_; intro _) | (refine O_leqS rfl rfl ?_ (fun h => absurd h (by omega)); intro _) | (refine O_leqS rfl rfl ?_ ?_ <;> intro _))))
  all_goals exact E_ret rfl rfl rfl ⟨rfl, rfl⟩

theorem be64_ok {B b T N n o : Nat} {w : World} (hT : WT B w) (hr : Row B w b T N) (hl : ∀ j, lay T j = 1) (hn : n ≤ N) (h8 : o + 8 ≤ n) (h9 : n < 1000) : Rd B Samg.prog 82 [.slice (some ⟨b, 0, none⟩) n n, .int .i64 ((o : Nat) : Int)] w fun v w' => ∃ z : Nat, z < 18446744073709551616 ∧ v = .tuple #[.int .u64 (z : Int), .bool true] := by
  refine W_enter (l := [_, _]) Samg.func82 rfl rfl rfl ?_
  have hS := TS.start hT
  repeat' (first
    | (refine L_cons ?_)
    | (refine R_cons rfl ?_)
    | (refine W_seq ?_)
    | (refine W_region (by kernel_rfl) ?_)
    | (refine L_nil ?_)
    | (refine R_nil ?_)
    | (refine W_block ?_)
    | (refine W_skip ?_)
    | (refine W_exit ?_)
    | (refine W_ret ?_)
    | (guard_target =~ thenQ _ _ _ _ _; first | (refine T_next ?_) | (refine T_exit ?_) | (refine T_ret ?_))
    | (guard_target =~ blockQ _ _ _ _ _; first | (refine B_next ?_) | (refine B_same ?_) | (refine B_other (by kernel_rfl) ?_) | (refine B_ret ?_))
    | (refine W_true rfl rfl ?_)
    | (refine W_false rfl rfl ?_)
    | (guard_target =~ WO _ _ (Oper.mk _ (Op.call (Call.mk (Callee.value _) _ _)) _ _ _ none) _ _ _ _; first | (refine O_call (l := [.int .i64 (n : Int), .int .i64 (o : Int)]) cl115 rfl (Ret.mono (inside_ok (by omega) (by omega) (by omega) w) ?_); rintro _ _ ⟨rfl, rfl⟩; refine ⟨nof, ?_⟩))
    | (guard_target =~ WO _ _ (Oper.mk _ (Op.slice 31 _ (some _) (some _) none) _ _ _ none) _ _ _ _; first | (refine O_slm (lo := o) (hi := o + 8) sl31 rfl rfl rfl (by omega) (by omega) (by omega) ?_))
    | (guard_target =~ WO _ _ (Oper.mk _ (Op.sliceToArrayPointer 206 _) _ _ _ none) _ _ _ _; first | (refine O_arrp ar206 rfl (by omega) ?_))
    | (guard_target =~ WO _ _ (Oper.mk _ (Op.load 206 _) _ _ _ none) _ _ _ _; first | (refine O_ldR8 hT hr hl ag206 rfl (by omega) ?_; intro _ _) | (refine O_ldn8 (by assumption) (by repeat (first | exact List.Mem.head _ | refine List.Mem.tail _ ?_)) ag206 rfl (by first | omega | (simp only [csz]; omega)) (by first | exact layRun0 rfl rfl | exact layRun rfl rfl rfl) ?_; intro _ _))
    | (guard_target =~ WO _ _ (Oper.mk _ (Op.assign _) _ _ _ none) _ _ _ _; first | (refine O_assign (v := (.int _ _)) rfl ?_) | (refine O_assign (v := (.bool _)) rfl ?_) | (refine O_assign (v := (.pointer _)) rfl ?_) | (refine O_assign (v := (.slice _ _ _)) rfl ?_) | (refine O_assign (v := (.agg _)) rfl ?_) | (refine O_assign (v := (.tuple _)) rfl ?_))
    | (guard_target =~ WO _ _ (Oper.mk _ (Op.move _) _ _ _ none) _ _ _ _; first | (refine O_move (v := (.int _ _)) rfl ?_) | (refine O_move (v := (.bool _)) rfl ?_) | (refine O_move (v := (.pointer _)) rfl ?_) | (refine O_move (v := (.slice _ _ _)) rfl ?_) | (refine O_move (v := (.agg _)) rfl ?_) | (refine O_move (v := (.tuple _)) rfl ?_))
    | (guard_target =~ WO _ _ (Oper.mk _ (Op.call _) _ _ _ none) _ _ _ _; first | (refine O_len Samg.underlying31 rfl rfl ?_))
    | (guard_target =~ WO _ _ (Oper.mk _ (Op.unOp _ _ _) _ _ _ none) _ _ _ _; first | (refine O_not rfl ?_))
    | (guard_target =~ WO _ _ (Oper.mk _ (Op.binOp BinOp.add 3 _ _ _) _ _ _ none) _ _ _ _; first | (refine O_addZ rfl rfl (by simp only [rngZ]; omega) ?_))
    | (guard_target =~ WO _ _ (Oper.mk _ (Op.alloc 206) _ _ _ none) _ _ _ _; first | (refine O_al (by assumption) zc206 (by decide) ?_; intro _ _ _ _))
    | (guard_target =~ WO _ _ (Oper.mk _ (Op.store 206 _ _) _ _ _ none) _ _ _ _; first | (refine O_stn8 (by assumption) (by repeat (first | exact List.Mem.head _ | refine List.Mem.tail _ ?_)) (by omega) ag206 rfl rfl (by assumption) (by first | omega | (simp only [csz]; omega)) (by first | exact layRun0 rfl rfl | exact layRun rfl rfl rfl) rfl ?_; intro _ _))
    | (guard_target =~ WO _ _ (Oper.mk _ (Op.indexAddr 206 _ (Operand.const (Value.int _ 7))) _ _ _ none) _ _ _ _; first | (refine O_index1 (m := 7) ar206 rfl rfl (by omega) ?_))
    | (guard_target =~ WO _ _ (Oper.mk _ (Op.load 5 _) _ _ _ none) _ _ _ _; first | (refine O_ld8 (by assumption) (by repeat (first | exact List.Mem.head _ | refine List.Mem.tail _ ?_)) on5 rfl (by first | omega | (simp only [csz]; omega)) (by first | rfl | exact layMod rfl rfl) ?_; intro _ _))
    | (guard_target =~ WO _ _ (Oper.mk _ (Op.convert 5 27 _) _ _ _ none) _ _ _ _; first | (refine O_convZ Samg.underlying5 Samg.underlying27 rfl (by simp only [rngZ]; omega) ?_) | (refine O_convA Samg.underlying5 Samg.underlying27 rfl rfl ?_; intro _ hr; simp only [rngZ] at hr))
    | (guard_target =~ WO _ _ (Oper.mk _ (Op.indexAddr 206 _ (Operand.const (Value.int _ 6))) _ _ _ none) _ _ _ _; first | (refine O_index1 (m := 6) ar206 rfl rfl (by omega) ?_))
    | (guard_target =~ WO _ _ (Oper.mk _ (Op.binOp BinOp.shl 27 _ (Operand.const (Value.int _ 8)) _) _ _ _ none) _ _ _ _; first | (refine O_shlA (bb := 8) rfl rfl ?_; intro _ _))
    | (guard_target =~ WO _ _ (Oper.mk _ (Op.binOp BinOp.or 27 _ _ _) _ _ _ none) _ _ _ _; first | (refine O_orA rfl rfl ?_; intro _ _))
    | (guard_target =~ WO _ _ (Oper.mk _ (Op.indexAddr 206 _ (Operand.const (Value.int _ 5))) _ _ _ none) _ _ _ _; first | (refine O_index1 (m := 5) ar206 rfl rfl (by omega) ?_))
    | (guard_target =~ WO _ _ (Oper.mk _ (Op.binOp BinOp.shl 27 _ (Operand.const (Value.int _ 16)) _) _ _ _ none) _ _ _ _; first | (refine O_shlA (bb := 16) rfl rfl ?_; intro _ _))
    | (guard_target =~ WO _ _ (Oper.mk _ (Op.indexAddr 206 _ (Operand.const (Value.int _ 4))) _ _ _ none) _ _ _ _; first | (refine O_index1 (m := 4) ar206 rfl rfl (by omega) ?_))
    | (guard_target =~ WO _ _ (Oper.mk _ (Op.binOp BinOp.shl 27 _ (Operand.const (Value.int _ 24)) _) _ _ _ none) _ _ _ _; first | (refine O_shlA (bb := 24) rfl rfl ?_; intro _ _))
    | (guard_target =~ WO _ _ (Oper.mk _ (Op.indexAddr 206 _ (Operand.const (Value.int _ 3))) _ _ _ none) _ _ _ _; first | (refine O_index1 (m := 3) ar206 rfl rfl (by omega) ?_))
    | (guard_target =~ WO _ _ (Oper.mk _ (Op.binOp BinOp.shl 27 _ (Operand.const (Value.int _ 32)) _) _ _ _ none) _ _ _ _; first | (refine O_shlA (bb := 32) rfl rfl ?_; intro _ _))
    | (guard_target =~ WO _ _ (Oper.mk _ (Op.indexAddr 206 _ (Operand.const (Value.int _ 2))) _ _ _ none) _ _ _ _; first | (refine O_index1 (m := 2) ar206 rfl rfl (by omega) ?_))
    | (guard_target =~ WO _ _ (Oper.mk _ (Op.binOp BinOp.shl 27 _ (Operand.const (Value.int _ 40)) _) _ _ _ none) _ _ _ _; first | (refine O_shlA (bb := 40) rfl rfl ?_; intro _ _))
    | (guard_target =~ WO _ _ (Oper.mk _ (Op.indexAddr 206 _ (Operand.const (Value.int _ 1))) _ _ _ none) _ _ _ _; first | (refine O_index1 (m := 1) ar206 rfl rfl (by omega) ?_))
    | (guard_target =~ WO _ _ (Oper.mk _ (Op.binOp BinOp.shl 27 _ (Operand.const (Value.int _ 48)) _) _ _ _ none) _ _ _ _; first | (refine O_shlA (bb := 48) rfl rfl ?_; intro _ _))
    | (guard_target =~ WO _ _ (Oper.mk _ (Op.indexAddr 206 _ (Operand.const (Value.int _ 0))) _ _ _ none) _ _ _ _; first | (refine O_index1 (m := 0) ar206 rfl rfl (by omega) ?_))
    | (guard_target =~ WO _ _ (Oper.mk _ (Op.binOp BinOp.shl 27 _ (Operand.const (Value.int _ 56)) _) _ _ _ none) _ _ _ _; first | (refine O_shlA (bb := 56) rfl rfl ?_; intro _ _)))
  all_goals exact E_ret2T (by assumption) rfl rfl rfl rfl rfl ⟨_, by assumption, rfl⟩

theorem fromBytes_ok {B : Nat} {f : Nat → Nat} {w : World} (hT : WT B w) (hf : ∀ i, f i < 256) : Rd B Samg.prog 31 [.agg (ns .u8 32 f)] w fun v w' => ∃ g : Nat → Nat, (∀ i, g i < 18446744073709551616) ∧ v = .agg (ns .u64 4 g) := by
  refine W_enter (l := [_]) Samg.func31 rfl rfl rfl ?_
  have hS := TS.start hT
  repeat' (first
    | (refine L_cons ?_)
    | (refine R_cons rfl ?_)
    | (refine W_seq ?_)
    | (refine W_region (by kernel_rfl) ?_)
    | (refine L_nil ?_)
    | (refine R_nil ?_)
    | (refine W_block ?_)
    | (refine W_skip ?_)
    | (refine W_exit ?_)
    | (refine W_ret ?_)
    | (guard_target =~ thenQ _ _ _ _ _; first | (refine T_next ?_) | (refine T_exit ?_) | (refine T_ret ?_))
    | (guard_target =~ blockQ _ _ _ _ _; first | (refine B_next ?_) | (refine B_same ?_) | (refine B_other (by kernel_rfl) ?_) | (refine B_ret ?_))
    | (refine W_true rfl rfl ?_)
    | (refine W_false rfl rfl ?_)
    | (guard_target =~ WO _ _ (Oper.mk _ (Op.call (Call.mk (Callee.value (Operand.func 82)) #[_, Operand.const (Value.int _ 0)] _)) _ _ _ none) _ _ _ _; first | (refine O_rd (l := [_, .int .i64 ((0 : Nat) : Int)]) (by assumption) cl82 rfl (be64_ok (o := 0) (TS.t (by assumption)) (TS.row (by assumption) (by repeat (first | exact List.Mem.head _ | refine List.Mem.tail _ ?_))) (fun _ => rfl) (by simp only [csz]; omega) (by omega) (by omega)) ?_; rintro _ _ ⟨_, _, rfl⟩ _ _))
    | (guard_target =~ WO _ _ (Oper.mk _ (Op.call (Call.mk (Callee.value (Operand.func 82)) #[_, Operand.const (Value.int _ 8)] _)) _ _ _ none) _ _ _ _; first | (refine O_rd (l := [_, .int .i64 ((8 : Nat) : Int)]) (by assumption) cl82 rfl (be64_ok (o := 8) (TS.t (by assumption)) (TS.row (by assumption) (by repeat (first | exact List.Mem.head _ | refine List.Mem.tail _ ?_))) (fun _ => rfl) (by simp only [csz]; omega) (by omega) (by omega)) ?_; rintro _ _ ⟨_, _, rfl⟩ _ _))
    | (guard_target =~ WO _ _ (Oper.mk _ (Op.call (Call.mk (Callee.value (Operand.func 82)) #[_, Operand.const (Value.int _ 16)] _)) _ _ _ none) _ _ _ _; first | (refine O_rd (l := [_, .int .i64 ((16 : Nat) : Int)]) (by assumption) cl82 rfl (be64_ok (o := 16) (TS.t (by assumption)) (TS.row (by assumption) (by repeat (first | exact List.Mem.head _ | refine List.Mem.tail _ ?_))) (fun _ => rfl) (by simp only [csz]; omega) (by omega) (by omega)) ?_; rintro _ _ ⟨_, _, rfl⟩ _ _))
    | (guard_target =~ WO _ _ (Oper.mk _ (Op.call (Call.mk (Callee.value (Operand.func 82)) #[_, Operand.const (Value.int _ 24)] _)) _ _ _ none) _ _ _ _; first | (refine O_rd (l := [_, .int .i64 ((24 : Nat) : Int)]) (by assumption) cl82 rfl (be64_ok (o := 24) (TS.t (by assumption)) (TS.row (by assumption) (by repeat (first | exact List.Mem.head _ | refine List.Mem.tail _ ?_))) (fun _ => rfl) (by simp only [csz]; omega) (by omega) (by omega)) ?_; rintro _ _ ⟨_, _, rfl⟩ _ _))
    | (guard_target =~ WO _ _ (Oper.mk _ (Op.box 30 _) _ _ _ none) _ _ _ _; first | (refine O_bx8 (by assumption) rfl (by assumption) rfl rfl ?_; intro _ _ _ _))
    | (guard_target =~ WO _ _ (Oper.mk _ (Op.alloc 45) _ _ _ none) _ _ _ _; first | (refine O_al (by assumption) zc45 (by decide) ?_; intro _ _ _ _))
    | (guard_target =~ WO _ _ (Oper.mk _ (Op.slice 30 _ none none none) _ _ _ none) _ _ _ _; first | (refine O_sla ar30 rfl (by decide) ?_))
    | (guard_target =~ WO _ _ (Oper.mk _ (Op.move _) _ _ _ none) _ _ _ _; first | (refine O_move (v := (.int _ _)) rfl ?_) | (refine O_move (v := (.bool _)) rfl ?_) | (refine O_move (v := (.pointer _)) rfl ?_) | (refine O_move (v := (.slice _ _ _)) rfl ?_) | (refine O_move (v := (.agg _)) rfl ?_) | (refine O_move (v := (.tuple _)) rfl ?_))
    | (guard_target =~ WO _ _ (Oper.mk _ (Op.extract _ _) _ _ _ none) _ _ _ _; first | (refine O_extract rfl rfl ?_))
    | (guard_target =~ WO _ _ (Oper.mk _ (Op.assign _) _ _ _ none) _ _ _ _; first | (refine O_assign (v := (.int _ _)) rfl ?_) | (refine O_assign (v := (.bool _)) rfl ?_) | (refine O_assign (v := (.pointer _)) rfl ?_) | (refine O_assign (v := (.slice _ _ _)) rfl ?_) | (refine O_assign (v := (.agg _)) rfl ?_) | (refine O_assign (v := (.tuple _)) rfl ?_))
    | (guard_target =~ WO _ _ (Oper.mk _ (Op.build 45 #[(0, _), (1, _), (2, _), (3, _)]) _ _ _ none) _ _ _ _; first | (refine O_bdn64 (l := [(0, .int .u64 (Nat.cast _)), (1, .int .u64 (Nat.cast _)), (2, .int .u64 (Nat.cast _)), (3, .int .u64 (Nat.cast _))]) (by assumption) ar45 zc45 rfl rfl rfl ⟨_, _, rfl, rfl, rfl, ⟨_, _, rfl, rfl, rfl, ⟨_, _, rfl, rfl, rfl, ⟨_, _, rfl, rfl, rfl, rfl⟩⟩⟩⟩ ⟨one_ok (c' := 2) rfl (ok64 (by omega)), ⟨one_ok (c' := 2) rfl (ok64 (by omega)), ⟨one_ok (c' := 2) rfl (ok64 (by omega)), ⟨one_ok (c' := 2) rfl (ok64 (by omega)), trivial⟩⟩⟩⟩ ?_; intro _ _))
    | (guard_target =~ WO _ _ (Oper.mk _ (Op.store 45 _ _) _ _ _ none) _ _ _ _; first | (refine O_stn64 (by assumption) (by repeat (first | exact List.Mem.head _ | refine List.Mem.tail _ ?_)) (by omega) ag45 rfl rfl (by assumption) (by first | omega | (simp only [csz]; omega)) (by first | exact layRun0 rfl rfl | exact layRun rfl rfl rfl) rfl ?_; intro _ _)))
  refine E_cell1T (by assumption) rfl rfl ag45 rfl (by repeat (first | exact List.Mem.head _ | refine List.Mem.tail _ ?_)) ?_
  intro cs hc
  obtain ⟨g, rfl, hg⟩ := hc.ns64 rfl rfl
  exact ⟨g, hg, rfl⟩

theorem fold_ok {B x y : Nat} {w : World} (hT : WT B w) (hx : x < 18446744073709551616) : Rd B Samg.prog 134 [.int .u64 ((x : Nat) : Int), .int .u64 ((y : Nat) : Int)] w fun v w' => ∃ z : Nat, z < 18446744073709551616 ∧ v = .int .u64 ((z : Nat) : Int) := by
  refine W_enter (l := [_, _]) Samg.func134 rfl rfl rfl ?_
  have hS := TS.start hT
  repeat' (first
    | (refine L_cons ?_)
    | (refine R_cons rfl ?_)
    | (refine W_seq ?_)
    | (refine W_region (by kernel_rfl) ?_)
    | (refine L_nil ?_)
    | (refine R_nil ?_)
    | (refine W_block ?_)
    | (refine W_skip ?_)
    | (refine W_exit ?_)
    | (refine W_ret ?_)
    | (guard_target =~ thenQ _ _ _ _ _; first | (refine T_next ?_) | (refine T_exit ?_) | (refine T_ret ?_))
    | (guard_target =~ blockQ _ _ _ _ _; first | (refine B_next ?_) | (refine B_same ?_) | (refine B_other (by kernel_rfl) ?_) | (refine B_ret ?_))
    | (refine W_true rfl rfl ?_)
    | (refine W_false rfl rfl ?_)
    | (guard_target =~ WO _ _ (Oper.mk _ (Op.call (Call.mk (Callee.value _) _ _)) _ _ _ none) _ _ _ _; first | (refine O_call (l := [.int .u64 (Nat.cast _), .int .u64 ((11400714819323198485 : Nat) : Int)]) cl123 rfl (Ret.mono (mul_ok (by assumption) (by omega) w) ?_); rintro _ _ ⟨rfl, rfl⟩; refine ⟨nof, ?_⟩))
    | (guard_target =~ WO _ _ (Oper.mk _ (Op.assign _) _ _ _ none) _ _ _ _; first | (refine O_assign (v := (.int _ _)) rfl ?_) | (refine O_assign (v := (.bool _)) rfl ?_) | (refine O_assign (v := (.pointer _)) rfl ?_) | (refine O_assign (v := (.slice _ _ _)) rfl ?_) | (refine O_assign (v := (.agg _)) rfl ?_) | (refine O_assign (v := (.tuple _)) rfl ?_))
    | (guard_target =~ WO _ _ (Oper.mk _ (Op.move _) _ _ _ none) _ _ _ _; first | (refine O_move (v := (.int _ _)) rfl ?_) | (refine O_move (v := (.bool _)) rfl ?_) | (refine O_move (v := (.pointer _)) rfl ?_) | (refine O_move (v := (.slice _ _ _)) rfl ?_) | (refine O_move (v := (.agg _)) rfl ?_) | (refine O_move (v := (.tuple _)) rfl ?_))
    | (guard_target =~ WO _ _ (Oper.mk _ (Op.binOp BinOp.xor 27 _ _ _) _ _ _ none) _ _ _ _; first | (refine O_xorA rfl rfl ?_; intro _ _))
    | (guard_target =~ WO _ _ (Oper.mk _ (Op.extract _ _) _ _ _ none) _ _ _ _; first | (refine O_extract rfl rfl ?_)))
  all_goals exact E_ret1T (by assumption) rfl rfl rfl ⟨_, by assumption, rfl⟩

theorem acctHome_ok {B : Nat} {f : Nat → Nat} {w : World} (hT : WT B w) (hf : ∀ i, f i < 256) : Rd B Samg.prog 116 [.agg (ns .u8 20 f)] w fun v w' => ∃ z : Int, 0 ≤ z ∧ z < 4096 ∧ v = .int .u32 z := by
  refine W_enter (l := [_]) Samg.func116 rfl rfl rfl ?_
  have hS := TS.start hT
  repeat' (first
    | (refine L_cons ?_)
    | (refine R_cons rfl ?_)
    | (refine W_seq ?_)
    | (refine W_region (by kernel_rfl) ?_)
    | (refine L_nil ?_)
    | (refine R_nil ?_)
    | (refine W_block ?_)
    | (refine W_skip ?_)
    | (refine W_exit ?_)
    | (refine W_ret ?_)
    | (guard_target =~ thenQ _ _ _ _ _; first | (refine T_next ?_) | (refine T_exit ?_) | (refine T_ret ?_))
    | (guard_target =~ blockQ _ _ _ _ _; first | (refine B_next ?_) | (refine B_same ?_) | (refine B_other (by kernel_rfl) ?_) | (refine B_ret ?_))
    | (refine W_true rfl rfl ?_)
    | (refine W_false rfl rfl ?_)
    | (guard_target =~ WO _ _ (Oper.mk _ (Op.call (Call.mk (Callee.value (Operand.func 82)) #[_, Operand.const (Value.int _ 0)] _)) _ _ _ none) _ _ _ _; first | (refine O_rd (l := [_, .int .i64 ((0 : Nat) : Int)]) (by assumption) cl82 rfl (be64_ok (o := 0) (TS.t (by assumption)) (TS.row (by assumption) (by repeat (first | exact List.Mem.head _ | refine List.Mem.tail _ ?_))) (fun _ => rfl) (by simp only [csz]; omega) (by omega) (by omega)) ?_; rintro _ _ ⟨_, _, rfl⟩ _ _))
    | (guard_target =~ WO _ _ (Oper.mk _ (Op.call (Call.mk (Callee.value (Operand.func 82)) #[_, Operand.const (Value.int _ 8)] _)) _ _ _ none) _ _ _ _; first | (refine O_rd (l := [_, .int .i64 ((8 : Nat) : Int)]) (by assumption) cl82 rfl (be64_ok (o := 8) (TS.t (by assumption)) (TS.row (by assumption) (by repeat (first | exact List.Mem.head _ | refine List.Mem.tail _ ?_))) (fun _ => rfl) (by simp only [csz]; omega) (by omega) (by omega)) ?_; rintro _ _ ⟨_, _, rfl⟩ _ _))
    | (guard_target =~ WO _ _ (Oper.mk _ (Op.call (Call.mk (Callee.value (Operand.func 82)) #[_, Operand.const (Value.int _ 12)] _)) _ _ _ none) _ _ _ _; first | (refine O_rd (l := [_, .int .i64 ((12 : Nat) : Int)]) (by assumption) cl82 rfl (be64_ok (o := 12) (TS.t (by assumption)) (TS.row (by assumption) (by repeat (first | exact List.Mem.head _ | refine List.Mem.tail _ ?_))) (fun _ => rfl) (by simp only [csz]; omega) (by omega) (by omega)) ?_; rintro _ _ ⟨_, _, rfl⟩ _ _))
    | (guard_target =~ WO _ _ (Oper.mk _ (Op.call (Call.mk (Callee.value (Operand.func 134)) #[Operand.const _, _] _)) _ _ _ none) _ _ _ _; first | (refine O_rd (l := [.int .u64 ((2611923443488327891 : Nat) : Int), .int .u64 (Nat.cast _)]) (by assumption) cl134 rfl (fold_ok (TS.t (by assumption)) (by omega)) ?_; rintro _ _ ⟨_, _, rfl⟩ _ _))
    | (guard_target =~ WO _ _ (Oper.mk _ (Op.call (Call.mk (Callee.value (Operand.func 134)) #[_, Operand.const _] _)) _ _ _ none) _ _ _ _; first | (refine O_rd (l := [.int .u64 (Nat.cast _), .int .u64 ((1376283091369227076 : Nat) : Int)]) (by assumption) cl134 rfl (fold_ok (TS.t (by assumption)) (by omega)) ?_; rintro _ _ ⟨_, _, rfl⟩ _ _))
    | (guard_target =~ WO _ _ (Oper.mk _ (Op.call (Call.mk (Callee.value (Operand.func 134)) _ _)) _ _ _ none) _ _ _ _; first | (refine O_rd (l := [.int .u64 (Nat.cast _), .int .u64 (Nat.cast _)]) (by assumption) cl134 rfl (fold_ok (TS.t (by assumption)) (by omega)) ?_; rintro _ _ ⟨_, _, rfl⟩ _ _))
    | (guard_target =~ WO _ _ (Oper.mk _ (Op.box 24 _) _ _ _ none) _ _ _ _; first | (refine O_bx8 (by assumption) rfl (by assumption) rfl rfl ?_; intro _ _ _ _))
    | (guard_target =~ WO _ _ (Oper.mk _ (Op.assign _) _ _ _ none) _ _ _ _; first | (refine O_assign (v := (.int _ _)) rfl ?_) | (refine O_assign (v := (.bool _)) rfl ?_) | (refine O_assign (v := (.pointer _)) rfl ?_) | (refine O_assign (v := (.slice _ _ _)) rfl ?_) | (refine O_assign (v := (.agg _)) rfl ?_) | (refine O_assign (v := (.tuple _)) rfl ?_))
    | (guard_target =~ WO _ _ (Oper.mk _ (Op.slice 24 _ none none none) _ _ _ none) _ _ _ _; first | (refine O_sla ar24 rfl (by decide) ?_))
    | (guard_target =~ WO _ _ (Oper.mk _ (Op.move _) _ _ _ none) _ _ _ _; first | (refine O_move (v := (.int _ _)) rfl ?_) | (refine O_move (v := (.bool _)) rfl ?_) | (refine O_move (v := (.pointer _)) rfl ?_) | (refine O_move (v := (.slice _ _ _)) rfl ?_) | (refine O_move (v := (.agg _)) rfl ?_) | (refine O_move (v := (.tuple _)) rfl ?_))
    | (guard_target =~ WO _ _ (Oper.mk _ (Op.extract _ _) _ _ _ none) _ _ _ _; first | (refine O_extract rfl rfl ?_))
    | (guard_target =~ WO _ _ (Oper.mk _ (Op.binOp BinOp.rem 27 _ _ _) _ _ _ none) _ _ _ _; first | (refine O_remZ rfl rfl (by omega) (by omega) ?_))
    | (guard_target =~ WO _ _ (Oper.mk _ (Op.convert 27 207 _) _ _ _ none) _ _ _ _; first | (refine O_convZ Samg.underlying27 Samg.underlying207 rfl (by simp only [rngZ]; omega) ?_) | (refine O_convA Samg.underlying27 Samg.underlying207 rfl rfl ?_; intro _ hr; simp only [rngZ] at hr)))
  refine E_ret1T (by assumption) rfl rfl rfl ⟨_, ?_, ?_, rfl⟩ <;> omega

theorem mixSlot_ok {B : Nat} {f : Nat → Nat} {z : Int} {w : World} (hT : WT B w) (hf : ∀ i, f i < 18446744073709551616) : Rd B Samg.prog 117 [.int .i32 z, .agg (ns .u64 4 f)] w fun v w' => ∃ m : Nat, m < 18446744073709551616 ∧ v = .int .u64 ((m : Nat) : Int) := by
  refine W_enter (l := [_, _]) Samg.func117 rfl rfl rfl ?_
  have hS := TS.start hT
  repeat' (first
    | (refine L_cons ?_)
    | (refine R_cons rfl ?_)
    | (refine W_seq ?_)
    | (refine W_region (by kernel_rfl) ?_)
    | (refine L_nil ?_)
    | (refine R_nil ?_)
    | (refine W_block ?_)
    | (refine W_skip ?_)
    | (refine W_exit ?_)
    | (refine W_ret ?_)
    | (guard_target =~ thenQ _ _ _ _ _; first | (refine T_next ?_) | (refine T_exit ?_) | (refine T_ret ?_))
    | (guard_target =~ blockQ _ _ _ _ _; first | (refine B_next ?_) | (refine B_same ?_) | (refine B_other (by kernel_rfl) ?_) | (refine B_ret ?_))
    | (refine W_true rfl rfl ?_)
    | (refine W_false rfl rfl ?_)
    | (guard_target =~ WO _ _ (Oper.mk _ (Op.convert 207 27 _) _ _ _ none) _ _ _ _; first | (refine O_convA Samg.underlying207 Samg.underlying27 rfl rfl ?_; intro _ hr; obtain ⟨_, rfl, hr⟩ := toN hr) | (refine O_convZ Samg.underlying207 Samg.underlying27 rfl (by simp only [rngZ]; omega) ?_) | (refine O_convA Samg.underlying207 Samg.underlying27 rfl rfl ?_; intro _ hr; simp only [rngZ] at hr))
    | (guard_target =~ WO _ _ (Oper.mk _ (Op.call (Call.mk (Callee.value (Operand.func 134)) #[Operand.const _, _] _)) _ _ _ none) _ _ _ _; first | (refine O_rd (l := [.int .u64 ((2611923443488327891 : Nat) : Int), .int .u64 (Nat.cast _)]) (by assumption) cl134 rfl (fold_ok (TS.t (by assumption)) (by omega)) ?_; rintro _ _ ⟨_, _, rfl⟩ _ _))
    | (guard_target =~ WO _ _ (Oper.mk _ (Op.call (Call.mk (Callee.value (Operand.func 134)) #[_, Operand.const _] _)) _ _ _ none) _ _ _ _; first | (refine O_rd (l := [.int .u64 (Nat.cast _), .int .u64 ((1376283091369227076 : Nat) : Int)]) (by assumption) cl134 rfl (fold_ok (TS.t (by assumption)) (by omega)) ?_; rintro _ _ ⟨_, _, rfl⟩ _ _))
    | (guard_target =~ WO _ _ (Oper.mk _ (Op.call (Call.mk (Callee.value (Operand.func 134)) _ _)) _ _ _ none) _ _ _ _; first | (refine O_rd (l := [.int .u64 (Nat.cast _), .int .u64 (Nat.cast _)]) (by assumption) cl134 rfl (fold_ok (TS.t (by assumption)) (by omega)) ?_; rintro _ _ ⟨_, _, rfl⟩ _ _))
    | (guard_target =~ WO _ _ (Oper.mk _ (Op.box 45 _) _ _ _ none) _ _ _ _; first | (refine O_bx64 (by assumption) rfl (by assumption) rfl rfl ?_; intro _ _ _ _))
    | (guard_target =~ WO _ _ (Oper.mk _ (Op.assign _) _ _ _ none) _ _ _ _; first | (refine O_assign (v := (.int _ _)) rfl ?_) | (refine O_assign (v := (.bool _)) rfl ?_) | (refine O_assign (v := (.pointer _)) rfl ?_) | (refine O_assign (v := (.slice _ _ _)) rfl ?_) | (refine O_assign (v := (.agg _)) rfl ?_) | (refine O_assign (v := (.tuple _)) rfl ?_))
    | (guard_target =~ WO _ _ (Oper.mk _ (Op.move _) _ _ _ none) _ _ _ _; first | (refine O_move (v := (.int _ _)) rfl ?_) | (refine O_move (v := (.bool _)) rfl ?_) | (refine O_move (v := (.pointer _)) rfl ?_) | (refine O_move (v := (.slice _ _ _)) rfl ?_) | (refine O_move (v := (.agg _)) rfl ?_) | (refine O_move (v := (.tuple _)) rfl ?_))
    | (guard_target =~ WO _ _ (Oper.mk _ (Op.convert 21 207 _) _ _ _ none) _ _ _ _; first | (refine O_convZ Samg.underlying21 Samg.underlying207 rfl (by simp only [rngZ]; omega) ?_) | (refine O_convA Samg.underlying21 Samg.underlying207 rfl rfl ?_; intro _ hr; simp only [rngZ] at hr))
    | (guard_target =~ WO _ _ (Oper.mk _ (Op.load 45 _) _ _ _ none) _ _ _ _; first | (refine O_ldn64 (by assumption) (by repeat (first | exact List.Mem.head _ | refine List.Mem.tail _ ?_)) ag45 rfl (by first | omega | (simp only [csz]; omega)) (by first | exact layRun0 rfl rfl | exact layRun rfl rfl rfl) ?_; intro _ _))
    | (guard_target =~ WO _ _ (Oper.mk _ (Op.binOp BinOp.lss 3 _ _ _) _ _ _ none) _ _ _ _; first | (first | (refine O_lssS rfl rfl (fun h => absurd h (by omega)) ?_; intro _) | (refine O_lssS rfl rfl ?_ (fun h => absurd h (by omega)); intro _) | (refine O_lssS rfl rfl ?_ ?_ <;> intro _)))
    | (guard_target =~ WO _ _ (Oper.mk _ (Op.index 45 _ _) _ _ _ none) _ _ _ _; first | (refine O_index_ns ar45 Samg.underlying27 rfl rfl (by omega) ?_))
    | (guard_target =~ WO _ _ (Oper.mk _ (Op.binOp BinOp.add 3 _ _ _) _ _ _ none) _ _ _ _; first | (refine O_addZ rfl rfl (by simp only [rngZ]; omega) ?_)))
  refine W_loop (fun m ρ w' => ∃ (i z : Nat) (g : Nat → Nat), m = 4 - i ∧ i ≤ 4 ∧ z < 18446744073709551616 ∧ TS B w w' [] [] ∧ Has ρ [(5, .int .u64 ((z : Nat) : Int)), (12, .agg (ns .u64 4 g)), (13, .int .i64 ((i : Nat) : Int))]) 4 ?_ ?_
  · exact ⟨0, _, _, rfl, by omega, by assumption, TS.clear (by assumption), Has.mk ⟨rfl, rfl, rfl, trivial⟩⟩
  rintro m ρ w3 ⟨i, z, g, rfl, hi, hz, hS3, σ, rfl⟩
  repeat' (first
    | (refine L_cons ?_)
    | (refine R_cons rfl ?_)
    | (refine W_seq ?_)
    | (refine W_region (by kernel_rfl) ?_)
    | (refine L_nil ?_)
    | (refine R_nil ?_)
    | (refine W_block ?_)
    | (refine W_skip ?_)
    | (refine W_exit ?_)
    | (refine W_ret ?_)
    | (guard_target =~ thenQ _ _ _ _ _; first | (refine T_next ?_) | (refine T_exit ?_) | (refine T_ret ?_))
    | (guard_target =~ blockQ _ _ _ _ _; first | (refine B_next ?_) | (refine B_same ?_) | (refine B_other (by kernel_rfl) ?_) | (refine B_ret ?_))
    | (refine W_true rfl rfl ?_)
    | (refine W_false rfl rfl ?_)
    | (guard_target =~ WO _ _ (Oper.mk _ (Op.call (Call.mk (Callee.value (Operand.func 134)) #[Operand.const _, _] _)) _ _ _ none) _ _ _ _; first | (refine O_rd (l := [.int .u64 ((2611923443488327891 : Nat) : Int), .int .u64 (Nat.cast _)]) (by assumption) cl134 rfl (fold_ok (TS.t (by assumption)) (by omega)) ?_; rintro _ _ ⟨_, _, rfl⟩ _ _))
    | (guard_target =~ WO _ _ (Oper.mk _ (Op.call (Call.mk (Callee.value (Operand.func 134)) #[_, Operand.const _] _)) _ _ _ none) _ _ _ _; first | (refine O_rd (l := [.int .u64 (Nat.cast _), .int .u64 ((1376283091369227076 : Nat) : Int)]) (by assumption) cl134 rfl (fold_ok (TS.t (by assumption)) (by omega)) ?_; rintro _ _ ⟨_, _, rfl⟩ _ _))
    | (guard_target =~ WO _ _ (Oper.mk _ (Op.call (Call.mk (Callee.value (Operand.func 134)) _ _)) _ _ _ none) _ _ _ _; first | (refine O_rd (l := [.int .u64 (Nat.cast _), .int .u64 (Nat.cast _)]) (by assumption) cl134 rfl (fold_ok (TS.t (by assumption)) (by omega)) ?_; rintro _ _ ⟨_, _, rfl⟩ _ _))
    | (guard_target =~ WO _ _ (Oper.mk _ (Op.box 45 _) _ _ _ none) _ _ _ _; first | (refine O_bx64 (by assumption) rfl (by assumption) rfl rfl ?_; intro _ _ _ _))
    | (guard_target =~ WO _ _ (Oper.mk _ (Op.assign _) _ _ _ none) _ _ _ _; first | (refine O_assign (v := (.int _ _)) rfl ?_) | (refine O_assign (v := (.bool _)) rfl ?_) | (refine O_assign (v := (.pointer _)) rfl ?_) | (refine O_assign (v := (.slice _ _ _)) rfl ?_) | (refine O_assign (v := (.agg _)) rfl ?_) | (refine O_assign (v := (.tuple _)) rfl ?_))
    | (guard_target =~ WO _ _ (Oper.mk _ (Op.move _) _ _ _ none) _ _ _ _; first | (refine O_move (v := (.int _ _)) rfl ?_) | (refine O_move (v := (.bool _)) rfl ?_) | (refine O_move (v := (.pointer _)) rfl ?_) | (refine O_move (v := (.slice _ _ _)) rfl ?_) | (refine O_move (v := (.agg _)) rfl ?_) | (refine O_move (v := (.tuple _)) rfl ?_))
    | (guard_target =~ WO _ _ (Oper.mk _ (Op.convert 21 207 _) _ _ _ none) _ _ _ _; first | (refine O_convZ Samg.underlying21 Samg.underlying207 rfl (by simp only [rngZ]; omega) ?_) | (refine O_convA Samg.underlying21 Samg.underlying207 rfl rfl ?_; intro _ hr; simp only [rngZ] at hr))
    | (guard_target =~ WO _ _ (Oper.mk _ (Op.convert 207 27 _) _ _ _ none) _ _ _ _; first | (refine O_convZ Samg.underlying207 Samg.underlying27 rfl (by simp only [rngZ]; omega) ?_) | (refine O_convA Samg.underlying207 Samg.underlying27 rfl rfl ?_; intro _ hr; simp only [rngZ] at hr))
    | (guard_target =~ WO _ _ (Oper.mk _ (Op.load 45 _) _ _ _ none) _ _ _ _; first | (refine O_ldn64 (by assumption) (by repeat (first | exact List.Mem.head _ | refine List.Mem.tail _ ?_)) ag45 rfl (by first | omega | (simp only [csz]; omega)) (by first | exact layRun0 rfl rfl | exact layRun rfl rfl rfl) ?_; intro _ _))
    | (guard_target =~ WO _ _ (Oper.mk _ (Op.binOp BinOp.lss 3 _ _ _) _ _ _ none) _ _ _ _; first | (first | (refine O_lssS rfl rfl (fun h => absurd h (by omega)) ?_; intro _) | (refine O_lssS rfl rfl ?_ (fun h => absurd h (by omega)); intro _) | (refine O_lssS rfl rfl ?_ ?_ <;> intro _)))
    | (guard_target =~ WO _ _ (Oper.mk _ (Op.index 45 _ _) _ _ _ none) _ _ _ _; first | (refine O_index_ns ar45 Samg.underlying27 rfl rfl (by omega) ?_))
    | (guard_target =~ WO _ _ (Oper.mk _ (Op.binOp BinOp.add 3 _ _ _) _ _ _ none) _ _ _ _; first | (refine O_addZ rfl rfl (by simp only [rngZ]; omega) ?_)))
  · exact ⟨4 - (i + 1), by omega, i + 1, _, g, rfl, by omega, by assumption, by assumption, Has.mk ⟨rfl, rfl, rfl, trivial⟩⟩
  · exact E_ret1T (by assumption) rfl rfl rfl ⟨_, by assumption, rfl⟩

theorem slotHome_ok {B : Nat} {f : Nat → Nat} {z : Int} {w : World} (hT : WT B w) (hf : ∀ i, f i < 18446744073709551616) : Rd B Samg.prog 133 [.int .i32 z, .agg (ns .u64 4 f)] w fun v w' => ∃ m : Int, 0 ≤ m ∧ m < 4096 ∧ v = .int .u32 m := by
  refine W_enter (l := [_, _]) Samg.func133 rfl rfl rfl ?_
  have hS := TS.start hT
  repeat' (first
    | (refine L_cons ?_)
    | (refine R_cons rfl ?_)
    | (refine W_seq ?_)
    | (refine W_region (by kernel_rfl) ?_)
    | (refine L_nil ?_)
    | (refine R_nil ?_)
    | (refine W_block ?_)
    | (refine W_skip ?_)
    | (refine W_exit ?_)
    | (refine W_ret ?_)
    | (guard_target =~ thenQ _ _ _ _ _; first | (refine T_next ?_) | (refine T_exit ?_) | (refine T_ret ?_))
    | (guard_target =~ blockQ _ _ _ _ _; first | (refine B_next ?_) | (refine B_same ?_) | (refine B_other (by kernel_rfl) ?_) | (refine B_ret ?_))
    | (refine W_true rfl rfl ?_)
    | (refine W_false rfl rfl ?_)
    | (guard_target =~ WO _ _ (Oper.mk _ (Op.call (Call.mk (Callee.value (Operand.func 117)) _ _)) _ _ _ none) _ _ _ _; first | (refine O_rd (l := [.int .i32 _, .agg (ns .u64 4 _)]) (by assumption) cl117 rfl (mixSlot_ok (TS.t (by assumption)) (by assumption)) ?_; rintro _ _ ⟨_, _, rfl⟩ _ _))
    | (guard_target =~ WO _ _ (Oper.mk _ (Op.box 45 _) _ _ _ none) _ _ _ _; first | (refine O_bx64 (by assumption) rfl (by assumption) rfl rfl ?_; intro _ _ _ _))
    | (guard_target =~ WO _ _ (Oper.mk _ (Op.assign _) _ _ _ none) _ _ _ _; first | (refine O_assign (v := (.int _ _)) rfl ?_) | (refine O_assign (v := (.bool _)) rfl ?_) | (refine O_assign (v := (.pointer _)) rfl ?_) | (refine O_assign (v := (.slice _ _ _)) rfl ?_) | (refine O_assign (v := (.agg _)) rfl ?_) | (refine O_assign (v := (.tuple _)) rfl ?_))
    | (guard_target =~ WO _ _ (Oper.mk _ (Op.move _) _ _ _ none) _ _ _ _; first | (refine O_move (v := (.int _ _)) rfl ?_) | (refine O_move (v := (.bool _)) rfl ?_) | (refine O_move (v := (.pointer _)) rfl ?_) | (refine O_move (v := (.slice _ _ _)) rfl ?_) | (refine O_move (v := (.agg _)) rfl ?_) | (refine O_move (v := (.tuple _)) rfl ?_))
    | (guard_target =~ WO _ _ (Oper.mk _ (Op.load 45 _) _ _ _ none) _ _ _ _; first | (refine O_ldn64 (by assumption) (by repeat (first | exact List.Mem.head _ | refine List.Mem.tail _ ?_)) ag45 rfl (by first | omega | (simp only [csz]; omega)) (by first | exact layRun0 rfl rfl | exact layRun rfl rfl rfl) ?_; intro _ _))
    | (guard_target =~ WO _ _ (Oper.mk _ (Op.binOp BinOp.rem 27 _ _ _) _ _ _ none) _ _ _ _; first | (refine O_remZ rfl rfl (by omega) (by omega) ?_))
    | (guard_target =~ WO _ _ (Oper.mk _ (Op.convert 27 207 _) _ _ _ none) _ _ _ _; first | (refine O_convZ Samg.underlying27 Samg.underlying207 rfl (by simp only [rngZ]; omega) ?_) | (refine O_convA Samg.underlying27 Samg.underlying207 rfl rfl ?_; intro _ hr; simp only [rngZ] at hr)))
  refine E_ret1T (by assumption) rfl rfl rfl ⟨_, ?_, ?_, rfl⟩ <;> omega

theorem addrWord_ok {B : Nat} {f : Nat → Nat} {w : World} (hT : WT B w) (hf : ∀ i, f i < 256) : Rd B Samg.prog 91 [.agg (ns .u8 20 f)] w fun v w' => ∃ g : Nat → Nat, (∀ i, g i < 18446744073709551616) ∧ v = .agg (ns .u64 4 g) := by
  refine W_enter (l := [_]) Samg.func91 rfl rfl rfl ?_
  have hS := TS.start hT
  repeat' (first
    | (refine L_cons ?_)
    | (refine R_cons rfl ?_)
    | (refine W_seq ?_)
    | (refine W_region (by kernel_rfl) ?_)
    | (refine L_nil ?_)
    | (refine R_nil ?_)
    | (refine W_block ?_)
    | (refine W_skip ?_)
    | (refine W_exit ?_)
    | (refine W_ret ?_)
    | (guard_target =~ thenQ _ _ _ _ _; first | (refine T_next ?_) | (refine T_exit ?_) | (refine T_ret ?_))
    | (guard_target =~ blockQ _ _ _ _ _; first | (refine B_next ?_) | (refine B_same ?_) | (refine B_other (by kernel_rfl) ?_) | (refine B_ret ?_))
    | (refine W_true rfl rfl ?_)
    | (refine W_false rfl rfl ?_)
    | (guard_target =~ WO _ _ (Oper.mk _ (Op.call (Call.mk (Callee.value (Operand.func 82)) #[_, Operand.const (Value.int _ 0)] _)) _ _ _ none) _ _ _ _; first | (refine O_rd (l := [_, .int .i64 ((0 : Nat) : Int)]) (by assumption) cl82 rfl (be64_ok (o := 0) (TS.t (by assumption)) (TS.row (by assumption) (by repeat (first | exact List.Mem.head _ | refine List.Mem.tail _ ?_))) (fun _ => rfl) (by simp only [csz]; omega) (by omega) (by omega)) ?_; rintro _ _ ⟨_, _, rfl⟩ _ _))
    | (guard_target =~ WO _ _ (Oper.mk _ (Op.call (Call.mk (Callee.value (Operand.func 82)) #[_, Operand.const (Value.int _ 8)] _)) _ _ _ none) _ _ _ _; first | (refine O_rd (l := [_, .int .i64 ((8 : Nat) : Int)]) (by assumption) cl82 rfl (be64_ok (o := 8) (TS.t (by assumption)) (TS.row (by assumption) (by repeat (first | exact List.Mem.head _ | refine List.Mem.tail _ ?_))) (fun _ => rfl) (by simp only [csz]; omega) (by omega) (by omega)) ?_; rintro _ _ ⟨_, _, rfl⟩ _ _))
    | (guard_target =~ WO _ _ (Oper.mk _ (Op.call (Call.mk (Callee.value (Operand.func 82)) #[_, Operand.const (Value.int _ 12)] _)) _ _ _ none) _ _ _ _; first | (refine O_rd (l := [_, .int .i64 ((12 : Nat) : Int)]) (by assumption) cl82 rfl (be64_ok (o := 12) (TS.t (by assumption)) (TS.row (by assumption) (by repeat (first | exact List.Mem.head _ | refine List.Mem.tail _ ?_))) (fun _ => rfl) (by simp only [csz]; omega) (by omega) (by omega)) ?_; rintro _ _ ⟨_, _, rfl⟩ _ _))
    | (guard_target =~ WO _ _ (Oper.mk _ (Op.box 24 _) _ _ _ none) _ _ _ _; first | (refine O_bx8 (by assumption) rfl (by assumption) rfl rfl ?_; intro _ _ _ _))
    | (guard_target =~ WO _ _ (Oper.mk _ (Op.alloc 45) _ _ _ none) _ _ _ _; first | (refine O_al (by assumption) zc45 (by decide) ?_; intro _ _ _ _))
    | (guard_target =~ WO _ _ (Oper.mk _ (Op.slice 24 _ none none none) _ _ _ none) _ _ _ _; first | (refine O_sla ar24 rfl (by decide) ?_))
    | (guard_target =~ WO _ _ (Oper.mk _ (Op.move _) _ _ _ none) _ _ _ _; first | (refine O_move (v := (.int _ _)) rfl ?_) | (refine O_move (v := (.bool _)) rfl ?_) | (refine O_move (v := (.pointer _)) rfl ?_) | (refine O_move (v := (.slice _ _ _)) rfl ?_) | (refine O_move (v := (.agg _)) rfl ?_) | (refine O_move (v := (.tuple _)) rfl ?_))
    | (guard_target =~ WO _ _ (Oper.mk _ (Op.extract _ _) _ _ _ none) _ _ _ _; first | (refine O_extract rfl rfl ?_))
    | (guard_target =~ WO _ _ (Oper.mk _ (Op.assign _) _ _ _ none) _ _ _ _; first | (refine O_assign (v := (.int _ _)) rfl ?_) | (refine O_assign (v := (.bool _)) rfl ?_) | (refine O_assign (v := (.pointer _)) rfl ?_) | (refine O_assign (v := (.slice _ _ _)) rfl ?_) | (refine O_assign (v := (.agg _)) rfl ?_) | (refine O_assign (v := (.tuple _)) rfl ?_))
    | (guard_target =~ WO _ _ (Oper.mk _ (Op.binOp BinOp.shr 27 _ (Operand.const (Value.int _ 32)) _) _ _ _ none) _ _ _ _; first | (refine O_shrA (bb := 32) rfl (by omega) rfl (by omega) ?_; intro _ _))
    | (guard_target =~ WO _ _ (Oper.mk _ (Op.binOp BinOp.and 27 _ _ _) _ _ _ none) _ _ _ _; first | (refine O_andA rfl rfl ?_; intro _ _))
    | (guard_target =~ WO _ _ (Oper.mk _ (Op.binOp BinOp.shl 27 _ (Operand.const (Value.int _ 32)) _) _ _ _ none) _ _ _ _; first | (refine O_shlA (bb := 32) rfl rfl ?_; intro _ _))
    | (guard_target =~ WO _ _ (Oper.mk _ (Op.binOp BinOp.or 27 _ _ _) _ _ _ none) _ _ _ _; first | (refine O_orA rfl rfl ?_; intro _ _))
    | (guard_target =~ WO _ _ (Oper.mk _ (Op.build 45 #[(0, _), (1, _), (2, _)]) _ _ _ none) _ _ _ _; first | (refine O_bdn64 (l := [(0, .int .u64 (Nat.cast _)), (1, .int .u64 (Nat.cast _)), (2, .int .u64 (Nat.cast _))]) (by assumption) ar45 zc45 rfl rfl rfl ⟨_, _, rfl, rfl, rfl, ⟨_, _, rfl, rfl, rfl, ⟨_, _, rfl, rfl, rfl, rfl⟩⟩⟩ ⟨one_ok (c' := 2) rfl (ok64 (by omega)), ⟨one_ok (c' := 2) rfl (ok64 (by omega)), ⟨one_ok (c' := 2) rfl (ok64 (by omega)), trivial⟩⟩⟩ ?_; intro _ _))
    | (guard_target =~ WO _ _ (Oper.mk _ (Op.store 45 _ _) _ _ _ none) _ _ _ _; first | (refine O_stn64 (by assumption) (by repeat (first | exact List.Mem.head _ | refine List.Mem.tail _ ?_)) (by omega) ag45 rfl rfl (by assumption) (by first | omega | (simp only [csz]; omega)) (by first | exact layRun0 rfl rfl | exact layRun rfl rfl rfl) rfl ?_; intro _ _)))
  refine E_cell1T (by assumption) rfl rfl ag45 rfl (by repeat (first | exact List.Mem.head _ | refine List.Mem.tail _ ?_)) ?_
  intro cs hc
  obtain ⟨g, rfl, hg⟩ := hc.ns64 rfl rfl
  exact ⟨g, hg, rfl⟩
end Go.Proofs.Ygcsam
