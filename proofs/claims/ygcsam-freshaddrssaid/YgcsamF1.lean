import Derived.Test.YgcsamK7
import Derived.Test.YgcsamInd
namespace Go.Proofs.Ygcsam
set_option linter.unusedVariables false
set_option maxHeartbeats 1000000

def adr (n : Nat) : Nat → Nat := fun j => if j = 19 then n else 0

theorem addr_ok (n : Nat) (hn : n < 256) (w : World) : Ret Samg.prog 7 #[.int .u8 (n : Nat)] w fun v w' => v = .agg (ns .u8 20 (adr n)) ∧ Ext w w' := by
  refine W_enter (l := [.int .u8 (n : Nat)]) Samg.func7 rfl Samg.ntmps7 rfl ?_
  repeat (first
    | (refine L_cons ?_)
    | (refine R_cons rfl ?_)
    | (refine W_seq ?_)
    | (refine W_region (by kernel_rfl) ?_)
    | (refine L_nil ?_)
    | (refine R_nil ?_)
    | (refine W_block ?_)
    | (refine W_skip ?_)
    | (refine W_exit ?_)
    | (refine W_ret ?_)
    | (guard_target =~ thenQ _ _ _ _ _; first | (refine T_next ?_) | (refine T_exit ?_) | (refine T_ret ?_))
    | (guard_target =~ blockQ _ _ _ _ _; first | (refine B_next ?_) | (refine B_same ?_) | (refine B_other (by kernel_rfl) ?_) | (refine B_ret ?_))
    | (refine W_true rfl rfl ?_)
    | (refine W_false rfl rfl ?_)
    | (guard_target =~ WO _ _ (Oper.mk _ (Op.move _) _ _ _ none) _ _ _ _; first | (refine O_move (v := (.int _ (Nat.cast _))) rfl ?_) | (refine O_move (v := (.bool _)) rfl ?_) | (refine O_move (v := (.pointer _)) rfl ?_) | (refine O_move (v := (.slice _ _ _)) rfl ?_) | (refine O_move (v := (.agg _)) rfl ?_) | (refine O_move (v := (.tuple _)) rfl ?_) | (refine O_move (v := (.int _ _)) rfl ?_)))
  refine O_alloc_agg z24 fun w1 hE1 hs1 hb1 => ?_
  repeat (first
    | (refine L_cons ?_)
    | (refine R_cons rfl ?_)
    | (refine W_seq ?_)
    | (refine W_region (by kernel_rfl) ?_)
    | (refine L_nil ?_)
    | (refine R_nil ?_)
    | (refine W_block ?_)
    | (refine W_skip ?_)
    | (refine W_exit ?_)
    | (refine W_ret ?_)
    | (guard_target =~ thenQ _ _ _ _ _; first | (refine T_next ?_) | (refine T_exit ?_) | (refine T_ret ?_))
    | (guard_target =~ blockQ _ _ _ _ _; first | (refine B_next ?_) | (refine B_same ?_) | (refine B_other (by kernel_rfl) ?_) | (refine B_ret ?_))
    | (refine W_true rfl rfl ?_)
    | (refine W_false rfl rfl ?_)
    | (guard_target =~ WO _ _ (Oper.mk _ (Op.build _ _) _ _ _ none) _ _ _ _; first | (refine O_build_arr (c := ns .u8 20 (adr n)) ar24 z24 rfl (by kernel_rfl) ?_))
    | (guard_target =~ WO _ _ (Oper.mk _ (Op.move _) _ _ _ none) _ _ _ _; first | (refine O_move (v := (.int _ (Nat.cast _))) rfl ?_) | (refine O_move (v := (.bool _)) rfl ?_) | (refine O_move (v := (.pointer _)) rfl ?_) | (refine O_move (v := (.slice _ _ _)) rfl ?_) | (refine O_move (v := (.agg _)) rfl ?_) | (refine O_move (v := (.tuple _)) rfl ?_) | (refine O_move (v := (.int _ _)) rfl ?_)))
  refine O_store_nss ag24 rfl rfl hb1 (by omega) rfl fun w2 hU => ?_
  repeat (first
    | (refine L_cons ?_)
    | (refine R_cons rfl ?_)
    | (refine W_seq ?_)
    | (refine W_region (by kernel_rfl) ?_)
    | (refine L_nil ?_)
    | (refine R_nil ?_)
    | (refine W_block ?_)
    | (refine W_skip ?_)
    | (refine W_exit ?_)
    | (refine W_ret ?_)
    | (guard_target =~ thenQ _ _ _ _ _; first | (refine T_next ?_) | (refine T_exit ?_) | (refine T_ret ?_))
    | (guard_target =~ blockQ _ _ _ _ _; first | (refine B_next ?_) | (refine B_same ?_) | (refine B_other (by kernel_rfl) ?_) | (refine B_ret ?_))
    | (refine W_true rfl rfl ?_)
    | (refine W_false rfl rfl ?_)
    | (guard_target =~ WO _ _ (Oper.mk _ (Op.move _) _ _ _ none) _ _ _ _; first | (refine O_move (v := (.int _ (Nat.cast _))) rfl ?_) | (refine O_move (v := (.bool _)) rfl ?_) | (refine O_move (v := (.pointer _)) rfl ?_) | (refine O_move (v := (.slice _ _ _)) rfl ?_) | (refine O_move (v := (.agg _)) rfl ?_) | (refine O_move (v := (.tuple _)) rfl ?_) | (refine O_move (v := (.int _ _)) rfl ?_)))
  refine E_ns rfl rfl ag24 rfl hU.here ⟨?_, hE1.upd hU (Nat.le_refl _)⟩
  rw [ns_congr (g := adr n)]
  intro j hj
  rw [if_pos (by omega), Nat.sub_zero]

theorem sender_ok (w : World) : Ret Samg.prog 8 #[] w fun v w' => v = .agg (ns .u8 20 (adr 240)) ∧ Ext w w' := by
  refine W_enter (l := []) Samg.func8 rfl Samg.ntmps8 rfl ?_
  repeat (first
    | (refine L_cons ?_)
    | (refine R_cons rfl ?_)
    | (refine W_seq ?_)
    | (refine W_region (by kernel_rfl) ?_)
    | (refine L_nil ?_)
    | (refine R_nil ?_)
    | (refine W_block ?_)
    | (refine W_skip ?_)
    | (refine W_exit ?_)
    | (refine W_ret ?_)
    | (guard_target =~ thenQ _ _ _ _ _; first | (refine T_next ?_) | (refine T_exit ?_) | (refine T_ret ?_))
    | (guard_target =~ blockQ _ _ _ _ _; first | (refine B_next ?_) | (refine B_same ?_) | (refine B_other (by kernel_rfl) ?_) | (refine B_ret ?_))
    | (refine W_true rfl rfl ?_)
    | (refine W_false rfl rfl ?_))
  refine O_alloc_agg z24 fun w1 hE1 hs1 hb1 => ?_
  repeat (first
    | (refine L_cons ?_)
    | (refine R_cons rfl ?_)
    | (refine W_seq ?_)
    | (refine W_region (by kernel_rfl) ?_)
    | (refine L_nil ?_)
    | (refine R_nil ?_)
    | (refine W_block ?_)
    | (refine W_skip ?_)
    | (refine W_exit ?_)
    | (refine W_ret ?_)
    | (guard_target =~ thenQ _ _ _ _ _; first | (refine T_next ?_) | (refine T_exit ?_) | (refine T_ret ?_))
    | (guard_target =~ blockQ _ _ _ _ _; first | (refine B_next ?_) | (refine B_same ?_) | (refine B_other (by kernel_rfl) ?_) | (refine B_ret ?_))
    | (refine W_true rfl rfl ?_)
    | (refine W_false rfl rfl ?_))
  refine O_call (l := [.int .u8 ((240 : Nat) : Int)]) cl7 (by rfl) ((addr_ok 240 (by omega) _).mono ?_)
  rintro v w2 ⟨rfl, hE2⟩
  refine ⟨nof, ?_⟩
  repeat (first
    | (refine L_cons ?_)
    | (refine R_cons rfl ?_)
    | (refine W_seq ?_)
    | (refine W_region (by kernel_rfl) ?_)
    | (refine L_nil ?_)
    | (refine R_nil ?_)
    | (refine W_block ?_)
    | (refine W_skip ?_)
    | (refine W_exit ?_)
    | (refine W_ret ?_)
    | (guard_target =~ thenQ _ _ _ _ _; first | (refine T_next ?_) | (refine T_exit ?_) | (refine T_ret ?_))
    | (guard_target =~ blockQ _ _ _ _ _; first | (refine B_next ?_) | (refine B_same ?_) | (refine B_other (by kernel_rfl) ?_) | (refine B_ret ?_))
    | (refine W_true rfl rfl ?_)
    | (refine W_false rfl rfl ?_))
  refine O_store_nss ag24 rfl rfl (hb1.ext hE2) (by omega) rfl fun w3 hU => ?_
  repeat (first
    | (refine L_cons ?_)
    | (refine R_cons rfl ?_)
    | (refine W_seq ?_)
    | (refine W_region (by kernel_rfl) ?_)
    | (refine L_nil ?_)
    | (refine R_nil ?_)
    | (refine W_block ?_)
    | (refine W_skip ?_)
    | (refine W_exit ?_)
    | (refine W_ret ?_)
    | (guard_target =~ thenQ _ _ _ _ _; first | (refine T_next ?_) | (refine T_exit ?_) | (refine T_ret ?_))
    | (guard_target =~ blockQ _ _ _ _ _; first | (refine B_next ?_) | (refine B_same ?_) | (refine B_other (by kernel_rfl) ?_) | (refine B_ret ?_))
    | (refine W_true rfl rfl ?_)
    | (refine W_false rfl rfl ?_))
  refine E_ns rfl rfl ag24 rfl hU.here ⟨?_, (hE1.trans hE2).upd hU (Nat.le_refl _)⟩
  rw [ns_congr (g := adr 240)]
  intro j hj
  rw [if_pos (by omega), Nat.sub_zero]

/-! ### join -/
def jn (la lb lc : Nat) (ga gb gc gd : Nat → Nat) : Nat → Nat := fun j => if j < la then ga j else if j < la + lb then gb (j - la) else if j < la + lb + lc then gc (j - (la + lb)) else gd (j - (la + lb + lc))
theorem bs_val {w : World} {v : Value} {l : Nat} {g : Nat → Nat} (h : BS w v l g) : ∃ b o cap, v = .slice (some ⟨b, o, none⟩) l cap := by
  obtain ⟨b, o, cap, c, t, h1, _⟩ := h; exact ⟨b, o, cap, h1⟩

theorem join_ok {va vb vc vd : Value} {la lb lc ld : Nat} {ga gb gc gd : Nat → Nat} {w : World} (ha : BS w va la ga) (hb : BS w vb lb gb) (hc : BS w vc lc gc) (hd : BS w vd ld gd) (hl : la + lb + lc + ld ≤ 1000) (hl0 : 0 < la) :
    Ret Samg.prog 25 #[va, vb, vc, vd] w fun v w' => Ext w w' ∧ BS w' v (la + lb + lc + ld) (jn la lb lc ga gb gc gd) := by
  obtain ⟨b1, o1, c1, rfl⟩ := bs_val ha
  obtain ⟨b2, o2, c2, rfl⟩ := bs_val hb
  obtain ⟨b3, o3, c3, rfl⟩ := bs_val hc
  obtain ⟨b4, o4, c4, rfl⟩ := bs_val hd
  refine W_enter (l := [_, _, _, _]) Samg.func25 rfl Samg.ntmps25 rfl ?_
  repeat (first
    | (refine L_cons ?_)
    | (refine R_cons rfl ?_)
    | (refine W_seq ?_)
    | (refine W_region (by kernel_rfl) ?_)
    | (refine L_nil ?_)
    | (refine R_nil ?_)
    | (refine W_block ?_)
    | (refine W_skip ?_)
    | (refine W_exit ?_)
    | (refine W_ret ?_)
    | (guard_target =~ thenQ _ _ _ _ _; first | (refine T_next ?_) | (refine T_exit ?_) | (refine T_ret ?_))
    | (guard_target =~ blockQ _ _ _ _ _; first | (refine B_next ?_) | (refine B_same ?_) | (refine B_other (by kernel_rfl) ?_) | (refine B_ret ?_))
    | (refine W_true rfl rfl ?_)
    | (refine W_false rfl rfl ?_)
    | (guard_target =~ WO _ _ (Oper.mk _ (Op.assign _) _ _ _ none) _ _ _ _; first | (refine O_assign (v := (.int _ (Nat.cast _))) rfl ?_) | (refine O_assign (v := (.bool _)) rfl ?_) | (refine O_assign (v := (.pointer _)) rfl ?_) | (refine O_assign (v := (.slice _ _ _)) rfl ?_) | (refine O_assign (v := (.agg _)) rfl ?_) | (refine O_assign (v := (.tuple _)) rfl ?_) | (refine O_assign (v := (.int _ _)) rfl ?_))
    | (guard_target =~ WO _ _ (Oper.mk _ (Op.move _) _ _ _ none) _ _ _ _; first | (refine O_move (v := (.int _ (Nat.cast _))) rfl ?_) | (refine O_move (v := (.bool _)) rfl ?_) | (refine O_move (v := (.pointer _)) rfl ?_) | (refine O_move (v := (.slice _ _ _)) rfl ?_) | (refine O_move (v := (.agg _)) rfl ?_) | (refine O_move (v := (.tuple _)) rfl ?_) | (refine O_move (v := (.int _ _)) rfl ?_))
    | (guard_target =~ WO _ _ (Oper.mk _ (Op.call _) _ _ _ none) _ _ _ _; first | (refine O_len Samg.underlying31 rfl rfl ?_))
    | (guard_target =~ WO _ _ (Oper.mk _ (Op.binOp BinOp.add _ _ _ _) _ _ _ none) _ _ _ _; first | (refine O_add rfl rfl (by first | exact fit_i64 (by omega) | exact fit_u64 (by omega) | exact fit_u8 (by omega) | exact fit_i32 (by omega) | exact fit_u16 (by omega)) ?_)))
  refine O_make (l := 0) sl31 by5 z5 rfl rfl (by omega) (by omega) (by omega) (by omega) fun w1 hE1 hs1 hn1 => ?_
  rw [show (Value.int .u8 0).cells = #[.int .u8 0] from rfl, Nat.mul_one, zs_int] at hn1
  obtain ⟨bo, hbo⟩ : ∃ b, b = w.heap.size := ⟨_, rfl⟩
  rw [← hbo] at hn1 ⊢
  have go : w.heap.size ≤ bo := by omega
  repeat (first
    | (refine L_cons ?_)
    | (refine R_cons rfl ?_)
    | (refine W_seq ?_)
    | (refine W_region (by kernel_rfl) ?_)
    | (refine L_nil ?_)
    | (refine R_nil ?_)
    | (refine W_block ?_)
    | (refine W_skip ?_)
    | (refine W_exit ?_)
    | (refine W_ret ?_)
    | (guard_target =~ thenQ _ _ _ _ _; first | (refine T_next ?_) | (refine T_exit ?_) | (refine T_ret ?_))
    | (guard_target =~ blockQ _ _ _ _ _; first | (refine B_next ?_) | (refine B_same ?_) | (refine B_other (by kernel_rfl) ?_) | (refine B_ret ?_))
    | (refine W_true rfl rfl ?_)
    | (refine W_false rfl rfl ?_)
    | (guard_target =~ WO _ _ (Oper.mk _ (Op.assign _) _ _ _ none) _ _ _ _; first | (refine O_assign (v := (.int _ (Nat.cast _))) rfl ?_) | (refine O_assign (v := (.bool _)) rfl ?_) | (refine O_assign (v := (.pointer _)) rfl ?_) | (refine O_assign (v := (.slice _ _ _)) rfl ?_) | (refine O_assign (v := (.agg _)) rfl ?_) | (refine O_assign (v := (.tuple _)) rfl ?_) | (refine O_assign (v := (.int _ _)) rfl ?_))
    | (guard_target =~ WO _ _ (Oper.mk _ (Op.move _) _ _ _ none) _ _ _ _; first | (refine O_move (v := (.int _ (Nat.cast _))) rfl ?_) | (refine O_move (v := (.bool _)) rfl ?_) | (refine O_move (v := (.pointer _)) rfl ?_) | (refine O_move (v := (.slice _ _ _)) rfl ?_) | (refine O_move (v := (.agg _)) rfl ?_) | (refine O_move (v := (.tuple _)) rfl ?_) | (refine O_move (v := (.int _ _)) rfl ?_))
    | (guard_target =~ WO _ _ (Oper.mk _ (Op.call _) _ _ _ none) _ _ _ _; first | (refine O_len Samg.underlying31 rfl rfl ?_))
    | (guard_target =~ WO _ _ (Oper.mk _ (Op.binOp BinOp.add _ _ _ _) _ _ _ none) _ _ _ _; first | (refine O_add rfl rfl (by first | exact fit_i64 (by omega) | exact fit_u64 (by omega) | exact fit_u8 (by omega) | exact fit_i32 (by omega) | exact fit_u16 (by omega)) ?_)))
  refine O_append_by rfl rfl sl31 Samg.underlying31 rfl rfl (ha.ext hE1) (by omega) hn1 (by omega) rfl fun w2 hU2 => ?_
  have hE2 := hE1.upd hU2 go
  repeat (first
    | (refine L_cons ?_)
    | (refine R_cons rfl ?_)
    | (refine W_seq ?_)
    | (refine W_region (by kernel_rfl) ?_)
    | (refine L_nil ?_)
    | (refine R_nil ?_)
    | (refine W_block ?_)
    | (refine W_skip ?_)
    | (refine W_exit ?_)
    | (refine W_ret ?_)
    | (guard_target =~ thenQ _ _ _ _ _; first | (refine T_next ?_) | (refine T_exit ?_) | (refine T_ret ?_))
    | (guard_target =~ blockQ _ _ _ _ _; first | (refine B_next ?_) | (refine B_same ?_) | (refine B_other (by kernel_rfl) ?_) | (refine B_ret ?_))
    | (refine W_true rfl rfl ?_)
    | (refine W_false rfl rfl ?_)
    | (guard_target =~ WO _ _ (Oper.mk _ (Op.assign _) _ _ _ none) _ _ _ _; first | (refine O_assign (v := (.int _ (Nat.cast _))) rfl ?_) | (refine O_assign (v := (.bool _)) rfl ?_) | (refine O_assign (v := (.pointer _)) rfl ?_) | (refine O_assign (v := (.slice _ _ _)) rfl ?_) | (refine O_assign (v := (.agg _)) rfl ?_) | (refine O_assign (v := (.tuple _)) rfl ?_) | (refine O_assign (v := (.int _ _)) rfl ?_))
    | (guard_target =~ WO _ _ (Oper.mk _ (Op.move _) _ _ _ none) _ _ _ _; first | (refine O_move (v := (.int _ (Nat.cast _))) rfl ?_) | (refine O_move (v := (.bool _)) rfl ?_) | (refine O_move (v := (.pointer _)) rfl ?_) | (refine O_move (v := (.slice _ _ _)) rfl ?_) | (refine O_move (v := (.agg _)) rfl ?_) | (refine O_move (v := (.tuple _)) rfl ?_) | (refine O_move (v := (.int _ _)) rfl ?_))
    | (guard_target =~ WO _ _ (Oper.mk _ (Op.call _) _ _ _ none) _ _ _ _; first | (refine O_len Samg.underlying31 rfl rfl ?_))
    | (guard_target =~ WO _ _ (Oper.mk _ (Op.binOp BinOp.add _ _ _ _) _ _ _ none) _ _ _ _; first | (refine O_add rfl rfl (by first | exact fit_i64 (by omega) | exact fit_u64 (by omega) | exact fit_u8 (by omega) | exact fit_i32 (by omega) | exact fit_u16 (by omega)) ?_)))
  refine O_append_by rfl rfl sl31 Samg.underlying31 rfl rfl (hb.ext hE2) (by omega) hU2.here (by omega) rfl fun w3 hU3 => ?_
  have hE3 := hE2.upd hU3 go
  repeat (first
    | (refine L_cons ?_)
    | (refine R_cons rfl ?_)
    | (refine W_seq ?_)
    | (refine W_region (by kernel_rfl) ?_)
    | (refine L_nil ?_)
    | (refine R_nil ?_)
    | (refine W_block ?_)
    | (refine W_skip ?_)
    | (refine W_exit ?_)
    | (refine W_ret ?_)
    | (guard_target =~ thenQ _ _ _ _ _; first | (refine T_next ?_) | (refine T_exit ?_) | (refine T_ret ?_))
    | (guard_target =~ blockQ _ _ _ _ _; first | (refine B_next ?_) | (refine B_same ?_) | (refine B_other (by kernel_rfl) ?_) | (refine B_ret ?_))
    | (refine W_true rfl rfl ?_)
    | (refine W_false rfl rfl ?_)
    | (guard_target =~ WO _ _ (Oper.mk _ (Op.assign _) _ _ _ none) _ _ _ _; first | (refine O_assign (v := (.int _ (Nat.cast _))) rfl ?_) | (refine O_assign (v := (.bool _)) rfl ?_) | (refine O_assign (v := (.pointer _)) rfl ?_) | (refine O_assign (v := (.slice _ _ _)) rfl ?_) | (refine O_assign (v := (.agg _)) rfl ?_) | (refine O_assign (v := (.tuple _)) rfl ?_) | (refine O_assign (v := (.int _ _)) rfl ?_))
    | (guard_target =~ WO _ _ (Oper.mk _ (Op.move _) _ _ _ none) _ _ _ _; first | (refine O_move (v := (.int _ (Nat.cast _))) rfl ?_) | (refine O_move (v := (.bool _)) rfl ?_) | (refine O_move (v := (.pointer _)) rfl ?_) | (refine O_move (v := (.slice _ _ _)) rfl ?_) | (refine O_move (v := (.agg _)) rfl ?_) | (refine O_move (v := (.tuple _)) rfl ?_) | (refine O_move (v := (.int _ _)) rfl ?_))
    | (guard_target =~ WO _ _ (Oper.mk _ (Op.call _) _ _ _ none) _ _ _ _; first | (refine O_len Samg.underlying31 rfl rfl ?_))
    | (guard_target =~ WO _ _ (Oper.mk _ (Op.binOp BinOp.add _ _ _ _) _ _ _ none) _ _ _ _; first | (refine O_add rfl rfl (by first | exact fit_i64 (by omega) | exact fit_u64 (by omega) | exact fit_u8 (by omega) | exact fit_i32 (by omega) | exact fit_u16 (by omega)) ?_)))
  refine O_append_by rfl rfl sl31 Samg.underlying31 rfl rfl (hc.ext hE3) (by omega) hU3.here (by omega) rfl fun w4 hU4 => ?_
  have hE4 := hE3.upd hU4 go
  repeat (first
    | (refine L_cons ?_)
    | (refine R_cons rfl ?_)
    | (refine W_seq ?_)
    | (refine W_region (by kernel_rfl) ?_)
    | (refine L_nil ?_)
    | (refine R_nil ?_)
    | (refine W_block ?_)
    | (refine W_skip ?_)
    | (refine W_exit ?_)
    | (refine W_ret ?_)
    | (guard_target =~ thenQ _ _ _ _ _; first | (refine T_next ?_) | (refine T_exit ?_) | (refine T_ret ?_))
    | (guard_target =~ blockQ _ _ _ _ _; first | (refine B_next ?_) | (refine B_same ?_) | (refine B_other (by kernel_rfl) ?_) | (refine B_ret ?_))
    | (refine W_true rfl rfl ?_)
    | (refine W_false rfl rfl ?_)
    | (guard_target =~ WO _ _ (Oper.mk _ (Op.assign _) _ _ _ none) _ _ _ _; first | (refine O_assign (v := (.int _ (Nat.cast _))) rfl ?_) | (refine O_assign (v := (.bool _)) rfl ?_) | (refine O_assign (v := (.pointer _)) rfl ?_) | (refine O_assign (v := (.slice _ _ _)) rfl ?_) | (refine O_assign (v := (.agg _)) rfl ?_) | (refine O_assign (v := (.tuple _)) rfl ?_) | (refine O_assign (v := (.int _ _)) rfl ?_))
    | (guard_target =~ WO _ _ (Oper.mk _ (Op.move _) _ _ _ none) _ _ _ _; first | (refine O_move (v := (.int _ (Nat.cast _))) rfl ?_) | (refine O_move (v := (.bool _)) rfl ?_) | (refine O_move (v := (.pointer _)) rfl ?_) | (refine O_move (v := (.slice _ _ _)) rfl ?_) | (refine O_move (v := (.agg _)) rfl ?_) | (refine O_move (v := (.tuple _)) rfl ?_) | (refine O_move (v := (.int _ _)) rfl ?_))
    | (guard_target =~ WO _ _ (Oper.mk _ (Op.call _) _ _ _ none) _ _ _ _; first | (refine O_len Samg.underlying31 rfl rfl ?_))
    | (guard_target =~ WO _ _ (Oper.mk _ (Op.binOp BinOp.add _ _ _ _) _ _ _ none) _ _ _ _; first | (refine O_add rfl rfl (by first | exact fit_i64 (by omega) | exact fit_u64 (by omega) | exact fit_u8 (by omega) | exact fit_i32 (by omega) | exact fit_u16 (by omega)) ?_)))
  refine O_append_by rfl rfl sl31 Samg.underlying31 rfl rfl (hd.ext hE4) (by omega) hU4.here (by omega) rfl fun w5 hU5 => ?_
  have hE5 := hE4.upd hU5 go
  repeat (first
    | (refine L_cons ?_)
    | (refine R_cons rfl ?_)
    | (refine W_seq ?_)
    | (refine W_region (by kernel_rfl) ?_)
    | (refine L_nil ?_)
    | (refine R_nil ?_)
    | (refine W_block ?_)
    | (refine W_skip ?_)
    | (refine W_exit ?_)
    | (refine W_ret ?_)
    | (guard_target =~ thenQ _ _ _ _ _; first | (refine T_next ?_) | (refine T_exit ?_) | (refine T_ret ?_))
    | (guard_target =~ blockQ _ _ _ _ _; first | (refine B_next ?_) | (refine B_same ?_) | (refine B_other (by kernel_rfl) ?_) | (refine B_ret ?_))
    | (refine W_true rfl rfl ?_)
    | (refine W_false rfl rfl ?_)
    | (guard_target =~ WO _ _ (Oper.mk _ (Op.assign _) _ _ _ none) _ _ _ _; first | (refine O_assign (v := (.int _ (Nat.cast _))) rfl ?_) | (refine O_assign (v := (.bool _)) rfl ?_) | (refine O_assign (v := (.pointer _)) rfl ?_) | (refine O_assign (v := (.slice _ _ _)) rfl ?_) | (refine O_assign (v := (.agg _)) rfl ?_) | (refine O_assign (v := (.tuple _)) rfl ?_) | (refine O_assign (v := (.int _ _)) rfl ?_))
    | (guard_target =~ WO _ _ (Oper.mk _ (Op.move _) _ _ _ none) _ _ _ _; first | (refine O_move (v := (.int _ (Nat.cast _))) rfl ?_) | (refine O_move (v := (.bool _)) rfl ?_) | (refine O_move (v := (.pointer _)) rfl ?_) | (refine O_move (v := (.slice _ _ _)) rfl ?_) | (refine O_move (v := (.agg _)) rfl ?_) | (refine O_move (v := (.tuple _)) rfl ?_) | (refine O_move (v := (.int _ _)) rfl ?_))
    | (guard_target =~ WO _ _ (Oper.mk _ (Op.call _) _ _ _ none) _ _ _ _; first | (refine O_len Samg.underlying31 rfl rfl ?_))
    | (guard_target =~ WO _ _ (Oper.mk _ (Op.binOp BinOp.add _ _ _ _) _ _ _ none) _ _ _ _; first | (refine O_add rfl rfl (by first | exact fit_i64 (by omega) | exact fit_u64 (by omega) | exact fit_u8 (by omega) | exact fit_i32 (by omega) | exact fit_u16 (by omega)) ?_)))
  refine E_ret rfl rfl rfl ⟨hE5, ?_⟩
  have h5 := hU5.here
  rw [ns_congr (g := jn la lb lc ga gb gc gd)] at h5
  · rw [Nat.zero_add]; exact BS.ns h5 (by omega)
  · intro j hj
    unfold jn
    by_cases h1 : j < la
    · rw [if_pos h1, if_neg (by omega), if_neg (by omega), if_neg (by omega), if_pos (by omega), Nat.sub_zero]
    · rw [if_neg h1]
      by_cases h2 : j < la + lb
      · rw [if_pos h2, if_neg (by omega), if_neg (by omega), if_pos (by omega), Nat.zero_add]
      · rw [if_neg h2]
        by_cases h3 : j < la + lb + lc
        · rw [if_pos h3, if_neg (by omega), if_pos (by omega), Nat.zero_add]
        · rw [if_neg h3, if_pos (by omega), Nat.zero_add]

theorem join_ok3 {va vb vc : Value} {la lb lc : Nat} {ga gb gc : Nat → Nat} {w : World} (ha : BS w va la ga) (hb : BS w vb lb gb) (hc : BS w vc lc gc) (hl : la + lb + lc ≤ 1000) (hl0 : 0 < la) :
    Ret Samg.prog 25 #[va, vb, vc, .slice none 0 0] w fun v w' => Ext w w' ∧ BS w' v (la + lb + lc) (jn la lb lc ga gb gc fun _ => 0) := by
  obtain ⟨b1, o1, c1, rfl⟩ := bs_val ha
  obtain ⟨b2, o2, c2, rfl⟩ := bs_val hb
  obtain ⟨b3, o3, c3, rfl⟩ := bs_val hc
  refine W_enter (l := [_, _, _, _]) Samg.func25 rfl Samg.ntmps25 rfl ?_
  repeat (first
    | (refine L_cons ?_)
    | (refine R_cons rfl ?_)
    | (refine W_seq ?_)
    | (refine W_region (by kernel_rfl) ?_)
    | (refine L_nil ?_)
    | (refine R_nil ?_)
    | (refine W_block ?_)
    | (refine W_skip ?_)
    | (refine W_exit ?_)
    | (refine W_ret ?_)
    | (guard_target =~ thenQ _ _ _ _ _; first | (refine T_next ?_) | (refine T_exit ?_) | (refine T_ret ?_))
    | (guard_target =~ blockQ _ _ _ _ _; first | (refine B_next ?_) | (refine B_same ?_) | (refine B_other (by kernel_rfl) ?_) | (refine B_ret ?_))
    | (refine W_true rfl rfl ?_)
    | (refine W_false rfl rfl ?_)
    | (guard_target =~ WO _ _ (Oper.mk _ (Op.assign _) _ _ _ none) _ _ _ _; first | (refine O_assign (v := (.int _ (Nat.cast _))) rfl ?_) | (refine O_assign (v := (.bool _)) rfl ?_) | (refine O_assign (v := (.pointer _)) rfl ?_) | (refine O_assign (v := (.slice _ _ _)) rfl ?_) | (refine O_assign (v := (.agg _)) rfl ?_) | (refine O_assign (v := (.tuple _)) rfl ?_) | (refine O_assign (v := (.int _ _)) rfl ?_))
    | (guard_target =~ WO _ _ (Oper.mk _ (Op.move _) _ _ _ none) _ _ _ _; first | (refine O_move (v := (.int _ (Nat.cast _))) rfl ?_) | (refine O_move (v := (.bool _)) rfl ?_) | (refine O_move (v := (.pointer _)) rfl ?_) | (refine O_move (v := (.slice _ _ _)) rfl ?_) | (refine O_move (v := (.agg _)) rfl ?_) | (refine O_move (v := (.tuple _)) rfl ?_) | (refine O_move (v := (.int _ _)) rfl ?_))
    | (guard_target =~ WO _ _ (Oper.mk _ (Op.call _) _ _ _ none) _ _ _ _; first | (refine O_len Samg.underlying31 rfl rfl ?_))
    | (guard_target =~ WO _ _ (Oper.mk _ (Op.binOp BinOp.add _ _ _ _) _ _ _ none) _ _ _ _; first | (refine O_add rfl rfl (by first | exact fit_i64 (by omega) | exact fit_u64 (by omega) | exact fit_u8 (by omega) | exact fit_i32 (by omega) | exact fit_u16 (by omega)) ?_)))
  refine O_make (l := 0) sl31 by5 z5 rfl rfl (by omega) (by omega) (by omega) (by omega) fun w1 hE1 hs1 hn1 => ?_
  rw [show (Value.int .u8 0).cells = #[.int .u8 0] from rfl, Nat.mul_one, zs_int] at hn1
  obtain ⟨bo, hbo⟩ : ∃ b, b = w.heap.size := ⟨_, rfl⟩
  rw [← hbo] at hn1 ⊢
  have go : w.heap.size ≤ bo := by omega
  repeat (first
    | (refine L_cons ?_)
    | (refine R_cons rfl ?_)
    | (refine W_seq ?_)
    | (refine W_region (by kernel_rfl) ?_)
    | (refine L_nil ?_)
    | (refine R_nil ?_)
    | (refine W_block ?_)
    | (refine W_skip ?_)
    | (refine W_exit ?_)
    | (refine W_ret ?_)
    | (guard_target =~ thenQ _ _ _ _ _; first | (refine T_next ?_) | (refine T_exit ?_) | (refine T_ret ?_))
    | (guard_target =~ blockQ _ _ _ _ _; first | (refine B_next ?_) | (refine B_same ?_) | (refine B_other (by kernel_rfl) ?_) | (refine B_ret ?_))
    | (refine W_true rfl rfl ?_)
    | (refine W_false rfl rfl ?_)
    | (guard_target =~ WO _ _ (Oper.mk _ (Op.assign _) _ _ _ none) _ _ _ _; first | (refine O_assign (v := (.int _ (Nat.cast _))) rfl ?_) | (refine O_assign (v := (.bool _)) rfl ?_) | (refine O_assign (v := (.pointer _)) rfl ?_) | (refine O_assign (v := (.slice _ _ _)) rfl ?_) | (refine O_assign (v := (.agg _)) rfl ?_) | (refine O_assign (v := (.tuple _)) rfl ?_) | (refine O_assign (v := (.int _ _)) rfl ?_))
    | (guard_target =~ WO _ _ (Oper.mk _ (Op.move _) _ _ _ none) _ _ _ _; first | (refine O_move (v := (.int _ (Nat.cast _))) rfl ?_) | (refine O_move (v := (.bool _)) rfl ?_) | (refine O_move (v := (.pointer _)) rfl ?_) | (refine O_move (v := (.slice _ _ _)) rfl ?_) | (refine O_move (v := (.agg _)) rfl ?_) | (refine O_move (v := (.tuple _)) rfl ?_) | (refine O_move (v := (.int _ _)) rfl ?_))
    | (guard_target =~ WO _ _ (Oper.mk _ (Op.call _) _ _ _ none) _ _ _ _; first | (refine O_len Samg.underlying31 rfl rfl ?_))
    | (guard_target =~ WO _ _ (Oper.mk _ (Op.binOp BinOp.add _ _ _ _) _ _ _ none) _ _ _ _; first | (refine O_add rfl rfl (by first | exact fit_i64 (by omega) | exact fit_u64 (by omega) | exact fit_u8 (by omega) | exact fit_i32 (by omega) | exact fit_u16 (by omega)) ?_)))
  refine O_append_by rfl rfl sl31 Samg.underlying31 rfl rfl (ha.ext hE1) (by omega) hn1 (by omega) rfl fun w2 hU2 => ?_
  have hE2 := hE1.upd hU2 go
  repeat (first
    | (refine L_cons ?_)
    | (refine R_cons rfl ?_)
    | (refine W_seq ?_)
    | (refine W_region (by kernel_rfl) ?_)
    | (refine L_nil ?_)
    | (refine R_nil ?_)
    | (refine W_block ?_)
    | (refine W_skip ?_)
    | (refine W_exit ?_)
    | (refine W_ret ?_)
    | (guard_target =~ thenQ _ _ _ _ _; first | (refine T_next ?_) | (refine T_exit ?_) | (refine T_ret ?_))
    | (guard_target =~ blockQ _ _ _ _ _; first | (refine B_next ?_) | (refine B_same ?_) | (refine B_other (by kernel_rfl) ?_) | (refine B_ret ?_))
    | (refine W_true rfl rfl ?_)
    | (refine W_false rfl rfl ?_)
    | (guard_target =~ WO _ _ (Oper.mk _ (Op.assign _) _ _ _ none) _ _ _ _; first | (refine O_assign (v := (.int _ (Nat.cast _))) rfl ?_) | (refine O_assign (v := (.bool _)) rfl ?_) | (refine O_assign (v := (.pointer _)) rfl ?_) | (refine O_assign (v := (.slice _ _ _)) rfl ?_) | (refine O_assign (v := (.agg _)) rfl ?_) | (refine O_assign (v := (.tuple _)) rfl ?_) | (refine O_assign (v := (.int _ _)) rfl ?_))
    | (guard_target =~ WO _ _ (Oper.mk _ (Op.move _) _ _ _ none) _ _ _ _; first | (refine O_move (v := (.int _ (Nat.cast _))) rfl ?_) | (refine O_move (v := (.bool _)) rfl ?_) | (refine O_move (v := (.pointer _)) rfl ?_) | (refine O_move (v := (.slice _ _ _)) rfl ?_) | (refine O_move (v := (.agg _)) rfl ?_) | (refine O_move (v := (.tuple _)) rfl ?_) | (refine O_move (v := (.int _ _)) rfl ?_))
    | (guard_target =~ WO _ _ (Oper.mk _ (Op.call _) _ _ _ none) _ _ _ _; first | (refine O_len Samg.underlying31 rfl rfl ?_))
    | (guard_target =~ WO _ _ (Oper.mk _ (Op.binOp BinOp.add _ _ _ _) _ _ _ none) _ _ _ _; first | (refine O_add rfl rfl (by first | exact fit_i64 (by omega) | exact fit_u64 (by omega) | exact fit_u8 (by omega) | exact fit_i32 (by omega) | exact fit_u16 (by omega)) ?_)))
  refine O_append_by rfl rfl sl31 Samg.underlying31 rfl rfl (hb.ext hE2) (by omega) hU2.here (by omega) rfl fun w3 hU3 => ?_
  have hE3 := hE2.upd hU3 go
  repeat (first
    | (refine L_cons ?_)
    | (refine R_cons rfl ?_)
    | (refine W_seq ?_)
    | (refine W_region (by kernel_rfl) ?_)
    | (refine L_nil ?_)
    | (refine R_nil ?_)
    | (refine W_block ?_)
    | (refine W_skip ?_)
    | (refine W_exit ?_)
    | (refine W_ret ?_)
    | (guard_target =~ thenQ _ _ _ _ _; first | (refine T_next ?_) | (refine T_exit ?_) | (refine T_ret ?_))
    | (guard_target =~ blockQ _ _ _ _ _; first | (refine B_next ?_) | (refine B_same ?_) | (refine B_other (by kernel_rfl) ?_) | (refine B_ret ?_))
    | (refine W_true rfl rfl ?_)
    | (refine W_false rfl rfl ?_)
    | (guard_target =~ WO _ _ (Oper.mk _ (Op.assign _) _ _ _ none) _ _ _ _; first | (refine O_assign (v := (.int _ (Nat.cast _))) rfl ?_) | (refine O_assign (v := (.bool _)) rfl ?_) | (refine O_assign (v := (.pointer _)) rfl ?_) | (refine O_assign (v := (.slice _ _ _)) rfl ?_) | (refine O_assign (v := (.agg _)) rfl ?_) | (refine O_assign (v := (.tuple _)) rfl ?_) | (refine O_assign (v := (.int _ _)) rfl ?_))
    | (guard_target =~ WO _ _ (Oper.mk _ (Op.move _) _ _ _ none) _ _ _ _; first | (refine O_move (v := (.int _ (Nat.cast _))) rfl ?_) | (refine O_move (v := (.bool _)) rfl ?_) | (refine O_move (v := (.pointer _)) rfl ?_) | (refine O_move (v := (.slice _ _ _)) rfl ?_) | (refine O_move (v := (.agg _)) rfl ?_) | (refine O_move (v := (.tuple _)) rfl ?_) | (refine O_move (v := (.int _ _)) rfl ?_))
    | (guard_target =~ WO _ _ (Oper.mk _ (Op.call _) _ _ _ none) _ _ _ _; first | (refine O_len Samg.underlying31 rfl rfl ?_))
    | (guard_target =~ WO _ _ (Oper.mk _ (Op.binOp BinOp.add _ _ _ _) _ _ _ none) _ _ _ _; first | (refine O_add rfl rfl (by first | exact fit_i64 (by omega) | exact fit_u64 (by omega) | exact fit_u8 (by omega) | exact fit_i32 (by omega) | exact fit_u16 (by omega)) ?_)))
  refine O_append_by rfl rfl sl31 Samg.underlying31 rfl rfl (hc.ext hE3) (by omega) hU3.here (by omega) rfl fun w4 hU4 => ?_
  have hE4 := hE3.upd hU4 go
  repeat (first
    | (refine L_cons ?_)
    | (refine R_cons rfl ?_)
    | (refine W_seq ?_)
    | (refine W_region (by kernel_rfl) ?_)
    | (refine L_nil ?_)
    | (refine R_nil ?_)
    | (refine W_block ?_)
    | (refine W_skip ?_)
    | (refine W_exit ?_)
    | (refine W_ret ?_)
    | (guard_target =~ thenQ _ _ _ _ _; first | (refine T_next ?_) | (refine T_exit ?_) | (refine T_ret ?_))
    | (guard_target =~ blockQ _ _ _ _ _; first | (refine B_next ?_) | (refine B_same ?_) | (refine B_other (by kernel_rfl) ?_) | (refine B_ret ?_))
    | (refine W_true rfl rfl ?_)
    | (refine W_false rfl rfl ?_)
    | (guard_target =~ WO _ _ (Oper.mk _ (Op.assign _) _ _ _ none) _ _ _ _; first | (refine O_assign (v := (.int _ (Nat.cast _))) rfl ?_) | (refine O_assign (v := (.bool _)) rfl ?_) | (refine O_assign (v := (.pointer _)) rfl ?_) | (refine O_assign (v := (.slice _ _ _)) rfl ?_) | (refine O_assign (v := (.agg _)) rfl ?_) | (refine O_assign (v := (.tuple _)) rfl ?_) | (refine O_assign (v := (.int _ _)) rfl ?_))
    | (guard_target =~ WO _ _ (Oper.mk _ (Op.move _) _ _ _ none) _ _ _ _; first | (refine O_move (v := (.int _ (Nat.cast _))) rfl ?_) | (refine O_move (v := (.bool _)) rfl ?_) | (refine O_move (v := (.pointer _)) rfl ?_) | (refine O_move (v := (.slice _ _ _)) rfl ?_) | (refine O_move (v := (.agg _)) rfl ?_) | (refine O_move (v := (.tuple _)) rfl ?_) | (refine O_move (v := (.int _ _)) rfl ?_))
    | (guard_target =~ WO _ _ (Oper.mk _ (Op.call _) _ _ _ none) _ _ _ _; first | (refine O_len Samg.underlying31 rfl rfl ?_))
    | (guard_target =~ WO _ _ (Oper.mk _ (Op.binOp BinOp.add _ _ _ _) _ _ _ none) _ _ _ _; first | (refine O_add rfl rfl (by first | exact fit_i64 (by omega) | exact fit_u64 (by omega) | exact fit_u8 (by omega) | exact fit_i32 (by omega) | exact fit_u16 (by omega)) ?_)))
  refine O_append_none rfl rfl sl31 Samg.underlying31 rfl rfl (by omega) ?_
  repeat (first
    | (refine L_cons ?_)
    | (refine R_cons rfl ?_)
    | (refine W_seq ?_)
    | (refine W_region (by kernel_rfl) ?_)
    | (refine L_nil ?_)
    | (refine R_nil ?_)
    | (refine W_block ?_)
    | (refine W_skip ?_)
    | (refine W_exit ?_)
    | (refine W_ret ?_)
    | (guard_target =~ thenQ _ _ _ _ _; first | (refine T_next ?_) | (refine T_exit ?_) | (refine T_ret ?_))
    | (guard_target =~ blockQ _ _ _ _ _; first | (refine B_next ?_) | (refine B_same ?_) | (refine B_other (by kernel_rfl) ?_) | (refine B_ret ?_))
    | (refine W_true rfl rfl ?_)
    | (refine W_false rfl rfl ?_)
    | (guard_target =~ WO _ _ (Oper.mk _ (Op.assign _) _ _ _ none) _ _ _ _; first | (refine O_assign (v := (.int _ (Nat.cast _))) rfl ?_) | (refine O_assign (v := (.bool _)) rfl ?_) | (refine O_assign (v := (.pointer _)) rfl ?_) | (refine O_assign (v := (.slice _ _ _)) rfl ?_) | (refine O_assign (v := (.agg _)) rfl ?_) | (refine O_assign (v := (.tuple _)) rfl ?_) | (refine O_assign (v := (.int _ _)) rfl ?_))
    | (guard_target =~ WO _ _ (Oper.mk _ (Op.move _) _ _ _ none) _ _ _ _; first | (refine O_move (v := (.int _ (Nat.cast _))) rfl ?_) | (refine O_move (v := (.bool _)) rfl ?_) | (refine O_move (v := (.pointer _)) rfl ?_) | (refine O_move (v := (.slice _ _ _)) rfl ?_) | (refine O_move (v := (.agg _)) rfl ?_) | (refine O_move (v := (.tuple _)) rfl ?_) | (refine O_move (v := (.int _ _)) rfl ?_))
    | (guard_target =~ WO _ _ (Oper.mk _ (Op.call _) _ _ _ none) _ _ _ _; first | (refine O_len Samg.underlying31 rfl rfl ?_))
    | (guard_target =~ WO _ _ (Oper.mk _ (Op.binOp BinOp.add _ _ _ _) _ _ _ none) _ _ _ _; first | (refine O_add rfl rfl (by first | exact fit_i64 (by omega) | exact fit_u64 (by omega) | exact fit_u8 (by omega) | exact fit_i32 (by omega) | exact fit_u16 (by omega)) ?_)))
  refine E_ret rfl rfl rfl ⟨hE4, ?_⟩
  have h5 := hU4.here
  rw [ns_congr (g := jn la lb lc ga gb gc fun _ => 0)] at h5
  · rw [Nat.zero_add]; exact BS.ns h5 (by omega)
  · intro j hj
    unfold jn
    by_cases h1 : j < la
    · rw [if_pos h1, if_neg (by omega), if_neg (by omega), if_pos (by omega), Nat.sub_zero]
    · rw [if_neg h1]
      by_cases h2 : j < la + lb
      · rw [if_pos h2, if_neg (by omega), if_pos (by omega), Nat.zero_add]
      · rw [if_neg h2, if_pos (by omega), if_pos (by omega), Nat.zero_add]

/-! ### freshHolds -/
theorem fresh_ok {g : Nat → Nat} {w : World} (hf : ∃ i, i < 19 ∧ g i ≠ 0) : Ret Samg.prog 10 #[.agg (ns .u8 20 g)] w fun v w' => v = .bool true ∧ Ext w w' := by
  obtain ⟨m, hm, hm0⟩ := hf
  refine W_enter (l := [.agg (ns .u8 20 g)]) Samg.func10 rfl Samg.ntmps10 rfl ?_
  repeat (first
    | (refine L_cons ?_)
    | (refine R_cons rfl ?_)
    | (refine W_seq ?_)
    | (refine W_region (by kernel_rfl) ?_)
    | (refine L_nil ?_)
    | (refine R_nil ?_)
    | (refine W_block ?_)
    | (refine W_skip ?_)
    | (refine W_exit ?_)
    | (refine W_ret ?_)
    | (guard_target =~ thenQ _ _ _ _ _; first | (refine T_next ?_) | (refine T_exit ?_) | (refine T_ret ?_))
    | (guard_target =~ blockQ _ _ _ _ _; first | (refine B_next ?_) | (refine B_same ?_) | (refine B_other (by kernel_rfl) ?_) | (refine B_ret ?_))
    | (refine W_true rfl rfl ?_)
    | (refine W_false rfl rfl ?_)
    | (guard_target =~ WO _ _ (Oper.mk _ (Op.assign _) _ _ _ none) _ _ _ _; first | (refine O_assign (v := (.int _ (Nat.cast _))) rfl ?_) | (refine O_assign (v := (.bool _)) rfl ?_) | (refine O_assign (v := (.pointer _)) rfl ?_) | (refine O_assign (v := (.slice _ _ _)) rfl ?_) | (refine O_assign (v := (.agg _)) rfl ?_) | (refine O_assign (v := (.tuple _)) rfl ?_) | (refine O_assign (v := (.int _ _)) rfl ?_))
    | (guard_target =~ WO _ _ (Oper.mk _ (Op.slice 24 _ none (some _) none) _ _ _ none) _ _ _ _; first | (refine O_slice_a (h := 19) ar24 rfl rfl ⟨_, rfl⟩ rfl (fun h => by cases h) (by omega) (by omega) (by omega) ?_))
    | (guard_target =~ WO _ _ (Oper.mk _ (Op.call _) _ _ _ none) _ _ _ _; first | (refine O_len Samg.underlying31 rfl rfl ?_))
    | (guard_target =~ WO _ _ (Oper.mk _ (Op.move _) _ _ _ none) _ _ _ _; first | (refine O_move (v := .int _ (Nat.cast (OfNat.ofNat 0))) rfl ?_) | (refine O_move (v := (.int _ (Nat.cast _))) rfl ?_) | (refine O_move (v := (.bool _)) rfl ?_) | (refine O_move (v := (.pointer _)) rfl ?_) | (refine O_move (v := (.slice _ _ _)) rfl ?_) | (refine O_move (v := (.agg _)) rfl ?_) | (refine O_move (v := (.tuple _)) rfl ?_) | (refine O_move (v := (.int _ _)) rfl ?_))
    | (guard_target =~ WO _ _ (Oper.mk _ (Op.binOp BinOp.lss _ _ _ _) _ _ _ none) _ _ _ _; first | (refine O_lss_t rfl rfl (by omega) ?_) | (refine O_lss_f rfl rfl (by omega) ?_) | (refine O_lss rfl rfl ?_))
    | (guard_target =~ WO _ _ (Oper.mk _ (Op.indexAddr 31 _ _) _ _ _ none) _ _ _ _; first | (refine O_index_s sl31 rfl rfl (by omega) ?_))
    | (guard_target =~ WO _ _ (Oper.mk _ (Op.binOp BinOp.neq _ _ _ _) _ _ _ none) _ _ _ _; first | (refine O_neq_t (b := 0) rfl rfl (by omega) ?_) | (refine O_neq_f (b := 0) rfl rfl (by omega) ?_) | (refine O_neq (b := 0) rfl rfl ?_))
    | (guard_target =~ WO _ _ (Oper.mk _ (Op.binOp BinOp.add _ _ _ _) _ _ _ none) _ _ _ _; first | (refine O_add (b := 1) rfl rfl (by first | exact fit_i64 (by omega) | exact fit_u64 (by omega) | exact fit_u8 (by omega) | exact fit_i32 (by omega) | exact fit_u16 (by omega)) ?_)))
  refine O_box rfl fun w1 hE1 hs1 hb1 => ?_
  replace hb1 : Blk w1 w.heap.size (ns .u8 20 g) 24 := hb1
  repeat (first
    | (refine L_cons ?_)
    | (refine R_cons rfl ?_)
    | (refine W_seq ?_)
    | (refine W_region (by kernel_rfl) ?_)
    | (refine L_nil ?_)
    | (refine R_nil ?_)
    | (refine W_block ?_)
    | (refine W_skip ?_)
    | (refine W_exit ?_)
    | (refine W_ret ?_)
    | (guard_target =~ thenQ _ _ _ _ _; first | (refine T_next ?_) | (refine T_exit ?_) | (refine T_ret ?_))
    | (guard_target =~ blockQ _ _ _ _ _; first | (refine B_next ?_) | (refine B_same ?_) | (refine B_other (by kernel_rfl) ?_) | (refine B_ret ?_))
    | (refine W_true rfl rfl ?_)
    | (refine W_false rfl rfl ?_)
    | (guard_target =~ WO _ _ (Oper.mk _ (Op.assign _) _ _ _ none) _ _ _ _; first | (refine O_assign (v := (.int _ (Nat.cast _))) rfl ?_) | (refine O_assign (v := (.bool _)) rfl ?_) | (refine O_assign (v := (.pointer _)) rfl ?_) | (refine O_assign (v := (.slice _ _ _)) rfl ?_) | (refine O_assign (v := (.agg _)) rfl ?_) | (refine O_assign (v := (.tuple _)) rfl ?_) | (refine O_assign (v := (.int _ _)) rfl ?_))
    | (guard_target =~ WO _ _ (Oper.mk _ (Op.slice 24 _ none (some _) none) _ _ _ none) _ _ _ _; first | (refine O_slice_a (h := 19) ar24 rfl rfl ⟨_, rfl⟩ rfl (fun h => by cases h) (by omega) (by omega) (by omega) ?_))
    | (guard_target =~ WO _ _ (Oper.mk _ (Op.call _) _ _ _ none) _ _ _ _; first | (refine O_len Samg.underlying31 rfl rfl ?_))
    | (guard_target =~ WO _ _ (Oper.mk _ (Op.move _) _ _ _ none) _ _ _ _; first | (refine O_move (v := .int _ (Nat.cast (OfNat.ofNat 0))) rfl ?_) | (refine O_move (v := (.int _ (Nat.cast _))) rfl ?_) | (refine O_move (v := (.bool _)) rfl ?_) | (refine O_move (v := (.pointer _)) rfl ?_) | (refine O_move (v := (.slice _ _ _)) rfl ?_) | (refine O_move (v := (.agg _)) rfl ?_) | (refine O_move (v := (.tuple _)) rfl ?_) | (refine O_move (v := (.int _ _)) rfl ?_))
    | (guard_target =~ WO _ _ (Oper.mk _ (Op.binOp BinOp.lss _ _ _ _) _ _ _ none) _ _ _ _; first | (refine O_lss_t rfl rfl (by omega) ?_) | (refine O_lss_f rfl rfl (by omega) ?_) | (refine O_lss rfl rfl ?_))
    | (guard_target =~ WO _ _ (Oper.mk _ (Op.indexAddr 31 _ _) _ _ _ none) _ _ _ _; first | (refine O_index_s sl31 rfl rfl (by omega) ?_))
    | (guard_target =~ WO _ _ (Oper.mk _ (Op.binOp BinOp.neq _ _ _ _) _ _ _ none) _ _ _ _; first | (refine O_neq_t (b := 0) rfl rfl (by omega) ?_) | (refine O_neq_f (b := 0) rfl rfl (by omega) ?_) | (refine O_neq (b := 0) rfl rfl ?_))
    | (guard_target =~ WO _ _ (Oper.mk _ (Op.binOp BinOp.add _ _ _ _) _ _ _ none) _ _ _ _; first | (refine O_add (b := 1) rfl rfl (by first | exact fit_i64 (by omega) | exact fit_u64 (by omega) | exact fit_u8 (by omega) | exact fit_i32 (by omega) | exact fit_u16 (by omega)) ?_)))
  rw [if_neg (show ¬ 20 = 0 by omega)]
  refine W_loop (fun k ρ w' => ∃ i, k = m - i ∧ i ≤ m ∧ Has ρ [(5, .slice (some ⟨w.heap.size, 0 + 0 * 1, none⟩) (19 - 0) (20 - 0)), (6, .int .i64 ((19 - 0 : Nat) : Int)), (7, .int .i64 (i : Nat))] ∧ w' = w1) m ?_ ?_
  · exact ⟨0, by omega, by omega, Has.mk ⟨rfl, rfl, rfl, trivial⟩, rfl⟩
  rintro k _ _ ⟨i, rfl, hi, ⟨σ, rfl⟩, rfl⟩
  by_cases hz : g (0 + 0 * 1 + i * 1) = 0
  · have hne : i ≠ m := fun h => hm0 (by rw [← h]; rw [show 0 + 0 * 1 + i * 1 = i by omega] at hz; exact hz)
    repeat (first
      | (refine L_cons ?_)
      | (refine R_cons rfl ?_)
      | (refine W_seq ?_)
      | (refine W_region (by kernel_rfl) ?_)
      | (refine L_nil ?_)
      | (refine R_nil ?_)
      | (refine W_block ?_)
      | (refine W_skip ?_)
      | (refine W_exit ?_)
      | (refine W_ret ?_)
      | (guard_target =~ thenQ _ _ _ _ _; first | (refine T_next ?_) | (refine T_exit ?_) | (refine T_ret ?_))
      | (guard_target =~ blockQ _ _ _ _ _; first | (refine B_next ?_) | (refine B_same ?_) | (refine B_other (by kernel_rfl) ?_) | (refine B_ret ?_))
      | (refine W_true rfl rfl ?_)
      | (refine W_false rfl rfl ?_)
      | (guard_target =~ WO _ _ (Oper.mk _ (Op.load 5 _) _ _ _ none) _ _ _ _; first | (refine O_load_ns on5 rfl hb1 (by omega) ?_))
      | (guard_target =~ WO _ _ (Oper.mk _ (Op.assign _) _ _ _ none) _ _ _ _; first | (refine O_assign (v := (.int _ (Nat.cast _))) rfl ?_) | (refine O_assign (v := (.bool _)) rfl ?_) | (refine O_assign (v := (.pointer _)) rfl ?_) | (refine O_assign (v := (.slice _ _ _)) rfl ?_) | (refine O_assign (v := (.agg _)) rfl ?_) | (refine O_assign (v := (.tuple _)) rfl ?_) | (refine O_assign (v := (.int _ _)) rfl ?_))
      | (guard_target =~ WO _ _ (Oper.mk _ (Op.slice 24 _ none (some _) none) _ _ _ none) _ _ _ _; first | (refine O_slice_a (h := 19) ar24 rfl rfl ⟨_, rfl⟩ rfl (fun h => by cases h) (by omega) (by omega) (by omega) ?_))
      | (guard_target =~ WO _ _ (Oper.mk _ (Op.call _) _ _ _ none) _ _ _ _; first | (refine O_len Samg.underlying31 rfl rfl ?_))
      | (guard_target =~ WO _ _ (Oper.mk _ (Op.move _) _ _ _ none) _ _ _ _; first | (refine O_move (v := .int _ (Nat.cast (OfNat.ofNat 0))) rfl ?_) | (refine O_move (v := (.int _ (Nat.cast _))) rfl ?_) | (refine O_move (v := (.bool _)) rfl ?_) | (refine O_move (v := (.pointer _)) rfl ?_) | (refine O_move (v := (.slice _ _ _)) rfl ?_) | (refine O_move (v := (.agg _)) rfl ?_) | (refine O_move (v := (.tuple _)) rfl ?_) | (refine O_move (v := (.int _ _)) rfl ?_))
      | (guard_target =~ WO _ _ (Oper.mk _ (Op.binOp BinOp.lss _ _ _ _) _ _ _ none) _ _ _ _; first | (refine O_lss_t rfl rfl (by omega) ?_) | (refine O_lss_f rfl rfl (by omega) ?_) | (refine O_lss rfl rfl ?_))
      | (guard_target =~ WO _ _ (Oper.mk _ (Op.indexAddr 31 _ _) _ _ _ none) _ _ _ _; first | (refine O_index_s sl31 rfl rfl (by omega) ?_))
      | (guard_target =~ WO _ _ (Oper.mk _ (Op.binOp BinOp.neq _ _ _ _) _ _ _ none) _ _ _ _; first | (refine O_neq_t (b := 0) rfl rfl (by omega) ?_) | (refine O_neq_f (b := 0) rfl rfl (by omega) ?_) | (refine O_neq (b := 0) rfl rfl ?_))
      | (guard_target =~ WO _ _ (Oper.mk _ (Op.binOp BinOp.add _ _ _ _) _ _ _ none) _ _ _ _; first | (refine O_add (b := 1) rfl rfl (by first | exact fit_i64 (by omega) | exact fit_u64 (by omega) | exact fit_u8 (by omega) | exact fit_i32 (by omega) | exact fit_u16 (by omega)) ?_)))
    exact ⟨m - (i + 1), by omega, i + 1, rfl, by omega, Has.mk ⟨rfl, rfl, rfl, trivial⟩, rfl⟩
  · repeat (first
      | (refine L_cons ?_)
      | (refine R_cons rfl ?_)
      | (refine W_seq ?_)
      | (refine W_region (by kernel_rfl) ?_)
      | (refine L_nil ?_)
      | (refine R_nil ?_)
      | (refine W_block ?_)
      | (refine W_skip ?_)
      | (refine W_exit ?_)
      | (refine W_ret ?_)
      | (guard_target =~ thenQ _ _ _ _ _; first | (refine T_next ?_) | (refine T_exit ?_) | (refine T_ret ?_))
      | (guard_target =~ blockQ _ _ _ _ _; first | (refine B_next ?_) | (refine B_same ?_) | (refine B_other (by kernel_rfl) ?_) | (refine B_ret ?_))
      | (refine W_true rfl rfl ?_)
      | (refine W_false rfl rfl ?_)
      | (guard_target =~ WO _ _ (Oper.mk _ (Op.load 5 _) _ _ _ none) _ _ _ _; first | (refine O_load_ns on5 rfl hb1 (by omega) ?_))
      | (guard_target =~ WO _ _ (Oper.mk _ (Op.assign _) _ _ _ none) _ _ _ _; first | (refine O_assign (v := (.int _ (Nat.cast _))) rfl ?_) | (refine O_assign (v := (.bool _)) rfl ?_) | (refine O_assign (v := (.pointer _)) rfl ?_) | (refine O_assign (v := (.slice _ _ _)) rfl ?_) | (refine O_assign (v := (.agg _)) rfl ?_) | (refine O_assign (v := (.tuple _)) rfl ?_) | (refine O_assign (v := (.int _ _)) rfl ?_))
      | (guard_target =~ WO _ _ (Oper.mk _ (Op.slice 24 _ none (some _) none) _ _ _ none) _ _ _ _; first | (refine O_slice_a (h := 19) ar24 rfl rfl ⟨_, rfl⟩ rfl (fun h => by cases h) (by omega) (by omega) (by omega) ?_))
      | (guard_target =~ WO _ _ (Oper.mk _ (Op.call _) _ _ _ none) _ _ _ _; first | (refine O_len Samg.underlying31 rfl rfl ?_))
      | (guard_target =~ WO _ _ (Oper.mk _ (Op.move _) _ _ _ none) _ _ _ _; first | (refine O_move (v := .int _ (Nat.cast (OfNat.ofNat 0))) rfl ?_) | (refine O_move (v := (.int _ (Nat.cast _))) rfl ?_) | (refine O_move (v := (.bool _)) rfl ?_) | (refine O_move (v := (.pointer _)) rfl ?_) | (refine O_move (v := (.slice _ _ _)) rfl ?_) | (refine O_move (v := (.agg _)) rfl ?_) | (refine O_move (v := (.tuple _)) rfl ?_) | (refine O_move (v := (.int _ _)) rfl ?_))
      | (guard_target =~ WO _ _ (Oper.mk _ (Op.binOp BinOp.lss _ _ _ _) _ _ _ none) _ _ _ _; first | (refine O_lss_t rfl rfl (by omega) ?_) | (refine O_lss_f rfl rfl (by omega) ?_) | (refine O_lss rfl rfl ?_))
      | (guard_target =~ WO _ _ (Oper.mk _ (Op.indexAddr 31 _ _) _ _ _ none) _ _ _ _; first | (refine O_index_s sl31 rfl rfl (by omega) ?_))
      | (guard_target =~ WO _ _ (Oper.mk _ (Op.binOp BinOp.neq _ _ _ _) _ _ _ none) _ _ _ _; first | (refine O_neq_t (b := 0) rfl rfl (by omega) ?_) | (refine O_neq_f (b := 0) rfl rfl (by omega) ?_) | (refine O_neq (b := 0) rfl rfl ?_))
      | (guard_target =~ WO _ _ (Oper.mk _ (Op.binOp BinOp.add _ _ _ _) _ _ _ none) _ _ _ _; first | (refine O_add (b := 1) rfl rfl (by first | exact fit_i64 (by omega) | exact fit_u64 (by omega) | exact fit_u8 (by omega) | exact fit_i32 (by omega) | exact fit_u16 (by omega)) ?_)))
    exact E_ret rfl rfl rfl ⟨rfl, hE1⟩
end Go.Proofs.Ygcsam
