/-
  NUMBERS AS LISTS OF BYTES: Norm, clip, Cmp. Own work.
-/
import Derived.Test.YgcsamM1
namespace Go.Proofs.Ygcsam
set_option linter.unusedVariables false
set_option maxHeartbeats 1000000

/-- A write to a block that is new. -/
theorem Ext.new {w w1 w2 : World} {b : Nat} {c : Array Value} {t : TypeId} (h : Ext w w1) (u : Upd w1 w2 b c t) (hb : w.heap.size ≤ b) : Ext w w2 :=
  ((h.mod []).trans' u.mod (fun x hx => by simp only [List.mem_singleton] at hx; subst hx; exact .inr hb)).ext

/-- The value v is nil, or a row of its own of the k digits g. -/
def Own (w w' : World) (v : Value) (k : Nat) (g : Nat → Nat) : Prop :=
  (∀ i, i < k → g i < 256) ∧ ((v = .slice none 0 0 ∧ k = 0) ∨ ∃ b, w.heap.size ≤ b ∧ v = .slice (some ⟨b, 0, none⟩) k k ∧ Blk w' b (ns .u8 k g) 5)
theorem Own.nat {w w' : World} {v : Value} {k : Nat} {g : Nat → Nat} (h : Own w w' v k g) : NatV w' v (val 256 g k) k := by
  obtain ⟨h1, ⟨rfl, rfl⟩ | ⟨b, h2, rfl, h3⟩⟩ := h
  · exact NatV.nil _ _
  · exact NatV.ofBlk h3 h1 rfl

theorem norm_ok {w : World} {v : Value} {x L : Nat} (h : NatV w v x L) (hL : L ≤ 281474976710656) :
    Ret Samg.prog 100 #[v] w fun v' w' => Ext w w' ∧ ∃ k g, Own w w' v' k g ∧ val 256 g k = x ∧ k ≤ L := by
  obtain ⟨a, len, cap, g, rfl, hD, hx, hlen⟩ := h
  refine W_enter (l := [.slice a len cap]) Samg.func100 rfl Samg.ntmps100 rfl ?_
  repeat (first
    | (refine L_cons ?_)
    | (refine R_cons rfl ?_)
    | (refine W_seq ?_)
    | (refine W_region (by kernel_rfl) ?_)
    | (refine L_nil ?_)
    | (refine R_nil ?_)
    | (refine W_block ?_)
    | (refine W_skip ?_)
    | (refine W_exit ?_)
    | (refine W_ret ?_)
    | (guard_target =~ thenQ _ _ _ _ _; first | (refine T_next ?_) | (refine T_exit ?_) | (refine T_ret ?_))
    | (guard_target =~ blockQ _ _ _ _ _; first | (refine B_next ?_) | (refine B_same ?_) | (refine B_other (by kernel_rfl) ?_) | (refine B_ret ?_))
    | (refine W_true rfl rfl ?_)
    | (refine W_false rfl rfl ?_)
    | (guard_target =~ WO _ _ (Oper.mk _ (Op.assign _) _ _ _ none) _ _ _ _; first | (refine O_assign (v := .slice _ _ _) rfl ?_) | (refine O_assign (v := (.int _ (Nat.cast _))) rfl ?_) | (refine O_assign (v := (.bool _)) rfl ?_) | (refine O_assign (v := (.pointer _)) rfl ?_) | (refine O_assign (v := (.slice _ _ _)) rfl ?_) | (refine O_assign (v := (.agg _)) rfl ?_) | (refine O_assign (v := (.tuple _)) rfl ?_) | (refine O_assign (v := (.int _ _)) rfl ?_))
    | (guard_target =~ WO _ _ (Oper.mk _ (Op.move _) _ _ _ none) _ _ _ _; first | (refine O_move (v := (.int _ (Nat.cast _))) rfl ?_) | (refine O_move (v := (.bool _)) rfl ?_) | (refine O_move (v := (.pointer _)) rfl ?_) | (refine O_move (v := (.slice _ _ _)) rfl ?_) | (refine O_move (v := (.agg _)) rfl ?_) | (refine O_move (v := (.tuple _)) rfl ?_) | (refine O_move (v := (.int _ _)) rfl ?_))
    | (guard_target =~ WO _ _ (Oper.mk _ (Op.call _) _ _ _ none) _ _ _ _; first | (refine O_len Samg.underlying134 rfl rfl ?_))
    | (guard_target =~ WO _ _ (Oper.mk _ (Op.binOp BinOp.eql _ _ _ _) _ _ _ none) _ _ _ _; first | (refine O_eql_t (b := 0) rfl rfl (by omega) ?_) | (refine O_eql_f (b := 0) rfl rfl (by omega) ?_) | (refine O_eql (b := 0) rfl rfl ?_)))
  refine O_call (l := [.slice a len cap]) cl101 (by rfl) ((trim_ok hD (by omega)).mono ?_)
  rintro v w1 ⟨rfl, k, rfl, hk, hD', hv, ht⟩
  refine ⟨nof, ?_⟩
  by_cases h0 : k = 0
  · subst h0
    repeat (first
      | (refine L_cons ?_)
      | (refine R_cons rfl ?_)
      | (refine W_seq ?_)
      | (refine W_region (by kernel_rfl) ?_)
      | (refine L_nil ?_)
      | (refine R_nil ?_)
      | (refine W_block ?_)
      | (refine W_skip ?_)
      | (refine W_exit ?_)
      | (refine W_ret ?_)
      | (guard_target =~ thenQ _ _ _ _ _; first | (refine T_next ?_) | (refine T_exit ?_) | (refine T_ret ?_))
      | (guard_target =~ blockQ _ _ _ _ _; first | (refine B_next ?_) | (refine B_same ?_) | (refine B_other (by kernel_rfl) ?_) | (refine B_ret ?_))
      | (refine W_true rfl rfl ?_)
      | (refine W_false rfl rfl ?_)
      | (guard_target =~ WO _ _ (Oper.mk _ (Op.assign _) _ _ _ none) _ _ _ _; first | (refine O_assign (v := (.int _ (Nat.cast _))) rfl ?_) | (refine O_assign (v := (.bool _)) rfl ?_) | (refine O_assign (v := (.pointer _)) rfl ?_) | (refine O_assign (v := (.slice _ _ _)) rfl ?_) | (refine O_assign (v := (.agg _)) rfl ?_) | (refine O_assign (v := (.tuple _)) rfl ?_) | (refine O_assign (v := (.int _ _)) rfl ?_))
      | (guard_target =~ WO _ _ (Oper.mk _ (Op.move _) _ _ _ none) _ _ _ _; first | (refine O_move (v := (.int _ (Nat.cast _))) rfl ?_) | (refine O_move (v := (.bool _)) rfl ?_) | (refine O_move (v := (.pointer _)) rfl ?_) | (refine O_move (v := (.slice _ _ _)) rfl ?_) | (refine O_move (v := (.agg _)) rfl ?_) | (refine O_move (v := (.tuple _)) rfl ?_) | (refine O_move (v := (.int _ _)) rfl ?_))
      | (guard_target =~ WO _ _ (Oper.mk _ (Op.call _) _ _ _ none) _ _ _ _; first | (refine O_len Samg.underlying134 rfl rfl ?_))
      | (guard_target =~ WO _ _ (Oper.mk _ (Op.binOp BinOp.eql _ _ _ _) _ _ _ none) _ _ _ _; first | (refine O_eql_t (b := 0) rfl rfl (by omega) ?_) | (refine O_eql_f (b := 0) rfl rfl (by omega) ?_) | (refine O_eql (b := 0) rfl rfl ?_)))
    exact E_ret (v := .slice none 0 0) rfl rfl rfl ⟨Ext.refl _, 0, g, ⟨fun i hi => by omega, .inl ⟨rfl, rfl⟩⟩, by rw [hv, hx], Nat.zero_le _⟩
  · repeat (first
      | (refine L_cons ?_)
      | (refine R_cons rfl ?_)
      | (refine W_seq ?_)
      | (refine W_region (by kernel_rfl) ?_)
      | (refine L_nil ?_)
      | (refine R_nil ?_)
      | (refine W_block ?_)
      | (refine W_skip ?_)
      | (refine W_exit ?_)
      | (refine W_ret ?_)
      | (guard_target =~ thenQ _ _ _ _ _; first | (refine T_next ?_) | (refine T_exit ?_) | (refine T_ret ?_))
      | (guard_target =~ blockQ _ _ _ _ _; first | (refine B_next ?_) | (refine B_same ?_) | (refine B_other (by kernel_rfl) ?_) | (refine B_ret ?_))
      | (refine W_true rfl rfl ?_)
      | (refine W_false rfl rfl ?_)
      | (guard_target =~ WO _ _ (Oper.mk _ (Op.assign _) _ _ _ none) _ _ _ _; first | (refine O_assign (v := (.int _ (Nat.cast _))) rfl ?_) | (refine O_assign (v := (.bool _)) rfl ?_) | (refine O_assign (v := (.pointer _)) rfl ?_) | (refine O_assign (v := (.slice _ _ _)) rfl ?_) | (refine O_assign (v := (.agg _)) rfl ?_) | (refine O_assign (v := (.tuple _)) rfl ?_) | (refine O_assign (v := (.int _ _)) rfl ?_))
      | (guard_target =~ WO _ _ (Oper.mk _ (Op.move _) _ _ _ none) _ _ _ _; first | (refine O_move (v := (.int _ (Nat.cast _))) rfl ?_) | (refine O_move (v := (.bool _)) rfl ?_) | (refine O_move (v := (.pointer _)) rfl ?_) | (refine O_move (v := (.slice _ _ _)) rfl ?_) | (refine O_move (v := (.agg _)) rfl ?_) | (refine O_move (v := (.tuple _)) rfl ?_) | (refine O_move (v := (.int _ _)) rfl ?_))
      | (guard_target =~ WO _ _ (Oper.mk _ (Op.call _) _ _ _ none) _ _ _ _; first | (refine O_len Samg.underlying134 rfl rfl ?_))
      | (guard_target =~ WO _ _ (Oper.mk _ (Op.binOp BinOp.eql _ _ _ _) _ _ _ none) _ _ _ _; first | (refine O_eql_t (b := 0) rfl rfl (by omega) ?_) | (refine O_eql_f (b := 0) rfl rfl (by omega) ?_) | (refine O_eql (b := 0) rfl rfl ?_)))
    refine O_makeB sl134 by5 z5 rfl rfl (by omega) fun w2 hE hs hB => ?_
    repeat (first
      | (refine L_cons ?_)
      | (refine R_cons rfl ?_)
      | (refine W_seq ?_)
      | (refine W_region (by kernel_rfl) ?_)
      | (refine L_nil ?_)
      | (refine R_nil ?_)
      | (refine W_block ?_)
      | (refine W_skip ?_)
      | (refine W_exit ?_)
      | (refine W_ret ?_)
      | (guard_target =~ thenQ _ _ _ _ _; first | (refine T_next ?_) | (refine T_exit ?_) | (refine T_ret ?_))
      | (guard_target =~ blockQ _ _ _ _ _; first | (refine B_next ?_) | (refine B_same ?_) | (refine B_other (by kernel_rfl) ?_) | (refine B_ret ?_))
      | (refine W_true rfl rfl ?_)
      | (refine W_false rfl rfl ?_)
      | (guard_target =~ WO _ _ (Oper.mk _ (Op.assign _) _ _ _ none) _ _ _ _; first | (refine O_assign (v := (.int _ (Nat.cast _))) rfl ?_) | (refine O_assign (v := (.bool _)) rfl ?_) | (refine O_assign (v := (.pointer _)) rfl ?_) | (refine O_assign (v := (.slice _ _ _)) rfl ?_) | (refine O_assign (v := (.agg _)) rfl ?_) | (refine O_assign (v := (.tuple _)) rfl ?_) | (refine O_assign (v := (.int _ _)) rfl ?_))
      | (guard_target =~ WO _ _ (Oper.mk _ (Op.move _) _ _ _ none) _ _ _ _; first | (refine O_move (v := (.int _ (Nat.cast _))) rfl ?_) | (refine O_move (v := (.bool _)) rfl ?_) | (refine O_move (v := (.pointer _)) rfl ?_) | (refine O_move (v := (.slice _ _ _)) rfl ?_) | (refine O_move (v := (.agg _)) rfl ?_) | (refine O_move (v := (.tuple _)) rfl ?_) | (refine O_move (v := (.int _ _)) rfl ?_))
      | (guard_target =~ WO _ _ (Oper.mk _ (Op.call _) _ _ _ none) _ _ _ _; first | (refine O_len Samg.underlying134 rfl rfl ?_))
      | (guard_target =~ WO _ _ (Oper.mk _ (Op.binOp BinOp.eql _ _ _ _) _ _ _ none) _ _ _ _; first | (refine O_eql_t (b := 0) rfl rfl (by omega) ?_) | (refine O_eql_f (b := 0) rfl rfl (by omega) ?_) | (refine O_eql (b := 0) rfl rfl ?_)))
    obtain ⟨b, o, c, t, rfl, hS, hsz, hg⟩ := hD'.at (i := 0) (by omega)
    have hce : c.extract o (o + k * 1) = ns .u8 k g := by rw [Nat.mul_one]; exact BS.cells hsz hg
    refine O_copy (m := k) rfl sl134 rfl rfl (by simp) (hS.ext hE) (by omega) hB (by rw [ns_size]; omega) (by rw [hce]; exact ns_one) rfl fun w3 hU => ?_
    rw [hce, ns_spl (by omega)] at hU
    have hU' := hU.eq (c' := ns .u8 k g) (ns_congr fun i hi => by rw [if_pos (by omega), Nat.sub_zero])
    repeat (first
      | (refine L_cons ?_)
      | (refine R_cons rfl ?_)
      | (refine W_seq ?_)
      | (refine W_region (by kernel_rfl) ?_)
      | (refine L_nil ?_)
      | (refine R_nil ?_)
      | (refine W_block ?_)
      | (refine W_skip ?_)
      | (refine W_exit ?_)
      | (refine W_ret ?_)
      | (guard_target =~ thenQ _ _ _ _ _; first | (refine T_next ?_) | (refine T_exit ?_) | (refine T_ret ?_))
      | (guard_target =~ blockQ _ _ _ _ _; first | (refine B_next ?_) | (refine B_same ?_) | (refine B_other (by kernel_rfl) ?_) | (refine B_ret ?_))
      | (refine W_true rfl rfl ?_)
      | (refine W_false rfl rfl ?_)
      | (guard_target =~ WO _ _ (Oper.mk _ (Op.assign _) _ _ _ none) _ _ _ _; first | (refine O_assign (v := (.int _ (Nat.cast _))) rfl ?_) | (refine O_assign (v := (.bool _)) rfl ?_) | (refine O_assign (v := (.pointer _)) rfl ?_) | (refine O_assign (v := (.slice _ _ _)) rfl ?_) | (refine O_assign (v := (.agg _)) rfl ?_) | (refine O_assign (v := (.tuple _)) rfl ?_) | (refine O_assign (v := (.int _ _)) rfl ?_))
      | (guard_target =~ WO _ _ (Oper.mk _ (Op.move _) _ _ _ none) _ _ _ _; first | (refine O_move (v := (.int _ (Nat.cast _))) rfl ?_) | (refine O_move (v := (.bool _)) rfl ?_) | (refine O_move (v := (.pointer _)) rfl ?_) | (refine O_move (v := (.slice _ _ _)) rfl ?_) | (refine O_move (v := (.agg _)) rfl ?_) | (refine O_move (v := (.tuple _)) rfl ?_) | (refine O_move (v := (.int _ _)) rfl ?_))
      | (guard_target =~ WO _ _ (Oper.mk _ (Op.call _) _ _ _ none) _ _ _ _; first | (refine O_len Samg.underlying134 rfl rfl ?_))
      | (guard_target =~ WO _ _ (Oper.mk _ (Op.binOp BinOp.eql _ _ _ _) _ _ _ none) _ _ _ _; first | (refine O_eql_t (b := 0) rfl rfl (by omega) ?_) | (refine O_eql_f (b := 0) rfl rfl (by omega) ?_) | (refine O_eql (b := 0) rfl rfl ?_)))
    refine E_ret rfl rfl rfl ⟨hE.new hU' (Nat.le_refl _), k, g, ⟨fun i hi => hD'.2.1 i hi, .inr ⟨_, Nat.le_refl _, rfl, hU'.here⟩⟩, by rw [hv, hx], by omega⟩

theorem clip_ok {w : World} {v : Value} {x L : Nat} (h : NatV w v x L) (hL : L ≤ 281474976710656) :
    Ret Samg.prog 126 #[v] w fun v' w' => w' = w ∧ NatV w v' x L := by
  obtain ⟨a, len, cap, g, rfl, hD, hx, hlen⟩ := h
  refine W_enter (l := [.slice a len cap]) Samg.func126 rfl Samg.ntmps126 rfl ?_
  repeat (first
    | (refine L_cons ?_)
    | (refine R_cons rfl ?_)
    | (refine W_seq ?_)
    | (refine W_region (by kernel_rfl) ?_)
    | (refine L_nil ?_)
    | (refine R_nil ?_)
    | (refine W_block ?_)
    | (refine W_skip ?_)
    | (refine W_exit ?_)
    | (refine W_ret ?_)
    | (guard_target =~ thenQ _ _ _ _ _; first | (refine T_next ?_) | (refine T_exit ?_) | (refine T_ret ?_))
    | (guard_target =~ blockQ _ _ _ _ _; first | (refine B_next ?_) | (refine B_same ?_) | (refine B_other (by kernel_rfl) ?_) | (refine B_ret ?_))
    | (refine W_true rfl rfl ?_)
    | (refine W_false rfl rfl ?_)
    | (guard_target =~ WO _ _ (Oper.mk _ (Op.assign _) _ _ _ none) _ _ _ _; first | (refine O_assign (v := .slice _ _ _) rfl ?_) | (refine O_assign (v := (.int _ (Nat.cast _))) rfl ?_) | (refine O_assign (v := (.bool _)) rfl ?_) | (refine O_assign (v := (.pointer _)) rfl ?_) | (refine O_assign (v := (.slice _ _ _)) rfl ?_) | (refine O_assign (v := (.agg _)) rfl ?_) | (refine O_assign (v := (.tuple _)) rfl ?_) | (refine O_assign (v := (.int _ _)) rfl ?_))
    | (guard_target =~ WO _ _ (Oper.mk _ (Op.move _) _ _ _ none) _ _ _ _; first | (refine O_move (v := (.int _ (Nat.cast _))) rfl ?_) | (refine O_move (v := (.bool _)) rfl ?_) | (refine O_move (v := (.pointer _)) rfl ?_) | (refine O_move (v := (.slice _ _ _)) rfl ?_) | (refine O_move (v := (.agg _)) rfl ?_) | (refine O_move (v := (.tuple _)) rfl ?_) | (refine O_move (v := (.int _ _)) rfl ?_))
    | (guard_target =~ WO _ _ (Oper.mk _ (Op.call _) _ _ _ none) _ _ _ _; first | (refine O_len Samg.underlying134 rfl rfl ?_))
    | (guard_target =~ WO _ _ (Oper.mk _ (Op.binOp BinOp.eql _ _ _ _) _ _ _ none) _ _ _ _; first | (refine O_eql_t (b := 0) rfl rfl (by omega) ?_) | (refine O_eql_f (b := 0) rfl rfl (by omega) ?_) | (refine O_eql (b := 0) rfl rfl ?_))
    | (guard_target =~ WO _ _ (Oper.mk _ (Op.slice 134 _ none (some _) (some _)) _ _ _ none) _ _ _ _; first | (refine O_slice_s sl134 rfl rfl ⟨_, rfl⟩ ⟨_, rfl⟩ (fun _ => rfl) (by omega) (by omega) (by omega) ?_)))
  refine O_call (l := [.slice a len cap]) cl101 (by rfl) ((trim_ok hD (by omega)).mono ?_)
  rintro v w1 ⟨rfl, k, rfl, hk, hD', hv, ht⟩
  refine ⟨nof, ?_⟩
  by_cases h0 : k = 0
  · subst h0
    repeat (first
      | (refine L_cons ?_)
      | (refine R_cons rfl ?_)
      | (refine W_seq ?_)
      | (refine W_region (by kernel_rfl) ?_)
      | (refine L_nil ?_)
      | (refine R_nil ?_)
      | (refine W_block ?_)
      | (refine W_skip ?_)
      | (refine W_exit ?_)
      | (refine W_ret ?_)
      | (guard_target =~ thenQ _ _ _ _ _; first | (refine T_next ?_) | (refine T_exit ?_) | (refine T_ret ?_))
      | (guard_target =~ blockQ _ _ _ _ _; first | (refine B_next ?_) | (refine B_same ?_) | (refine B_other (by kernel_rfl) ?_) | (refine B_ret ?_))
      | (refine W_true rfl rfl ?_)
      | (refine W_false rfl rfl ?_)
      | (guard_target =~ WO _ _ (Oper.mk _ (Op.assign _) _ _ _ none) _ _ _ _; first | (refine O_assign (v := (.int _ (Nat.cast _))) rfl ?_) | (refine O_assign (v := (.bool _)) rfl ?_) | (refine O_assign (v := (.pointer _)) rfl ?_) | (refine O_assign (v := (.slice _ _ _)) rfl ?_) | (refine O_assign (v := (.agg _)) rfl ?_) | (refine O_assign (v := (.tuple _)) rfl ?_) | (refine O_assign (v := (.int _ _)) rfl ?_))
      | (guard_target =~ WO _ _ (Oper.mk _ (Op.move _) _ _ _ none) _ _ _ _; first | (refine O_move (v := (.int _ (Nat.cast _))) rfl ?_) | (refine O_move (v := (.bool _)) rfl ?_) | (refine O_move (v := (.pointer _)) rfl ?_) | (refine O_move (v := (.slice _ _ _)) rfl ?_) | (refine O_move (v := (.agg _)) rfl ?_) | (refine O_move (v := (.tuple _)) rfl ?_) | (refine O_move (v := (.int _ _)) rfl ?_))
      | (guard_target =~ WO _ _ (Oper.mk _ (Op.call _) _ _ _ none) _ _ _ _; first | (refine O_len Samg.underlying134 rfl rfl ?_))
      | (guard_target =~ WO _ _ (Oper.mk _ (Op.binOp BinOp.eql _ _ _ _) _ _ _ none) _ _ _ _; first | (refine O_eql_t (b := 0) rfl rfl (by omega) ?_) | (refine O_eql_f (b := 0) rfl rfl (by omega) ?_) | (refine O_eql (b := 0) rfl rfl ?_))
      | (guard_target =~ WO _ _ (Oper.mk _ (Op.slice 134 _ none (some _) (some _)) _ _ _ none) _ _ _ _; first | (refine O_slice_s sl134 rfl rfl ⟨_, rfl⟩ ⟨_, rfl⟩ (fun _ => rfl) (by omega) (by omega) (by omega) ?_)))
    refine E_ret (v := .slice none 0 0) rfl rfl rfl ⟨rfl, ?_⟩
    have : x = 0 := by rw [← hx, ← hv]; rfl
    rw [this]
    exact NatV.nil _ _
  · repeat (first
      | (refine L_cons ?_)
      | (refine R_cons rfl ?_)
      | (refine W_seq ?_)
      | (refine W_region (by kernel_rfl) ?_)
      | (refine L_nil ?_)
      | (refine R_nil ?_)
      | (refine W_block ?_)
      | (refine W_skip ?_)
      | (refine W_exit ?_)
      | (refine W_ret ?_)
      | (guard_target =~ thenQ _ _ _ _ _; first | (refine T_next ?_) | (refine T_exit ?_) | (refine T_ret ?_))
      | (guard_target =~ blockQ _ _ _ _ _; first | (refine B_next ?_) | (refine B_same ?_) | (refine B_other (by kernel_rfl) ?_) | (refine B_ret ?_))
      | (refine W_true rfl rfl ?_)
      | (refine W_false rfl rfl ?_)
      | (guard_target =~ WO _ _ (Oper.mk _ (Op.slice _ _ _ _ _) _ _ _ none) _ _ _ _; first | (refine O_slice_k sl134 rfl rfl rfl (by omega) hD'.nil0 ?_))
      | (guard_target =~ WO _ _ (Oper.mk _ (Op.assign _) _ _ _ none) _ _ _ _; first | (refine O_assign (v := (.int _ (Nat.cast _))) rfl ?_) | (refine O_assign (v := (.bool _)) rfl ?_) | (refine O_assign (v := (.pointer _)) rfl ?_) | (refine O_assign (v := (.slice _ _ _)) rfl ?_) | (refine O_assign (v := (.agg _)) rfl ?_) | (refine O_assign (v := (.tuple _)) rfl ?_) | (refine O_assign (v := (.int _ _)) rfl ?_))
      | (guard_target =~ WO _ _ (Oper.mk _ (Op.move _) _ _ _ none) _ _ _ _; first | (refine O_move (v := (.int _ (Nat.cast _))) rfl ?_) | (refine O_move (v := (.bool _)) rfl ?_) | (refine O_move (v := (.pointer _)) rfl ?_) | (refine O_move (v := (.slice _ _ _)) rfl ?_) | (refine O_move (v := (.agg _)) rfl ?_) | (refine O_move (v := (.tuple _)) rfl ?_) | (refine O_move (v := (.int _ _)) rfl ?_))
      | (guard_target =~ WO _ _ (Oper.mk _ (Op.call _) _ _ _ none) _ _ _ _; first | (refine O_len Samg.underlying134 rfl rfl ?_))
      | (guard_target =~ WO _ _ (Oper.mk _ (Op.binOp BinOp.eql _ _ _ _) _ _ _ none) _ _ _ _; first | (refine O_eql_t (b := 0) rfl rfl (by omega) ?_) | (refine O_eql_f (b := 0) rfl rfl (by omega) ?_) | (refine O_eql (b := 0) rfl rfl ?_))
      | (guard_target =~ WO _ _ (Oper.mk _ (Op.slice 134 _ none (some _) (some _)) _ _ _ none) _ _ _ _; first | (refine O_slice_s sl134 rfl rfl ⟨_, rfl⟩ ⟨_, rfl⟩ (fun _ => rfl) (by omega) (by omega) (by omega) ?_)))
    exact E_ret rfl rfl rfl ⟨rfl, a, k, k, g, rfl, hD', by rw [hv, hx], by omega⟩

theorem val_len_lt {f g : Nat → Nat} {k m : Nat} (hf : ∀ i, i < k → f i < 256) (hkm : k < m) (ht : g (m - 1) ≠ 0) : val 256 f k < val 256 g m := by
  have h1 := val_lt hf
  have h2 : 256 ^ (m - 1) ≤ val 256 g (m - 1 + 1) := val_ge (by omega) ht
  rw [show m - 1 + 1 = m by omega] at h2
  have h3 : 256 ^ k ≤ 256 ^ (m - 1) := Nat.pow_le_pow_right (by omega) (by omega)
  omega

theorem cmp_ok {w : World} {va vb : Value} {x y L : Nat} (ha : NatV w va x L) (hb : NatV w vb y L) (hL : L ≤ 281474976710656) :
    Ret Samg.prog 73 #[va, vb] w fun v w' => v = .int .i8 (cmpZ x y) ∧ Ext w w' := by
  obtain ⟨a, len, cap, g, rfl, hD, hx, hlen⟩ := ha
  obtain ⟨a2, len2, cap2, g2, rfl, hD2, hx2, hlen2⟩ := hb
  refine W_enter (l := [.slice a len cap, .slice a2 len2 cap2]) Samg.func73 rfl Samg.ntmps73 rfl ?_
  repeat (first
    | (refine L_cons ?_)
    | (refine R_cons rfl ?_)
    | (refine W_seq ?_)
    | (refine W_region (by kernel_rfl) ?_)
    | (refine L_nil ?_)
    | (refine R_nil ?_)
    | (refine W_block ?_)
    | (refine W_skip ?_)
    | (refine W_exit ?_)
    | (refine W_ret ?_)
    | (guard_target =~ thenQ _ _ _ _ _; first | (refine T_next ?_) | (refine T_exit ?_) | (refine T_ret ?_))
    | (guard_target =~ blockQ _ _ _ _ _; first | (refine B_next ?_) | (refine B_same ?_) | (refine B_other (by kernel_rfl) ?_) | (refine B_ret ?_))
    | (refine W_true rfl rfl ?_)
    | (refine W_false rfl rfl ?_)
    | (guard_target =~ WO _ _ (Oper.mk _ (Op.assign _) _ _ _ none) _ _ _ _; first | (refine O_assign (v := .int _ (Nat.cast (0 : Nat))) rfl ?_) | (refine O_assign (v := .int _ (Nat.cast (-1 : Nat))) rfl ?_) | (refine O_assign (v := .int _ (Nat.cast (1 : Nat))) rfl ?_) | (refine O_assign (v := (.int _ (Nat.cast _))) rfl ?_) | (refine O_assign (v := (.bool _)) rfl ?_) | (refine O_assign (v := (.pointer _)) rfl ?_) | (refine O_assign (v := (.slice _ _ _)) rfl ?_) | (refine O_assign (v := (.agg _)) rfl ?_) | (refine O_assign (v := (.tuple _)) rfl ?_) | (refine O_assign (v := (.int _ _)) rfl ?_))
    | (guard_target =~ WO _ _ (Oper.mk _ (Op.move _) _ _ _ none) _ _ _ _; first | (refine O_move (v := (.int _ (Nat.cast _))) rfl ?_) | (refine O_move (v := (.bool _)) rfl ?_) | (refine O_move (v := (.pointer _)) rfl ?_) | (refine O_move (v := (.slice _ _ _)) rfl ?_) | (refine O_move (v := (.agg _)) rfl ?_) | (refine O_move (v := (.tuple _)) rfl ?_) | (refine O_move (v := (.int _ _)) rfl ?_))
    | (guard_target =~ WO _ _ (Oper.mk _ (Op.call _) _ _ _ none) _ _ _ _; first | (refine O_len Samg.underlying134 rfl rfl ?_))
    | (guard_target =~ WO _ _ (Oper.mk _ (Op.binOp BinOp.lss _ _ _ _) _ _ _ none) _ _ _ _; first | (refine O_lss_t rfl rfl (by omega) ?_) | (refine O_lss_f rfl rfl (by omega) ?_) | (refine O_lss rfl rfl ?_))
    | (guard_target =~ WO _ _ (Oper.mk _ (Op.binOp BinOp.gtr _ _ _ _) _ _ _ none) _ _ _ _; first | (refine O_gtr_t rfl rfl (by omega) ?_) | (refine O_gtr_f rfl rfl (by omega) ?_) | (refine O_gtr rfl rfl ?_) | (refine O_gtr_t (b := 0) rfl rfl (by omega) ?_) | (refine O_gtr_f (b := 0) rfl rfl (by omega) ?_) | (refine O_gtr (b := 0) rfl rfl ?_))
    | (guard_target =~ WO _ _ (Oper.mk _ (Op.binOp BinOp.sub _ _ _ _) _ _ _ none) _ _ _ _; first | (refine O_sub (b := 1) rfl rfl (by first | exact fit_i64 (by omega) | exact fit_u64 (by omega) | exact fit_u8 (by omega) | exact fit_i32 (by omega) | exact fit_u16 (by omega)) (by omega) ?_))
    | (guard_target =~ WO _ _ (Oper.mk _ (Op.indexAddr 134 _ _) _ _ _ none) _ _ _ _; first | (refine O_index_s1 sl134 rfl rfl (by omega) ?_)))
  refine O_call (l := [.slice a len cap]) cl101 (by rfl) ((trim_ok hD (by omega)).mono ?_)
  rintro v w1 ⟨rfl, k, rfl, hk, hD, hv, ht⟩
  refine ⟨nof, ?_⟩
  repeat (first
    | (refine L_cons ?_)
    | (refine R_cons rfl ?_)
    | (refine W_seq ?_)
    | (refine W_region (by kernel_rfl) ?_)
    | (refine L_nil ?_)
    | (refine R_nil ?_)
    | (refine W_block ?_)
    | (refine W_skip ?_)
    | (refine W_exit ?_)
    | (refine W_ret ?_)
    | (guard_target =~ thenQ _ _ _ _ _; first | (refine T_next ?_) | (refine T_exit ?_) | (refine T_ret ?_))
    | (guard_target =~ blockQ _ _ _ _ _; first | (refine B_next ?_) | (refine B_same ?_) | (refine B_other (by kernel_rfl) ?_) | (refine B_ret ?_))
    | (refine W_true rfl rfl ?_)
    | (refine W_false rfl rfl ?_)
    | (guard_target =~ WO _ _ (Oper.mk _ (Op.assign _) _ _ _ none) _ _ _ _; first | (refine O_assign (v := .int _ (Nat.cast (0 : Nat))) rfl ?_) | (refine O_assign (v := .int _ (Nat.cast (-1 : Nat))) rfl ?_) | (refine O_assign (v := .int _ (Nat.cast (1 : Nat))) rfl ?_) | (refine O_assign (v := (.int _ (Nat.cast _))) rfl ?_) | (refine O_assign (v := (.bool _)) rfl ?_) | (refine O_assign (v := (.pointer _)) rfl ?_) | (refine O_assign (v := (.slice _ _ _)) rfl ?_) | (refine O_assign (v := (.agg _)) rfl ?_) | (refine O_assign (v := (.tuple _)) rfl ?_) | (refine O_assign (v := (.int _ _)) rfl ?_))
    | (guard_target =~ WO _ _ (Oper.mk _ (Op.move _) _ _ _ none) _ _ _ _; first | (refine O_move (v := (.int _ (Nat.cast _))) rfl ?_) | (refine O_move (v := (.bool _)) rfl ?_) | (refine O_move (v := (.pointer _)) rfl ?_) | (refine O_move (v := (.slice _ _ _)) rfl ?_) | (refine O_move (v := (.agg _)) rfl ?_) | (refine O_move (v := (.tuple _)) rfl ?_) | (refine O_move (v := (.int _ _)) rfl ?_))
    | (guard_target =~ WO _ _ (Oper.mk _ (Op.call _) _ _ _ none) _ _ _ _; first | (refine O_len Samg.underlying134 rfl rfl ?_))
    | (guard_target =~ WO _ _ (Oper.mk _ (Op.binOp BinOp.lss _ _ _ _) _ _ _ none) _ _ _ _; first | (refine O_lss_t rfl rfl (by omega) ?_) | (refine O_lss_f rfl rfl (by omega) ?_) | (refine O_lss rfl rfl ?_))
    | (guard_target =~ WO _ _ (Oper.mk _ (Op.binOp BinOp.gtr _ _ _ _) _ _ _ none) _ _ _ _; first | (refine O_gtr_t rfl rfl (by omega) ?_) | (refine O_gtr_f rfl rfl (by omega) ?_) | (refine O_gtr rfl rfl ?_) | (refine O_gtr_t (b := 0) rfl rfl (by omega) ?_) | (refine O_gtr_f (b := 0) rfl rfl (by omega) ?_) | (refine O_gtr (b := 0) rfl rfl ?_))
    | (guard_target =~ WO _ _ (Oper.mk _ (Op.binOp BinOp.sub _ _ _ _) _ _ _ none) _ _ _ _; first | (refine O_sub (b := 1) rfl rfl (by first | exact fit_i64 (by omega) | exact fit_u64 (by omega) | exact fit_u8 (by omega) | exact fit_i32 (by omega) | exact fit_u16 (by omega)) (by omega) ?_))
    | (guard_target =~ WO _ _ (Oper.mk _ (Op.indexAddr 134 _ _) _ _ _ none) _ _ _ _; first | (refine O_index_s1 sl134 rfl rfl (by omega) ?_)))
  refine O_call (l := [.slice a2 len2 cap2]) cl101 (by rfl) ((trim_ok hD2 (by omega)).mono ?_)
  rintro v w2 ⟨rfl, k2, rfl, hk2, hD2, hv2, ht2⟩
  refine ⟨nof, ?_⟩
  rw [hx] at hv
  rw [hx2] at hv2
  by_cases h1 : k < k2
  · repeat (first
      | (refine L_cons ?_)
      | (refine R_cons rfl ?_)
      | (refine W_seq ?_)
      | (refine W_region (by kernel_rfl) ?_)
      | (refine L_nil ?_)
      | (refine R_nil ?_)
      | (refine W_block ?_)
      | (refine W_skip ?_)
      | (refine W_exit ?_)
      | (refine W_ret ?_)
      | (guard_target =~ thenQ _ _ _ _ _; first | (refine T_next ?_) | (refine T_exit ?_) | (refine T_ret ?_))
      | (guard_target =~ blockQ _ _ _ _ _; first | (refine B_next ?_) | (refine B_same ?_) | (refine B_other (by kernel_rfl) ?_) | (refine B_ret ?_))
      | (refine W_true rfl rfl ?_)
      | (refine W_false rfl rfl ?_)
      | (guard_target =~ WO _ _ (Oper.mk _ (Op.assign _) _ _ _ none) _ _ _ _; first | (refine O_assign (v := .int _ (Nat.cast (0 : Nat))) rfl ?_) | (refine O_assign (v := .int _ (Nat.cast (-1 : Nat))) rfl ?_) | (refine O_assign (v := .int _ (Nat.cast (1 : Nat))) rfl ?_) | (refine O_assign (v := (.int _ (Nat.cast _))) rfl ?_) | (refine O_assign (v := (.bool _)) rfl ?_) | (refine O_assign (v := (.pointer _)) rfl ?_) | (refine O_assign (v := (.slice _ _ _)) rfl ?_) | (refine O_assign (v := (.agg _)) rfl ?_) | (refine O_assign (v := (.tuple _)) rfl ?_) | (refine O_assign (v := (.int _ _)) rfl ?_))
      | (guard_target =~ WO _ _ (Oper.mk _ (Op.move _) _ _ _ none) _ _ _ _; first | (refine O_move (v := (.int _ (Nat.cast _))) rfl ?_) | (refine O_move (v := (.bool _)) rfl ?_) | (refine O_move (v := (.pointer _)) rfl ?_) | (refine O_move (v := (.slice _ _ _)) rfl ?_) | (refine O_move (v := (.agg _)) rfl ?_) | (refine O_move (v := (.tuple _)) rfl ?_) | (refine O_move (v := (.int _ _)) rfl ?_))
      | (guard_target =~ WO _ _ (Oper.mk _ (Op.call _) _ _ _ none) _ _ _ _; first | (refine O_len Samg.underlying134 rfl rfl ?_))
      | (guard_target =~ WO _ _ (Oper.mk _ (Op.binOp BinOp.lss _ _ _ _) _ _ _ none) _ _ _ _; first | (refine O_lss_t rfl rfl (by omega) ?_) | (refine O_lss_f rfl rfl (by omega) ?_) | (refine O_lss rfl rfl ?_))
      | (guard_target =~ WO _ _ (Oper.mk _ (Op.binOp BinOp.gtr _ _ _ _) _ _ _ none) _ _ _ _; first | (refine O_gtr_t rfl rfl (by omega) ?_) | (refine O_gtr_f rfl rfl (by omega) ?_) | (refine O_gtr rfl rfl ?_) | (refine O_gtr_t (b := 0) rfl rfl (by omega) ?_) | (refine O_gtr_f (b := 0) rfl rfl (by omega) ?_) | (refine O_gtr (b := 0) rfl rfl ?_))
      | (guard_target =~ WO _ _ (Oper.mk _ (Op.binOp BinOp.sub _ _ _ _) _ _ _ none) _ _ _ _; first | (refine O_sub (b := 1) rfl rfl (by first | exact fit_i64 (by omega) | exact fit_u64 (by omega) | exact fit_u8 (by omega) | exact fit_i32 (by omega) | exact fit_u16 (by omega)) (by omega) ?_))
      | (guard_target =~ WO _ _ (Oper.mk _ (Op.indexAddr 134 _ _) _ _ _ none) _ _ _ _; first | (refine O_index_s1 sl134 rfl rfl (by omega) ?_)))
    refine E_ret (v := .int .i8 (-1)) rfl rfl rfl ⟨?_, Ext.refl _⟩
    rw [cmpZ_lt]
    rw [← hv, ← hv2]
    exact val_len_lt hD.2.1 h1 (by rcases ht2 with h | h; · omega
                                   · exact h)
  by_cases h2 : k2 < k
  · repeat (first
      | (refine L_cons ?_)
      | (refine R_cons rfl ?_)
      | (refine W_seq ?_)
      | (refine W_region (by kernel_rfl) ?_)
      | (refine L_nil ?_)
      | (refine R_nil ?_)
      | (refine W_block ?_)
      | (refine W_skip ?_)
      | (refine W_exit ?_)
      | (refine W_ret ?_)
      | (guard_target =~ thenQ _ _ _ _ _; first | (refine T_next ?_) | (refine T_exit ?_) | (refine T_ret ?_))
      | (guard_target =~ blockQ _ _ _ _ _; first | (refine B_next ?_) | (refine B_same ?_) | (refine B_other (by kernel_rfl) ?_) | (refine B_ret ?_))
      | (refine W_true rfl rfl ?_)
      | (refine W_false rfl rfl ?_)
      | (guard_target =~ WO _ _ (Oper.mk _ (Op.assign _) _ _ _ none) _ _ _ _; first | (refine O_assign (v := .int _ (Nat.cast (0 : Nat))) rfl ?_) | (refine O_assign (v := .int _ (Nat.cast (-1 : Nat))) rfl ?_) | (refine O_assign (v := .int _ (Nat.cast (1 : Nat))) rfl ?_) | (refine O_assign (v := (.int _ (Nat.cast _))) rfl ?_) | (refine O_assign (v := (.bool _)) rfl ?_) | (refine O_assign (v := (.pointer _)) rfl ?_) | (refine O_assign (v := (.slice _ _ _)) rfl ?_) | (refine O_assign (v := (.agg _)) rfl ?_) | (refine O_assign (v := (.tuple _)) rfl ?_) | (refine O_assign (v := (.int _ _)) rfl ?_))
      | (guard_target =~ WO _ _ (Oper.mk _ (Op.move _) _ _ _ none) _ _ _ _; first | (refine O_move (v := (.int _ (Nat.cast _))) rfl ?_) | (refine O_move (v := (.bool _)) rfl ?_) | (refine O_move (v := (.pointer _)) rfl ?_) | (refine O_move (v := (.slice _ _ _)) rfl ?_) | (refine O_move (v := (.agg _)) rfl ?_) | (refine O_move (v := (.tuple _)) rfl ?_) | (refine O_move (v := (.int _ _)) rfl ?_))
      | (guard_target =~ WO _ _ (Oper.mk _ (Op.call _) _ _ _ none) _ _ _ _; first | (refine O_len Samg.underlying134 rfl rfl ?_))
      | (guard_target =~ WO _ _ (Oper.mk _ (Op.binOp BinOp.lss _ _ _ _) _ _ _ none) _ _ _ _; first | (refine O_lss_t rfl rfl (by omega) ?_) | (refine O_lss_f rfl rfl (by omega) ?_) | (refine O_lss rfl rfl ?_))
      | (guard_target =~ WO _ _ (Oper.mk _ (Op.binOp BinOp.gtr _ _ _ _) _ _ _ none) _ _ _ _; first | (refine O_gtr_t rfl rfl (by omega) ?_) | (refine O_gtr_f rfl rfl (by omega) ?_) | (refine O_gtr rfl rfl ?_) | (refine O_gtr_t (b := 0) rfl rfl (by omega) ?_) | (refine O_gtr_f (b := 0) rfl rfl (by omega) ?_) | (refine O_gtr (b := 0) rfl rfl ?_))
      | (guard_target =~ WO _ _ (Oper.mk _ (Op.binOp BinOp.sub _ _ _ _) _ _ _ none) _ _ _ _; first | (refine O_sub (b := 1) rfl rfl (by first | exact fit_i64 (by omega) | exact fit_u64 (by omega) | exact fit_u8 (by omega) | exact fit_i32 (by omega) | exact fit_u16 (by omega)) (by omega) ?_))
      | (guard_target =~ WO _ _ (Oper.mk _ (Op.indexAddr 134 _ _) _ _ _ none) _ _ _ _; first | (refine O_index_s1 sl134 rfl rfl (by omega) ?_)))
    refine E_ret (v := .int .i8 1) rfl rfl rfl ⟨?_, Ext.refl _⟩
    rw [cmpZ_gt]
    rw [← hv, ← hv2]
    exact val_len_lt hD2.2.1 h2 (by rcases ht with h | h; · omega
                                    · exact h)
  have h3 : k = k2 := by omega
  subst h3
  have hB : 256 = 2 * 128 := rfl
  repeat (first
    | (refine L_cons ?_)
    | (refine R_cons rfl ?_)
    | (refine W_seq ?_)
    | (refine W_region (by kernel_rfl) ?_)
    | (refine L_nil ?_)
    | (refine R_nil ?_)
    | (refine W_block ?_)
    | (refine W_skip ?_)
    | (refine W_exit ?_)
    | (refine W_ret ?_)
    | (guard_target =~ thenQ _ _ _ _ _; first | (refine T_next ?_) | (refine T_exit ?_) | (refine T_ret ?_))
    | (guard_target =~ blockQ _ _ _ _ _; first | (refine B_next ?_) | (refine B_same ?_) | (refine B_other (by kernel_rfl) ?_) | (refine B_ret ?_))
    | (refine W_true rfl rfl ?_)
    | (refine W_false rfl rfl ?_)
    | (guard_target =~ WO _ _ (Oper.mk _ (Op.assign _) _ _ _ none) _ _ _ _; first | (refine O_assign (v := .int _ (Nat.cast (0 : Nat))) rfl ?_) | (refine O_assign (v := .int _ (Nat.cast (-1 : Nat))) rfl ?_) | (refine O_assign (v := .int _ (Nat.cast (1 : Nat))) rfl ?_) | (refine O_assign (v := (.int _ (Nat.cast _))) rfl ?_) | (refine O_assign (v := (.bool _)) rfl ?_) | (refine O_assign (v := (.pointer _)) rfl ?_) | (refine O_assign (v := (.slice _ _ _)) rfl ?_) | (refine O_assign (v := (.agg _)) rfl ?_) | (refine O_assign (v := (.tuple _)) rfl ?_) | (refine O_assign (v := (.int _ _)) rfl ?_))
    | (guard_target =~ WO _ _ (Oper.mk _ (Op.move _) _ _ _ none) _ _ _ _; first | (refine O_move (v := (.int _ (Nat.cast _))) rfl ?_) | (refine O_move (v := (.bool _)) rfl ?_) | (refine O_move (v := (.pointer _)) rfl ?_) | (refine O_move (v := (.slice _ _ _)) rfl ?_) | (refine O_move (v := (.agg _)) rfl ?_) | (refine O_move (v := (.tuple _)) rfl ?_) | (refine O_move (v := (.int _ _)) rfl ?_))
    | (guard_target =~ WO _ _ (Oper.mk _ (Op.call _) _ _ _ none) _ _ _ _; first | (refine O_len Samg.underlying134 rfl rfl ?_))
    | (guard_target =~ WO _ _ (Oper.mk _ (Op.binOp BinOp.lss _ _ _ _) _ _ _ none) _ _ _ _; first | (refine O_lss_t rfl rfl (by omega) ?_) | (refine O_lss_f rfl rfl (by omega) ?_) | (refine O_lss rfl rfl ?_))
    | (guard_target =~ WO _ _ (Oper.mk _ (Op.binOp BinOp.gtr _ _ _ _) _ _ _ none) _ _ _ _; first | (refine O_gtr_t rfl rfl (by omega) ?_) | (refine O_gtr_f rfl rfl (by omega) ?_) | (refine O_gtr rfl rfl ?_) | (refine O_gtr_t (b := 0) rfl rfl (by omega) ?_) | (refine O_gtr_f (b := 0) rfl rfl (by omega) ?_) | (refine O_gtr (b := 0) rfl rfl ?_))
    | (guard_target =~ WO _ _ (Oper.mk _ (Op.binOp BinOp.sub _ _ _ _) _ _ _ none) _ _ _ _; first | (refine O_sub (b := 1) rfl rfl (by first | exact fit_i64 (by omega) | exact fit_u64 (by omega) | exact fit_u8 (by omega) | exact fit_i32 (by omega) | exact fit_u16 (by omega)) (by omega) ?_))
    | (guard_target =~ WO _ _ (Oper.mk _ (Op.indexAddr 134 _ _) _ _ _ none) _ _ _ _; first | (refine O_index_s1 sl134 rfl rfl (by omega) ?_)))
  refine W_loop (fun m ρ w' => Ext w2 w' ∧ ∃ i, m = i ∧ i ≤ k ∧ (∀ q, i ≤ q → q < k → g q = g2 q) ∧ Has ρ [(0, .slice a k k), (1, .slice a2 k k), (5, .int .i64 (i : Nat))]) k ?_ ?_
  · exact ⟨Ext.refl _, k, rfl, Nat.le_refl _, fun q h1 h2 => by omega, Has.mk ⟨rfl, rfl, rfl, trivial⟩⟩
  rintro m ρ w3 ⟨hE, i, rfl, hin, he, σ, rfl⟩
  by_cases h0 : 0 < m
  · obtain ⟨b, o, c, t, rfl, hS, hsz, hg⟩ := (hD.ext hE).at (i := m - 1) (by omega)
    obtain ⟨b2, o2, c2, t2, rfl, hS2, hsz2, hg2⟩ := (hD2.ext hE).at (i := m - 1) (by omega)
    have q1 := hg (m - 1) (by omega)
    have q2 := hg2 (m - 1) (by omega)
    by_cases h4 : g (m - 1) < g2 (m - 1)
    · repeat (first
        | (refine L_cons ?_)
        | (refine R_cons rfl ?_)
        | (refine W_seq ?_)
        | (refine W_region (by kernel_rfl) ?_)
        | (refine L_nil ?_)
        | (refine R_nil ?_)
        | (refine W_block ?_)
        | (refine W_skip ?_)
        | (refine W_exit ?_)
        | (refine W_ret ?_)
        | (guard_target =~ thenQ _ _ _ _ _; first | (refine T_next ?_) | (refine T_exit ?_) | (refine T_ret ?_))
        | (guard_target =~ blockQ _ _ _ _ _; first | (refine B_next ?_) | (refine B_same ?_) | (refine B_other (by kernel_rfl) ?_) | (refine B_ret ?_))
        | (refine W_true rfl rfl ?_)
        | (refine W_false rfl rfl ?_)
        | (guard_target =~ WO _ _ (Oper.mk _ (Op.assign _) _ _ _ none) _ _ _ _; first | (refine O_assign (v := .int _ (Nat.cast (0 : Nat))) rfl ?_) | (refine O_assign (v := .int _ (Nat.cast (-1 : Nat))) rfl ?_) | (refine O_assign (v := .int _ (Nat.cast (1 : Nat))) rfl ?_) | (refine O_assign (v := (.int _ (Nat.cast _))) rfl ?_) | (refine O_assign (v := (.bool _)) rfl ?_) | (refine O_assign (v := (.pointer _)) rfl ?_) | (refine O_assign (v := (.slice _ _ _)) rfl ?_) | (refine O_assign (v := (.agg _)) rfl ?_) | (refine O_assign (v := (.tuple _)) rfl ?_) | (refine O_assign (v := (.int _ _)) rfl ?_))
        | (guard_target =~ WO _ _ (Oper.mk _ (Op.move _) _ _ _ none) _ _ _ _; first | (refine O_move (v := (.int _ (Nat.cast _))) rfl ?_) | (refine O_move (v := (.bool _)) rfl ?_) | (refine O_move (v := (.pointer _)) rfl ?_) | (refine O_move (v := (.slice _ _ _)) rfl ?_) | (refine O_move (v := (.agg _)) rfl ?_) | (refine O_move (v := (.tuple _)) rfl ?_) | (refine O_move (v := (.int _ _)) rfl ?_))
        | (guard_target =~ WO _ _ (Oper.mk _ (Op.call _) _ _ _ none) _ _ _ _; first | (refine O_len Samg.underlying134 rfl rfl ?_))
        | (guard_target =~ WO _ _ (Oper.mk _ (Op.binOp BinOp.lss _ _ _ _) _ _ _ none) _ _ _ _; first | (refine O_lss_t rfl rfl (by omega) ?_) | (refine O_lss_f rfl rfl (by omega) ?_) | (refine O_lss rfl rfl ?_))
        | (guard_target =~ WO _ _ (Oper.mk _ (Op.binOp BinOp.gtr _ _ _ _) _ _ _ none) _ _ _ _; first | (refine O_gtr_t rfl rfl (by omega) ?_) | (refine O_gtr_f rfl rfl (by omega) ?_) | (refine O_gtr rfl rfl ?_) | (refine O_gtr_t (b := 0) rfl rfl (by omega) ?_) | (refine O_gtr_f (b := 0) rfl rfl (by omega) ?_) | (refine O_gtr (b := 0) rfl rfl ?_))
        | (guard_target =~ WO _ _ (Oper.mk _ (Op.binOp BinOp.sub _ _ _ _) _ _ _ none) _ _ _ _; first | (refine O_sub (b := 1) rfl rfl (by first | exact fit_i64 (by omega) | exact fit_u64 (by omega) | exact fit_u8 (by omega) | exact fit_i32 (by omega) | exact fit_u16 (by omega)) (by omega) ?_))
        | (guard_target =~ WO _ _ (Oper.mk _ (Op.indexAddr 134 _ _) _ _ _ none) _ _ _ _; first | (refine O_index_s1 sl134 rfl rfl (by omega) ?_)))
      refine W_drawn [] [0, 1, 2, 3, 4, 5, 6, 7, 8, 9, 10] mixed (by kernel_rfl) (by kernel_rfl) ?_
      repeat (first
        | (refine L_cons ?_)
        | (refine R_cons rfl ?_)
        | (refine W_seq ?_)
        | (refine W_region (by kernel_rfl) ?_)
        | (refine L_nil ?_)
        | (refine R_nil ?_)
        | (refine W_block ?_)
        | (refine W_skip ?_)
        | (refine W_exit ?_)
        | (refine W_ret ?_)
        | (guard_target =~ thenQ _ _ _ _ _; first | (refine T_next ?_) | (refine T_exit ?_) | (refine T_ret ?_))
        | (guard_target =~ blockQ _ _ _ _ _; first | (refine B_next ?_) | (refine B_same ?_) | (refine B_other (by kernel_rfl) ?_) | (refine B_ret ?_))
        | (refine W_true rfl rfl ?_)
        | (refine W_false rfl rfl ?_)
        | (guard_target =~ WO _ _ (Oper.mk _ (Op.load 5 _) _ _ _ none) _ _ _ _; first | (refine O_load on5 rfl hS.drew q1 ?_) | (refine O_load on5 rfl hS2.drew q2 ?_))
        | (guard_target =~ WO _ _ (Oper.mk _ (Op.assign _) _ _ _ none) _ _ _ _; first | (refine O_assign (v := .int _ (Nat.cast (0 : Nat))) rfl ?_) | (refine O_assign (v := .int _ (Nat.cast (-1 : Nat))) rfl ?_) | (refine O_assign (v := .int _ (Nat.cast (1 : Nat))) rfl ?_) | (refine O_assign (v := (.int _ (Nat.cast _))) rfl ?_) | (refine O_assign (v := (.bool _)) rfl ?_) | (refine O_assign (v := (.pointer _)) rfl ?_) | (refine O_assign (v := (.slice _ _ _)) rfl ?_) | (refine O_assign (v := (.agg _)) rfl ?_) | (refine O_assign (v := (.tuple _)) rfl ?_) | (refine O_assign (v := (.int _ _)) rfl ?_))
        | (guard_target =~ WO _ _ (Oper.mk _ (Op.move _) _ _ _ none) _ _ _ _; first | (refine O_move (v := (.int _ (Nat.cast _))) rfl ?_) | (refine O_move (v := (.bool _)) rfl ?_) | (refine O_move (v := (.pointer _)) rfl ?_) | (refine O_move (v := (.slice _ _ _)) rfl ?_) | (refine O_move (v := (.agg _)) rfl ?_) | (refine O_move (v := (.tuple _)) rfl ?_) | (refine O_move (v := (.int _ _)) rfl ?_))
        | (guard_target =~ WO _ _ (Oper.mk _ (Op.call _) _ _ _ none) _ _ _ _; first | (refine O_len Samg.underlying134 rfl rfl ?_))
        | (guard_target =~ WO _ _ (Oper.mk _ (Op.binOp BinOp.lss _ _ _ _) _ _ _ none) _ _ _ _; first | (refine O_lss_t rfl rfl (by omega) ?_) | (refine O_lss_f rfl rfl (by omega) ?_) | (refine O_lss rfl rfl ?_))
        | (guard_target =~ WO _ _ (Oper.mk _ (Op.binOp BinOp.gtr _ _ _ _) _ _ _ none) _ _ _ _; first | (refine O_gtr_t rfl rfl (by omega) ?_) | (refine O_gtr_f rfl rfl (by omega) ?_) | (refine O_gtr rfl rfl ?_) | (refine O_gtr_t (b := 0) rfl rfl (by omega) ?_) | (refine O_gtr_f (b := 0) rfl rfl (by omega) ?_) | (refine O_gtr (b := 0) rfl rfl ?_))
        | (guard_target =~ WO _ _ (Oper.mk _ (Op.binOp BinOp.sub _ _ _ _) _ _ _ none) _ _ _ _; first | (refine O_sub (b := 1) rfl rfl (by first | exact fit_i64 (by omega) | exact fit_u64 (by omega) | exact fit_u8 (by omega) | exact fit_i32 (by omega) | exact fit_u16 (by omega)) (by omega) ?_))
        | (guard_target =~ WO _ _ (Oper.mk _ (Op.indexAddr 134 _ _) _ _ _ none) _ _ _ _; first | (refine O_index_s1 sl134 rfl rfl (by omega) ?_)))
      refine E_ret (v := .int .i8 (-1)) rfl rfl rfl ⟨?_, hE.trans (Ext.drew _)⟩
      rw [cmpZ_lt]
      rw [← hv, ← hv2]
      exact (lex hB (by omega) hD.2.1 hD2.2.1 (by omega) (fun q h5 h6 => he q (by omega) h6) (by omega)).2 h4
    by_cases h5 : g2 (m - 1) < g (m - 1)
    · repeat (first
        | (refine L_cons ?_)
        | (refine R_cons rfl ?_)
        | (refine W_seq ?_)
        | (refine W_region (by kernel_rfl) ?_)
        | (refine L_nil ?_)
        | (refine R_nil ?_)
        | (refine W_block ?_)
        | (refine W_skip ?_)
        | (refine W_exit ?_)
        | (refine W_ret ?_)
        | (guard_target =~ thenQ _ _ _ _ _; first | (refine T_next ?_) | (refine T_exit ?_) | (refine T_ret ?_))
        | (guard_target =~ blockQ _ _ _ _ _; first | (refine B_next ?_) | (refine B_same ?_) | (refine B_other (by kernel_rfl) ?_) | (refine B_ret ?_))
        | (refine W_true rfl rfl ?_)
        | (refine W_false rfl rfl ?_)
        | (guard_target =~ WO _ _ (Oper.mk _ (Op.assign _) _ _ _ none) _ _ _ _; first | (refine O_assign (v := .int _ (Nat.cast (0 : Nat))) rfl ?_) | (refine O_assign (v := .int _ (Nat.cast (-1 : Nat))) rfl ?_) | (refine O_assign (v := .int _ (Nat.cast (1 : Nat))) rfl ?_) | (refine O_assign (v := (.int _ (Nat.cast _))) rfl ?_) | (refine O_assign (v := (.bool _)) rfl ?_) | (refine O_assign (v := (.pointer _)) rfl ?_) | (refine O_assign (v := (.slice _ _ _)) rfl ?_) | (refine O_assign (v := (.agg _)) rfl ?_) | (refine O_assign (v := (.tuple _)) rfl ?_) | (refine O_assign (v := (.int _ _)) rfl ?_))
        | (guard_target =~ WO _ _ (Oper.mk _ (Op.move _) _ _ _ none) _ _ _ _; first | (refine O_move (v := (.int _ (Nat.cast _))) rfl ?_) | (refine O_move (v := (.bool _)) rfl ?_) | (refine O_move (v := (.pointer _)) rfl ?_) | (refine O_move (v := (.slice _ _ _)) rfl ?_) | (refine O_move (v := (.agg _)) rfl ?_) | (refine O_move (v := (.tuple _)) rfl ?_) | (refine O_move (v := (.int _ _)) rfl ?_))
        | (guard_target =~ WO _ _ (Oper.mk _ (Op.call _) _ _ _ none) _ _ _ _; first | (refine O_len Samg.underlying134 rfl rfl ?_))
        | (guard_target =~ WO _ _ (Oper.mk _ (Op.binOp BinOp.lss _ _ _ _) _ _ _ none) _ _ _ _; first | (refine O_lss_t rfl rfl (by omega) ?_) | (refine O_lss_f rfl rfl (by omega) ?_) | (refine O_lss rfl rfl ?_))
        | (guard_target =~ WO _ _ (Oper.mk _ (Op.binOp BinOp.gtr _ _ _ _) _ _ _ none) _ _ _ _; first | (refine O_gtr_t rfl rfl (by omega) ?_) | (refine O_gtr_f rfl rfl (by omega) ?_) | (refine O_gtr rfl rfl ?_) | (refine O_gtr_t (b := 0) rfl rfl (by omega) ?_) | (refine O_gtr_f (b := 0) rfl rfl (by omega) ?_) | (refine O_gtr (b := 0) rfl rfl ?_))
        | (guard_target =~ WO _ _ (Oper.mk _ (Op.binOp BinOp.sub _ _ _ _) _ _ _ none) _ _ _ _; first | (refine O_sub (b := 1) rfl rfl (by first | exact fit_i64 (by omega) | exact fit_u64 (by omega) | exact fit_u8 (by omega) | exact fit_i32 (by omega) | exact fit_u16 (by omega)) (by omega) ?_))
        | (guard_target =~ WO _ _ (Oper.mk _ (Op.indexAddr 134 _ _) _ _ _ none) _ _ _ _; first | (refine O_index_s1 sl134 rfl rfl (by omega) ?_)))
      refine W_drawn [] [0, 1, 2, 3, 4, 5, 6, 7, 8, 9, 10] mixed (by kernel_rfl) (by kernel_rfl) ?_
      repeat (first
        | (refine L_cons ?_)
        | (refine R_cons rfl ?_)
        | (refine W_seq ?_)
        | (refine W_region (by kernel_rfl) ?_)
        | (refine L_nil ?_)
        | (refine R_nil ?_)
        | (refine W_block ?_)
        | (refine W_skip ?_)
        | (refine W_exit ?_)
        | (refine W_ret ?_)
        | (guard_target =~ thenQ _ _ _ _ _; first | (refine T_next ?_) | (refine T_exit ?_) | (refine T_ret ?_))
        | (guard_target =~ blockQ _ _ _ _ _; first | (refine B_next ?_) | (refine B_same ?_) | (refine B_other (by kernel_rfl) ?_) | (refine B_ret ?_))
        | (refine W_true rfl rfl ?_)
        | (refine W_false rfl rfl ?_)
        | (guard_target =~ WO _ _ (Oper.mk _ (Op.load 5 _) _ _ _ none) _ _ _ _; first | (refine O_load on5 rfl hS.drew q1 ?_) | (refine O_load on5 rfl hS2.drew q2 ?_))
        | (guard_target =~ WO _ _ (Oper.mk _ (Op.assign _) _ _ _ none) _ _ _ _; first | (refine O_assign (v := .int _ (Nat.cast (0 : Nat))) rfl ?_) | (refine O_assign (v := .int _ (Nat.cast (-1 : Nat))) rfl ?_) | (refine O_assign (v := .int _ (Nat.cast (1 : Nat))) rfl ?_) | (refine O_assign (v := (.int _ (Nat.cast _))) rfl ?_) | (refine O_assign (v := (.bool _)) rfl ?_) | (refine O_assign (v := (.pointer _)) rfl ?_) | (refine O_assign (v := (.slice _ _ _)) rfl ?_) | (refine O_assign (v := (.agg _)) rfl ?_) | (refine O_assign (v := (.tuple _)) rfl ?_) | (refine O_assign (v := (.int _ _)) rfl ?_))
        | (guard_target =~ WO _ _ (Oper.mk _ (Op.move _) _ _ _ none) _ _ _ _; first | (refine O_move (v := (.int _ (Nat.cast _))) rfl ?_) | (refine O_move (v := (.bool _)) rfl ?_) | (refine O_move (v := (.pointer _)) rfl ?_) | (refine O_move (v := (.slice _ _ _)) rfl ?_) | (refine O_move (v := (.agg _)) rfl ?_) | (refine O_move (v := (.tuple _)) rfl ?_) | (refine O_move (v := (.int _ _)) rfl ?_))
        | (guard_target =~ WO _ _ (Oper.mk _ (Op.call _) _ _ _ none) _ _ _ _; first | (refine O_len Samg.underlying134 rfl rfl ?_))
        | (guard_target =~ WO _ _ (Oper.mk _ (Op.binOp BinOp.lss _ _ _ _) _ _ _ none) _ _ _ _; first | (refine O_lss_t rfl rfl (by omega) ?_) | (refine O_lss_f rfl rfl (by omega) ?_) | (refine O_lss rfl rfl ?_))
        | (guard_target =~ WO _ _ (Oper.mk _ (Op.binOp BinOp.gtr _ _ _ _) _ _ _ none) _ _ _ _; first | (refine O_gtr_t rfl rfl (by omega) ?_) | (refine O_gtr_f rfl rfl (by omega) ?_) | (refine O_gtr rfl rfl ?_) | (refine O_gtr_t (b := 0) rfl rfl (by omega) ?_) | (refine O_gtr_f (b := 0) rfl rfl (by omega) ?_) | (refine O_gtr (b := 0) rfl rfl ?_))
        | (guard_target =~ WO _ _ (Oper.mk _ (Op.binOp BinOp.sub _ _ _ _) _ _ _ none) _ _ _ _; first | (refine O_sub (b := 1) rfl rfl (by first | exact fit_i64 (by omega) | exact fit_u64 (by omega) | exact fit_u8 (by omega) | exact fit_i32 (by omega) | exact fit_u16 (by omega)) (by omega) ?_))
        | (guard_target =~ WO _ _ (Oper.mk _ (Op.indexAddr 134 _ _) _ _ _ none) _ _ _ _; first | (refine O_index_s1 sl134 rfl rfl (by omega) ?_)))
      refine W_drawn [] [0, 1, 2, 3, 4, 5, 6, 7, 8, 9, 10] mixed (by kernel_rfl) (by kernel_rfl) ?_
      repeat (first
        | (refine L_cons ?_)
        | (refine R_cons rfl ?_)
        | (refine W_seq ?_)
        | (refine W_region (by kernel_rfl) ?_)
        | (refine L_nil ?_)
        | (refine R_nil ?_)
        | (refine W_block ?_)
        | (refine W_skip ?_)
        | (refine W_exit ?_)
        | (refine W_ret ?_)
        | (guard_target =~ thenQ _ _ _ _ _; first | (refine T_next ?_) | (refine T_exit ?_) | (refine T_ret ?_))
        | (guard_target =~ blockQ _ _ _ _ _; first | (refine B_next ?_) | (refine B_same ?_) | (refine B_other (by kernel_rfl) ?_) | (refine B_ret ?_))
        | (refine W_true rfl rfl ?_)
        | (refine W_false rfl rfl ?_)
        | (guard_target =~ WO _ _ (Oper.mk _ (Op.load 5 _) _ _ _ none) _ _ _ _; first | (refine O_load on5 rfl hS.drew q1 ?_) | (refine O_load on5 rfl hS2.drew q2 ?_))
        | (guard_target =~ WO _ _ (Oper.mk _ (Op.assign _) _ _ _ none) _ _ _ _; first | (refine O_assign (v := .int _ (Nat.cast (0 : Nat))) rfl ?_) | (refine O_assign (v := .int _ (Nat.cast (-1 : Nat))) rfl ?_) | (refine O_assign (v := .int _ (Nat.cast (1 : Nat))) rfl ?_) | (refine O_assign (v := (.int _ (Nat.cast _))) rfl ?_) | (refine O_assign (v := (.bool _)) rfl ?_) | (refine O_assign (v := (.pointer _)) rfl ?_) | (refine O_assign (v := (.slice _ _ _)) rfl ?_) | (refine O_assign (v := (.agg _)) rfl ?_) | (refine O_assign (v := (.tuple _)) rfl ?_) | (refine O_assign (v := (.int _ _)) rfl ?_))
        | (guard_target =~ WO _ _ (Oper.mk _ (Op.move _) _ _ _ none) _ _ _ _; first | (refine O_move (v := (.int _ (Nat.cast _))) rfl ?_) | (refine O_move (v := (.bool _)) rfl ?_) | (refine O_move (v := (.pointer _)) rfl ?_) | (refine O_move (v := (.slice _ _ _)) rfl ?_) | (refine O_move (v := (.agg _)) rfl ?_) | (refine O_move (v := (.tuple _)) rfl ?_) | (refine O_move (v := (.int _ _)) rfl ?_))
        | (guard_target =~ WO _ _ (Oper.mk _ (Op.call _) _ _ _ none) _ _ _ _; first | (refine O_len Samg.underlying134 rfl rfl ?_))
        | (guard_target =~ WO _ _ (Oper.mk _ (Op.binOp BinOp.lss _ _ _ _) _ _ _ none) _ _ _ _; first | (refine O_lss_t rfl rfl (by omega) ?_) | (refine O_lss_f rfl rfl (by omega) ?_) | (refine O_lss rfl rfl ?_))
        | (guard_target =~ WO _ _ (Oper.mk _ (Op.binOp BinOp.gtr _ _ _ _) _ _ _ none) _ _ _ _; first | (refine O_gtr_t rfl rfl (by omega) ?_) | (refine O_gtr_f rfl rfl (by omega) ?_) | (refine O_gtr rfl rfl ?_) | (refine O_gtr_t (b := 0) rfl rfl (by omega) ?_) | (refine O_gtr_f (b := 0) rfl rfl (by omega) ?_) | (refine O_gtr (b := 0) rfl rfl ?_))
        | (guard_target =~ WO _ _ (Oper.mk _ (Op.binOp BinOp.sub _ _ _ _) _ _ _ none) _ _ _ _; first | (refine O_sub (b := 1) rfl rfl (by first | exact fit_i64 (by omega) | exact fit_u64 (by omega) | exact fit_u8 (by omega) | exact fit_i32 (by omega) | exact fit_u16 (by omega)) (by omega) ?_))
        | (guard_target =~ WO _ _ (Oper.mk _ (Op.indexAddr 134 _ _) _ _ _ none) _ _ _ _; first | (refine O_index_s1 sl134 rfl rfl (by omega) ?_)))
      refine E_ret (v := .int .i8 1) rfl rfl rfl ⟨?_, (hE.trans (Ext.drew _)).trans (Ext.drew _)⟩
      rw [cmpZ_gt]
      rw [← hv, ← hv2]
      exact (lex hB (by omega) hD2.2.1 hD.2.1 (by omega) (fun q h5 h6 => (he q (by omega) h6).symm) (by omega)).2 h5
    · repeat (first
        | (refine L_cons ?_)
        | (refine R_cons rfl ?_)
        | (refine W_seq ?_)
        | (refine W_region (by kernel_rfl) ?_)
        | (refine L_nil ?_)
        | (refine R_nil ?_)
        | (refine W_block ?_)
        | (refine W_skip ?_)
        | (refine W_exit ?_)
        | (refine W_ret ?_)
        | (guard_target =~ thenQ _ _ _ _ _; first | (refine T_next ?_) | (refine T_exit ?_) | (refine T_ret ?_))
        | (guard_target =~ blockQ _ _ _ _ _; first | (refine B_next ?_) | (refine B_same ?_) | (refine B_other (by kernel_rfl) ?_) | (refine B_ret ?_))
        | (refine W_true rfl rfl ?_)
        | (refine W_false rfl rfl ?_)
        | (guard_target =~ WO _ _ (Oper.mk _ (Op.assign _) _ _ _ none) _ _ _ _; first | (refine O_assign (v := .int _ (Nat.cast (0 : Nat))) rfl ?_) | (refine O_assign (v := .int _ (Nat.cast (-1 : Nat))) rfl ?_) | (refine O_assign (v := .int _ (Nat.cast (1 : Nat))) rfl ?_) | (refine O_assign (v := (.int _ (Nat.cast _))) rfl ?_) | (refine O_assign (v := (.bool _)) rfl ?_) | (refine O_assign (v := (.pointer _)) rfl ?_) | (refine O_assign (v := (.slice _ _ _)) rfl ?_) | (refine O_assign (v := (.agg _)) rfl ?_) | (refine O_assign (v := (.tuple _)) rfl ?_) | (refine O_assign (v := (.int _ _)) rfl ?_))
        | (guard_target =~ WO _ _ (Oper.mk _ (Op.move _) _ _ _ none) _ _ _ _; first | (refine O_move (v := (.int _ (Nat.cast _))) rfl ?_) | (refine O_move (v := (.bool _)) rfl ?_) | (refine O_move (v := (.pointer _)) rfl ?_) | (refine O_move (v := (.slice _ _ _)) rfl ?_) | (refine O_move (v := (.agg _)) rfl ?_) | (refine O_move (v := (.tuple _)) rfl ?_) | (refine O_move (v := (.int _ _)) rfl ?_))
        | (guard_target =~ WO _ _ (Oper.mk _ (Op.call _) _ _ _ none) _ _ _ _; first | (refine O_len Samg.underlying134 rfl rfl ?_))
        | (guard_target =~ WO _ _ (Oper.mk _ (Op.binOp BinOp.lss _ _ _ _) _ _ _ none) _ _ _ _; first | (refine O_lss_t rfl rfl (by omega) ?_) | (refine O_lss_f rfl rfl (by omega) ?_) | (refine O_lss rfl rfl ?_))
        | (guard_target =~ WO _ _ (Oper.mk _ (Op.binOp BinOp.gtr _ _ _ _) _ _ _ none) _ _ _ _; first | (refine O_gtr_t rfl rfl (by omega) ?_) | (refine O_gtr_f rfl rfl (by omega) ?_) | (refine O_gtr rfl rfl ?_) | (refine O_gtr_t (b := 0) rfl rfl (by omega) ?_) | (refine O_gtr_f (b := 0) rfl rfl (by omega) ?_) | (refine O_gtr (b := 0) rfl rfl ?_))
        | (guard_target =~ WO _ _ (Oper.mk _ (Op.binOp BinOp.sub _ _ _ _) _ _ _ none) _ _ _ _; first | (refine O_sub (b := 1) rfl rfl (by first | exact fit_i64 (by omega) | exact fit_u64 (by omega) | exact fit_u8 (by omega) | exact fit_i32 (by omega) | exact fit_u16 (by omega)) (by omega) ?_))
        | (guard_target =~ WO _ _ (Oper.mk _ (Op.indexAddr 134 _ _) _ _ _ none) _ _ _ _; first | (refine O_index_s1 sl134 rfl rfl (by omega) ?_)))
      refine W_drawn [] [0, 1, 2, 3, 4, 5, 6, 7, 8, 9, 10] mixed (by kernel_rfl) (by kernel_rfl) ?_
      repeat (first
        | (refine L_cons ?_)
        | (refine R_cons rfl ?_)
        | (refine W_seq ?_)
        | (refine W_region (by kernel_rfl) ?_)
        | (refine L_nil ?_)
        | (refine R_nil ?_)
        | (refine W_block ?_)
        | (refine W_skip ?_)
        | (refine W_exit ?_)
        | (refine W_ret ?_)
        | (guard_target =~ thenQ _ _ _ _ _; first | (refine T_next ?_) | (refine T_exit ?_) | (refine T_ret ?_))
        | (guard_target =~ blockQ _ _ _ _ _; first | (refine B_next ?_) | (refine B_same ?_) | (refine B_other (by kernel_rfl) ?_) | (refine B_ret ?_))
        | (refine W_true rfl rfl ?_)
        | (refine W_false rfl rfl ?_)
        | (guard_target =~ WO _ _ (Oper.mk _ (Op.load 5 _) _ _ _ none) _ _ _ _; first | (refine O_load on5 rfl hS.drew q1 ?_) | (refine O_load on5 rfl hS2.drew q2 ?_))
        | (guard_target =~ WO _ _ (Oper.mk _ (Op.assign _) _ _ _ none) _ _ _ _; first | (refine O_assign (v := .int _ (Nat.cast (0 : Nat))) rfl ?_) | (refine O_assign (v := .int _ (Nat.cast (-1 : Nat))) rfl ?_) | (refine O_assign (v := .int _ (Nat.cast (1 : Nat))) rfl ?_) | (refine O_assign (v := (.int _ (Nat.cast _))) rfl ?_) | (refine O_assign (v := (.bool _)) rfl ?_) | (refine O_assign (v := (.pointer _)) rfl ?_) | (refine O_assign (v := (.slice _ _ _)) rfl ?_) | (refine O_assign (v := (.agg _)) rfl ?_) | (refine O_assign (v := (.tuple _)) rfl ?_) | (refine O_assign (v := (.int _ _)) rfl ?_))
        | (guard_target =~ WO _ _ (Oper.mk _ (Op.move _) _ _ _ none) _ _ _ _; first | (refine O_move (v := (.int _ (Nat.cast _))) rfl ?_) | (refine O_move (v := (.bool _)) rfl ?_) | (refine O_move (v := (.pointer _)) rfl ?_) | (refine O_move (v := (.slice _ _ _)) rfl ?_) | (refine O_move (v := (.agg _)) rfl ?_) | (refine O_move (v := (.tuple _)) rfl ?_) | (refine O_move (v := (.int _ _)) rfl ?_))
        | (guard_target =~ WO _ _ (Oper.mk _ (Op.call _) _ _ _ none) _ _ _ _; first | (refine O_len Samg.underlying134 rfl rfl ?_))
        | (guard_target =~ WO _ _ (Oper.mk _ (Op.binOp BinOp.lss _ _ _ _) _ _ _ none) _ _ _ _; first | (refine O_lss_t rfl rfl (by omega) ?_) | (refine O_lss_f rfl rfl (by omega) ?_) | (refine O_lss rfl rfl ?_))
        | (guard_target =~ WO _ _ (Oper.mk _ (Op.binOp BinOp.gtr _ _ _ _) _ _ _ none) _ _ _ _; first | (refine O_gtr_t rfl rfl (by omega) ?_) | (refine O_gtr_f rfl rfl (by omega) ?_) | (refine O_gtr rfl rfl ?_) | (refine O_gtr_t (b := 0) rfl rfl (by omega) ?_) | (refine O_gtr_f (b := 0) rfl rfl (by omega) ?_) | (refine O_gtr (b := 0) rfl rfl ?_))
        | (guard_target =~ WO _ _ (Oper.mk _ (Op.binOp BinOp.sub _ _ _ _) _ _ _ none) _ _ _ _; first | (refine O_sub (b := 1) rfl rfl (by first | exact fit_i64 (by omega) | exact fit_u64 (by omega) | exact fit_u8 (by omega) | exact fit_i32 (by omega) | exact fit_u16 (by omega)) (by omega) ?_))
        | (guard_target =~ WO _ _ (Oper.mk _ (Op.indexAddr 134 _ _) _ _ _ none) _ _ _ _; first | (refine O_index_s1 sl134 rfl rfl (by omega) ?_)))
      refine W_drawn [] [0, 1, 2, 3, 4, 5, 6, 7, 8, 9, 10] mixed (by kernel_rfl) (by kernel_rfl) ?_
      repeat (first
        | (refine L_cons ?_)
        | (refine R_cons rfl ?_)
        | (refine W_seq ?_)
        | (refine W_region (by kernel_rfl) ?_)
        | (refine L_nil ?_)
        | (refine R_nil ?_)
        | (refine W_block ?_)
        | (refine W_skip ?_)
        | (refine W_exit ?_)
        | (refine W_ret ?_)
        | (guard_target =~ thenQ _ _ _ _ _; first | (refine T_next ?_) | (refine T_exit ?_) | (refine T_ret ?_))
        | (guard_target =~ blockQ _ _ _ _ _; first | (refine B_next ?_) | (refine B_same ?_) | (refine B_other (by kernel_rfl) ?_) | (refine B_ret ?_))
        | (refine W_true rfl rfl ?_)
        | (refine W_false rfl rfl ?_)
        | (guard_target =~ WO _ _ (Oper.mk _ (Op.load 5 _) _ _ _ none) _ _ _ _; first | (refine O_load on5 rfl hS.drew q1 ?_) | (refine O_load on5 rfl hS2.drew q2 ?_))
        | (guard_target =~ WO _ _ (Oper.mk _ (Op.assign _) _ _ _ none) _ _ _ _; first | (refine O_assign (v := .int _ (Nat.cast (0 : Nat))) rfl ?_) | (refine O_assign (v := .int _ (Nat.cast (-1 : Nat))) rfl ?_) | (refine O_assign (v := .int _ (Nat.cast (1 : Nat))) rfl ?_) | (refine O_assign (v := (.int _ (Nat.cast _))) rfl ?_) | (refine O_assign (v := (.bool _)) rfl ?_) | (refine O_assign (v := (.pointer _)) rfl ?_) | (refine O_assign (v := (.slice _ _ _)) rfl ?_) | (refine O_assign (v := (.agg _)) rfl ?_) | (refine O_assign (v := (.tuple _)) rfl ?_) | (refine O_assign (v := (.int _ _)) rfl ?_))
        | (guard_target =~ WO _ _ (Oper.mk _ (Op.move _) _ _ _ none) _ _ _ _; first | (refine O_move (v := (.int _ (Nat.cast _))) rfl ?_) | (refine O_move (v := (.bool _)) rfl ?_) | (refine O_move (v := (.pointer _)) rfl ?_) | (refine O_move (v := (.slice _ _ _)) rfl ?_) | (refine O_move (v := (.agg _)) rfl ?_) | (refine O_move (v := (.tuple _)) rfl ?_) | (refine O_move (v := (.int _ _)) rfl ?_))
        | (guard_target =~ WO _ _ (Oper.mk _ (Op.call _) _ _ _ none) _ _ _ _; first | (refine O_len Samg.underlying134 rfl rfl ?_))
        | (guard_target =~ WO _ _ (Oper.mk _ (Op.binOp BinOp.lss _ _ _ _) _ _ _ none) _ _ _ _; first | (refine O_lss_t rfl rfl (by omega) ?_) | (refine O_lss_f rfl rfl (by omega) ?_) | (refine O_lss rfl rfl ?_))
        | (guard_target =~ WO _ _ (Oper.mk _ (Op.binOp BinOp.gtr _ _ _ _) _ _ _ none) _ _ _ _; first | (refine O_gtr_t rfl rfl (by omega) ?_) | (refine O_gtr_f rfl rfl (by omega) ?_) | (refine O_gtr rfl rfl ?_) | (refine O_gtr_t (b := 0) rfl rfl (by omega) ?_) | (refine O_gtr_f (b := 0) rfl rfl (by omega) ?_) | (refine O_gtr (b := 0) rfl rfl ?_))
        | (guard_target =~ WO _ _ (Oper.mk _ (Op.binOp BinOp.sub _ _ _ _) _ _ _ none) _ _ _ _; first | (refine O_sub (b := 1) rfl rfl (by first | exact fit_i64 (by omega) | exact fit_u64 (by omega) | exact fit_u8 (by omega) | exact fit_i32 (by omega) | exact fit_u16 (by omega)) (by omega) ?_))
        | (guard_target =~ WO _ _ (Oper.mk _ (Op.indexAddr 134 _ _) _ _ _ none) _ _ _ _; first | (refine O_index_s1 sl134 rfl rfl (by omega) ?_)))
      refine ⟨m - 1, by omega, (hE.trans (Ext.drew _)).trans (Ext.drew _), m - 1, rfl, by omega, fun q h6 h7 => ?_, Has.mk ⟨rfl, rfl, rfl, trivial⟩⟩
      by_cases h8 : q = m - 1
      · rw [h8]; omega
      · exact he q (by omega) h7
  · repeat (first
      | (refine L_cons ?_)
      | (refine R_cons rfl ?_)
      | (refine W_seq ?_)
      | (refine W_region (by kernel_rfl) ?_)
      | (refine L_nil ?_)
      | (refine R_nil ?_)
      | (refine W_block ?_)
      | (refine W_skip ?_)
      | (refine W_exit ?_)
      | (refine W_ret ?_)
      | (guard_target =~ thenQ _ _ _ _ _; first | (refine T_next ?_) | (refine T_exit ?_) | (refine T_ret ?_))
      | (guard_target =~ blockQ _ _ _ _ _; first | (refine B_next ?_) | (refine B_same ?_) | (refine B_other (by kernel_rfl) ?_) | (refine B_ret ?_))
      | (refine W_true rfl rfl ?_)
      | (refine W_false rfl rfl ?_)
      | (guard_target =~ WO _ _ (Oper.mk _ (Op.assign _) _ _ _ none) _ _ _ _; first | (refine O_assign (v := .int _ (Nat.cast (0 : Nat))) rfl ?_) | (refine O_assign (v := .int _ (Nat.cast (-1 : Nat))) rfl ?_) | (refine O_assign (v := .int _ (Nat.cast (1 : Nat))) rfl ?_) | (refine O_assign (v := (.int _ (Nat.cast _))) rfl ?_) | (refine O_assign (v := (.bool _)) rfl ?_) | (refine O_assign (v := (.pointer _)) rfl ?_) | (refine O_assign (v := (.slice _ _ _)) rfl ?_) | (refine O_assign (v := (.agg _)) rfl ?_) | (refine O_assign (v := (.tuple _)) rfl ?_) | (refine O_assign (v := (.int _ _)) rfl ?_))
      | (guard_target =~ WO _ _ (Oper.mk _ (Op.move _) _ _ _ none) _ _ _ _; first | (refine O_move (v := (.int _ (Nat.cast _))) rfl ?_) | (refine O_move (v := (.bool _)) rfl ?_) | (refine O_move (v := (.pointer _)) rfl ?_) | (refine O_move (v := (.slice _ _ _)) rfl ?_) | (refine O_move (v := (.agg _)) rfl ?_) | (refine O_move (v := (.tuple _)) rfl ?_) | (refine O_move (v := (.int _ _)) rfl ?_))
      | (guard_target =~ WO _ _ (Oper.mk _ (Op.call _) _ _ _ none) _ _ _ _; first | (refine O_len Samg.underlying134 rfl rfl ?_))
      | (guard_target =~ WO _ _ (Oper.mk _ (Op.binOp BinOp.lss _ _ _ _) _ _ _ none) _ _ _ _; first | (refine O_lss_t rfl rfl (by omega) ?_) | (refine O_lss_f rfl rfl (by omega) ?_) | (refine O_lss rfl rfl ?_))
      | (guard_target =~ WO _ _ (Oper.mk _ (Op.binOp BinOp.gtr _ _ _ _) _ _ _ none) _ _ _ _; first | (refine O_gtr_t rfl rfl (by omega) ?_) | (refine O_gtr_f rfl rfl (by omega) ?_) | (refine O_gtr rfl rfl ?_) | (refine O_gtr_t (b := 0) rfl rfl (by omega) ?_) | (refine O_gtr_f (b := 0) rfl rfl (by omega) ?_) | (refine O_gtr (b := 0) rfl rfl ?_))
      | (guard_target =~ WO _ _ (Oper.mk _ (Op.binOp BinOp.sub _ _ _ _) _ _ _ none) _ _ _ _; first | (refine O_sub (b := 1) rfl rfl (by first | exact fit_i64 (by omega) | exact fit_u64 (by omega) | exact fit_u8 (by omega) | exact fit_i32 (by omega) | exact fit_u16 (by omega)) (by omega) ?_))
      | (guard_target =~ WO _ _ (Oper.mk _ (Op.indexAddr 134 _ _) _ _ _ none) _ _ _ _; first | (refine O_index_s1 sl134 rfl rfl (by omega) ?_)))
    refine E_ret (v := .int .i8 0) rfl rfl rfl ⟨?_, hE⟩
    rw [cmpZ_eq]
    rw [← hv, ← hv2]
    exact val_congr fun q hq => he q (by omega) hq
end Go.Proofs.Ygcsam
