import Derived.Test.YgcsamF2
namespace Go.Proofs.Ygcsam
set_option linter.unusedVariables false
set_option maxHeartbeats 1000000

/-- The 85 bytes that madeBy2 hashes. -/
def lst2 (a : Nat) (h : Nat → Nat) : Nat → Nat := jn 1 20 32 (fun _ => 255) (adr a) (fun _ => 0) h
theorem lst2_lt {a : Nat} {h : Nat → Nat} (ha : a < 256) (hh : ∀ j, h j < 256) : ∀ j, j < 85 → lst2 a h j < 256 := by
  intro j hj
  unfold lst2 jn adr
  simp only []
  split
  · omega
  · split
    · split <;> omega
    · split
      · omega
      · exact hh _
theorem sumF_lt (g : Nat → Nat) (len j : Nat) : sumF g len j < 256 := oK_lt _ _ _

/-- What is known of the operations of madeBy2's third statement. -/
def asr2 (B a : Nat) (h : Nat → Nat) (i : Nat) (v : Value) (w : World) : Prop :=
  match i with
  | 0 => BS w v 1 fun _ => 255
  | 1 => BS w v 20 (adr a)
  | 2 => BS w v 32 fun _ => 0
  | 3 => BS w v 32 h
  | 4 => BS w v 85 (lst2 a h)
  | 5 => v = .agg (ns .u8 32 (sumF (lst2 a h) 85))
  | _ => ∃ b, B ≤ b ∧ v = .pointer (some ⟨b, 0, none⟩) ∧ Blk w b (ns .u8 32 fun _ => 0) 30

theorem asr2_mono (B a : Nat) (h : Nat → Nat) : ∀ i v w w', asr2 B a h i v w → Ext w w' → asr2 B a h i v w' := by
  intro i v w w' hA hE
  match i, hA with
  | 0, hA => exact BS.ext hA hE
  | 1, hA => exact BS.ext hA hE
  | 2, hA => exact BS.ext hA hE
  | 3, hA => exact BS.ext hA hE
  | 4, hA => exact BS.ext hA hE
  | 5, hA => exact hA
  | i + 6, hA => obtain ⟨b, h1, h2, h3⟩ := hA; exact ⟨b, h1, h2, h3.ext hE⟩

set_option maxRecDepth 4000 in
theorem madeBy2_ok {a len : Nat} {v0 : Value} {g : Nat → Nat} {w : World} (ha : a < 256) (hg : BS w v0 len g) (hgl : ∀ i, i < len → g i < 256) (hlen : len ≤ 1000) :
    Ret Samg.prog 9 #[.agg (ns .u8 20 (adr a)), .agg (ns .u8 32 fun _ => 0), v0] w fun v w' => v = .agg (ns .u8 20 (low20 (sumF (lst2 a (sumF g len)) 85))) ∧ Ext w w' := by
  obtain ⟨bv, ov, cv, rfl⟩ := bs_val hg
  refine W_enter (l := [.agg (ns .u8 20 (adr a)), .agg (ns .u8 32 fun _ => 0), _]) Samg.func9 rfl Samg.ntmps9 rfl ?_
  repeat (first
    | (refine L_cons ?_)
    | (refine R_cons rfl ?_)
    | (refine W_seq ?_)
    | (refine W_region (by kernel_rfl) ?_)
    | (refine L_nil ?_)
    | (refine R_nil ?_)
    | (refine W_block ?_)
    | (refine W_skip ?_)
    | (refine W_exit ?_)
    | (refine W_ret ?_)
    | (guard_target =~ thenQ _ _ _ _ _; first | (refine T_next ?_) | (refine T_exit ?_) | (refine T_ret ?_))
    | (guard_target =~ blockQ _ _ _ _ _; first | (refine B_next ?_) | (refine B_same ?_) | (refine B_other (by kernel_rfl) ?_) | (refine B_ret ?_))
    | (refine W_true rfl rfl ?_)
    | (refine W_false rfl rfl ?_)
    | (guard_target =~ WO _ _ (Oper.mk _ (Op.move _) _ _ _ none) _ _ _ _; first | (refine O_move (v := (.int _ (Nat.cast _))) rfl ?_) | (refine O_move (v := (.bool _)) rfl ?_) | (refine O_move (v := (.pointer _)) rfl ?_) | (refine O_move (v := (.slice _ _ _)) rfl ?_) | (refine O_move (v := (.agg _)) rfl ?_) | (refine O_move (v := (.tuple _)) rfl ?_) | (refine O_move (v := (.int _ _)) rfl ?_))
    | (guard_target =~ WO _ _ (Oper.mk _ (Op.slice 24 _ none none none) _ _ _ none) _ _ _ _; first | (refine O_slice_a ar24 rfl rfl rfl rfl (fun h => by cases h) (by omega) (by omega) (by omega) ?_))
    | (guard_target =~ WO _ _ (Oper.mk _ (Op.slice 30 _ none none none) _ _ _ none) _ _ _ _; first | (refine O_slice_a ar30 rfl rfl rfl rfl (fun h => by cases h) (by omega) (by omega) (by omega) ?_))
    | (guard_target =~ WO _ _ (Oper.mk _ (Op.slice 30 _ (some _) (some _) none) _ _ _ none) _ _ _ _; first | (refine O_slice_a (l := 12) (h := 32) ar30 rfl ⟨_, rfl⟩ ⟨_, rfl⟩ rfl (fun h => by cases h) (by omega) (by omega) (by omega) ?_)))
  refine O_box rfl fun w1 hE1 hs1 h3 => ?_
  replace h3 : Blk w1 w.heap.size (ns .u8 20 (adr a)) 24 := h3
  repeat (first
    | (refine L_cons ?_)
    | (refine R_cons rfl ?_)
    | (refine W_seq ?_)
    | (refine W_region (by kernel_rfl) ?_)
    | (refine L_nil ?_)
    | (refine R_nil ?_)
    | (refine W_block ?_)
    | (refine W_skip ?_)
    | (refine W_exit ?_)
    | (refine W_ret ?_)
    | (guard_target =~ thenQ _ _ _ _ _; first | (refine T_next ?_) | (refine T_exit ?_) | (refine T_ret ?_))
    | (guard_target =~ blockQ _ _ _ _ _; first | (refine B_next ?_) | (refine B_same ?_) | (refine B_other (by kernel_rfl) ?_) | (refine B_ret ?_))
    | (refine W_true rfl rfl ?_)
    | (refine W_false rfl rfl ?_)
    | (guard_target =~ WO _ _ (Oper.mk _ (Op.move _) _ _ _ none) _ _ _ _; first | (refine O_move (v := (.int _ (Nat.cast _))) rfl ?_) | (refine O_move (v := (.bool _)) rfl ?_) | (refine O_move (v := (.pointer _)) rfl ?_) | (refine O_move (v := (.slice _ _ _)) rfl ?_) | (refine O_move (v := (.agg _)) rfl ?_) | (refine O_move (v := (.tuple _)) rfl ?_) | (refine O_move (v := (.int _ _)) rfl ?_))
    | (guard_target =~ WO _ _ (Oper.mk _ (Op.slice 24 _ none none none) _ _ _ none) _ _ _ _; first | (refine O_slice_a ar24 rfl rfl rfl rfl (fun h => by cases h) (by omega) (by omega) (by omega) ?_))
    | (guard_target =~ WO _ _ (Oper.mk _ (Op.slice 30 _ none none none) _ _ _ none) _ _ _ _; first | (refine O_slice_a ar30 rfl rfl rfl rfl (fun h => by cases h) (by omega) (by omega) (by omega) ?_))
    | (guard_target =~ WO _ _ (Oper.mk _ (Op.slice 30 _ (some _) (some _) none) _ _ _ none) _ _ _ _; first | (refine O_slice_a (l := 12) (h := 32) ar30 rfl ⟨_, rfl⟩ ⟨_, rfl⟩ rfl (fun h => by cases h) (by omega) (by omega) (by omega) ?_)))
  refine O_box rfl fun w2 hE2 hs2 h4 => ?_
  replace h4 : Blk w2 w1.heap.size (ns .u8 32 fun _ => 0) 30 := h4
  repeat (first
    | (refine L_cons ?_)
    | (refine R_cons rfl ?_)
    | (refine W_seq ?_)
    | (refine W_region (by kernel_rfl) ?_)
    | (refine L_nil ?_)
    | (refine R_nil ?_)
    | (refine W_block ?_)
    | (refine W_skip ?_)
    | (refine W_exit ?_)
    | (refine W_ret ?_)
    | (guard_target =~ thenQ _ _ _ _ _; first | (refine T_next ?_) | (refine T_exit ?_) | (refine T_ret ?_))
    | (guard_target =~ blockQ _ _ _ _ _; first | (refine B_next ?_) | (refine B_same ?_) | (refine B_other (by kernel_rfl) ?_) | (refine B_ret ?_))
    | (refine W_true rfl rfl ?_)
    | (refine W_false rfl rfl ?_)
    | (guard_target =~ WO _ _ (Oper.mk _ (Op.move _) _ _ _ none) _ _ _ _; first | (refine O_move (v := (.int _ (Nat.cast _))) rfl ?_) | (refine O_move (v := (.bool _)) rfl ?_) | (refine O_move (v := (.pointer _)) rfl ?_) | (refine O_move (v := (.slice _ _ _)) rfl ?_) | (refine O_move (v := (.agg _)) rfl ?_) | (refine O_move (v := (.tuple _)) rfl ?_) | (refine O_move (v := (.int _ _)) rfl ?_))
    | (guard_target =~ WO _ _ (Oper.mk _ (Op.slice 24 _ none none none) _ _ _ none) _ _ _ _; first | (refine O_slice_a ar24 rfl rfl rfl rfl (fun h => by cases h) (by omega) (by omega) (by omega) ?_))
    | (guard_target =~ WO _ _ (Oper.mk _ (Op.slice 30 _ none none none) _ _ _ none) _ _ _ _; first | (refine O_slice_a ar30 rfl rfl rfl rfl (fun h => by cases h) (by omega) (by omega) (by omega) ?_))
    | (guard_target =~ WO _ _ (Oper.mk _ (Op.slice 30 _ (some _) (some _) none) _ _ _ none) _ _ _ _; first | (refine O_slice_a (l := 12) (h := 32) ar30 rfl ⟨_, rfl⟩ ⟨_, rfl⟩ rfl (fun h => by cases h) (by omega) (by omega) (by omega) ?_)))
  refine O_alloc_agg z24 fun w3 hE3 hs3 h6 => ?_
  have g6 : w.heap.size ≤ w2.heap.size := (hE1.trans hE2).size
  have hE := (hE1.trans hE2).trans hE3
  replace h3 := (h3.ext hE2).ext hE3
  replace h4 := h4.ext hE3
  replace hg := hg.ext hE
  clear hE1 hE2 hE3 hs1 hs2 hs3
  generalize w.heap.size = b3 at h3 ⊢
  generalize w1.heap.size = b4 at h4 ⊢
  generalize w2.heap.size = b6 at h6 g6 ⊢
  clear w1 w2
  repeat (first
    | (refine L_cons ?_)
    | (refine R_cons rfl ?_)
    | (refine W_seq ?_)
    | (refine W_region (by kernel_rfl) ?_)
    | (refine L_nil ?_)
    | (refine R_nil ?_)
    | (refine W_block ?_)
    | (refine W_skip ?_)
    | (refine W_exit ?_)
    | (refine W_ret ?_)
    | (guard_target =~ thenQ _ _ _ _ _; first | (refine T_next ?_) | (refine T_exit ?_) | (refine T_ret ?_))
    | (guard_target =~ blockQ _ _ _ _ _; first | (refine B_next ?_) | (refine B_same ?_) | (refine B_other (by kernel_rfl) ?_) | (refine B_ret ?_))
    | (refine W_true rfl rfl ?_)
    | (refine W_false rfl rfl ?_)
    | (guard_target =~ WO _ _ (Oper.mk _ (Op.move _) _ _ _ none) _ _ _ _; first | (refine O_move (v := (.int _ (Nat.cast _))) rfl ?_) | (refine O_move (v := (.bool _)) rfl ?_) | (refine O_move (v := (.pointer _)) rfl ?_) | (refine O_move (v := (.slice _ _ _)) rfl ?_) | (refine O_move (v := (.agg _)) rfl ?_) | (refine O_move (v := (.tuple _)) rfl ?_) | (refine O_move (v := (.int _ _)) rfl ?_))
    | (guard_target =~ WO _ _ (Oper.mk _ (Op.slice 24 _ none none none) _ _ _ none) _ _ _ _; first | (refine O_slice_a ar24 rfl rfl rfl rfl (fun h => by cases h) (by omega) (by omega) (by omega) ?_))
    | (guard_target =~ WO _ _ (Oper.mk _ (Op.slice 30 _ none none none) _ _ _ none) _ _ _ _; first | (refine O_slice_a ar30 rfl rfl rfl rfl (fun h => by cases h) (by omega) (by omega) (by omega) ?_))
    | (guard_target =~ WO _ _ (Oper.mk _ (Op.slice 30 _ (some _) (some _) none) _ _ _ none) _ _ _ _; first | (refine O_slice_a (l := 12) (h := 32) ar30 rfl ⟨_, rfl⟩ ⟨_, rfl⟩ rfl (fun h => by cases h) (by omega) (by omega) (by omega) ?_)))
  refine O_call (l := [.slice (some ⟨bv, ov, none⟩) len cv]) cl26 (by rfl) ((sum_bs hg hgl hlen).mono ?_)
  rintro v w5 ⟨rfl, hE5⟩
  refine ⟨nof, ?_⟩
  replace h3 := h3.ext hE5
  replace h4 := h4.ext hE5
  replace h6 := h6.ext hE5
  replace hE := hE.trans hE5
  clear hg hE5
  have hh : ∀ j, sumF g len j < 256 := sumF_lt g len
  generalize sumF g len = h at hh ⊢
  repeat (first
    | (refine L_cons ?_)
    | (refine R_cons rfl ?_)
    | (refine W_seq ?_)
    | (refine W_region (by kernel_rfl) ?_)
    | (refine L_nil ?_)
    | (refine R_nil ?_)
    | (refine W_block ?_)
    | (refine W_skip ?_)
    | (refine W_exit ?_)
    | (refine W_ret ?_)
    | (guard_target =~ thenQ _ _ _ _ _; first | (refine T_next ?_) | (refine T_exit ?_) | (refine T_ret ?_))
    | (guard_target =~ blockQ _ _ _ _ _; first | (refine B_next ?_) | (refine B_same ?_) | (refine B_other (by kernel_rfl) ?_) | (refine B_ret ?_))
    | (refine W_true rfl rfl ?_)
    | (refine W_false rfl rfl ?_)
    | (guard_target =~ WO _ _ (Oper.mk _ (Op.move _) _ _ _ none) _ _ _ _; first | (refine O_move (v := (.int _ (Nat.cast _))) rfl ?_) | (refine O_move (v := (.bool _)) rfl ?_) | (refine O_move (v := (.pointer _)) rfl ?_) | (refine O_move (v := (.slice _ _ _)) rfl ?_) | (refine O_move (v := (.agg _)) rfl ?_) | (refine O_move (v := (.tuple _)) rfl ?_) | (refine O_move (v := (.int _ _)) rfl ?_))
    | (guard_target =~ WO _ _ (Oper.mk _ (Op.slice 24 _ none none none) _ _ _ none) _ _ _ _; first | (refine O_slice_a ar24 rfl rfl rfl rfl (fun h => by cases h) (by omega) (by omega) (by omega) ?_))
    | (guard_target =~ WO _ _ (Oper.mk _ (Op.slice 30 _ none none none) _ _ _ none) _ _ _ _; first | (refine O_slice_a ar30 rfl rfl rfl rfl (fun h => by cases h) (by omega) (by omega) (by omega) ?_))
    | (guard_target =~ WO _ _ (Oper.mk _ (Op.slice 30 _ (some _) (some _) none) _ _ _ none) _ _ _ _; first | (refine O_slice_a (l := 12) (h := 32) ar30 rfl ⟨_, rfl⟩ ⟨_, rfl⟩ rfl (fun h => by cases h) (by omega) (by omega) (by omega) ?_)))
  refine O_alloc_agg z30 fun w7 hE7 hs7 h7 => ?_
  have n1 : b3 ≠ w5.heap.size := Nat.ne_of_lt h3.lt
  have n2 : b4 ≠ w5.heap.size := Nat.ne_of_lt h4.lt
  have n3 : b6 ≠ w5.heap.size := Nat.ne_of_lt h6.lt
  have n4 : w.heap.size ≤ w5.heap.size := hE.size
  replace h3 := h3.ext hE7
  replace h4 := h4.ext hE7
  replace h6 := h6.ext hE7
  replace hE := hE.trans hE7
  clear hE7 hs7
  generalize w5.heap.size = b7 at n1 n2 n3 n4 h7 ⊢
  repeat (first
    | (refine L_cons ?_)
    | (refine R_cons rfl ?_)
    | (refine W_seq ?_)
    | (refine W_region (by kernel_rfl) ?_)
    | (refine L_nil ?_)
    | (refine R_nil ?_)
    | (refine W_block ?_)
    | (refine W_skip ?_)
    | (refine W_exit ?_)
    | (refine W_ret ?_)
    | (guard_target =~ thenQ _ _ _ _ _; first | (refine T_next ?_) | (refine T_exit ?_) | (refine T_ret ?_))
    | (guard_target =~ blockQ _ _ _ _ _; first | (refine B_next ?_) | (refine B_same ?_) | (refine B_other (by kernel_rfl) ?_) | (refine B_ret ?_))
    | (refine W_true rfl rfl ?_)
    | (refine W_false rfl rfl ?_)
    | (guard_target =~ WO _ _ (Oper.mk _ (Op.move _) _ _ _ none) _ _ _ _; first | (refine O_move (v := (.int _ (Nat.cast _))) rfl ?_) | (refine O_move (v := (.bool _)) rfl ?_) | (refine O_move (v := (.pointer _)) rfl ?_) | (refine O_move (v := (.slice _ _ _)) rfl ?_) | (refine O_move (v := (.agg _)) rfl ?_) | (refine O_move (v := (.tuple _)) rfl ?_) | (refine O_move (v := (.int _ _)) rfl ?_))
    | (guard_target =~ WO _ _ (Oper.mk _ (Op.slice 24 _ none none none) _ _ _ none) _ _ _ _; first | (refine O_slice_a ar24 rfl rfl rfl rfl (fun h => by cases h) (by omega) (by omega) (by omega) ?_))
    | (guard_target =~ WO _ _ (Oper.mk _ (Op.slice 30 _ none none none) _ _ _ none) _ _ _ _; first | (refine O_slice_a ar30 rfl rfl rfl rfl (fun h => by cases h) (by omega) (by omega) (by omega) ?_))
    | (guard_target =~ WO _ _ (Oper.mk _ (Op.slice 30 _ (some _) (some _) none) _ _ _ none) _ _ _ _; first | (refine O_slice_a (l := 12) (h := 32) ar30 rfl ⟨_, rfl⟩ ⟨_, rfl⟩ rfl (fun h => by cases h) (by omega) (by omega) (by omega) ?_)))
  refine O_store_nss ag30 rfl rfl h7 (by omega) rfl fun w8 hU => ?_
  replace h3 := h3.upd hU n1
  replace h4 := h4.upd hU n2
  replace h6 := h6.upd hU n3
  replace hE := hE.upd hU n4
  replace h7 := hU.here
  rw [ns_congr (g := h) (fun j hj => by rw [if_pos (by omega), Nat.sub_zero])] at h7
  clear hU
  repeat (first
    | (refine L_cons ?_)
    | (refine R_cons rfl ?_)
    | (refine W_seq ?_)
    | (refine W_region (by kernel_rfl) ?_)
    | (refine L_nil ?_)
    | (refine R_nil ?_)
    | (refine W_block ?_)
    | (refine W_skip ?_)
    | (refine W_exit ?_)
    | (refine W_ret ?_)
    | (guard_target =~ thenQ _ _ _ _ _; first | (refine T_next ?_) | (refine T_exit ?_) | (refine T_ret ?_))
    | (guard_target =~ blockQ _ _ _ _ _; first | (refine B_next ?_) | (refine B_same ?_) | (refine B_other (by kernel_rfl) ?_) | (refine B_ret ?_))
    | (refine W_true rfl rfl ?_)
    | (refine W_false rfl rfl ?_)
    | (guard_target =~ WO _ _ (Oper.mk _ (Op.move _) _ _ _ none) _ _ _ _; first | (refine O_move (v := (.int _ (Nat.cast _))) rfl ?_) | (refine O_move (v := (.bool _)) rfl ?_) | (refine O_move (v := (.pointer _)) rfl ?_) | (refine O_move (v := (.slice _ _ _)) rfl ?_) | (refine O_move (v := (.agg _)) rfl ?_) | (refine O_move (v := (.tuple _)) rfl ?_) | (refine O_move (v := (.int _ _)) rfl ?_))
    | (guard_target =~ WO _ _ (Oper.mk _ (Op.slice 24 _ none none none) _ _ _ none) _ _ _ _; first | (refine O_slice_a ar24 rfl rfl rfl rfl (fun h => by cases h) (by omega) (by omega) (by omega) ?_))
    | (guard_target =~ WO _ _ (Oper.mk _ (Op.slice 30 _ none none none) _ _ _ none) _ _ _ _; first | (refine O_slice_a ar30 rfl rfl rfl rfl (fun h => by cases h) (by omega) (by omega) (by omega) ?_))
    | (guard_target =~ WO _ _ (Oper.mk _ (Op.slice 30 _ (some _) (some _) none) _ _ _ none) _ _ _ _; first | (refine O_slice_a (l := 12) (h := 32) ar30 rfl ⟨_, rfl⟩ ⟨_, rfl⟩ rfl (fun h => by cases h) (by omega) (by omega) (by omega) ?_)))
  refine W_indep 7 (asr2 w8.heap.size a h) mixed (by kernel_rfl) (asr2_mono _ _ _) ?_ ?_
  · intro i o hi ho ρ w' hE' hk hA
    have k3 := hk.get (t := 3) (by kernel_rfl)
    have k4 := hk.get (t := 4) (by kernel_rfl)
    have k7 := hk.get (t := 7) (by kernel_rfl)
    have hge : w8.heap.size ≤ w'.heap.size := hE'.size
    rcases (show i = 0 ∨ i = 1 ∨ i = 2 ∨ i = 3 ∨ i = 4 ∨ i = 5 ∨ i = 6 by omega) with rfl | rfl | rfl | rfl | rfl | rfl | rfl
    · obtain rfl := Option.some.inj ho
      refine O_lit (c := #[.int .u8 ((255 : Nat) : Int)]) sl31 z5 rfl (by kernel_rfl) (by kernel_rfl) (by kernel_rfl) fun w9 hE9 hs9 hl9 => ?_
      exact ⟨_, rfl, _, _, _, _, _, rfl, hl9, by simp, fun i hi => by obtain rfl : i = 0 := (by omega); rfl⟩
    · obtain rfl := Option.some.inj ho
      refine O_slice_a ar24 k3 rfl rfl rfl (fun h => by cases h) (by omega) (by omega) (by omega) ?_
      exact ⟨_, rfl, BS.ns (h3.ext hE') (by omega)⟩
    · obtain rfl := Option.some.inj ho
      refine O_slice_a ar30 k4 rfl rfl rfl (fun h => by cases h) (by omega) (by omega) (by omega) ?_
      exact ⟨_, rfl, BS.ns (h4.ext hE') (by omega)⟩
    · obtain rfl := Option.some.inj ho
      refine O_slice_a ar30 k7 rfl rfl rfl (fun h => by cases h) (by omega) (by omega) (by omega) ?_
      exact ⟨_, rfl, BS.ns (h7.ext hE') (by omega)⟩
    · obtain rfl := Option.some.inj ho
      have a0 : BS w' (ρ 11) 1 fun _ => 255 := hA 0 (mem_direct (by kernel_rfl))
      have a1 : BS w' (ρ 12) 20 (adr a) := hA 1 (mem_direct (by kernel_rfl))
      have a2 : BS w' (ρ 13) 32 fun _ => 0 := hA 2 (mem_direct (by kernel_rfl))
      have a3 : BS w' (ρ 14) 32 h := hA 3 (mem_direct (by kernel_rfl))
      refine O_call (l := [ρ 11, ρ 12, ρ 13, ρ 14]) cl25 (by rfl) ((join_ok a0 a1 a2 a3 (by omega) (by omega)).mono ?_)
      rintro v w9 ⟨hE9, hB9⟩
      exact ⟨fun _ => hE9, v, rfl, hB9⟩
    · obtain rfl := Option.some.inj ho
      have a4 : BS w' (ρ 15) 85 (lst2 a h) := hA 4 (mem_direct (by kernel_rfl))
      refine O_call (l := [ρ 15]) cl26 (by rfl) ((sum_bs a4 (lst2_lt ha hh) (by omega)).mono ?_)
      rintro v w9 ⟨rfl, hE9⟩
      exact ⟨fun _ => hE9, _, rfl, rfl⟩
    · obtain rfl := Option.some.inj ho
      refine O_alloc_agg z30 fun w9 hE9 hs9 h9 => ?_
      exact ⟨_, rfl, _, hge, rfl, h9⟩
  · intro o ho ρ w' hE' hk hA
    obtain rfl := Option.some.inj ho
    have k6 := hk.get (t := 6) (by kernel_rfl)
    have a5 : ρ 16 = .agg (ns .u8 32 (sumF (lst2 a h) 85)) := hA 5 (by omega)
    obtain ⟨b8, hb8, a6, h8⟩ : ∃ b, w8.heap.size ≤ b ∧ ρ 8 = .pointer (some ⟨b, 0, none⟩) ∧ Blk w' b (ns .u8 32 fun _ => 0) 30 := hA 6 (by omega)
    have n6 : b6 ≠ b8 := by have := h6.lt; omega
    refine O_store_nss ag30 a6 a5 h8 (by omega) rfl fun w9 hU9 => ?_
    replace h6 := (h6.ext hE').upd hU9 n6
    replace hE := (hE.trans hE').upd hU9 (by have := hE.size; omega)
    have hF : Has ρ [(6, .pointer (some ⟨b6, 0, none⟩)), (8, .pointer (some ⟨b8, 0, none⟩))] := Has.mk ⟨k6, a6, trivial⟩
    obtain ⟨σ, rfl⟩ := hF
    repeat (first
      | (refine L_cons ?_)
      | (refine R_cons rfl ?_)
      | (refine W_seq ?_)
      | (refine W_region (by kernel_rfl) ?_)
      | (refine L_nil ?_)
      | (refine R_nil ?_)
      | (refine W_block ?_)
      | (refine W_skip ?_)
      | (refine W_exit ?_)
      | (refine W_ret ?_)
      | (guard_target =~ thenQ _ _ _ _ _; first | (refine T_next ?_) | (refine T_exit ?_) | (refine T_ret ?_))
      | (guard_target =~ blockQ _ _ _ _ _; first | (refine B_next ?_) | (refine B_same ?_) | (refine B_other (by kernel_rfl) ?_) | (refine B_ret ?_))
      | (refine W_true rfl rfl ?_)
      | (refine W_false rfl rfl ?_)
      | (refine O_arrp ar24 rfl (by omega) ?_)
      | (guard_target =~ WO _ _ (Oper.mk _ (Op.load 24 _) _ _ _ none) _ _ _ _; first | (refine O_load_nss ag24 rfl hU9.here (by split <;> omega) ?_))
      | (guard_target =~ WO _ _ (Oper.mk _ (Op.move _) _ _ _ none) _ _ _ _; first | (refine O_move (v := (.int _ (Nat.cast _))) rfl ?_) | (refine O_move (v := (.bool _)) rfl ?_) | (refine O_move (v := (.pointer _)) rfl ?_) | (refine O_move (v := (.slice _ _ _)) rfl ?_) | (refine O_move (v := (.agg _)) rfl ?_) | (refine O_move (v := (.tuple _)) rfl ?_) | (refine O_move (v := (.int _ _)) rfl ?_))
      | (guard_target =~ WO _ _ (Oper.mk _ (Op.slice 24 _ none none none) _ _ _ none) _ _ _ _; first | (refine O_slice_a ar24 rfl rfl rfl rfl (fun h => by cases h) (by omega) (by omega) (by omega) ?_))
      | (guard_target =~ WO _ _ (Oper.mk _ (Op.slice 30 _ none none none) _ _ _ none) _ _ _ _; first | (refine O_slice_a ar30 rfl rfl rfl rfl (fun h => by cases h) (by omega) (by omega) (by omega) ?_))
      | (guard_target =~ WO _ _ (Oper.mk _ (Op.slice 30 _ (some _) (some _) none) _ _ _ none) _ _ _ _; first | (refine O_slice_a (l := 12) (h := 32) ar30 rfl ⟨_, rfl⟩ ⟨_, rfl⟩ rfl (fun h => by cases h) (by omega) (by omega) (by omega) ?_)))
    refine O_store_nss ag24 rfl rfl h6 (by omega) rfl fun w10 hU10 => ?_
    repeat (first
      | (refine L_cons ?_)
      | (refine R_cons rfl ?_)
      | (refine W_seq ?_)
      | (refine W_region (by kernel_rfl) ?_)
      | (refine L_nil ?_)
      | (refine R_nil ?_)
      | (refine W_block ?_)
      | (refine W_skip ?_)
      | (refine W_exit ?_)
      | (refine W_ret ?_)
      | (guard_target =~ thenQ _ _ _ _ _; first | (refine T_next ?_) | (refine T_exit ?_) | (refine T_ret ?_))
      | (guard_target =~ blockQ _ _ _ _ _; first | (refine B_next ?_) | (refine B_same ?_) | (refine B_other (by kernel_rfl) ?_) | (refine B_ret ?_))
      | (refine W_true rfl rfl ?_)
      | (refine W_false rfl rfl ?_)
      | (guard_target =~ WO _ _ (Oper.mk _ (Op.move _) _ _ _ none) _ _ _ _; first | (refine O_move (v := (.int _ (Nat.cast _))) rfl ?_) | (refine O_move (v := (.bool _)) rfl ?_) | (refine O_move (v := (.pointer _)) rfl ?_) | (refine O_move (v := (.slice _ _ _)) rfl ?_) | (refine O_move (v := (.agg _)) rfl ?_) | (refine O_move (v := (.tuple _)) rfl ?_) | (refine O_move (v := (.int _ _)) rfl ?_))
      | (guard_target =~ WO _ _ (Oper.mk _ (Op.slice 24 _ none none none) _ _ _ none) _ _ _ _; first | (refine O_slice_a ar24 rfl rfl rfl rfl (fun h => by cases h) (by omega) (by omega) (by omega) ?_))
      | (guard_target =~ WO _ _ (Oper.mk _ (Op.slice 30 _ none none none) _ _ _ none) _ _ _ _; first | (refine O_slice_a ar30 rfl rfl rfl rfl (fun h => by cases h) (by omega) (by omega) (by omega) ?_))
      | (guard_target =~ WO _ _ (Oper.mk _ (Op.slice 30 _ (some _) (some _) none) _ _ _ none) _ _ _ _; first | (refine O_slice_a (l := 12) (h := 32) ar30 rfl ⟨_, rfl⟩ ⟨_, rfl⟩ rfl (fun h => by cases h) (by omega) (by omega) (by omega) ?_)))
    refine E_ns rfl rfl ag24 rfl hU10.here ⟨?_, hE.upd hU10 g6⟩
    rw [ns_congr (g := low20 (sumF (lst2 a h) 85))]
    intro j hj
    rw [if_pos (by omega), if_neg (show ¬ 32 = 12 by omega), if_pos (by omega), low20]
    exact congrArg _ (by omega)
end Go.Proofs.Ygcsam
