/-
  RULES FOR At: rows of words and the block of the totals, told in full. Own work.
-/
import Derived.Test.YgcsamX1
namespace Go.Proofs.Ygcsam
set_option linter.unusedVariables false
set_option linter.unusedSimpArgs false
def fl4 (F : Nat → Nat → Nat) : Nat → Nat := fun j => F (j / 4) (j % 4)
theorem fl4_lt {F : Nat → Nat → Nat} (h : ∀ i k, F i k < 18446744073709551616) : ∀ j, fl4 F j < 18446744073709551616 := fun j => h _ _
theorem fl4_at (F : Nat → Nat → Nat) {i k : Nat} (hk : k < 4) : fl4 F (i * 4 + k) = F i k := by
  unfold fl4
  rw [show (i * 4 + k) / 4 = i by omega, show (i * 4 + k) % 4 = k by omega]
theorem fl4_up {n i : Nat} {F : Nat → Nat → Nat} {g : Nat → Nat} : ns .u64 n (fun j => if i * 4 + 0 ≤ j ∧ j < i * 4 + 0 + 4 then g (j - (i * 4 + 0)) else fl4 F j) = ns .u64 n (fl4 (upF F i g)) :=
  ns_congr fun j hj => by
    by_cases h : i * 4 + 0 ≤ j ∧ j < i * 4 + 0 + 4
    · rw [if_pos h]
      unfold fl4 upF
      rw [if_pos (by omega), show j % 4 = j - (i * 4 + 0) by omega]
    · rw [if_neg h]
      unfold fl4 upF
      rw [if_neg (by omega)]
section
variable {P : Program} {ops : Array Oper} {e : Bool} {K : Env → World → Prop} {ρ : Env} {w w0 : World} {d : Nat} {ty : TypeId} {pos : String} {af : Array Edge} {B : Nat} {L : List Fact} {M : List (Nat × Array Value)}
theorem O_loadR {t b i n : Nat} {F : Nat → Nat → Nat} {x : Operand} {tb : TypeId} (hb : Blk w b (ns .u64 (n * 4) (fl4 F)) tb) (ht : aggT P t 4) (hx : ev ρ x = .pointer (some ⟨b, i * 4 + 0, none⟩)) (hi : i < n) (k : K (put ρ d (.agg (ns .u64 4 (F i)))) w) : WO P ops ⟨some d, .load t x, ty, pos, af, none⟩ e K ρ w :=
  O_load_nss ht hx hb (by omega) (by
    rw [show (ns .u64 4 fun j => fl4 F (i * 4 + 0 + j)) = ns .u64 4 (F i) from ns_congr fun j hj => by rw [Nat.add_zero, fl4_at F hj]]
    exact k)
theorem O_load4 {t b : Nat} {g : Nat → Nat} {x : Operand} {tb : TypeId} (hb : Blk w b (ns .u64 4 g) tb) (ht : aggT P t 4) (hx : ev ρ x = .pointer (some ⟨b, 0, none⟩)) (k : K (put ρ d (.agg (ns .u64 4 g))) w) : WO P ops ⟨some d, .load t x, ty, pos, af, none⟩ e K ρ w :=
  O_load_nss ht hx hb (by omega) (by
    rw [show (ns .u64 4 fun j => g (0 + j)) = ns .u64 4 g from ns_congr fun j hj => by rw [Nat.zero_add]]
    exact k)
theorem O_store4 {t b : Nat} {f g : Nat → Nat} {x y : Operand} (h : TS B w0 w L M) (hb : Blk w b (ns .u64 4 f) 45) (hn : w0.heap.size ≤ b) (ht : aggT P t 4) (hx : ev ρ x = .pointer (some ⟨b, 0, none⟩)) (hy : ev ρ y = .agg (ns .u64 4 g)) (hg : ∀ i, g i < 18446744073709551616) (he : e = false)
    (k : ∀ w', TS B w0 w' L M → Upd w w' b (ns .u64 4 g) 45 → K ρ w') : WO P ops ⟨none, .store t x y, ty, pos, af, none⟩ e K ρ w :=
  O_store_nss ht hx hy hb (by omega) he fun w' hu => by
    rw [show ns .u64 4 (fun j => if 0 ≤ j ∧ j < 0 + 4 then g (j - 0) else f j) = ns .u64 4 g from ns_congr fun j hj => by rw [if_pos (by omega), Nat.sub_zero]] at hu
    exact k w' (h.upd hn hb hu (by rw [ns_size, ns_size]) (ns_ok64 hg)) hu
theorem O_storeR {t b i n : Nat} {F : Nat → Nat → Nat} {g : Nat → Nat} {x y : Operand} (h : TS B w0 w L M) (hb : Blk w b (ns .u64 (n * 4) (fl4 F)) 45) (hn : w0.heap.size ≤ b) (ht : aggT P t 4) (hx : ev ρ x = .pointer (some ⟨b, i * 4 + 0, none⟩)) (hi : i < n) (hy : ev ρ y = .agg (ns .u64 4 g)) (hF : ∀ i k, F i k < 18446744073709551616) (hg : ∀ i, g i < 18446744073709551616) (he : e = false)
    (k : ∀ w', TS B w0 w' L M → Upd w w' b (ns .u64 (n * 4) (fl4 (upF F i g))) 45 → K ρ w') : WO P ops ⟨none, .store t x y, ty, pos, af, none⟩ e K ρ w :=
  O_store_nss ht hx hy hb (by omega) he fun w' hu => by
    rw [fl4_up] at hu
    exact k w' (h.upd hn hb hu (by rw [ns_size, ns_size]) (ns_ok64 (fl4_lt fun i k => by unfold upF; split; exact hg k; exact hF i k))) hu
theorem zs_word (n : Nat) : zs (n * 4) (ns .u64 4 fun _ => 0) = ns .u64 (n * 4) (fl4 fun _ _ => 0) := by
  refine ns_ext (by simp [zs]) fun i hi => ?_
  have hlt : i % 4 < (ns .u64 4 fun _ => 0).size := by rw [ns_size]; omega
  unfold zs
  simp only [Array.getElem?_map, Array.getElem?_range, hi, if_true, Option.map_some]
  rw [ns_size, getElem!_pos (ns IntKind.u64 4 fun _ => 0) (i % 4) hlt]
  have := ns_get (kd := .u64) (n := 4) (f := fun _ => 0) (i := i % 4) (by omega)
  rw [Array.getElem?_eq_getElem hlt] at this
  exact this
theorem O_mkW {t by_ l : Nat} {kl kc : IntKind} {x y : Operand} (h : TS B w0 w L M) (ht : slcT P t 45 4) (hby : bytesT P 45 by_) (hz : zeroT P 45 (.agg (ns .u64 4 fun _ => 0))) (hx : ev ρ x = .int kl (l : Nat)) (hy : ev ρ y = .int kc (l : Nat)) (hl : l < 1099511627776) (hb : by_ * l ≤ 281474976710656)
    (k : ∀ w' b, Ext w w' → w.heap.size ≤ b → w0.heap.size ≤ b → Blk w' b (ns .u64 (l * 4) (fl4 fun _ _ => 0)) 45 → TS B w0 w' ((45, some ⟨b, 0, none⟩, l, l) :: L) M → K (put ρ d (.slice (some ⟨b, 0, none⟩) l l)) w') : WO P ops ⟨some d, .makeSlice t x y, ty, pos, af, none⟩ e K ρ w := by
  have key : ∀ w' (c : Array Value), Ext w w' → w'.heap.size = w.heap.size + 1 → Blk w' w.heap.size c 45 → c = ns .u64 (l * 4) (fl4 fun _ _ => 0) → K (put ρ d (.slice (some ⟨w.heap.size, 0, none⟩) l l)) w' := by
    intro w' c hE hs hbk hc
    subst hc
    exact k w' _ hE (Nat.le_refl _) h.e.size hbk ((h.next hE (h.t.grow hE hs hbk fun j u hj => ns_ok64 (fl4_lt fun _ _ => by omega) j u hj)).addL (Sl.new h.t.sz hbk (by rw [ns_size]; rfl) (Nat.le_refl _) hl))
  by_cases hl0 : l = 0
  · subst hl0
    exact O_make0 ht hby hx hy fun w' hE hs hbk => key w' _ hE hs hbk rfl
  · exact O_make ht hby hz hx hy (Nat.le_refl _) (by omega) hb (by omega) fun w' hE hs hbk => key w' _ hE hs hbk (zs_word l)
/-! ### the block of the totals -/
theorem tot_ok {S : Nat → Nat} {wr : Bool} {r c : Nat} (hS : ∀ i, S i < 18446744073709551616) (hr : r < 18446744073709551616) (hc : c < 2147483648) : ∀ (o : Nat) (v : Value), (totC S wr r c)[o]? = some v → okV B w (lay 48 (o % csz 48)) v := by
  intro o v hv
  have ho : o < 7 := get_lt hv
  rw [show o % csz 48 = o from Nat.mod_eq_of_lt ho]
  match o, ho with
  | 0, _ => cases hv; exact ok64 (hS 0)
  | 1, _ => cases hv; exact ok64 (hS 1)
  | 2, _ => cases hv; exact ok64 (hS 2)
  | 3, _ => cases hv; exact ok64 (hS 3)
  | 4, _ => cases hv; exact okB_
  | 5, _ => cases hv; exact ok64 hr
  | 6, _ => cases hv; exact ok32 (by omega) (by omega)
theorem tot_sum (S : Nat → Nat) (wr : Bool) (r c : Nat) : (totC S wr r c).extract 0 (0 + 4) = ns .u64 4 S := rfl
theorem O_loadS {t b : Nat} {S : Nat → Nat} {wr : Bool} {r c : Nat} {x : Operand} (hb : Blk w b (totC S wr r c) 48) (ht : aggT P t 4) (hx : ev ρ x = .pointer (some ⟨b, 0, none⟩)) (k : K (put ρ d (.agg (ns .u64 4 S))) w) : WO P ops ⟨some d, .load t x, ty, pos, af, none⟩ e K ρ w :=
  O_load_agg ht hx hb (by show 0 + 4 ≤ 7; omega) (by rw [tot_sum]; exact k)
theorem tot_spl (S g : Nat → Nat) (wr : Bool) (r c : Nat) : spl (totC S wr r c) 0 (ns .u64 4 g).toList = totC g wr r c := rfl
theorem O_storeS {t b : Nat} {S g : Nat → Nat} {wr : Bool} {r c : Nat} {x y : Operand} (h : TS B w0 w L M) (hb : Blk w b (totC S wr r c) 48) (hn : w0.heap.size ≤ b) (ht : aggT P t 4) (hx : ev ρ x = .pointer (some ⟨b, 0, none⟩)) (hy : ev ρ y = .agg (ns .u64 4 g)) (hg : ∀ i, g i < 18446744073709551616) (hr : r < 18446744073709551616) (hc : c < 2147483648) (he : e = false)
    (k : ∀ w', TS B w0 w' L M → Upd w w' b (totC g wr r c) 48 → K ρ w') : WO P ops ⟨none, .store t x y, ty, pos, af, none⟩ e K ρ w :=
  O_store_agg ht hx hy (ns_size _ _ _) ns_one hb (by show 0 + 4 ≤ 7; omega) he fun w' hu => by
    rw [tot_spl] at hu
    exact k w' (h.upd hn hb hu rfl (tot_ok hg hr hc)) hu
theorem O_storeT {t b o : Nat} {v : Value} {S S' : Nat → Nat} {wr wr' : Bool} {r c r' c' : Nat} {x y : Operand} (h : TS B w0 w L M) (hb : Blk w b (totC S wr r c) 48) (hn : w0.heap.size ≤ b) (ht : oneT P t) (hx : ev ρ x = .pointer (some ⟨b, o, none⟩)) (hy : ev ρ y = v) (hv : v.oneCell' = true) (ho : o < 7) (hset : (totC S wr r c).setIfInBounds o v = totC S' wr' r' c') (hg : ∀ i, S' i < 18446744073709551616) (hr : r' < 18446744073709551616) (hc : c' < 2147483648) (he : e = false)
    (k : ∀ w', TS B w0 w' L M → Upd w w' b (totC S' wr' r' c') 48 → K ρ w') : WO P ops ⟨none, .store t x y, ty, pos, af, none⟩ e K ρ w :=
  O_store ht hx hy hv hb ho he fun w' hu => by
    rw [hset] at hu
    exact k w' (h.upd hn hb hu rfl (tot_ok hg hr hc)) hu
theorem z48 : zeroT Samg.prog 48 (.agg (totC (fun _ => 0) false 0 0)) := by unfold zeroT; kernel_rfl
end
end Go.Proofs.Ygcsam
