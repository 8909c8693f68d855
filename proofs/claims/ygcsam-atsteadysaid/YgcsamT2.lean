/-
  RULES OVER Int AND RULES THAT FORGET. Own work.
-/
import Derived.Test.YgcsamT1
namespace Go.Proofs.Ygcsam
set_option linter.unusedVariables false
set_option linter.unusedSimpArgs false
def rngZ (k : IntKind) (z : Int) : Prop := match k with
  | .u8 => 0 ≤ z ∧ z < 256
  | .u16 => 0 ≤ z ∧ z < 65536
  | .u32 => 0 ≤ z ∧ z < 4294967296
  | .u64 => 0 ≤ z ∧ z < 18446744073709551616
  | .i32 => -2147483648 ≤ z ∧ z < 2147483648
  | .i64 => -9223372036854775808 ≤ z ∧ z < 9223372036854775808
  | _ => False
theorem wrap_id {k : IntKind} {z : Int} (h : rngZ k z) : k.wrap z = z := by
  cases k
  case i8 => exact h.elim
  case i16 => exact h.elim
  case i32 => exact wrap_i32 h.1 h.2
  case i64 => exact wrap_i64 h.1 h.2
  case u8 => exact wrap_u8 h.1 h.2
  case u16 => exact wrap_u16 h.1 h.2
  case u32 =>
    have h1 : 0 ≤ z := h.1
    have h2 : z < 4294967296 := h.2
    simp only [IntKind.wrap, IntKind.bits, IntKind.signed, Bool.false_and, Bool.false_eq_true, if_false, Int.reducePow]
    omega
  case u64 => exact wrap_u64 h.1 h.2
theorem rng_u64 (z : Int) : rngZ .u64 (IntKind.u64.wrap z) := by
  simp only [IntKind.wrap, IntKind.bits, IntKind.signed, Bool.false_and, Bool.false_eq_true, if_false, Int.reducePow, rngZ]
  omega
theorem rng_u32 (z : Int) : rngZ .u32 (IntKind.u32.wrap z) := by
  simp only [IntKind.wrap, IntKind.bits, IntKind.signed, Bool.false_and, Bool.false_eq_true, if_false, Int.reducePow, rngZ]
  omega
theorem rng_u8 (z : Int) : rngZ .u8 (IntKind.u8.wrap z) := by
  simp only [IntKind.wrap, IntKind.bits, IntKind.signed, Bool.false_and, Bool.false_eq_true, if_false, Int.reducePow, rngZ]
  omega
theorem rng_i32 (z : Int) : rngZ .i32 (IntKind.i32.wrap z) := by
  simp only [IntKind.wrap, IntKind.bits, IntKind.signed, Bool.true_and, decide_eq_true_eq, ge_iff_le, Nat.reduceSub, Int.reducePow, rngZ]
  split <;> omega
theorem rng_i64 (z : Int) : rngZ .i64 (IntKind.i64.wrap z) := by
  simp only [IntKind.wrap, IntKind.bits, IntKind.signed, Bool.true_and, decide_eq_true_eq, ge_iff_le, Nat.reduceSub, Int.reducePow, rngZ]
  split <;> omega
def easyK : IntKind → Bool
  | .u8 | .u32 | .u64 | .i32 | .i64 => true
  | _ => false
theorem wrap_rng (k : IntKind) (z : Int) (h : easyK k = true) : rngZ k (k.wrap z) := by
  cases k
  case i8 => cases h
  case i16 => cases h
  case i32 => exact rng_i32 z
  case i64 => exact rng_i64 z
  case u8 => exact rng_u8 z
  case u16 => cases h
  case u32 => exact rng_u32 z
  case u64 => exact rng_u64 z
section
variable {P : Program} {ops : Array Oper} {e : Bool} {K : Env → World → Prop} {Q : Exit → Env → World → Prop} {ρ : Env} {w w0 : World} {d : Nat} {ty : TypeId} {pos : String} {af : Array Edge} {n B : Nat} {L : List Fact} {M : List (Nat × Array Value)}
  {t t' : TypeId} {x y : Operand} {k : IntKind} {a b : Int}

theorem O_lssS (hx : ev ρ x = .int k a) (hy : ev ρ y = .int k b) (kt : a < b → K (put ρ d (.bool true)) w) (kf : b ≤ a → K (put ρ d (.bool false)) w) : WO P ops ⟨some d, .binOp .lss t x y t', ty, pos, af, none⟩ e K ρ w := by
  by_cases h : a < b
  · exact O_bin hx hy (by simp only [binRes, decide_eq_true h]) (kt h)
  · exact O_bin hx hy (by simp only [binRes, decide_eq_false h]) (kf (by omega))
theorem O_leqS (hx : ev ρ x = .int k a) (hy : ev ρ y = .int k b) (kt : a ≤ b → K (put ρ d (.bool true)) w) (kf : b < a → K (put ρ d (.bool false)) w) : WO P ops ⟨some d, .binOp .leq t x y t', ty, pos, af, none⟩ e K ρ w := by
  by_cases h : a ≤ b
  · exact O_bin hx hy (by simp only [binRes, decide_eq_true h]) (kt h)
  · exact O_bin hx hy (by simp only [binRes, decide_eq_false h]) (kf (by omega))
theorem O_gtrS (hx : ev ρ x = .int k a) (hy : ev ρ y = .int k b) (kt : b < a → K (put ρ d (.bool true)) w) (kf : a ≤ b → K (put ρ d (.bool false)) w) : WO P ops ⟨some d, .binOp .gtr t x y t', ty, pos, af, none⟩ e K ρ w := by
  by_cases h : a > b
  · exact O_bin hx hy (by simp only [binRes, decide_eq_true h]) (kt h)
  · exact O_bin hx hy (by simp only [binRes, decide_eq_false h]) (kf (by omega))
theorem O_geqS (hx : ev ρ x = .int k a) (hy : ev ρ y = .int k b) (kt : b ≤ a → K (put ρ d (.bool true)) w) (kf : a < b → K (put ρ d (.bool false)) w) : WO P ops ⟨some d, .binOp .geq t x y t', ty, pos, af, none⟩ e K ρ w := by
  by_cases h : a ≥ b
  · exact O_bin hx hy (by simp only [binRes, decide_eq_true h]) (kt h)
  · exact O_bin hx hy (by simp only [binRes, decide_eq_false h]) (kf (by omega))
theorem O_eqlS (hx : ev ρ x = .int k a) (hy : ev ρ y = .int k b) (kt : a = b → K (put ρ d (.bool true)) w) (kf : a ≠ b → K (put ρ d (.bool false)) w) : WO P ops ⟨some d, .binOp .eql t x y t', ty, pos, af, none⟩ e K ρ w := by
  by_cases h : a = b
  · exact O_bin hx hy (by simp [binRes, h]) (kt h)
  · exact O_bin hx hy (by simp [binRes, h]) (kf h)
theorem O_neqS (hx : ev ρ x = .int k a) (hy : ev ρ y = .int k b) (kt : a ≠ b → K (put ρ d (.bool true)) w) (kf : a = b → K (put ρ d (.bool false)) w) : WO P ops ⟨some d, .binOp .neq t x y t', ty, pos, af, none⟩ e K ρ w := by
  by_cases h : a = b
  · exact O_bin hx hy (by simp [binRes, h]) (kf h)
  · exact O_bin hx hy (by simp [binRes, h, bne]) (kt h)
theorem O_addZ (hx : ev ρ x = .int k a) (hy : ev ρ y = .int k b) (h : rngZ k (a + b)) (kk : K (put ρ d (.int k (a + b))) w) : WO P ops ⟨some d, .binOp .add t x y t', ty, pos, af, none⟩ e K ρ w :=
  O_bin hx hy (by simp only [binRes, wrap_id h]) kk
theorem O_subZ (hx : ev ρ x = .int k a) (hy : ev ρ y = .int k b) (h : rngZ k (a - b)) (kk : K (put ρ d (.int k (a - b))) w) : WO P ops ⟨some d, .binOp .sub t x y t', ty, pos, af, none⟩ e K ρ w :=
  O_bin hx hy (by simp only [binRes, wrap_id h]) kk
theorem O_mulZ (hx : ev ρ x = .int k a) (hy : ev ρ y = .int k b) (h : rngZ k (a * b)) (kk : K (put ρ d (.int k (a * b))) w) : WO P ops ⟨some d, .binOp .mul t x y t', ty, pos, af, none⟩ e K ρ w :=
  O_bin hx hy (by simp only [binRes, wrap_id h]) kk
theorem O_remZ (hx : ev ρ x = .int k a) (hy : ev ρ y = .int k b) (h0 : 0 ≤ a) (h1 : 0 < b) (kk : K (put ρ d (.int k (a % b))) w) : WO P ops ⟨some d, .binOp .rem t x y t', ty, pos, af, none⟩ e K ρ w :=
  O_bin hx hy (by simp only [binRes]; rw [if_neg (by omega), Int.tmod_eq_emod_of_nonneg h0]) kk
theorem O_convZ {s : TypeId} {k' : IntKind} {ds : TypeDesc} (hs : P.underlying s = some ds) (ht : P.underlying t = some (.int k')) (hx : ev ρ x = .int k a) (hf : rngZ k' a) (kk : K (put ρ d (.int k' a)) w) : WO P ops ⟨some d, .convert s t x, ty, pos, af, none⟩ e K ρ w :=
  O_pure rfl (fun w' => by simp [execOp, Go.convert, hx, run_underlying' hs, run_underlying' ht, Conv.intToInt, wrap_id hf]) kk
theorem O_convA {s : TypeId} {k' : IntKind} {ds : TypeDesc} (hs : P.underlying s = some ds) (ht : P.underlying t = some (.int k')) (hk : easyK k' = true) (hx : ev ρ x = .int k a) (kk : ∀ z, rngZ k' z → K (put ρ d (.int k' z)) w) : WO P ops ⟨some d, .convert s t x, ty, pos, af, none⟩ e K ρ w :=
  O_pure rfl (fun w' => by simp [execOp, Go.convert, hx, run_underlying' hs, run_underlying' ht, Conv.intToInt]) (kk _ (wrap_rng k' a hk))
/-- An unsigned number in its range, of which no more is said. -/
theorem toN {z : Int} (h : rngZ .u64 z) : ∃ m : Nat, z = (m : Int) ∧ m < 18446744073709551616 := ⟨z.toNat, by have := h.1; omega, by have := h.1; have := h.2; omega⟩
theorem O_xorA (hx : ev ρ x = .int .u64 a) (hy : ev ρ y = .int .u64 b) (kk : ∀ m : Nat, m < 18446744073709551616 → K (put ρ d (.int .u64 (m : Int))) w) : WO P ops ⟨some d, .binOp .xor t x y t', ty, pos, af, none⟩ e K ρ w := by
  refine O_bin hx hy (v := .int .u64 (IntKind.u64.wrap _)) (by simp only [binRes]; rfl) ?_
  obtain ⟨m, h1, h2⟩ := toN (wrap_rng .u64 _ rfl)
  rw [h1]; exact kk m h2
theorem O_orA (hx : ev ρ x = .int .u64 a) (hy : ev ρ y = .int .u64 b) (kk : ∀ m : Nat, m < 18446744073709551616 → K (put ρ d (.int .u64 (m : Int))) w) : WO P ops ⟨some d, .binOp .or t x y t', ty, pos, af, none⟩ e K ρ w := by
  refine O_bin hx hy (v := .int .u64 (IntKind.u64.wrap _)) (by simp only [binRes]; rfl) ?_
  obtain ⟨m, h1, h2⟩ := toN (wrap_rng .u64 _ rfl)
  rw [h1]; exact kk m h2
theorem O_andA (hx : ev ρ x = .int .u64 a) (hy : ev ρ y = .int .u64 b) (kk : ∀ m : Nat, m < 18446744073709551616 → K (put ρ d (.int .u64 (m : Int))) w) : WO P ops ⟨some d, .binOp .and t x y t', ty, pos, af, none⟩ e K ρ w := by
  refine O_bin hx hy (v := .int .u64 (IntKind.u64.wrap _)) (by simp only [binRes]; rfl) ?_
  obtain ⟨m, h1, h2⟩ := toN (wrap_rng .u64 _ rfl)
  rw [h1]; exact kk m h2
theorem O_addA (hx : ev ρ x = .int .u64 a) (hy : ev ρ y = .int .u64 b) (kk : ∀ m : Nat, m < 18446744073709551616 → K (put ρ d (.int .u64 (m : Int))) w) : WO P ops ⟨some d, .binOp .add t x y t', ty, pos, af, none⟩ e K ρ w := by
  refine O_bin hx hy (v := .int .u64 (IntKind.u64.wrap (a + b))) rfl ?_
  obtain ⟨m, h1, h2⟩ := toN (wrap_rng .u64 (a + b) rfl)
  rw [h1]; exact kk m h2
theorem O_subA (hx : ev ρ x = .int .u64 a) (hy : ev ρ y = .int .u64 b) (kk : ∀ m : Nat, m < 18446744073709551616 → K (put ρ d (.int .u64 (m : Int))) w) : WO P ops ⟨some d, .binOp .sub t x y t', ty, pos, af, none⟩ e K ρ w := by
  refine O_bin hx hy (v := .int .u64 (IntKind.u64.wrap (a - b))) rfl ?_
  obtain ⟨m, h1, h2⟩ := toN (wrap_rng .u64 (a - b) rfl)
  rw [h1]; exact kk m h2
theorem O_shlA {k' : IntKind} {bb : Nat} (hx : ev ρ x = .int .u64 a) (hy : ev ρ y = .int k' (bb : Nat)) (kk : ∀ m : Nat, m < 18446744073709551616 → K (put ρ d (.int .u64 (m : Int))) w) : WO P ops ⟨some d, .binOp .shl t x y t', ty, pos, af, none⟩ e K ρ w := by
  obtain ⟨m, h1, h2⟩ := toN (wrap_rng .u64 (a * 2 ^ (min (bb : Int).toNat IntKind.u64.bits)) rfl)
  refine O_pure rfl (fun w' => ?_) (kk m h2)
  have h0 : ¬ ((bb : Int) < 0) := by omega
  simp only [execOp, hx, hy, eqGuard, binOp, Op.shift, h0, if_false]
  rw [h1]
  rfl
theorem O_shrA {k' : IntKind} {m bb : Nat} (hx : ev ρ x = .int .u64 (m : Nat)) (hm : m < 18446744073709551616) (hy : ev ρ y = .int k' (bb : Nat)) (hb : bb ≤ 64) (kk : ∀ m : Nat, m < 18446744073709551616 → K (put ρ d (.int .u64 (m : Int))) w) : WO P ops ⟨some d, .binOp .shr t x y t', ty, pos, af, none⟩ e K ρ w :=
  O_shr hx hy hb (kk _ (by rw [Nat.shiftRight_eq_div_pow]; exact Nat.lt_of_le_of_lt (Nat.div_le_self _ _) hm))

/-! ### told cells, calls -/
theorem O_ldV {t b o : Nat} {v : Value} {x : Operand} (h : TS B w0 w L M) (ht : oneT P t) (hx : ev ρ x = .pointer (some ⟨b, o, none⟩)) (hc : w0.cell? ⟨b, o, none⟩ = some v) (hb : b < w0.heap.size) (k : K (put ρ d v) w) : WO P ops ⟨some d, .load t x, ty, pos, af, none⟩ e K ρ w :=
  O_read rfl (fun w' hw => by
    have e1 : w'.heap[b]? = w0.heap[b]? := (h.e.trans hw).block b hb
    have e2 : w'.cell? ⟨b, o, none⟩ = some v := by
      rw [← hc]; unfold World.cell?; simp only [e1]
    simp [execOp, hx, run_load_one (P := P) ht e2]) k
/-- A call that only makes the world grow, and keeps it typed. -/
def Rd (B : Nat) (P : Program) (f : FuncId) (l : List Value) (w : World) (R : Value → World → Prop) : Prop := Ret P f l.toArray w fun v w' => Ext w w' ∧ WT B w' ∧ R v w'
theorem O_rd {f : FuncId} {args : Array Operand} {ats : Array TypeId} {l : List Value} {R : Value → World → Prop} (h : TS B w0 w L M) (hf : callable P f) (ha : args.toList.map (ev ρ) = l) (hR : Rd B P f l w R)
    (k : ∀ v w', R v w' → TS B w0 w' L M → Ext w w' → K (put ρ d v) w') : WO P ops ⟨some d, .call ⟨.value (.func f), args, ats⟩, ty, pos, af, none⟩ e K ρ w :=
  O_call hf ha (Ret.mono hR fun v w' ⟨h1, h2, h3⟩ => ⟨fun _ => h1, k v w' h3 (h.next h1 h2) h1⟩)
theorem W_drawnT {id : Nat} {ops : Array Oper} (ext order : List Nat) (hm : P.follows .mixedOrders = true) (hB : planB ops ext order = true) (hok : okB n ops = true) (h : TS B w0 w L M)
    (k : ∀ w', TS B w0 w' L M → w'.heap = w.heap → WR P ops ext Q order ρ w') : WC P n (.region id ops true) Q ρ w :=
  W_drawn ext order hm hB hok (k _ h.drew rfl)
theorem O_ixZ {t el s m l cap : Nat} {k : IntKind} {x i : Operand} {z : Int} {a : Option Addr} (h : TS B w0 w L M) (hm : (el, a, l, cap) ∈ L) (ht : slcT P t el s) (hx : ev ρ x = .slice a l cap) (hi : ev ρ i = .int k z) (h0 : 0 ≤ z) (hlt : z < l)
    (kk : ∀ b m : Nat, z = m → a = some ⟨b, 0, none⟩ → K (put ρ d (.pointer (some ⟨b, m * s + 0, none⟩))) w) : WO P ops ⟨some d, .indexAddr t x i, ty, pos, af, none⟩ e K ρ w := by
  obtain ⟨m, rfl⟩ := Int.eq_ofNat_of_zero_le h0
  exact O_ix h hm ht hx hi (by omega) (fun b e => kk b m rfl e) (b := 0)
/-- Indexing an array behind a pointer: the offset stays written as it is. -/
theorem O_ixa {t n el b o : Nat} {k : IntKind} {x i : Operand} {z : Int} (ht : arrT P t n el 1) (hx : ev ρ x = .pointer (some ⟨b, o, none⟩)) (hi : ev ρ i = .int k z) (h0 : 0 ≤ z) (h1 : z < n)
    (kk : ∀ m : Nat, z = m → K (put ρ d (.pointer (some ⟨b, o + m, none⟩))) w) : WO P ops ⟨some d, .indexAddr t x i, ty, pos, af, none⟩ e K ρ w := by
  obtain ⟨m, rfl⟩ := Int.eq_ofNat_of_zero_le h0
  exact O_index1 ht hx hi (by omega) (kk m rfl)
end
end Go.Proofs.Ygcsam
