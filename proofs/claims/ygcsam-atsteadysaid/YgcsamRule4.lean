/-
  MORE RULES: uint64 arithmetic that wraps, math/bits' carries, indexing a string, nil slices. Own work.
-/
import Derived.Test.YgcsamInd
namespace Go.Proofs.Ygcsam
set_option linter.unusedVariables false
set_option linter.unusedSimpArgs false
section
variable {P : Program} {ops : Array Oper} {e : Bool} {K : Env → World → Prop} {Q : Exit → Env → World → Prop} {ρ : Env} {w : World} {d : Nat} {ty : TypeId} {pos : String} {af : Array Edge} {n : Nat} {t t' : TypeId} {x y : Operand} {a b : Nat}

theorem wrap_u64N (n : Nat) : IntKind.u64.wrap (n : Int) = ((n % 18446744073709551616 : Nat) : Int) := by
  simp only [IntKind.wrap, IntKind.bits, IntKind.signed, Bool.false_and, Bool.false_eq_true, if_false, Int.reducePow]
  omega
theorem wrap_u8N (n : Nat) : IntKind.u8.wrap (n : Int) = ((n % 256 : Nat) : Int) := by
  simp only [IntKind.wrap, IntKind.bits, IntKind.signed, Bool.false_and, Bool.false_eq_true, if_false, Int.reducePow]
  omega
theorem wrap_u16N (n : Nat) : IntKind.u16.wrap (n : Int) = ((n % 65536 : Nat) : Int) := by
  simp only [IntKind.wrap, IntKind.bits, IntKind.signed, Bool.false_and, Bool.false_eq_true, if_false, Int.reducePow]
  omega
theorem wrap_u32N (n : Nat) : IntKind.u32.wrap (n : Int) = ((n % 4294967296 : Nat) : Int) := by
  simp only [IntKind.wrap, IntKind.bits, IntKind.signed, Bool.false_and, Bool.false_eq_true, if_false, Int.reducePow]
  omega
theorem O_addw (hx : ev ρ x = .int .u64 (a : Nat)) (hy : ev ρ y = .int .u64 (b : Nat)) (kk : K (put ρ d (.int .u64 (((a + b) % 18446744073709551616 : Nat) : Int))) w) : WO P ops ⟨some d, .binOp .add t x y t', ty, pos, af, none⟩ e K ρ w :=
  O_bin hx hy (by simp only [binRes]; rw [← Int.natCast_add, wrap_u64N]) kk
theorem O_mulw (hx : ev ρ x = .int .u64 (a : Nat)) (hy : ev ρ y = .int .u64 (b : Nat)) (kk : K (put ρ d (.int .u64 ((a * b % 18446744073709551616 : Nat) : Int))) w) : WO P ops ⟨some d, .binOp .mul t x y t', ty, pos, af, none⟩ e K ρ w :=
  O_bin hx hy (by simp only [binRes]; rw [← Int.natCast_mul, wrap_u64N]) kk
theorem O_subw (hx : ev ρ x = .int .u64 (a : Nat)) (hy : ev ρ y = .int .u64 (b : Nat)) (hb : b ≤ 18446744073709551616) (kk : K (put ρ d (.int .u64 (((a + (18446744073709551616 - b)) % 18446744073709551616 : Nat) : Int))) w) : WO P ops ⟨some d, .binOp .sub t x y t', ty, pos, af, none⟩ e K ρ w :=
  O_bin hx hy (by
    simp only [binRes]
    have : IntKind.u64.wrap ((a : Int) - (b : Int)) = (((a + (18446744073709551616 - b)) % 18446744073709551616 : Nat) : Int) := by
      simp only [IntKind.wrap, IntKind.bits, IntKind.signed, Bool.false_and, Bool.false_eq_true, if_false, Int.reducePow]
      omega
    rw [this]) kk
theorem O_subw8 (hx : ev ρ x = .int .u8 (a : Nat)) (hy : ev ρ y = .int .u8 (b : Nat)) (hb : b ≤ 256) (kk : K (put ρ d (.int .u8 (((a + (256 - b)) % 256 : Nat) : Int))) w) : WO P ops ⟨some d, .binOp .sub t x y t', ty, pos, af, none⟩ e K ρ w :=
  O_bin hx hy (by
    simp only [binRes]
    have : IntKind.u8.wrap ((a : Int) - (b : Int)) = (((a + (256 - b)) % 256 : Nat) : Int) := by
      simp only [IntKind.wrap, IntKind.bits, IntKind.signed, Bool.false_and, Bool.false_eq_true, if_false, Int.reducePow]
      omega
    rw [this]) kk
theorem O_shlw {k' : IntKind} (hx : ev ρ x = .int .u64 (a : Nat)) (hy : ev ρ y = .int k' (b : Nat)) (hb : b ≤ 64) (kk : K (put ρ d (.int .u64 ((a * 2 ^ b % 18446744073709551616 : Nat) : Int))) w) : WO P ops ⟨some d, .binOp .shl t x y t', ty, pos, af, none⟩ e K ρ w :=
  O_pure rfl (fun w' => by
    have h1 : ¬ ((b : Int) < 0) := by omega
    have h2 : min (Int.toNat (b : Int)) IntKind.u64.bits = b := by simp [IntKind.bits]; omega
    have h3 : IntKind.u64.wrap ((a : Int) * 2 ^ b) = ((a * 2 ^ b % 18446744073709551616 : Nat) : Int) := by
      rw [← wrap_u64N]; simp
    simp only [execOp, hx, hy, eqGuard, binOp, Op.shift, h1, if_false, h2, h3]
    rfl) kk
theorem O_shlw8 {k' : IntKind} (hx : ev ρ x = .int .u8 (a : Nat)) (hy : ev ρ y = .int k' (b : Nat)) (hb : b ≤ 8) (kk : K (put ρ d (.int .u8 ((a * 2 ^ b % 256 : Nat) : Int))) w) : WO P ops ⟨some d, .binOp .shl t x y t', ty, pos, af, none⟩ e K ρ w :=
  O_pure rfl (fun w' => by
    have h1 : ¬ ((b : Int) < 0) := by omega
    have h2 : min (Int.toNat (b : Int)) IntKind.u8.bits = b := by simp [IntKind.bits]; omega
    have h3 : IntKind.u8.wrap ((a : Int) * 2 ^ b) = ((a * 2 ^ b % 256 : Nat) : Int) := by
      rw [← wrap_u8N]; simp
    simp only [execOp, hx, hy, eqGuard, binOp, Op.shift, h1, if_false, h2, h3]
    rfl) kk
theorem O_convw8 {s t : TypeId} {k : IntKind} {ds : TypeDesc} (hs : P.underlying s = some ds) (ht : P.underlying t = some (.int .u8)) (hx : ev ρ x = .int k (a : Nat)) (kk : K (put ρ d (.int .u8 ((a % 256 : Nat) : Int))) w) : WO P ops ⟨some d, .convert s t x, ty, pos, af, none⟩ e K ρ w :=
  O_pure rfl (fun w' => by simp [execOp, Go.convert, hx, run_underlying' hs, run_underlying' ht, Conv.intToInt, wrap_u8N]) kk

/-! ### math/bits.Add64, Sub64 -/
def carryB (P : Program) (f : FuncId) (g : Array Value → Sem Value) : Prop := ∃ fn, P.funcs[f]? = some fn ∧ (fn.name == "runtime.NumGoroutine") = false ∧ fn.body.isNone = true ∧ (Extern.findNext fn).isNone = true ∧ Extern.find fn = some g

theorem run_carry {f : FuncId} {g : Array Value → Sem Value} {args : Array Value} {v : Value} (hf : carryB P f g) (hg : ∀ w, (g args).run P w = .ok v w) : (callFunc f args).run P w = .ok (.value v) w := by
  obtain ⟨fn, h1, h2, h3, h4, h5⟩ := hf
  have h2' : fn.name ≠ "runtime.NumGoroutine" := by simpa using h2
  have h3' : fn.body = none := by simpa using h3
  have h4' : Extern.findNext fn = none := by simpa using h4
  simp [callFunc, h1, h2', h3', h4', h5, hg]

theorem O_carry {f : FuncId} {g : Array Value → Sem Value} {args : Array Operand} {ats : Array TypeId} {l : List Value} {v : Value} (hf : carryB P f g) (ha : args.toList.map (ev ρ) = l) (hg : ∀ w, (g l.toArray).run P w = .ok v w)
    (k : K (put ρ d v) w) : WO P ops ⟨some d, .call ⟨.value (.func f), args, ats⟩, ty, pos, af, none⟩ e K ρ w := by
  have hm : args.map (ev ρ) = l.toArray := by
    apply Array.ext'
    rw [Array.toList_map, ha]
  have hc := run_carry (P := P) (w := w) hf hg
  refine O_do (v := v) (w' := w) rfl ?_ (fun _ => Ext.refl w) k
  simp [execOp, resolve, hm, ev, Deferred.ofValue, invoke, hc]

def addE : Array Value → Sem Value := fun args => do
  let (x, y, c) ← Extern.MathBitsCarry.three "Add64" args
  pure (Extern.MathBitsCarry.pair ((x + y + c) % Extern.MathBitsCarry.m64) ((x + y + c) / Extern.MathBitsCarry.m64))
def subE : Array Value → Sem Value := fun args => do
  let (x, y, b) ← Extern.MathBitsCarry.three "Sub64" args
  pure (Extern.MathBitsCarry.pair ((x + Extern.MathBitsCarry.m64 - y - b) % Extern.MathBitsCarry.m64) (if x < y + b then 1 else 0))
theorem run_three {nm : String} {x y c : Nat} (hc : c ≤ 1) : (Extern.MathBitsCarry.three nm #[.int .u64 (x : Nat), .int .u64 (y : Nat), .int .u64 (c : Nat)]).run P w = .ok (x, y, c) w := by
  obtain ⟨bar, h⟩ : ∃ bar : Sem Unit, Extern.MathBitsCarry.three nm #[.int .u64 (x : Nat), .int .u64 (y : Nat), .int .u64 (c : Nat)] = (do
    let c' := (← asInt (.int .u64 (c : Nat))).toNat
    if c' > 1 then bar
    pure ((← asInt (.int .u64 (x : Nat))).toNat, (← asInt (.int .u64 (y : Nat))).toNat, c')) := ⟨_, rfl⟩
  have : ¬ (c > 1) := by omega
  rw [h]
  simp [asInt, asIntOf, this]
  omega
theorem run_addE {x y c : Nat} (hc : c ≤ 1) : (addE #[.int .u64 (x : Nat), .int .u64 (y : Nat), .int .u64 (c : Nat)]).run P w = .ok (.tuple #[.int .u64 (((x + y + c) % 18446744073709551616 : Nat) : Int), .int .u64 (((x + y + c) / 18446744073709551616 : Nat) : Int)]) w := by
  simp [addE, run_three hc, Extern.MathBitsCarry.pair, Extern.MathBitsCarry.m64]
theorem run_subE {x y c : Nat} (hc : c ≤ 1) : (subE #[.int .u64 (x : Nat), .int .u64 (y : Nat), .int .u64 (c : Nat)]).run P w = .ok (.tuple #[.int .u64 (((x + 18446744073709551616 - y - c) % 18446744073709551616 : Nat) : Int), .int .u64 ((if x < y + c then 1 else 0 : Nat) : Int)]) w := by
  simp [subE, run_three hc, Extern.MathBitsCarry.pair, Extern.MathBitsCarry.m64]

/-! ### a string's byte -/
theorem O_index_str {t : TypeId} {s : ByteArray} {m : Nat} {k : IntKind} {v : UInt8} {x i : Operand} (ht : P.underlying t = some .string) (hx : ev ρ x = .string s) (hi : ev ρ i = .int k (m : Nat)) (hv : s[m]? = some v)
    (kk : K (put ρ d (.int .u8 ((v.toNat : Nat) : Int))) w) : WO P ops ⟨some d, .index t x i, ty, pos, af, none⟩ e K ρ w :=
  O_pure rfl (fun w' => by
    have h0 : (0 : Int) ≤ (m : Int) := by omega
    simp [execOp, Instr.index, hx, hi, asIntOf, run_underlying' ht, h0, hv]) kk

/-! ### nil slices -/
theorem O_slice_nil {t el s : Nat} {x : Operand} {lo hi mx : Option Operand} (ht : slcT P t el s) (hx : ev ρ x = .slice none 0 0) (hl : optN ρ 0 lo 0) (hh : optN ρ 0 hi 0) (hm : optN ρ 0 mx 0) (hmx : mx.isSome = true → hi.isSome = true)
    (k : K (put ρ d (.slice none 0 0)) w) : WO P ops ⟨some d, .slice t x lo hi mx, ty, pos, af, none⟩ e K ρ w :=
  O_pure rfl (fun w' => by
    have hb := run_sliceBounds (P := P) (w := w') (is := true) (ρ := ρ) hl hh hm hmx (Nat.le_refl _) (Nat.le_refl _) (Nat.le_refl _)
    simp only [execOp, hx, Instr.sliceAt, Instr.slice, Sem.run_bind, run_underlying' ht.1, Result.andThen_ok, Sem.run_pure, hb, run_sizeOf ht.2]
    simp) k
/-! ### short ways -/
theorem O_and32 (hx : ev ρ x = .int .u64 (a : Nat)) (hy : ev ρ y = .int .u64 ((4294967295 : Nat) : Int)) (ha : a < 18446744073709551616) (kk : K (put ρ d (.int .u64 ((a % 4294967296 : Nat) : Int))) w) : WO P ops ⟨some d, .binOp .and t x y t', ty, pos, af, none⟩ e K ρ w :=
  O_and rfl hx hy (fit_u64 ha) rfl (by
    have : a &&& 4294967295 = a % 4294967296 := Nat.and_two_pow_sub_one_eq_mod a 32
    rw [this]; exact kk)
theorem O_shrd {k k' : IntKind} (c : Nat) (hx : ev ρ x = .int k (a : Nat)) (hy : ev ρ y = .int k' (b : Nat)) (hb : b ≤ k.bits) (hc : 2 ^ b = c) (kk : K (put ρ d (.int k ((a / c : Nat) : Int))) w) : WO P ops ⟨some d, .binOp .shr t x y t', ty, pos, af, none⟩ e K ρ w :=
  O_shr hx hy hb (by rw [Nat.shiftRight_eq_div_pow, hc]; exact kk)
theorem O_shl0 {k k' : IntKind} (hx : ev ρ x = .int k (a : Nat)) (hy : ev ρ y = .int k' ((0 : Nat) : Int)) (hf : fitN k a = true) (kk : K (put ρ d (.int k (a : Nat))) w) : WO P ops ⟨some d, .binOp .shl t x y t', ty, pos, af, none⟩ e K ρ w :=
  O_shl hx hy (Nat.zero_le _) (by rw [Nat.pow_zero, Nat.mul_one]; exact hf) (by rw [Nat.pow_zero, Nat.mul_one]; exact kk)
theorem O_or0 (hx : ev ρ x = .int .u64 (a : Nat)) (hy : ev ρ y = .int .u64 ((0 : Nat) : Int)) (ha : a < 18446744073709551616) (kk : K (put ρ d (.int .u64 (a : Nat))) w) : WO P ops ⟨some d, .binOp .or t x y t', ty, pos, af, none⟩ e K ρ w :=
  O_or rfl hx hy (fit_u64 ha) rfl (by rw [Nat.or_zero]; exact kk)
theorem E_ret3 {fn : Func} {R : Value → World → Prop} {t t' t'' : Nat} {v v' v'' : Value} (hr : fn.results = #[.tmp t, .tmp t', .tmp t'']) (ht : Nat.blt t n = true) (ht' : Nat.blt t' n = true) (ht'' : Nat.blt t'' n = true) (hv : ρ t = v) (hv' : ρ t' = v') (hv'' : ρ t'' = v'') (h : R (.tuple #[v, v', v'']) w) : bodyQ P n fn R .ret ρ w := by
  have h1 := Fr_getD (ρ := ρ) ht
  have h2 := Fr_getD (ρ := ρ) ht'
  have h3 := Fr_getD (ρ := ρ) ht''
  rw [Array.getD_eq_getD_getElem?] at h1 h2 h3
  refine ⟨_, ?_, h⟩
  simp [results, hr, h1, h2, h3, hv, hv', hv'']
end
theorem ca135 : carryB Samg.prog 135 addE := ⟨_, Samg.func135, by kernel_rfl, by kernel_rfl, by kernel_rfl, rfl⟩
theorem ca141 : carryB Samg.prog 141 subE := ⟨_, Samg.func141, by kernel_rfl, by kernel_rfl, by kernel_rfl, rfl⟩
end Go.Proofs.Ygcsam
