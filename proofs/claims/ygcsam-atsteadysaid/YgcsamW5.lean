/-
  PutLog, EndTx. Own work.
-/
import Derived.Test.YgcsamW1
namespace Go.Proofs.Ygcsam
set_option linter.unusedVariables false
set_option linter.unusedSimpArgs false
set_option maxRecDepth 4000
theorem VI.pushL {σ : VS} (h : VI σ) {a' al : Option Addr} {c' cl K a n : Nat} {g : Nat → Nat} (hj : σ.nj < 65536) (hK : K ≤ 10) (hK7 : K = 7) (hl : σ.nl < 2800) (hn : n < 18446744073709551616) (hg : ∀ i, g i < 18446744073709551616) (ha : a < 2147483648) (h1 : acctK K → a < σ.na) (h2 : slotK K → a < σ.ns) (h3 : K = 8 → a < σ.nt) : VI { Go.Proofs.Ygcsam.push σ a' c' K a n g with aL := al, nl := σ.nl + 1, cL := cl } :=
  { h with
    nj := hj
    nl := hl
    mle := fun i hi => Nat.le_succ_of_le (h.mle i hi)
    jw := fun i k => by show upF σ.jw σ.nj g i k < _; unfold upF; split; exact hg k; exact h.jw i k
    jn := fun i => by show upn σ.jn σ.nj n i < _; unfold upn; split; exact hn; exact h.jn i
    kd := fun i hi => by
      have hi : i < σ.nj + 1 := hi
      show upn σ.kd σ.nj K i ≤ 10; unfold upn; split; exact hK; exact h.kd i (by omega)
    pa := fun i hi hk => by
      have hi : i < σ.nj + 1 := hi
      have hk : acctK (upn σ.kd σ.nj K i) := hk
      show upn σ.ja σ.nj a i < σ.na
      unfold upn at hk ⊢
      split
      · rename_i e; rw [if_pos e] at hk; exact h1 hk
      · rename_i e; rw [if_neg e] at hk; exact h.pa i (by omega) hk
    ps := fun i hi hk => by
      have hi : i < σ.nj + 1 := hi
      have hk : slotK (upn σ.kd σ.nj K i) := hk
      show upn σ.ja σ.nj a i < σ.ns
      unfold upn at hk ⊢
      split
      · rename_i e; rw [if_pos e] at hk; exact h2 hk
      · rename_i e; rw [if_neg e] at hk; exact h.ps i (by omega) hk
    pt := fun i hi hk => by
      have hi : i < σ.nj + 1 := hi
      have hk : upn σ.kd σ.nj K i = 8 := hk
      show upn σ.ja σ.nj a i < σ.nt
      unfold upn at hk ⊢
      split
      · rename_i e; rw [if_pos e] at hk; exact h3 hk
      · rename_i e; rw [if_neg e] at hk; exact h.pt i (by omega) hk
    jr := fun i hi => by
      have hi : i < σ.nj + 1 := hi
      show upn σ.ja σ.nj a i < _; unfold upn; split; exact ha; exact h.jr i (by omega)
    logs := by
      show σ.nl + 1 = cntL (upn σ.kd σ.nj K) (σ.nj + 1)
      have e : ∀ m, m ≤ σ.nj → cntL (upn σ.kd σ.nj K) m = cntL σ.kd m := by
        intro m
        induction m with
        | zero => intro _; rfl
        | succ m ih =>
          intro hm
          simp only [cntL]
          rw [ih (by omega)]
          have : upn σ.kd σ.nj K m = σ.kd m := by simp only [upn]; rw [if_neg (by omega)]
          rw [this]
      simp only [cntL]
      rw [e _ (Nat.le_refl _), ← h.logs]
      have : upn σ.kd σ.nj K σ.nj = K := by simp [upn]
      rw [this, if_pos hK7] }

theorem putLog_ok {B s : Nat} {σ : VS} {w : World} (hT : WT B w) (hV : V B w s σ) (hI : VI σ) {lc : Array Value} (hlc : okA B w 126 lc) : Ret Samg.prog 61 #[.pointer (some ⟨s, 0, none⟩), .agg lc] w (Mt B s w fun v σ' => ∃ (p : Bool), v = .bool p ∧ Steady σ σ') := by
  refine W_enter (l := [_, _]) Samg.func61 rfl rfl rfl ?_
  have hS := hV.start hT; have hMu := Mu.refl B w; have hna := hI.na; have hns := hI.ns; have hnt := hI.nt; have hnj := hI.nj; have hnm := hI.nm; have hnl := hI.nl
  have hS := hS.addM hlc
  repeat' (first
    | (refine L_cons ?_)
    | (refine R_cons rfl ?_)
    | (refine W_seq ?_)
    | (refine W_region (by kernel_rfl) ?_)
    | (refine L_nil ?_)
    | (refine R_nil ?_)
    | (refine W_block ?_)
    | (refine W_skip ?_)
    | (refine W_exit ?_)
    | (refine W_ret ?_)
    | (guard_target =~ thenQ _ _ _ _ _; first | (refine T_next ?_) | (refine T_exit ?_) | (refine T_ret ?_))
    | (guard_target =~ blockQ _ _ _ _ _; first | (refine B_next ?_) | (refine B_same ?_) | (refine B_other (by kernel_rfl) ?_) | (refine B_ret ?_))
    | (refine W_true rfl rfl ?_)
    | (refine W_false rfl rfl ?_)
    | (guard_target =~ WO _ _ (Oper.mk _ (Op.call (Call.mk (Callee.value (Operand.func 96)) _ _)) _ _ _ none) _ _ _ _; first | (refine O_rd (l := [.pointer (some ⟨s, 0, none⟩)]) (by assumption) cl96 rfl (room_ok (TS.t (by assumption)) (hV.ext (TS.e (by assumption))) hI) ?_; rintro _ _ rfl _ _; by_cases hroom : σ.nj < 65536; rw [decide_eq_true hroom]; rotate_left; rw [decide_eq_false hroom]; rotate_left))
    | (guard_target =~ WO _ _ (Oper.mk _ (Op.load 46 _) _ _ _ none) _ _ _ _; first | (refine O_ldV (v := .slice σ.aL σ.nl σ.cL) (by assumption) on46 rfl hV.log hV.lt ?_) | (refine O_ldV (by assumption) on46 rfl hV.log hV.lt ?_) | (refine O_lds (t' := 126) (by assumption) (by repeat (first | exact List.Mem.head _ | refine List.Mem.tail _ ?_)) on46 rfl (by first | omega | (simp only [csz]; omega)) (by first | rfl | exact layMod rfl rfl) ?_; intro _ _ _ _ _ _))
    | (guard_target =~ WO _ _ (Oper.mk _ (Op.build 178 _) _ _ _ none) _ _ _ _; first | (refine O_bdE (l := [(0, .int .u8 ((7 : Nat) : Int))]) (by assumption) st178 zc178 rfl ⟨_, _, rfl, rfl, rfl, rfl⟩ ⟨one_ok (c' := 1) rfl (ok8 (by omega)), trivial⟩ ?_; intro cs z hcs hz hzz hfl _; have hEnt : Ent cs 7 0 0 (fun _ => 0) := hfl ▸ entL hz hzz))
    | (guard_target =~ WO _ _ (Oper.mk _ (Op.buildSlice 81 1 _) _ _ _ none) _ _ _ _; first | (refine O_one (v := .agg _) (by assumption) sl81 zc178 (by decide) rfl rfl (TS.okA (t := 178) (by assumption) (by repeat (first | exact List.Mem.head _ | refine List.Mem.tail _ ?_))).1 (TS.okA (t := 178) (by assumption) (by repeat (first | exact List.Mem.head _ | refine List.Mem.tail _ ?_))).2 ?_; intro w3 b2 hE3 hn2 _ hB2 hS3) | (refine O_one (v := .agg _) (by assumption) sl81 zc178 (by decide) rfl rfl (TS.okA (t := 178) (by assumption) (by repeat (first | exact List.Mem.head _ | refine List.Mem.tail _ ?_))).1 (TS.okA (t := 178) (by assumption) (by repeat (first | exact List.Mem.head _ | refine List.Mem.tail _ ?_))).2 ?_; intro _ _ _ _ _ _ _))
    | (guard_target =~ WO _ _ (Oper.mk _ (Op.buildSlice 46 1 _) _ _ _ none) _ _ _ _; first | (refine O_one (v := .agg _) (by assumption) sl46 zc126 (by decide) rfl rfl (TS.okA (t := 126) (by assumption) (by repeat (first | exact List.Mem.head _ | refine List.Mem.tail _ ?_))).1 (TS.okA (t := 126) (by assumption) (by repeat (first | exact List.Mem.head _ | refine List.Mem.tail _ ?_))).2 ?_; intro w8 b8 hE8 hn8 _ hB8 hS8; have hcs8 := (TS.okA (t := 126) (by assumption) (by repeat (first | exact List.Mem.head _ | refine List.Mem.tail _ ?_)) : okA B w8 126 _).1) | (refine O_one (v := .agg _) (by assumption) sl46 zc126 (by decide) rfl rfl (TS.okA (t := 126) (by assumption) (by repeat (first | exact List.Mem.head _ | refine List.Mem.tail _ ?_))).1 (TS.okA (t := 126) (by assumption) (by repeat (first | exact List.Mem.head _ | refine List.Mem.tail _ ?_))).2 ?_; intro _ _ _ _ _ _ _))
    | (guard_target =~ WO _ _ (Oper.mk _ (Op.call (Call.mk (Callee.builtin Builtin.append) _ _)) _ _ _ none) _ _ _ _; first | (first | (refine O_appM (by assumption) hV hMu (el := 178) (by repeat (first | exact List.Mem.head _ | refine List.Mem.tail _ ?_)) (by repeat (first | exact List.Mem.head _ | refine List.Mem.tail _ ?_)) rfl rfl rfl sl81 by178 (by decide) zc178 (by decide) rfl rfl (by omega) (by omega) hB2 hcs rfl ?_; intro w4 b4 cap4 hS4 hMu hA4 hV2; have hV := hV2.app hA4 (by decide) (fun h => by cases h) (fun h => by cases h) (fun _ => ⟨rfl, rfl⟩)) | (refine O_appM (by assumption) hV hMu (el := 126) (by repeat (first | exact List.Mem.head _ | refine List.Mem.tail _ ?_)) (by repeat (first | exact List.Mem.head _ | refine List.Mem.tail _ ?_)) rfl rfl rfl sl46 by126 (by decide) zc126 (by decide) rfl rfl (by omega) (by omega) hB8 hcs8 rfl ?_; intro w9 b9 cap9 hS9 hMu hA9 hV9; have hV := hV9.app hA9 (by decide) (fun h => by cases h) (fun h => by cases h) (fun h => by cases h))))
    | (guard_target =~ WO _ _ (Oper.mk _ (Op.store 81 _ _) _ _ _ none) _ _ _ _; first | (refine O_stM (by assumption) hV hMu (by repeat (first | exact List.Mem.head _ | refine List.Mem.tail _ ?_)) rfl on81 rfl rfl (by simp only [csz]; omega) (okp (c' := 100 + 178) rfl (okS (TS.slN (by assumption) (by repeat (first | exact List.Mem.head _ | refine List.Mem.tail _ ?_))))) rfl ?_; intro w5 hS5 hMu he5 _ hW5; have hV := hV2.push hA4 hEnt hnm he5 hW5) | (refine O_st (by assumption) (by repeat (first | exact List.Mem.head _ | refine List.Mem.tail _ ?_)) (by omega) on81 rfl rfl (by first | omega | (simp only [csz]; omega)) (okp (c' := 100 + 178) (by first | rfl | exact layMod rfl rfl) (okS (by first | exact Sl.nil _ | exact TS.slN (by assumption) (by repeat (first | exact List.Mem.head _ | refine List.Mem.tail _ ?_))))) rfl ?_; intro _ _))
    | (guard_target =~ WO _ _ (Oper.mk _ (Op.store 46 _ _) _ _ _ none) _ _ _ _; first | (refine O_stM (by assumption) hV hMu (T := 86) (by repeat (first | exact List.Mem.head _ | refine List.Mem.tail _ ?_)) rfl on46 rfl rfl (by simp only [csz]; omega) (okp (c' := 100 + 126) rfl (okS (TS.slN (by assumption) (by repeat (first | exact List.Mem.head _ | refine List.Mem.tail _ ?_))))) rfl ?_; intro w10 hS10 hMu he10 _ hW10; have hV := hV.setLog hnm hA9.sl he10 hW10) | (refine O_st (by assumption) (by repeat (first | exact List.Mem.head _ | refine List.Mem.tail _ ?_)) (by omega) on46 rfl rfl (by first | omega | (simp only [csz]; omega)) (okp (c' := 100 + 126) (by first | rfl | exact layMod rfl rfl) (okS (by first | exact Sl.nil _ | exact TS.slN (by assumption) (by repeat (first | exact List.Mem.head _ | refine List.Mem.tail _ ?_))))) rfl ?_; intro _ _))
    | (guard_target =~ WO _ _ (Oper.mk _ (Op.call (Call.mk (Callee.value (Operand.func 87)) _ _)) _ _ _ none) _ _ _ _; first | (refine O_rd (l := [.agg _]) (by assumption) cl87 rfl (copiedLog_ok (TS.t (by assumption)) (TS.okA (by assumption) (by repeat (first | exact List.Mem.head _ | refine List.Mem.tail _ ?_)))) ?_; rintro _ _ ⟨_, rfl, hs1⟩ hS1 _; replace hS1 := hS1.addM hs1))
    | (guard_target =~ WO _ _ (Oper.mk _ (Op.load 78 _) _ _ _ none) _ _ _ _; first | (refine O_ldV (by assumption) on78 rfl hV.acc hV.lt ?_))
    | (guard_target =~ WO _ _ (Oper.mk _ (Op.load 79 _) _ _ _ none) _ _ _ _; first | (refine O_ldV (by assumption) on79 rfl hV.slo hV.lt ?_))
    | (guard_target =~ WO _ _ (Oper.mk _ (Op.load 81 _) _ _ _ none) _ _ _ _; first | (refine O_ldV (by assumption) on81 rfl hV.jou hV.lt ?_) | (refine O_lds (t' := 178) (by assumption) (by repeat (first | exact List.Mem.head _ | refine List.Mem.tail _ ?_)) on81 rfl (by first | omega | (simp only [csz]; omega)) (by first | rfl | exact layMod rfl rfl) ?_; intro _ _ _ _ _ _))
    | (guard_target =~ WO _ _ (Oper.mk _ (Op.load 83 _) _ _ _ none) _ _ _ _; first | (refine O_ldV (by assumption) on83 rfl hV.tem hV.lt ?_))
    | (guard_target =~ WO _ _ (Oper.mk _ (Op.load 84 _) _ _ _ none) _ _ _ _; first | (refine O_ldV (by assumption) on84 rfl hV.tta hV.lt ?_))
    | (guard_target =~ WO _ _ (Oper.mk _ (Op.load 21 _) _ _ _ none) _ _ _ _; first | (refine O_ldV (by assumption) on21 rfl hV.nmk hV.lt ?_))
    | (guard_target =~ WO _ _ (Oper.mk _ (Op.load 27 _) _ _ _ none) _ _ _ _; first | (refine O_ldV (by assumption) on27 rfl hV.rf hV.lt ?_))
    | (guard_target =~ WO _ _ (Oper.mk _ _ _ _ _ (some _)) _ _ _ _; first | (refine G_yes rfl ?_) | (refine G_no rfl ?_))
    | (guard_target =~ WC _ _ (Code.region 4 _ true) _ _ _; first | (refine W_drawnT (id := 4) [6, 7] [0, 1, 2, 3, 4, 5, 6, 7, 8, 9, 10, 11] mixed (by kernel_rfl) (by kernel_rfl) (by assumption) ?_; intro _ _ _))
    | (guard_target =~ WO _ _ (Oper.mk _ (Op.box 126 _) _ _ _ none) _ _ _ _; first | (refine O_bxs (by assumption) (by repeat (first | exact List.Mem.head _ | refine List.Mem.tail _ ?_)) rfl ?_; intro _ _ _ _))
    | (guard_target =~ WO _ _ (Oper.mk _ (Op.assign _) _ _ _ none) _ _ _ _; first | (refine O_assign (v := (.int _ _)) rfl ?_) | (refine O_assign (v := (.bool _)) rfl ?_) | (refine O_assign (v := (.pointer _)) rfl ?_) | (refine O_assign (v := (.slice _ _ _)) rfl ?_) | (refine O_assign (v := (.agg _)) rfl ?_) | (refine O_assign (v := (.tuple _)) rfl ?_))
    | (guard_target =~ WO _ _ (Oper.mk _ (Op.move _) _ _ _ none) _ _ _ _; first | (refine O_move (v := (.int _ _)) rfl ?_) | (refine O_move (v := (.bool _)) rfl ?_) | (refine O_move (v := (.pointer _)) rfl ?_) | (refine O_move (v := (.slice _ _ _)) rfl ?_) | (refine O_move (v := (.agg _)) rfl ?_) | (refine O_move (v := (.tuple _)) rfl ?_))
    | (guard_target =~ WO _ _ (Oper.mk _ (Op.unOp _ _ _) _ _ _ none) _ _ _ _; first | (refine O_not rfl ?_))
    | (guard_target =~ WO _ _ (Oper.mk _ (Op.nilCheck _) _ _ _ none) _ _ _ _; first | (refine O_nil rfl ?_))
    | (guard_target =~ WO _ _ (Oper.mk _ (Op.fieldAddr 86 _ 8) _ _ _ none) _ _ _ _; first | (refine O_fdT fd86_8 (by decide) rfl ?_) | (refine O_field fd86_8 (by decide) rfl ?_))
    | (guard_target =~ WO _ _ (Oper.mk _ (Op.call _) _ _ _ none) _ _ _ _; first | (refine O_len Samg.underlying46 rfl rfl ?_) | (refine O_len Samg.underlying124 rfl rfl ?_) | (refine O_len Samg.underlying31 rfl rfl ?_))
    | (guard_target =~ WO _ _ (Oper.mk _ (Op.binOp BinOp.geq 3 _ _ _) _ _ _ none) _ _ _ _; first | (first | (refine O_geqS rfl rfl (fun h => absurd h (by omega)) ?_; intro _) | (refine O_geqS rfl rfl ?_ (fun h => absurd h (by omega)); intro _) | (refine O_geqS rfl rfl ?_ ?_ <;> intro _)))
    | (guard_target =~ WO _ _ (Oper.mk _ (Op.pick _ _ _) _ _ _ none) _ _ _ _; first | (refine O_pick_t (v := (.bool _)) rfl rfl ?_) | (refine O_pick_f (v := (.bool _)) rfl rfl ?_))
    | (guard_target =~ WO _ _ (Oper.mk _ (Op.fieldAddr 126 _ 1) _ _ _ none) _ _ _ _; first | (refine O_fdT fd126_1 (by decide) rfl ?_) | (refine O_field fd126_1 (by decide) rfl ?_))
    | (guard_target =~ WO _ _ (Oper.mk _ (Op.load 124 _) _ _ _ none) _ _ _ _; first | (refine O_lds (t' := 87) (by assumption) (by repeat (first | exact List.Mem.head _ | refine List.Mem.tail _ ?_)) on124 rfl (by first | omega | (simp only [csz]; omega)) (by first | rfl | exact layMod rfl rfl) ?_; intro _ _ _ _ _ _))
    | (guard_target =~ WO _ _ (Oper.mk _ (Op.binOp BinOp.gtr 3 _ _ _) _ _ _ none) _ _ _ _; first | (first | (refine O_gtrS rfl rfl (fun h => absurd h (by omega)) ?_; intro _) | (refine O_gtrS rfl rfl ?_ (fun h => absurd h (by omega)); intro _) | (refine O_gtrS rfl rfl ?_ ?_ <;> intro _)))
    | (guard_target =~ WO _ _ (Oper.mk _ (Op.fieldAddr 126 _ 2) _ _ _ none) _ _ _ _; first | (refine O_fdT fd126_2 (by decide) rfl ?_) | (refine O_field fd126_2 (by decide) rfl ?_))
    | (guard_target =~ WO _ _ (Oper.mk _ (Op.load 31 _) _ _ _ none) _ _ _ _; first | (refine O_lds (t' := 5) (by assumption) (by repeat (first | exact List.Mem.head _ | refine List.Mem.tail _ ?_)) on31 rfl (by first | omega | (simp only [csz]; omega)) (by first | rfl | exact layMod rfl rfl) ?_; intro _ _ _ _ _ _))
    | (guard_target =~ WO _ _ (Oper.mk _ (Op.fieldAddr 86 _ 4) _ _ _ none) _ _ _ _; first | (refine O_fdT fd86_4 (by decide) rfl ?_) | (refine O_field fd86_4 (by decide) rfl ?_))
    | (guard_target =~ WO _ _ (Oper.mk _ (Op.build 178 #[(0, _)]) _ _ _ none) _ _ _ _; first | (refine O_bd (l := [(0, .int .u8 (Nat.cast _))]) (by assumption) st178 zc178 rfl ⟨_, _, rfl, rfl, rfl, rfl⟩ ⟨one_ok (c' := 1) rfl (ok8 (by omega)), trivial⟩ ?_; intro _ _ _))
    | (guard_target =~ WO _ _ (Oper.mk _ (Op.load 126 _) _ _ _ none) _ _ _ _; first | (refine O_lda (by assumption) (by repeat (first | exact List.Mem.head _ | refine List.Mem.tail _ ?_)) ag126 rfl (by first | omega | (simp only [csz]; omega)) (by first | exact laySub0 rfl rfl | exact laySub rfl rfl rfl | exact laySame (by decide)) ?_; intro _ _ _)))
  all_goals first
    | exact E_ret rfl rfl rfl ⟨hMu, TS.t (by assumption), _, hV, VI.pushL hI (by omega) (by omega) rfl (by omega) (by omega) (fun _ => by omega) (by omega) (fun h => absurd h (by unfold acctK; decide)) (fun h => absurd h (by unfold slotK; decide)) (fun h => by cases h), _, rfl, Steady.push (K := 7) (a := 0) (n := 0) (g := fun _ => 0) hI rfl rfl rfl rfl rfl rfl rfl rfl (undo_n (by decide) (by decide) (by decide))⟩
    | exact E_ret rfl rfl rfl ⟨hMu.trans (TS.mu (by assumption) hV.B0), TS.t (by assumption), σ, hV.ext (TS.e (by assumption)), hI, _, rfl, Steady.refl σ⟩
theorem zeroCells_zs (z : Array Value) (n : Nat) : Builtin.zeroCells z n = zs (n * z.size) z := rfl
section
variable {P : Program} {ops : Array Oper} {K : Env → World → Prop} {ρ : Env} {w w0 wS : World} {ty : TypeId} {pos : String} {af : Array Edge} {B : Nat} {L : List Fact} {M : List (Nat × Array Value)}
theorem O_clr {s : Nat} {σ : VS} {x : Operand} {ats : Array TypeId} (h : TS B w0 w L M) (hV : V B w0 s σ) (hM : Mu B wS w0) (hat : ats[0]? = some 81) (ht : slcT P 81 178 (csz 178)) (hz : zchk P 178 = true) (hx : ev ρ x = .slice σ.aJ σ.nj σ.cJ)
    (k : ∀ w', WT B w' → Mu B wS w' → V B w' s { σ with kd := fun _ => 0, ja := fun _ => 0, jn := fun _ => 0, jw := fun _ _ => 0 } → K ρ w') : WO P ops ⟨none, .call ⟨.builtin .clear, #[x], ats⟩, ty, pos, af, none⟩ false K ρ w := by
  obtain ⟨z, z1, z2, z3⟩ := zchk.ok hz
  have hVw := hV.ext h.e
  obtain ⟨s1, s2, s3⟩ := hVw.sJ
  have hz9 : z.cells.size = 9 := z2
  by_cases hn0 : σ.nj = 0
  · refine O_do (v := .tuple #[]) (w' := w) rfl ?_ (fun h => by cases h) (k w h.t (hM.trans (h.e.mu hV.B0)) ?_)
    · simp only [execOp, resolve, List.map_toArray, List.map_cons, List.map_nil, invoke, builtin, Builtin.clear_, Sem.run_bind, Sem.run_pure, Result.andThen_ok, hat, hx, hn0, List.getElem?_toArray, List.getElem?_cons_zero, run_underlying' ht.1]
      cases σ.aJ <;> simp
    · exact { hVw with
        jk := fun b hb i hi => by have hi : i < σ.nj := hi; omega
        jat := fun b hb i hi => by have hi : i < σ.nj := hi; omega
        jnn := fun b hb i hi => by have hi : i < σ.nj := hi; omega
        jww := fun b hb i k hi => by have hi : i < σ.nj := hi; omega }
  · rcases s3 with ⟨_, s3⟩ | ⟨b, s3, hB, c, hb, hc⟩
    · omega
    have hle : σ.nj * 9 ≤ c.size := by rw [hc]; exact Nat.mul_le_mul_right _ s1
    have hzl : (zs (σ.nj * 9) z.cells).size = σ.nj * 9 := by simp [zs]
    have hzg : ∀ j, j < σ.nj * 9 → ∃ u, (zs (σ.nj * 9) z.cells)[j]? = some u ∧ okZ (lay 178 (j % 9)) u = true := by
      intro j hj
      have hj2 : j < (zs (σ.nj * 9) z.cells).size := by rw [hzl]; exact hj
      refine ⟨(zs (σ.nj * 9) z.cells)[j], by simp [hj2], ?_⟩
      have := zs_get (by omega) (show (zs (σ.nj * 9) z.cells)[j]? = some (zs (σ.nj * 9) z.cells)[j] by simp [hj2])
      rw [hz9] at this
      obtain ⟨u, e1, e2⟩ := z3 (j % 9) (Nat.mod_lt _ (by omega))
      rw [e1] at this
      cases this; exact e2
    have hone : ∀ v ∈ (zs (σ.nj * 9) z.cells).toList, v.oneCell' = true := fun v hv => by
      obtain ⟨j, hj⟩ := List.getElem?_of_mem hv
      rw [Array.getElem?_toList] at hj
      obtain ⟨u, e1, e2⟩ := hzg j (by have := get_lt hj; rw [hzl] at this; exact this)
      rw [e1] at hj; cases hj
      exact (okZ.ok (B := B) (w := w) e2).one
    obtain ⟨w', hr, hu⟩ := run_storeCells (P := P) (zs (σ.nj * 9) z.cells).toList w c 0 0 hb (by rw [Array.length_toList, hzl]; omega) hone
    rw [Nat.add_zero] at hu
    have hsz : (spl c 0 (zs (σ.nj * 9) z.cells).toList).size = c.size := spl_size _ _ _
    have hwt : WT B w' := h.t.upd hb hu hsz fun o v hv => by
      rw [spl_get'] at hv
      split at hv
      · rw [Array.getElem?_toList, Nat.sub_zero] at hv
        obtain ⟨u, e1, e2⟩ := hzg o (by have := get_lt hv; rw [hzl] at this; exact this)
        rw [e1] at hv; cases hv; exact okZ.ok e2
      · exact h.t.ok b c 178 hB hb o v hv
    have hp := hu.shp hb hsz
    have hW := hu.wr hb (by rw [hzl]; omega)
    have hT : Sl B w 178 (some ⟨b, 0, none⟩) σ.nj σ.cJ := s3 ▸ hVw.sJ
    have key : ∀ (r : Nat) (G : Value), r < 9 → (∀ u, okZ (lay 178 r) u = true → u = G) → ∀ b', σ.aJ = some ⟨b', 0, none⟩ → ∀ i, i < σ.nj → w'.cell? ⟨b', i * 9 + r, none⟩ = some G := by
      intro r G hr hG b' hb' i hi
      rw [s3] at hb'; cases hb'
      rw [hW b (i * 9 + r), if_pos ⟨rfl, Nat.zero_le _, by rw [hzl]; omega⟩, Nat.sub_zero]
      obtain ⟨u, e1, e2⟩ := hzg (i * 9 + r) (by omega)
      rw [show (i * 9 + r) % 9 = r by omega] at e2
      rw [e1, hG u e2]
    refine O_do (v := .tuple #[]) (w' := w') rfl ?_ (fun h => by cases h) (k w' hwt ((hM.trans (h.e.mu hV.B0)).trans (hu.mu hb hsz hB rfl)) (V.arena hVw hp hW.ne hT (by decide) (hVw.ba_keep hW.ne hT (by decide)) (hVw.va_keep hW.ne hT (by decide)) (hVw.og_keep hW.ne hT (by decide)) (key 0 _ (by omega) fun u hu => okZ_1 hu) (key 1 _ (by omega) fun u hu => okZ_3 hu) (key 2 _ (by omega) fun u hu => okZ_2 hu) (fun b' hb' i k hi hk => key (3 + k) _ (by omega) (fun u hu => okZ_2 (by rw [show lay 178 (3 + k) = 2 by simp only [lay]; rw [if_neg (by omega), if_neg (by omega), if_pos (by omega)]] at hu; exact hu)) b' hb' i hi)))
    simp only [execOp, resolve, List.map_toArray, List.map_cons, List.map_nil, invoke, builtin, Builtin.clear_, Sem.run_bind, Sem.run_pure, Result.andThen_ok, hat, hx, s3, List.getElem?_toArray, List.getElem?_cons_zero, run_underlying' ht.1, run_zeroValue z1, zeroCells_zs, hz9, hr]
end
section
variable {P : Program} {ops : Array Oper} {e : Bool} {K : Env → World → Prop} {ρ : Env} {w w0 : World} {d : Nat} {ty : TypeId} {pos : String} {af : Array Edge} {B : Nat} {L : List Fact} {M : List (Nat × Array Value)}
theorem O_sl0 {t el s n cap : Nat} {k1 : IntKind} {a : Option Addr} {x x2 : Operand} (h : TS B w0 w L M) (hm : (el, a, n, cap) ∈ L) (ht : slcT P t el s) (hx : ev ρ x = .slice a n cap) (hhi : ev ρ x2 = .int k1 ((0 : Nat) : Int))
    (k : TS B w0 w ((el, a, 0, cap) :: L) M → K (put ρ d (.slice a 0 cap)) w) : WO P ops ⟨some d, .slice t x none (some x2) none, ty, pos, af, none⟩ e K ρ w := by
  obtain ⟨s1, s2, s3⟩ := h.slN hm
  have hT := k (h.addL ⟨by omega, by omega, s3⟩)
  rcases s3 with ⟨s3, s4⟩ | ⟨b, s3, s4⟩
  · subst s3; subst s4
    have : n = 0 := by omega
    subst this
    exact O_slice_nil ht hx rfl ⟨_, hhi⟩ rfl (fun h => by cases h) hT
  · subst s3
    refine O_slice_s (l := 0) (h := 0) (m := cap) ht hx rfl ⟨_, hhi⟩ rfl (fun h => by cases h) (Nat.zero_le _) (by omega) (Nat.le_refl _) ?_
    rw [Nat.zero_mul, Nat.sub_zero, Nat.sub_zero]
    split <;> exact hT
end
theorem VI.reset {σ : VS} (h : VI σ) {aJ aL aT aH : Option Addr} {cJ cL cT nh cH : Nat} {mks kd ja jn : Nat → Nat} {jw : Nat → Nat → Nat} (hjn : ∀ i, jn i < 18446744073709551616) (hjw : ∀ i k, jw i k < 18446744073709551616) : VI { σ with aJ := aJ, nj := 0, cJ := cJ, aL := aL, nl := 0, cL := cL, aT := aT, nt := 0, cT := cT, aH := aH, nh := nh, cH := cH, nm := 0, mks := mks, ref := 0, kd := kd, ja := ja, jn := jn, jw := jw } :=
  { h with
    nj := Nat.zero_le _
    nm := Nat.zero_le _
    nl := Nat.zero_le _
    nt := Nat.zero_le _
    mle := fun i hi => absurd hi (Nat.not_lt_zero _)
    mono := fun i j _ hj => absurd hj (Nat.not_lt_zero _)
    jw := hjw
    jn := hjn
    ref := by show 0 < _; omega
    kd := fun i hi => absurd hi (Nat.not_lt_zero _)
    pa := fun i hi => absurd hi (Nat.not_lt_zero _)
    ps := fun i hi => absurd hi (Nat.not_lt_zero _)
    pt := fun i hi => absurd hi (Nat.not_lt_zero _)
    jr := fun i hi => absurd hi (Nat.not_lt_zero _)
    logs := rfl }
theorem VI.origs {σ : VS} (h : VI σ) {a : Nat} {g : Nat → Nat} (ha : a < σ.ns) (hg : ∀ i, g i < 18446744073709551616) : VI { σ with orig := fun i k => if i = a then g k else σ.orig i k } :=
  { h with
    orig := fun i k => by show (if i = a then g k else σ.orig i k) < _; split; exact hg k; exact h.orig i k
    zo := fun i k hi => by
      have hi : σ.ns ≤ i := hi
      show (if i = a then g k else σ.orig i k) = 0
      rw [if_neg (by omega)]; exact h.zo i k hi }
theorem V.acctOf {B s : Nat} {σ : VS} {w : World} {b i : Nat} (hV : V B w s σ) (hT : WT B w) (hb : σ.aS = some ⟨b, 0, none⟩) (hi : i < σ.ns) : ∃ z : Int, w.cell? ⟨b, i * 14 + 0, none⟩ = some (.int .i32 z) ∧ -2147483648 ≤ z ∧ z < 2147483648 := by
  have hs := hV.sS
  rw [hb] at hs
  have h1 := hs.1
  rcases hs.2.2 with ⟨h, _⟩ | ⟨b', h, hB, c, hbk, hc⟩
  · cases h
  · cases h
    have hlt : i * 14 + 0 < c.size := by rw [hc]; simp only [csz]; omega
    have := hT.ok b c 153 hB hbk (i * 14 + 0) c[i * 14 + 0] (by simp [hlt])
    rw [show lay 153 ((i * 14 + 0) % csz 153) = 3 from layMod rfl rfl] at this
    obtain ⟨z, e, h2, h3⟩ := this.i32
    refine ⟨z, ?_, h2, h3⟩
    rw [hbk.cellq, Array.getElem?_eq_getElem hlt, e]
set_option maxHeartbeats 8000000 in
theorem endTx_ok {B s : Nat} {σ : VS} {w : World} (hT : WT B w) (hV : V B w s σ) (hI : VI σ) : Ret Samg.prog 69 #[.pointer (some ⟨s, 0, none⟩)] w (Mt B s w fun v σ' => v = .tuple #[]) := by
  refine W_enter (l := [_]) Samg.func69 rfl rfl rfl ?_
  have hS := hV.start hT; have hMu := Mu.refl B w; have hna := hI.na; have hns := hI.ns; have hnt := hI.nt; have hnj := hI.nj; have hnm := hI.nm; have hnl := hI.nl
  repeat' (first
    | (refine L_cons ?_)
    | (refine R_cons rfl ?_)
    | (refine W_seq ?_)
    | (refine W_region (by kernel_rfl) ?_)
    | (refine L_nil ?_)
    | (refine R_nil ?_)
    | (refine W_block ?_)
    | (refine W_skip ?_)
    | (refine W_exit ?_)
    | (refine W_ret ?_)
    | (guard_target =~ thenQ _ _ _ _ _; first | (refine T_next ?_) | (refine T_exit ?_) | (refine T_ret ?_))
    | (guard_target =~ blockQ _ _ _ _ _; first | (refine B_next ?_) | (refine B_same ?_) | (refine B_other (by kernel_rfl) ?_) | (refine B_ret ?_))
    | (refine W_true rfl rfl ?_)
    | (refine W_false rfl rfl ?_)
    | (guard_target =~ WO _ _ (Oper.mk _ (Op.call (Call.mk (Callee.builtin Builtin.clear) _ _)) _ _ _ none) _ _ _ _; first | (refine O_clr (by assumption) hV hMu rfl sl81 zc178 rfl ?_; intro w1 hT1 hMu hV; have hS1 := hV.start hT1))
    | (guard_target =~ WO _ _ (Oper.mk _ (Op.load 81 _) _ _ _ none) _ _ _ _; first | (refine O_ldV (v := .slice σ.aJ σ.nj σ.cJ) (by assumption) on81 rfl hV.jou hV.lt ?_) | (refine O_ldV (by assumption) on81 rfl hV.jou hV.lt ?_) | (refine O_lds (t' := 178) (by assumption) (by repeat (first | exact List.Mem.head _ | refine List.Mem.tail _ ?_)) on81 rfl (by first | omega | (simp only [csz]; omega)) (by first | rfl | exact layMod rfl rfl) ?_; intro _ _ _ _ _ _))
    | (guard_target =~ WO _ _ (Oper.mk _ (Op.slice 81 _ none (some _) none) _ _ _ none) _ _ _ _; first | (refine O_sl0 (by assumption) (by repeat (first | exact List.Mem.head _ | refine List.Mem.tail _ ?_)) sl81 rfl rfl ?_; intro _))
    | (guard_target =~ WO _ _ (Oper.mk _ (Op.load 78 _) _ _ _ none) _ _ _ _; first | (refine O_ldV (by assumption) on78 rfl hV.acc hV.lt ?_) | (refine O_lds (t' := 148) (by assumption) (by repeat (first | exact List.Mem.head _ | refine List.Mem.tail _ ?_)) on78 rfl (by first | omega | (simp only [csz]; omega)) (by first | rfl | exact layMod rfl rfl) ?_; intro _ _ _ _ _ _))
    | (guard_target =~ WO _ _ (Oper.mk _ (Op.load 79 _) _ _ _ none) _ _ _ _; first | (refine O_ldV (by assumption) on79 rfl hV.slo hV.lt ?_) | (refine O_lds (t' := 153) (by assumption) (by repeat (first | exact List.Mem.head _ | refine List.Mem.tail _ ?_)) on79 rfl (by first | omega | (simp only [csz]; omega)) (by first | rfl | exact layMod rfl rfl) ?_; intro _ _ _ _ _ _))
    | (guard_target =~ WO _ _ (Oper.mk _ (Op.load 46 _) _ _ _ none) _ _ _ _; first | (refine O_ldV (by assumption) on46 rfl hV.log hV.lt ?_))
    | (guard_target =~ WO _ _ (Oper.mk _ (Op.load 83 _) _ _ _ none) _ _ _ _; first | (refine O_ldV (by assumption) on83 rfl hV.tem hV.lt ?_))
    | (guard_target =~ WO _ _ (Oper.mk _ (Op.load 84 _) _ _ _ none) _ _ _ _; first | (refine O_ldV (by assumption) on84 rfl hV.tta hV.lt ?_))
    | (guard_target =~ WO _ _ (Oper.mk _ (Op.load 21 _) _ _ _ none) _ _ _ _; first | (refine O_ldV (by assumption) on21 rfl hV.nmk hV.lt ?_) | (refine O_ld32 (by assumption) (by repeat (first | exact List.Mem.head _ | refine List.Mem.tail _ ?_)) on21 rfl (by first | omega | (simp only [csz]; omega)) (by first | rfl | exact layMod rfl rfl) ?_; intro _ _ _))
    | (guard_target =~ WO _ _ (Oper.mk _ (Op.load 27 _) _ _ _ none) _ _ _ _; first | (refine O_ldV (by assumption) on27 rfl hV.rf hV.lt ?_))
    | (guard_target =~ WO _ _ (Oper.mk _ _ _ _ _ (some _)) _ _ _ _; first | (refine G_yes rfl ?_) | (refine G_no rfl ?_))
    | (guard_target =~ WC _ _ (Code.region 11 _ true) _ _ _; first | (refine W_drawnT (id := 11) [] [0, 1, 2, 3, 4, 5, 6, 7, 8, 9, 10, 11, 12, 13, 14, 15, 16, 17, 18, 19, 20, 21, 22, 23, 24, 25, 26, 27, 28, 29, 30] mixed (by kernel_rfl) (by kernel_rfl) (by assumption) ?_; intro _ _ _))
    | (guard_target =~ WO _ _ (Oper.mk _ (Op.move _) _ _ _ none) _ _ _ _; first | (refine O_move (v := (.int _ _)) rfl ?_) | (refine O_move (v := (.bool _)) rfl ?_) | (refine O_move (v := (.pointer _)) rfl ?_) | (refine O_move (v := (.slice _ _ _)) rfl ?_) | (refine O_move (v := (.agg _)) rfl ?_) | (refine O_move (v := (.tuple _)) rfl ?_))
    | (guard_target =~ WO _ _ (Oper.mk _ (Op.nilCheck _) _ _ _ none) _ _ _ _; first | (refine O_nil rfl ?_))
    | (guard_target =~ WO _ _ (Oper.mk _ (Op.fieldAddr 86 _ 4) _ _ _ none) _ _ _ _; first | (refine O_fdT fd86_4 (by decide) rfl ?_) | (refine O_field fd86_4 (by decide) rfl ?_))
    | (guard_target =~ WO _ _ (Oper.mk _ (Op.fieldAddr 86 _ 6) _ _ _ none) _ _ _ _; first | (refine O_fdT fd86_6 (by decide) rfl ?_) | (refine O_field fd86_6 (by decide) rfl ?_))
    | (guard_target =~ WO _ _ (Oper.mk _ (Op.store 21 _ _) _ _ _ none) _ _ _ _; first | (refine O_st (by assumption) (by repeat (first | exact List.Mem.head _ | refine List.Mem.tail _ ?_)) (by omega) on21 rfl rfl (by first | omega | (simp only [csz]; omega)) (by first | exact okp (c' := 2) (by first | rfl | exact layMod rfl rfl) (ok64 (by omega)) | exact okp (c' := 1) (by first | rfl | exact layMod rfl rfl) (ok8 (by omega)) | exact okp (c' := 3) (by first | rfl | exact layMod rfl rfl) (ok32 (by omega) (by omega)) | exact okp (c' := 4) (by first | rfl | exact layMod rfl rfl) okB_) rfl ?_; intro _ _))
    | (guard_target =~ WO _ _ (Oper.mk _ (Op.fieldAddr 86 _ 7) _ _ _ none) _ _ _ _; first | (refine O_fdT fd86_7 (by decide) rfl ?_) | (refine O_field fd86_7 (by decide) rfl ?_))
    | (guard_target =~ WO _ _ (Oper.mk _ (Op.store 27 _ _) _ _ _ none) _ _ _ _; first | (refine O_st (by assumption) (by repeat (first | exact List.Mem.head _ | refine List.Mem.tail _ ?_)) (by omega) on27 rfl rfl (by first | omega | (simp only [csz]; omega)) (by first | exact okp (c' := 2) (by first | rfl | exact layMod rfl rfl) (ok64 (by omega)) | exact okp (c' := 1) (by first | rfl | exact layMod rfl rfl) (ok8 (by omega)) | exact okp (c' := 3) (by first | rfl | exact layMod rfl rfl) (ok32 (by omega) (by omega)) | exact okp (c' := 4) (by first | rfl | exact layMod rfl rfl) okB_) rfl ?_; intro _ _))
    | (guard_target =~ WO _ _ (Oper.mk _ (Op.fieldAddr 86 _ 8) _ _ _ none) _ _ _ _; first | (refine O_fdT fd86_8 (by decide) rfl ?_) | (refine O_field fd86_8 (by decide) rfl ?_))
    | (guard_target =~ WO _ _ (Oper.mk _ (Op.store 46 _ _) _ _ _ none) _ _ _ _; first | (refine O_st (by assumption) (by repeat (first | exact List.Mem.head _ | refine List.Mem.tail _ ?_)) (by omega) on46 rfl rfl (by first | omega | (simp only [csz]; omega)) (okp (c' := 100 + 126) (by first | rfl | exact layMod rfl rfl) (okS (by first | exact Sl.nil _ | exact TS.slN (by assumption) (by repeat (first | exact List.Mem.head _ | refine List.Mem.tail _ ?_))))) rfl ?_; intro _ _))
    | (guard_target =~ WO _ _ (Oper.mk _ (Op.fieldAddr 86 _ 9) _ _ _ none) _ _ _ _; first | (refine O_fdT fd86_9 (by decide) rfl ?_) | (refine O_field fd86_9 (by decide) rfl ?_))
    | (guard_target =~ WO _ _ (Oper.mk _ (Op.store 83 _ _) _ _ _ none) _ _ _ _; first | (refine O_st (by assumption) (by repeat (first | exact List.Mem.head _ | refine List.Mem.tail _ ?_)) (by omega) on83 rfl rfl (by first | omega | (simp only [csz]; omega)) (okp (c' := 100 + 172) (by first | rfl | exact layMod rfl rfl) (okS (by first | exact Sl.nil _ | exact TS.slN (by assumption) (by repeat (first | exact List.Mem.head _ | refine List.Mem.tail _ ?_))))) rfl ?_; intro _ _))
    | (guard_target =~ WO _ _ (Oper.mk _ (Op.fieldAddr 86 _ 10) _ _ _ none) _ _ _ _; first | (refine O_fdT fd86_10 (by decide) rfl ?_) | (refine O_field fd86_10 (by decide) rfl ?_))
    | (guard_target =~ WO _ _ (Oper.mk _ (Op.store 84 _ _) _ _ _ none) _ _ _ _; first | (refine O_st (by assumption) (by repeat (first | exact List.Mem.head _ | refine List.Mem.tail _ ?_)) (by omega) on84 rfl rfl (by first | omega | (simp only [csz]; omega)) (okp (c' := 100 + 21) (by first | rfl | exact layMod rfl rfl) (okS (by first | exact Sl.nil _ | exact TS.slN (by assumption) (by repeat (first | exact List.Mem.head _ | refine List.Mem.tail _ ?_))))) rfl ?_; intro _ _))
    | (guard_target =~ WO _ _ (Oper.mk _ (Op.fieldAddr 86 _ 1) _ _ _ none) _ _ _ _; first | (refine O_fdT fd86_1 (by decide) rfl ?_) | (refine O_field fd86_1 (by decide) rfl ?_))
    | (guard_target =~ WO _ _ (Oper.mk _ (Op.call _) _ _ _ none) _ _ _ _; first | (refine O_len Samg.underlying79 rfl rfl ?_) | (refine O_len Samg.underlying78 rfl rfl ?_))
    | (guard_target =~ WO _ _ (Oper.mk _ (Op.binOp BinOp.lss 3 _ _ _) _ _ _ none) _ _ _ _; first | (first | (refine O_lssS rfl rfl (fun h => absurd h (by omega)) ?_; intro _) | (refine O_lssS rfl rfl ?_ (fun h => absurd h (by omega)); intro _) | (refine O_lssS rfl rfl ?_ ?_ <;> intro _)))
    | (guard_target =~ WO _ _ (Oper.mk _ (Op.assign _) _ _ _ none) _ _ _ _; first | (refine O_assign (v := (.int _ _)) rfl ?_) | (refine O_assign (v := (.bool _)) rfl ?_) | (refine O_assign (v := (.pointer _)) rfl ?_) | (refine O_assign (v := (.slice _ _ _)) rfl ?_) | (refine O_assign (v := (.agg _)) rfl ?_) | (refine O_assign (v := (.tuple _)) rfl ?_))
    | (guard_target =~ WO _ _ (Oper.mk _ (Op.indexAddr 79 _ _) _ _ _ none) _ _ _ _; first | (refine O_ixK (by assumption) (by repeat (first | exact List.Mem.head _ | refine List.Mem.tail _ ?_)) sl79 rfl rfl (by omega) (by omega) ?_; rintro _ _ _) | (refine O_ixN (by assumption) (by repeat (first | exact List.Mem.head _ | refine List.Mem.tail _ ?_)) sl79 rfl rfl (by omega) (by omega) ?_; rintro _ _ _ _ _ _))
    | (guard_target =~ WO _ _ (Oper.mk _ (Op.fieldAddr 153 _ 0) _ _ _ none) _ _ _ _; first | (refine O_fdT fd153_0 (by decide) rfl ?_) | (refine O_field fd153_0 (by decide) rfl ?_))
    | (guard_target =~ WO _ _ (Oper.mk _ (Op.binOp BinOp.geq 21 _ _ _) _ _ _ none) _ _ _ _; first | (first | (refine O_geqS rfl rfl (fun h => absurd h (by omega)) ?_; intro _) | (refine O_geqS rfl rfl ?_ (fun h => absurd h (by omega)); intro _) | (refine O_geqS rfl rfl ?_ ?_ <;> intro _)))
    | (guard_target =~ WO _ _ (Oper.mk _ (Op.convert 21 3 _) _ _ _ none) _ _ _ _; first | (refine O_convZ Samg.underlying21 Samg.underlying3 rfl (by simp only [rngZ]; omega) ?_) | (refine O_convA Samg.underlying21 Samg.underlying3 rfl rfl ?_; intro _ hr; simp only [rngZ] at hr))
    | (guard_target =~ WO _ _ (Oper.mk _ (Op.fieldAddr 86 _ 0) _ _ _ none) _ _ _ _; first | (refine O_fdT fd86_0 (by decide) rfl ?_) | (refine O_field fd86_0 (by decide) rfl ?_))
    | (guard_target =~ WO _ _ (Oper.mk _ (Op.pick _ _ _) _ _ _ none) _ _ _ _; first | (refine O_pick_t (v := (.bool _)) rfl rfl ?_) | (refine O_pick_f (v := (.bool _)) rfl rfl ?_))
    | (guard_target =~ WO _ _ (Oper.mk _ (Op.indexAddr 78 _ _) _ _ _ none) _ _ _ _; first | (refine O_ixK (by assumption) (by repeat (first | exact List.Mem.head _ | refine List.Mem.tail _ ?_)) sl78 rfl rfl (by omega) (by omega) ?_; rintro _ _ _) | (refine O_ixN (by assumption) (by repeat (first | exact List.Mem.head _ | refine List.Mem.tail _ ?_)) sl78 rfl rfl (by omega) (by omega) ?_; rintro _ _ _ _ _ _))
    | (guard_target =~ WO _ _ (Oper.mk _ (Op.fieldAddr 148 _ 6) _ _ _ none) _ _ _ _; first | (refine O_fdT fd148_6 (by decide) rfl ?_) | (refine O_field fd148_6 (by decide) rfl ?_))
    | (guard_target =~ WO _ _ (Oper.mk _ (Op.load 4 _) _ _ _ none) _ _ _ _; first | (refine O_ldb (by assumption) (by repeat (first | exact List.Mem.head _ | refine List.Mem.tail _ ?_)) on4 rfl (by first | omega | (simp only [csz]; omega)) (by first | rfl | exact layMod rfl rfl) ?_ ?_))
    | (guard_target =~ WO _ _ (Oper.mk _ (Op.build 45 #[]) _ _ _ none) _ _ _ _; first | (refine O_bdn64 (l := []) (by assumption) ar45 zc45 rfl rfl rfl rfl trivial ?_; intro _ _))
    | (guard_target =~ WO _ _ (Oper.mk _ (Op.fieldAddr 153 _ 2) _ _ _ none) _ _ _ _; first | (refine O_fdT fd153_2 (by decide) rfl ?_) | (refine O_field fd153_2 (by decide) rfl ?_))
    | (guard_target =~ WO _ _ (Oper.mk _ (Op.store 45 _ _) _ _ _ none) _ _ _ _; first | (refine O_stn64 (by assumption) (by repeat (first | exact List.Mem.head _ | refine List.Mem.tail _ ?_)) (by omega) ag45 rfl rfl (by assumption) (by first | omega | (simp only [csz]; omega)) (by first | exact layRun0 rfl rfl | exact layRun rfl rfl rfl) rfl ?_; intro _ _))
    | (guard_target =~ WO _ _ (Oper.mk _ (Op.fieldAddr 153 _ 4) _ _ _ none) _ _ _ _; first | (refine O_fdT fd153_4 (by decide) rfl ?_) | (refine O_field fd153_4 (by decide) rfl ?_))
    | (guard_target =~ WO _ _ (Oper.mk _ (Op.store 4 _ _) _ _ _ none) _ _ _ _; first | (refine O_st (by assumption) (by repeat (first | exact List.Mem.head _ | refine List.Mem.tail _ ?_)) (by omega) on4 rfl rfl (by first | omega | (simp only [csz]; omega)) (by first | exact okp (c' := 2) (by first | rfl | exact layMod rfl rfl) (ok64 (by omega)) | exact okp (c' := 1) (by first | rfl | exact layMod rfl rfl) (ok8 (by omega)) | exact okp (c' := 3) (by first | rfl | exact layMod rfl rfl) (ok32 (by omega) (by omega)) | exact okp (c' := 4) (by first | rfl | exact layMod rfl rfl) okB_) rfl ?_; intro _ _))
    | (guard_target =~ WO _ _ (Oper.mk _ (Op.load 45 _) _ _ _ none) _ _ _ _; first | (refine O_ldn64 (by assumption) (by repeat (first | exact List.Mem.head _ | refine List.Mem.tail _ ?_)) ag45 rfl (by first | omega | (simp only [csz]; omega)) (by first | exact layRun0 rfl rfl | exact layRun rfl rfl rfl) ?_; intro _ _))
    | (guard_target =~ WO _ _ (Oper.mk _ (Op.fieldAddr 153 _ 3) _ _ _ none) _ _ _ _; first | (refine O_fdT fd153_3 (by decide) rfl ?_) | (refine O_field fd153_3 (by decide) rfl ?_))
    | (guard_target =~ WO _ _ (Oper.mk _ (Op.binOp BinOp.add 3 _ _ _) _ _ _ none) _ _ _ _; first | (refine O_addZ rfl rfl (by simp only [rngZ]; omega) ?_))
    | (guard_target =~ WO _ _ (Oper.mk _ (Op.fieldAddr 148 _ 1) _ _ _ none) _ _ _ _; first | (refine O_fdT fd148_1 (by decide) rfl ?_) | (refine O_field fd148_1 (by decide) rfl ?_))
    | (guard_target =~ WO _ _ (Oper.mk _ (Op.fieldAddr 148 _ 3) _ _ _ none) _ _ _ _; first | (refine O_fdT fd148_3 (by decide) rfl ?_) | (refine O_field fd148_3 (by decide) rfl ?_))
    | (guard_target =~ WO _ _ (Oper.mk _ (Op.store 31 _ _) _ _ _ none) _ _ _ _; first | (refine O_st (by assumption) (by repeat (first | exact List.Mem.head _ | refine List.Mem.tail _ ?_)) (by omega) on31 rfl rfl (by first | omega | (simp only [csz]; omega)) (okp (c' := 100 + 5) (by first | rfl | exact layMod rfl rfl) (okS (by first | exact Sl.nil _ | exact TS.slN (by assumption) (by repeat (first | exact List.Mem.head _ | refine List.Mem.tail _ ?_))))) rfl ?_; intro _ _))
    | (guard_target =~ WO _ _ (Oper.mk _ (Op.fieldAddr 148 _ 4) _ _ _ none) _ _ _ _; first | (refine O_fdT fd148_4 (by decide) rfl ?_) | (refine O_field fd148_4 (by decide) rfl ?_))
    | (guard_target =~ WO _ _ (Oper.mk _ (Op.fieldAddr 148 _ 5) _ _ _ none) _ _ _ _; first | (refine O_fdT fd148_5 (by decide) rfl ?_) | (refine O_field fd148_5 (by decide) rfl ?_)))
  refine O_stM (by assumption) hV hMu (T := 86) (by repeat (first | exact List.Mem.head _ | refine List.Mem.tail _ ?_)) rfl on81 rfl rfl (by simp only [csz]; omega) (okp (c' := 100 + 178) rfl (okS (TS.slN (by assumption) (by repeat (first | exact List.Mem.head _ | refine List.Mem.tail _ ?_))))) rfl ?_
  intro w2 hS2 hMu he2 hV0 hW2
  have hV := hV0.setJou hnm (n := 0) (kd := fun _ => 0) (ja := fun _ => 0) (jn := fun _ => 0) (jw := fun _ _ => 0) (TS.slN (by assumption) (by repeat (first | exact List.Mem.head _ | refine List.Mem.tail _ ?_))) (fun b hb i hi => absurd hi (Nat.not_lt_zero _)) (fun b hb i hi => absurd hi (Nat.not_lt_zero _)) (fun b hb i hi => absurd hi (Nat.not_lt_zero _)) (fun b hb i k hi => absurd hi (Nat.not_lt_zero _)) he2 hW2
  repeat' (first
    | (refine L_cons ?_)
    | (refine R_cons rfl ?_)
    | (refine W_seq ?_)
    | (refine W_region (by kernel_rfl) ?_)
    | (refine L_nil ?_)
    | (refine R_nil ?_)
    | (refine W_block ?_)
    | (refine W_skip ?_)
    | (refine W_exit ?_)
    | (refine W_ret ?_)
    | (guard_target =~ thenQ _ _ _ _ _; first | (refine T_next ?_) | (refine T_exit ?_) | (refine T_ret ?_))
    | (guard_target =~ blockQ _ _ _ _ _; first | (refine B_next ?_) | (refine B_same ?_) | (refine B_other (by kernel_rfl) ?_) | (refine B_ret ?_))
    | (refine W_true rfl rfl ?_)
    | (refine W_false rfl rfl ?_)
    | (guard_target =~ WO _ _ (Oper.mk _ (Op.load 78 _) _ _ _ none) _ _ _ _; first | (refine O_ldV (by assumption) on78 rfl hV.acc hV.lt ?_) | (refine O_lds (t' := 148) (by assumption) (by repeat (first | exact List.Mem.head _ | refine List.Mem.tail _ ?_)) on78 rfl (by first | omega | (simp only [csz]; omega)) (by first | rfl | exact layMod rfl rfl) ?_; intro _ _ _ _ _ _))
    | (guard_target =~ WO _ _ (Oper.mk _ (Op.load 79 _) _ _ _ none) _ _ _ _; first | (refine O_ldV (by assumption) on79 rfl hV.slo hV.lt ?_) | (refine O_lds (t' := 153) (by assumption) (by repeat (first | exact List.Mem.head _ | refine List.Mem.tail _ ?_)) on79 rfl (by first | omega | (simp only [csz]; omega)) (by first | rfl | exact layMod rfl rfl) ?_; intro _ _ _ _ _ _))
    | (guard_target =~ WO _ _ (Oper.mk _ (Op.load 81 _) _ _ _ none) _ _ _ _; first | (refine O_ldV (by assumption) on81 rfl hV.jou hV.lt ?_) | (refine O_lds (t' := 178) (by assumption) (by repeat (first | exact List.Mem.head _ | refine List.Mem.tail _ ?_)) on81 rfl (by first | omega | (simp only [csz]; omega)) (by first | rfl | exact layMod rfl rfl) ?_; intro _ _ _ _ _ _))
    | (guard_target =~ WO _ _ (Oper.mk _ (Op.load 46 _) _ _ _ none) _ _ _ _; first | (refine O_ldV (by assumption) on46 rfl hV.log hV.lt ?_))
    | (guard_target =~ WO _ _ (Oper.mk _ (Op.load 83 _) _ _ _ none) _ _ _ _; first | (refine O_ldV (by assumption) on83 rfl hV.tem hV.lt ?_))
    | (guard_target =~ WO _ _ (Oper.mk _ (Op.load 84 _) _ _ _ none) _ _ _ _; first | (refine O_ldV (by assumption) on84 rfl hV.tta hV.lt ?_))
    | (guard_target =~ WO _ _ (Oper.mk _ (Op.load 21 _) _ _ _ none) _ _ _ _; first | (refine O_ldV (by assumption) on21 rfl hV.nmk hV.lt ?_) | (refine O_ld32 (by assumption) (by repeat (first | exact List.Mem.head _ | refine List.Mem.tail _ ?_)) on21 rfl (by first | omega | (simp only [csz]; omega)) (by first | rfl | exact layMod rfl rfl) ?_; intro _ _ _))
    | (guard_target =~ WO _ _ (Oper.mk _ (Op.load 27 _) _ _ _ none) _ _ _ _; first | (refine O_ldV (by assumption) on27 rfl hV.rf hV.lt ?_))
    | (guard_target =~ WO _ _ (Oper.mk _ _ _ _ _ (some _)) _ _ _ _; first | (refine G_yes rfl ?_) | (refine G_no rfl ?_))
    | (guard_target =~ WC _ _ (Code.region 11 _ true) _ _ _; first | (refine W_drawnT (id := 11) [] [0, 1, 2, 3, 4, 5, 6, 7, 8, 9, 10, 11, 12, 13, 14, 15, 16, 17, 18, 19, 20, 21, 22, 23, 24, 25, 26, 27, 28, 29, 30] mixed (by kernel_rfl) (by kernel_rfl) (by assumption) ?_; intro _ _ _))
    | (guard_target =~ WO _ _ (Oper.mk _ (Op.move _) _ _ _ none) _ _ _ _; first | (refine O_move (v := (.int _ _)) rfl ?_) | (refine O_move (v := (.bool _)) rfl ?_) | (refine O_move (v := (.pointer _)) rfl ?_) | (refine O_move (v := (.slice _ _ _)) rfl ?_) | (refine O_move (v := (.agg _)) rfl ?_) | (refine O_move (v := (.tuple _)) rfl ?_))
    | (guard_target =~ WO _ _ (Oper.mk _ (Op.nilCheck _) _ _ _ none) _ _ _ _; first | (refine O_nil rfl ?_))
    | (guard_target =~ WO _ _ (Oper.mk _ (Op.fieldAddr 86 _ 4) _ _ _ none) _ _ _ _; first | (refine O_fdT fd86_4 (by decide) rfl ?_) | (refine O_field fd86_4 (by decide) rfl ?_))
    | (guard_target =~ WO _ _ (Oper.mk _ (Op.store 81 _ _) _ _ _ none) _ _ _ _; first | (refine O_st (by assumption) (by repeat (first | exact List.Mem.head _ | refine List.Mem.tail _ ?_)) (by omega) on81 rfl rfl (by first | omega | (simp only [csz]; omega)) (okp (c' := 100 + 178) (by first | rfl | exact layMod rfl rfl) (okS (by first | exact Sl.nil _ | exact TS.slN (by assumption) (by repeat (first | exact List.Mem.head _ | refine List.Mem.tail _ ?_))))) rfl ?_; intro _ _))
    | (guard_target =~ WO _ _ (Oper.mk _ (Op.fieldAddr 86 _ 6) _ _ _ none) _ _ _ _; first | (refine O_fdT fd86_6 (by decide) rfl ?_) | (refine O_field fd86_6 (by decide) rfl ?_))
    | (guard_target =~ WO _ _ (Oper.mk _ (Op.fieldAddr 86 _ 7) _ _ _ none) _ _ _ _; first | (refine O_fdT fd86_7 (by decide) rfl ?_) | (refine O_field fd86_7 (by decide) rfl ?_))
    | (guard_target =~ WO _ _ (Oper.mk _ (Op.store 27 _ _) _ _ _ none) _ _ _ _; first | (refine O_st (by assumption) (by repeat (first | exact List.Mem.head _ | refine List.Mem.tail _ ?_)) (by omega) on27 rfl rfl (by first | omega | (simp only [csz]; omega)) (by first | exact okp (c' := 2) (by first | rfl | exact layMod rfl rfl) (ok64 (by omega)) | exact okp (c' := 1) (by first | rfl | exact layMod rfl rfl) (ok8 (by omega)) | exact okp (c' := 3) (by first | rfl | exact layMod rfl rfl) (ok32 (by omega) (by omega)) | exact okp (c' := 4) (by first | rfl | exact layMod rfl rfl) okB_) rfl ?_; intro _ _))
    | (guard_target =~ WO _ _ (Oper.mk _ (Op.fieldAddr 86 _ 8) _ _ _ none) _ _ _ _; first | (refine O_fdT fd86_8 (by decide) rfl ?_) | (refine O_field fd86_8 (by decide) rfl ?_))
    | (guard_target =~ WO _ _ (Oper.mk _ (Op.store 46 _ _) _ _ _ none) _ _ _ _; first | (refine O_st (by assumption) (by repeat (first | exact List.Mem.head _ | refine List.Mem.tail _ ?_)) (by omega) on46 rfl rfl (by first | omega | (simp only [csz]; omega)) (okp (c' := 100 + 126) (by first | rfl | exact layMod rfl rfl) (okS (by first | exact Sl.nil _ | exact TS.slN (by assumption) (by repeat (first | exact List.Mem.head _ | refine List.Mem.tail _ ?_))))) rfl ?_; intro _ _))
    | (guard_target =~ WO _ _ (Oper.mk _ (Op.fieldAddr 86 _ 9) _ _ _ none) _ _ _ _; first | (refine O_fdT fd86_9 (by decide) rfl ?_) | (refine O_field fd86_9 (by decide) rfl ?_))
    | (guard_target =~ WO _ _ (Oper.mk _ (Op.store 83 _ _) _ _ _ none) _ _ _ _; first | (refine O_st (by assumption) (by repeat (first | exact List.Mem.head _ | refine List.Mem.tail _ ?_)) (by omega) on83 rfl rfl (by first | omega | (simp only [csz]; omega)) (okp (c' := 100 + 172) (by first | rfl | exact layMod rfl rfl) (okS (by first | exact Sl.nil _ | exact TS.slN (by assumption) (by repeat (first | exact List.Mem.head _ | refine List.Mem.tail _ ?_))))) rfl ?_; intro _ _))
    | (guard_target =~ WO _ _ (Oper.mk _ (Op.fieldAddr 86 _ 10) _ _ _ none) _ _ _ _; first | (refine O_fdT fd86_10 (by decide) rfl ?_) | (refine O_field fd86_10 (by decide) rfl ?_))
    | (guard_target =~ WO _ _ (Oper.mk _ (Op.store 84 _ _) _ _ _ none) _ _ _ _; first | (refine O_st (by assumption) (by repeat (first | exact List.Mem.head _ | refine List.Mem.tail _ ?_)) (by omega) on84 rfl rfl (by first | omega | (simp only [csz]; omega)) (okp (c' := 100 + 21) (by first | rfl | exact layMod rfl rfl) (okS (by first | exact Sl.nil _ | exact TS.slN (by assumption) (by repeat (first | exact List.Mem.head _ | refine List.Mem.tail _ ?_))))) rfl ?_; intro _ _))
    | (guard_target =~ WO _ _ (Oper.mk _ (Op.fieldAddr 86 _ 1) _ _ _ none) _ _ _ _; first | (refine O_fdT fd86_1 (by decide) rfl ?_) | (refine O_field fd86_1 (by decide) rfl ?_))
    | (guard_target =~ WO _ _ (Oper.mk _ (Op.call _) _ _ _ none) _ _ _ _; first | (refine O_len Samg.underlying79 rfl rfl ?_) | (refine O_len Samg.underlying78 rfl rfl ?_))
    | (guard_target =~ WO _ _ (Oper.mk _ (Op.binOp BinOp.lss 3 _ _ _) _ _ _ none) _ _ _ _; first | (first | (refine O_lssS rfl rfl (fun h => absurd h (by omega)) ?_; intro _) | (refine O_lssS rfl rfl ?_ (fun h => absurd h (by omega)); intro _) | (refine O_lssS rfl rfl ?_ ?_ <;> intro _)))
    | (guard_target =~ WO _ _ (Oper.mk _ (Op.assign _) _ _ _ none) _ _ _ _; first | (refine O_assign (v := (.int _ _)) rfl ?_) | (refine O_assign (v := (.bool _)) rfl ?_) | (refine O_assign (v := (.pointer _)) rfl ?_) | (refine O_assign (v := (.slice _ _ _)) rfl ?_) | (refine O_assign (v := (.agg _)) rfl ?_) | (refine O_assign (v := (.tuple _)) rfl ?_))
    | (guard_target =~ WO _ _ (Oper.mk _ (Op.indexAddr 79 _ _) _ _ _ none) _ _ _ _; first | (refine O_ixK (by assumption) (by repeat (first | exact List.Mem.head _ | refine List.Mem.tail _ ?_)) sl79 rfl rfl (by omega) (by omega) ?_; rintro _ _ _) | (refine O_ixN (by assumption) (by repeat (first | exact List.Mem.head _ | refine List.Mem.tail _ ?_)) sl79 rfl rfl (by omega) (by omega) ?_; rintro _ _ _ _ _ _))
    | (guard_target =~ WO _ _ (Oper.mk _ (Op.fieldAddr 153 _ 0) _ _ _ none) _ _ _ _; first | (refine O_fdT fd153_0 (by decide) rfl ?_) | (refine O_field fd153_0 (by decide) rfl ?_))
    | (guard_target =~ WO _ _ (Oper.mk _ (Op.binOp BinOp.geq 21 _ _ _) _ _ _ none) _ _ _ _; first | (first | (refine O_geqS rfl rfl (fun h => absurd h (by omega)) ?_; intro _) | (refine O_geqS rfl rfl ?_ (fun h => absurd h (by omega)); intro _) | (refine O_geqS rfl rfl ?_ ?_ <;> intro _)))
    | (guard_target =~ WO _ _ (Oper.mk _ (Op.convert 21 3 _) _ _ _ none) _ _ _ _; first | (refine O_convZ Samg.underlying21 Samg.underlying3 rfl (by simp only [rngZ]; omega) ?_) | (refine O_convA Samg.underlying21 Samg.underlying3 rfl rfl ?_; intro _ hr; simp only [rngZ] at hr))
    | (guard_target =~ WO _ _ (Oper.mk _ (Op.fieldAddr 86 _ 0) _ _ _ none) _ _ _ _; first | (refine O_fdT fd86_0 (by decide) rfl ?_) | (refine O_field fd86_0 (by decide) rfl ?_))
    | (guard_target =~ WO _ _ (Oper.mk _ (Op.pick _ _ _) _ _ _ none) _ _ _ _; first | (refine O_pick_t (v := (.bool _)) rfl rfl ?_) | (refine O_pick_f (v := (.bool _)) rfl rfl ?_))
    | (guard_target =~ WO _ _ (Oper.mk _ (Op.indexAddr 78 _ _) _ _ _ none) _ _ _ _; first | (refine O_ixK (by assumption) (by repeat (first | exact List.Mem.head _ | refine List.Mem.tail _ ?_)) sl78 rfl rfl (by omega) (by omega) ?_; rintro _ _ _) | (refine O_ixN (by assumption) (by repeat (first | exact List.Mem.head _ | refine List.Mem.tail _ ?_)) sl78 rfl rfl (by omega) (by omega) ?_; rintro _ _ _ _ _ _))
    | (guard_target =~ WO _ _ (Oper.mk _ (Op.fieldAddr 148 _ 6) _ _ _ none) _ _ _ _; first | (refine O_fdT fd148_6 (by decide) rfl ?_) | (refine O_field fd148_6 (by decide) rfl ?_))
    | (guard_target =~ WO _ _ (Oper.mk _ (Op.load 4 _) _ _ _ none) _ _ _ _; first | (refine O_ldb (by assumption) (by repeat (first | exact List.Mem.head _ | refine List.Mem.tail _ ?_)) on4 rfl (by first | omega | (simp only [csz]; omega)) (by first | rfl | exact layMod rfl rfl) ?_ ?_))
    | (guard_target =~ WO _ _ (Oper.mk _ (Op.build 45 #[]) _ _ _ none) _ _ _ _; first | (refine O_bdn64 (l := []) (by assumption) ar45 zc45 rfl rfl rfl rfl trivial ?_; intro _ _))
    | (guard_target =~ WO _ _ (Oper.mk _ (Op.fieldAddr 153 _ 2) _ _ _ none) _ _ _ _; first | (refine O_fdT fd153_2 (by decide) rfl ?_) | (refine O_field fd153_2 (by decide) rfl ?_))
    | (guard_target =~ WO _ _ (Oper.mk _ (Op.store 45 _ _) _ _ _ none) _ _ _ _; first | (refine O_stn64 (by assumption) (by repeat (first | exact List.Mem.head _ | refine List.Mem.tail _ ?_)) (by omega) ag45 rfl rfl (by assumption) (by first | omega | (simp only [csz]; omega)) (by first | exact layRun0 rfl rfl | exact layRun rfl rfl rfl) rfl ?_; intro _ _))
    | (guard_target =~ WO _ _ (Oper.mk _ (Op.fieldAddr 153 _ 4) _ _ _ none) _ _ _ _; first | (refine O_fdT fd153_4 (by decide) rfl ?_) | (refine O_field fd153_4 (by decide) rfl ?_))
    | (guard_target =~ WO _ _ (Oper.mk _ (Op.store 4 _ _) _ _ _ none) _ _ _ _; first | (refine O_st (by assumption) (by repeat (first | exact List.Mem.head _ | refine List.Mem.tail _ ?_)) (by omega) on4 rfl rfl (by first | omega | (simp only [csz]; omega)) (by first | exact okp (c' := 2) (by first | rfl | exact layMod rfl rfl) (ok64 (by omega)) | exact okp (c' := 1) (by first | rfl | exact layMod rfl rfl) (ok8 (by omega)) | exact okp (c' := 3) (by first | rfl | exact layMod rfl rfl) (ok32 (by omega) (by omega)) | exact okp (c' := 4) (by first | rfl | exact layMod rfl rfl) okB_) rfl ?_; intro _ _))
    | (guard_target =~ WO _ _ (Oper.mk _ (Op.load 45 _) _ _ _ none) _ _ _ _; first | (refine O_ldn64 (by assumption) (by repeat (first | exact List.Mem.head _ | refine List.Mem.tail _ ?_)) ag45 rfl (by first | omega | (simp only [csz]; omega)) (by first | exact layRun0 rfl rfl | exact layRun rfl rfl rfl) ?_; intro _ _))
    | (guard_target =~ WO _ _ (Oper.mk _ (Op.fieldAddr 153 _ 3) _ _ _ none) _ _ _ _; first | (refine O_fdT fd153_3 (by decide) rfl ?_) | (refine O_field fd153_3 (by decide) rfl ?_))
    | (guard_target =~ WO _ _ (Oper.mk _ (Op.binOp BinOp.add 3 _ _ _) _ _ _ none) _ _ _ _; first | (refine O_addZ rfl rfl (by simp only [rngZ]; omega) ?_))
    | (guard_target =~ WO _ _ (Oper.mk _ (Op.fieldAddr 148 _ 1) _ _ _ none) _ _ _ _; first | (refine O_fdT fd148_1 (by decide) rfl ?_) | (refine O_field fd148_1 (by decide) rfl ?_))
    | (guard_target =~ WO _ _ (Oper.mk _ (Op.fieldAddr 148 _ 3) _ _ _ none) _ _ _ _; first | (refine O_fdT fd148_3 (by decide) rfl ?_) | (refine O_field fd148_3 (by decide) rfl ?_))
    | (guard_target =~ WO _ _ (Oper.mk _ (Op.store 31 _ _) _ _ _ none) _ _ _ _; first | (refine O_st (by assumption) (by repeat (first | exact List.Mem.head _ | refine List.Mem.tail _ ?_)) (by omega) on31 rfl rfl (by first | omega | (simp only [csz]; omega)) (okp (c' := 100 + 5) (by first | rfl | exact layMod rfl rfl) (okS (by first | exact Sl.nil _ | exact TS.slN (by assumption) (by repeat (first | exact List.Mem.head _ | refine List.Mem.tail _ ?_))))) rfl ?_; intro _ _))
    | (guard_target =~ WO _ _ (Oper.mk _ (Op.fieldAddr 148 _ 4) _ _ _ none) _ _ _ _; first | (refine O_fdT fd148_4 (by decide) rfl ?_) | (refine O_field fd148_4 (by decide) rfl ?_))
    | (guard_target =~ WO _ _ (Oper.mk _ (Op.fieldAddr 148 _ 5) _ _ _ none) _ _ _ _; first | (refine O_fdT fd148_5 (by decide) rfl ?_) | (refine O_field fd148_5 (by decide) rfl ?_)))
  refine O_stM (by assumption) hV hMu (T := 86) (by repeat (first | exact List.Mem.head _ | refine List.Mem.tail _ ?_)) rfl on21 rfl rfl (by simp only [csz]; omega) (okp (c' := 3) rfl (ok32 (by omega) (by omega))) rfl ?_
  intro w3 hS3 hMu he3 hV0 hW3
  have hV := hV0.setNm hnm (m := 0) (Nat.zero_le _) he3 hW3
  have hnm0 : (0 : Nat) ≤ 16384 := by omega
  repeat' (first
    | (refine L_cons ?_)
    | (refine R_cons rfl ?_)
    | (refine W_seq ?_)
    | (refine W_region (by kernel_rfl) ?_)
    | (refine L_nil ?_)
    | (refine R_nil ?_)
    | (refine W_block ?_)
    | (refine W_skip ?_)
    | (refine W_exit ?_)
    | (refine W_ret ?_)
    | (guard_target =~ thenQ _ _ _ _ _; first | (refine T_next ?_) | (refine T_exit ?_) | (refine T_ret ?_))
    | (guard_target =~ blockQ _ _ _ _ _; first | (refine B_next ?_) | (refine B_same ?_) | (refine B_other (by kernel_rfl) ?_) | (refine B_ret ?_))
    | (refine W_true rfl rfl ?_)
    | (refine W_false rfl rfl ?_)
    | (guard_target =~ WO _ _ (Oper.mk _ (Op.load 78 _) _ _ _ none) _ _ _ _; first | (refine O_ldV (by assumption) on78 rfl hV.acc hV.lt ?_) | (refine O_lds (t' := 148) (by assumption) (by repeat (first | exact List.Mem.head _ | refine List.Mem.tail _ ?_)) on78 rfl (by first | omega | (simp only [csz]; omega)) (by first | rfl | exact layMod rfl rfl) ?_; intro _ _ _ _ _ _))
    | (guard_target =~ WO _ _ (Oper.mk _ (Op.load 79 _) _ _ _ none) _ _ _ _; first | (refine O_ldV (by assumption) on79 rfl hV.slo hV.lt ?_) | (refine O_lds (t' := 153) (by assumption) (by repeat (first | exact List.Mem.head _ | refine List.Mem.tail _ ?_)) on79 rfl (by first | omega | (simp only [csz]; omega)) (by first | rfl | exact layMod rfl rfl) ?_; intro _ _ _ _ _ _))
    | (guard_target =~ WO _ _ (Oper.mk _ (Op.load 81 _) _ _ _ none) _ _ _ _; first | (refine O_ldV (by assumption) on81 rfl hV.jou hV.lt ?_) | (refine O_lds (t' := 178) (by assumption) (by repeat (first | exact List.Mem.head _ | refine List.Mem.tail _ ?_)) on81 rfl (by first | omega | (simp only [csz]; omega)) (by first | rfl | exact layMod rfl rfl) ?_; intro _ _ _ _ _ _))
    | (guard_target =~ WO _ _ (Oper.mk _ (Op.load 46 _) _ _ _ none) _ _ _ _; first | (refine O_ldV (by assumption) on46 rfl hV.log hV.lt ?_))
    | (guard_target =~ WO _ _ (Oper.mk _ (Op.load 83 _) _ _ _ none) _ _ _ _; first | (refine O_ldV (by assumption) on83 rfl hV.tem hV.lt ?_))
    | (guard_target =~ WO _ _ (Oper.mk _ (Op.load 84 _) _ _ _ none) _ _ _ _; first | (refine O_ldV (by assumption) on84 rfl hV.tta hV.lt ?_))
    | (guard_target =~ WO _ _ (Oper.mk _ (Op.load 21 _) _ _ _ none) _ _ _ _; first | (refine O_ldV (by assumption) on21 rfl hV.nmk hV.lt ?_) | (refine O_ld32 (by assumption) (by repeat (first | exact List.Mem.head _ | refine List.Mem.tail _ ?_)) on21 rfl (by first | omega | (simp only [csz]; omega)) (by first | rfl | exact layMod rfl rfl) ?_; intro _ _ _))
    | (guard_target =~ WO _ _ (Oper.mk _ (Op.load 27 _) _ _ _ none) _ _ _ _; first | (refine O_ldV (by assumption) on27 rfl hV.rf hV.lt ?_))
    | (guard_target =~ WO _ _ (Oper.mk _ _ _ _ _ (some _)) _ _ _ _; first | (refine G_yes rfl ?_) | (refine G_no rfl ?_))
    | (guard_target =~ WC _ _ (Code.region 11 _ true) _ _ _; first | (refine W_drawnT (id := 11) [] [0, 1, 2, 3, 4, 5, 6, 7, 8, 9, 10, 11, 12, 13, 14, 15, 16, 17, 18, 19, 20, 21, 22, 23, 24, 25, 26, 27, 28, 29, 30] mixed (by kernel_rfl) (by kernel_rfl) (by assumption) ?_; intro _ _ _))
    | (guard_target =~ WO _ _ (Oper.mk _ (Op.move _) _ _ _ none) _ _ _ _; first | (refine O_move (v := (.int _ _)) rfl ?_) | (refine O_move (v := (.bool _)) rfl ?_) | (refine O_move (v := (.pointer _)) rfl ?_) | (refine O_move (v := (.slice _ _ _)) rfl ?_) | (refine O_move (v := (.agg _)) rfl ?_) | (refine O_move (v := (.tuple _)) rfl ?_))
    | (guard_target =~ WO _ _ (Oper.mk _ (Op.nilCheck _) _ _ _ none) _ _ _ _; first | (refine O_nil rfl ?_))
    | (guard_target =~ WO _ _ (Oper.mk _ (Op.fieldAddr 86 _ 4) _ _ _ none) _ _ _ _; first | (refine O_fdT fd86_4 (by decide) rfl ?_) | (refine O_field fd86_4 (by decide) rfl ?_))
    | (guard_target =~ WO _ _ (Oper.mk _ (Op.store 81 _ _) _ _ _ none) _ _ _ _; first | (refine O_st (by assumption) (by repeat (first | exact List.Mem.head _ | refine List.Mem.tail _ ?_)) (by omega) on81 rfl rfl (by first | omega | (simp only [csz]; omega)) (okp (c' := 100 + 178) (by first | rfl | exact layMod rfl rfl) (okS (by first | exact Sl.nil _ | exact TS.slN (by assumption) (by repeat (first | exact List.Mem.head _ | refine List.Mem.tail _ ?_))))) rfl ?_; intro _ _))
    | (guard_target =~ WO _ _ (Oper.mk _ (Op.fieldAddr 86 _ 6) _ _ _ none) _ _ _ _; first | (refine O_fdT fd86_6 (by decide) rfl ?_) | (refine O_field fd86_6 (by decide) rfl ?_))
    | (guard_target =~ WO _ _ (Oper.mk _ (Op.store 21 _ _) _ _ _ none) _ _ _ _; first | (refine O_st (by assumption) (by repeat (first | exact List.Mem.head _ | refine List.Mem.tail _ ?_)) (by omega) on21 rfl rfl (by first | omega | (simp only [csz]; omega)) (by first | exact okp (c' := 2) (by first | rfl | exact layMod rfl rfl) (ok64 (by omega)) | exact okp (c' := 1) (by first | rfl | exact layMod rfl rfl) (ok8 (by omega)) | exact okp (c' := 3) (by first | rfl | exact layMod rfl rfl) (ok32 (by omega) (by omega)) | exact okp (c' := 4) (by first | rfl | exact layMod rfl rfl) okB_) rfl ?_; intro _ _))
    | (guard_target =~ WO _ _ (Oper.mk _ (Op.fieldAddr 86 _ 7) _ _ _ none) _ _ _ _; first | (refine O_fdT fd86_7 (by decide) rfl ?_) | (refine O_field fd86_7 (by decide) rfl ?_))
    | (guard_target =~ WO _ _ (Oper.mk _ (Op.fieldAddr 86 _ 8) _ _ _ none) _ _ _ _; first | (refine O_fdT fd86_8 (by decide) rfl ?_) | (refine O_field fd86_8 (by decide) rfl ?_))
    | (guard_target =~ WO _ _ (Oper.mk _ (Op.store 46 _ _) _ _ _ none) _ _ _ _; first | (refine O_st (by assumption) (by repeat (first | exact List.Mem.head _ | refine List.Mem.tail _ ?_)) (by omega) on46 rfl rfl (by first | omega | (simp only [csz]; omega)) (okp (c' := 100 + 126) (by first | rfl | exact layMod rfl rfl) (okS (by first | exact Sl.nil _ | exact TS.slN (by assumption) (by repeat (first | exact List.Mem.head _ | refine List.Mem.tail _ ?_))))) rfl ?_; intro _ _))
    | (guard_target =~ WO _ _ (Oper.mk _ (Op.fieldAddr 86 _ 9) _ _ _ none) _ _ _ _; first | (refine O_fdT fd86_9 (by decide) rfl ?_) | (refine O_field fd86_9 (by decide) rfl ?_))
    | (guard_target =~ WO _ _ (Oper.mk _ (Op.store 83 _ _) _ _ _ none) _ _ _ _; first | (refine O_st (by assumption) (by repeat (first | exact List.Mem.head _ | refine List.Mem.tail _ ?_)) (by omega) on83 rfl rfl (by first | omega | (simp only [csz]; omega)) (okp (c' := 100 + 172) (by first | rfl | exact layMod rfl rfl) (okS (by first | exact Sl.nil _ | exact TS.slN (by assumption) (by repeat (first | exact List.Mem.head _ | refine List.Mem.tail _ ?_))))) rfl ?_; intro _ _))
    | (guard_target =~ WO _ _ (Oper.mk _ (Op.fieldAddr 86 _ 10) _ _ _ none) _ _ _ _; first | (refine O_fdT fd86_10 (by decide) rfl ?_) | (refine O_field fd86_10 (by decide) rfl ?_))
    | (guard_target =~ WO _ _ (Oper.mk _ (Op.store 84 _ _) _ _ _ none) _ _ _ _; first | (refine O_st (by assumption) (by repeat (first | exact List.Mem.head _ | refine List.Mem.tail _ ?_)) (by omega) on84 rfl rfl (by first | omega | (simp only [csz]; omega)) (okp (c' := 100 + 21) (by first | rfl | exact layMod rfl rfl) (okS (by first | exact Sl.nil _ | exact TS.slN (by assumption) (by repeat (first | exact List.Mem.head _ | refine List.Mem.tail _ ?_))))) rfl ?_; intro _ _))
    | (guard_target =~ WO _ _ (Oper.mk _ (Op.fieldAddr 86 _ 1) _ _ _ none) _ _ _ _; first | (refine O_fdT fd86_1 (by decide) rfl ?_) | (refine O_field fd86_1 (by decide) rfl ?_))
    | (guard_target =~ WO _ _ (Oper.mk _ (Op.call _) _ _ _ none) _ _ _ _; first | (refine O_len Samg.underlying79 rfl rfl ?_) | (refine O_len Samg.underlying78 rfl rfl ?_))
    | (guard_target =~ WO _ _ (Oper.mk _ (Op.binOp BinOp.lss 3 _ _ _) _ _ _ none) _ _ _ _; first | (first | (refine O_lssS rfl rfl (fun h => absurd h (by omega)) ?_; intro _) | (refine O_lssS rfl rfl ?_ (fun h => absurd h (by omega)); intro _) | (refine O_lssS rfl rfl ?_ ?_ <;> intro _)))
    | (guard_target =~ WO _ _ (Oper.mk _ (Op.assign _) _ _ _ none) _ _ _ _; first | (refine O_assign (v := (.int _ _)) rfl ?_) | (refine O_assign (v := (.bool _)) rfl ?_) | (refine O_assign (v := (.pointer _)) rfl ?_) | (refine O_assign (v := (.slice _ _ _)) rfl ?_) | (refine O_assign (v := (.agg _)) rfl ?_) | (refine O_assign (v := (.tuple _)) rfl ?_))
    | (guard_target =~ WO _ _ (Oper.mk _ (Op.indexAddr 79 _ _) _ _ _ none) _ _ _ _; first | (refine O_ixK (by assumption) (by repeat (first | exact List.Mem.head _ | refine List.Mem.tail _ ?_)) sl79 rfl rfl (by omega) (by omega) ?_; rintro _ _ _) | (refine O_ixN (by assumption) (by repeat (first | exact List.Mem.head _ | refine List.Mem.tail _ ?_)) sl79 rfl rfl (by omega) (by omega) ?_; rintro _ _ _ _ _ _))
    | (guard_target =~ WO _ _ (Oper.mk _ (Op.fieldAddr 153 _ 0) _ _ _ none) _ _ _ _; first | (refine O_fdT fd153_0 (by decide) rfl ?_) | (refine O_field fd153_0 (by decide) rfl ?_))
    | (guard_target =~ WO _ _ (Oper.mk _ (Op.binOp BinOp.geq 21 _ _ _) _ _ _ none) _ _ _ _; first | (first | (refine O_geqS rfl rfl (fun h => absurd h (by omega)) ?_; intro _) | (refine O_geqS rfl rfl ?_ (fun h => absurd h (by omega)); intro _) | (refine O_geqS rfl rfl ?_ ?_ <;> intro _)))
    | (guard_target =~ WO _ _ (Oper.mk _ (Op.convert 21 3 _) _ _ _ none) _ _ _ _; first | (refine O_convZ Samg.underlying21 Samg.underlying3 rfl (by simp only [rngZ]; omega) ?_) | (refine O_convA Samg.underlying21 Samg.underlying3 rfl rfl ?_; intro _ hr; simp only [rngZ] at hr))
    | (guard_target =~ WO _ _ (Oper.mk _ (Op.fieldAddr 86 _ 0) _ _ _ none) _ _ _ _; first | (refine O_fdT fd86_0 (by decide) rfl ?_) | (refine O_field fd86_0 (by decide) rfl ?_))
    | (guard_target =~ WO _ _ (Oper.mk _ (Op.pick _ _ _) _ _ _ none) _ _ _ _; first | (refine O_pick_t (v := (.bool _)) rfl rfl ?_) | (refine O_pick_f (v := (.bool _)) rfl rfl ?_))
    | (guard_target =~ WO _ _ (Oper.mk _ (Op.indexAddr 78 _ _) _ _ _ none) _ _ _ _; first | (refine O_ixK (by assumption) (by repeat (first | exact List.Mem.head _ | refine List.Mem.tail _ ?_)) sl78 rfl rfl (by omega) (by omega) ?_; rintro _ _ _) | (refine O_ixN (by assumption) (by repeat (first | exact List.Mem.head _ | refine List.Mem.tail _ ?_)) sl78 rfl rfl (by omega) (by omega) ?_; rintro _ _ _ _ _ _))
    | (guard_target =~ WO _ _ (Oper.mk _ (Op.fieldAddr 148 _ 6) _ _ _ none) _ _ _ _; first | (refine O_fdT fd148_6 (by decide) rfl ?_) | (refine O_field fd148_6 (by decide) rfl ?_))
    | (guard_target =~ WO _ _ (Oper.mk _ (Op.load 4 _) _ _ _ none) _ _ _ _; first | (refine O_ldb (by assumption) (by repeat (first | exact List.Mem.head _ | refine List.Mem.tail _ ?_)) on4 rfl (by first | omega | (simp only [csz]; omega)) (by first | rfl | exact layMod rfl rfl) ?_ ?_))
    | (guard_target =~ WO _ _ (Oper.mk _ (Op.build 45 #[]) _ _ _ none) _ _ _ _; first | (refine O_bdn64 (l := []) (by assumption) ar45 zc45 rfl rfl rfl rfl trivial ?_; intro _ _))
    | (guard_target =~ WO _ _ (Oper.mk _ (Op.fieldAddr 153 _ 2) _ _ _ none) _ _ _ _; first | (refine O_fdT fd153_2 (by decide) rfl ?_) | (refine O_field fd153_2 (by decide) rfl ?_))
    | (guard_target =~ WO _ _ (Oper.mk _ (Op.store 45 _ _) _ _ _ none) _ _ _ _; first | (refine O_stn64 (by assumption) (by repeat (first | exact List.Mem.head _ | refine List.Mem.tail _ ?_)) (by omega) ag45 rfl rfl (by assumption) (by first | omega | (simp only [csz]; omega)) (by first | exact layRun0 rfl rfl | exact layRun rfl rfl rfl) rfl ?_; intro _ _))
    | (guard_target =~ WO _ _ (Oper.mk _ (Op.fieldAddr 153 _ 4) _ _ _ none) _ _ _ _; first | (refine O_fdT fd153_4 (by decide) rfl ?_) | (refine O_field fd153_4 (by decide) rfl ?_))
    | (guard_target =~ WO _ _ (Oper.mk _ (Op.store 4 _ _) _ _ _ none) _ _ _ _; first | (refine O_st (by assumption) (by repeat (first | exact List.Mem.head _ | refine List.Mem.tail _ ?_)) (by omega) on4 rfl rfl (by first | omega | (simp only [csz]; omega)) (by first | exact okp (c' := 2) (by first | rfl | exact layMod rfl rfl) (ok64 (by omega)) | exact okp (c' := 1) (by first | rfl | exact layMod rfl rfl) (ok8 (by omega)) | exact okp (c' := 3) (by first | rfl | exact layMod rfl rfl) (ok32 (by omega) (by omega)) | exact okp (c' := 4) (by first | rfl | exact layMod rfl rfl) okB_) rfl ?_; intro _ _))
    | (guard_target =~ WO _ _ (Oper.mk _ (Op.load 45 _) _ _ _ none) _ _ _ _; first | (refine O_ldn64 (by assumption) (by repeat (first | exact List.Mem.head _ | refine List.Mem.tail _ ?_)) ag45 rfl (by first | omega | (simp only [csz]; omega)) (by first | exact layRun0 rfl rfl | exact layRun rfl rfl rfl) ?_; intro _ _))
    | (guard_target =~ WO _ _ (Oper.mk _ (Op.fieldAddr 153 _ 3) _ _ _ none) _ _ _ _; first | (refine O_fdT fd153_3 (by decide) rfl ?_) | (refine O_field fd153_3 (by decide) rfl ?_))
    | (guard_target =~ WO _ _ (Oper.mk _ (Op.binOp BinOp.add 3 _ _ _) _ _ _ none) _ _ _ _; first | (refine O_addZ rfl rfl (by simp only [rngZ]; omega) ?_))
    | (guard_target =~ WO _ _ (Oper.mk _ (Op.fieldAddr 148 _ 1) _ _ _ none) _ _ _ _; first | (refine O_fdT fd148_1 (by decide) rfl ?_) | (refine O_field fd148_1 (by decide) rfl ?_))
    | (guard_target =~ WO _ _ (Oper.mk _ (Op.fieldAddr 148 _ 3) _ _ _ none) _ _ _ _; first | (refine O_fdT fd148_3 (by decide) rfl ?_) | (refine O_field fd148_3 (by decide) rfl ?_))
    | (guard_target =~ WO _ _ (Oper.mk _ (Op.store 31 _ _) _ _ _ none) _ _ _ _; first | (refine O_st (by assumption) (by repeat (first | exact List.Mem.head _ | refine List.Mem.tail _ ?_)) (by omega) on31 rfl rfl (by first | omega | (simp only [csz]; omega)) (okp (c' := 100 + 5) (by first | rfl | exact layMod rfl rfl) (okS (by first | exact Sl.nil _ | exact TS.slN (by assumption) (by repeat (first | exact List.Mem.head _ | refine List.Mem.tail _ ?_))))) rfl ?_; intro _ _))
    | (guard_target =~ WO _ _ (Oper.mk _ (Op.fieldAddr 148 _ 4) _ _ _ none) _ _ _ _; first | (refine O_fdT fd148_4 (by decide) rfl ?_) | (refine O_field fd148_4 (by decide) rfl ?_))
    | (guard_target =~ WO _ _ (Oper.mk _ (Op.fieldAddr 148 _ 5) _ _ _ none) _ _ _ _; first | (refine O_fdT fd148_5 (by decide) rfl ?_) | (refine O_field fd148_5 (by decide) rfl ?_)))
  refine O_stM (by assumption) hV hMu (T := 86) (by repeat (first | exact List.Mem.head _ | refine List.Mem.tail _ ?_)) rfl on27 rfl rfl (by simp only [csz]; omega) (okp (c' := 2) rfl (ok64 (z := 0) (by omega))) rfl ?_
  intro w4 hS4 hMu he4 hV0 hW4
  have hV := hV0.setRef hnm0 (r := 0) he4 hW4
  repeat' (first
    | (refine L_cons ?_)
    | (refine R_cons rfl ?_)
    | (refine W_seq ?_)
    | (refine W_region (by kernel_rfl) ?_)
    | (refine L_nil ?_)
    | (refine R_nil ?_)
    | (refine W_block ?_)
    | (refine W_skip ?_)
    | (refine W_exit ?_)
    | (refine W_ret ?_)
    | (guard_target =~ thenQ _ _ _ _ _; first | (refine T_next ?_) | (refine T_exit ?_) | (refine T_ret ?_))
    | (guard_target =~ blockQ _ _ _ _ _; first | (refine B_next ?_) | (refine B_same ?_) | (refine B_other (by kernel_rfl) ?_) | (refine B_ret ?_))
    | (refine W_true rfl rfl ?_)
    | (refine W_false rfl rfl ?_)
    | (guard_target =~ WO _ _ (Oper.mk _ (Op.load 78 _) _ _ _ none) _ _ _ _; first | (refine O_ldV (by assumption) on78 rfl hV.acc hV.lt ?_) | (refine O_lds (t' := 148) (by assumption) (by repeat (first | exact List.Mem.head _ | refine List.Mem.tail _ ?_)) on78 rfl (by first | omega | (simp only [csz]; omega)) (by first | rfl | exact layMod rfl rfl) ?_; intro _ _ _ _ _ _))
    | (guard_target =~ WO _ _ (Oper.mk _ (Op.load 79 _) _ _ _ none) _ _ _ _; first | (refine O_ldV (by assumption) on79 rfl hV.slo hV.lt ?_) | (refine O_lds (t' := 153) (by assumption) (by repeat (first | exact List.Mem.head _ | refine List.Mem.tail _ ?_)) on79 rfl (by first | omega | (simp only [csz]; omega)) (by first | rfl | exact layMod rfl rfl) ?_; intro _ _ _ _ _ _))
    | (guard_target =~ WO _ _ (Oper.mk _ (Op.load 81 _) _ _ _ none) _ _ _ _; first | (refine O_ldV (by assumption) on81 rfl hV.jou hV.lt ?_) | (refine O_lds (t' := 178) (by assumption) (by repeat (first | exact List.Mem.head _ | refine List.Mem.tail _ ?_)) on81 rfl (by first | omega | (simp only [csz]; omega)) (by first | rfl | exact layMod rfl rfl) ?_; intro _ _ _ _ _ _))
    | (guard_target =~ WO _ _ (Oper.mk _ (Op.load 46 _) _ _ _ none) _ _ _ _; first | (refine O_ldV (by assumption) on46 rfl hV.log hV.lt ?_))
    | (guard_target =~ WO _ _ (Oper.mk _ (Op.load 83 _) _ _ _ none) _ _ _ _; first | (refine O_ldV (by assumption) on83 rfl hV.tem hV.lt ?_))
    | (guard_target =~ WO _ _ (Oper.mk _ (Op.load 84 _) _ _ _ none) _ _ _ _; first | (refine O_ldV (by assumption) on84 rfl hV.tta hV.lt ?_))
    | (guard_target =~ WO _ _ (Oper.mk _ (Op.load 21 _) _ _ _ none) _ _ _ _; first | (refine O_ldV (by assumption) on21 rfl hV.nmk hV.lt ?_) | (refine O_ld32 (by assumption) (by repeat (first | exact List.Mem.head _ | refine List.Mem.tail _ ?_)) on21 rfl (by first | omega | (simp only [csz]; omega)) (by first | rfl | exact layMod rfl rfl) ?_; intro _ _ _))
    | (guard_target =~ WO _ _ (Oper.mk _ (Op.load 27 _) _ _ _ none) _ _ _ _; first | (refine O_ldV (by assumption) on27 rfl hV.rf hV.lt ?_))
    | (guard_target =~ WO _ _ (Oper.mk _ _ _ _ _ (some _)) _ _ _ _; first | (refine G_yes rfl ?_) | (refine G_no rfl ?_))
    | (guard_target =~ WC _ _ (Code.region 11 _ true) _ _ _; first | (refine W_drawnT (id := 11) [] [0, 1, 2, 3, 4, 5, 6, 7, 8, 9, 10, 11, 12, 13, 14, 15, 16, 17, 18, 19, 20, 21, 22, 23, 24, 25, 26, 27, 28, 29, 30] mixed (by kernel_rfl) (by kernel_rfl) (by assumption) ?_; intro _ _ _))
    | (guard_target =~ WO _ _ (Oper.mk _ (Op.move _) _ _ _ none) _ _ _ _; first | (refine O_move (v := (.int _ _)) rfl ?_) | (refine O_move (v := (.bool _)) rfl ?_) | (refine O_move (v := (.pointer _)) rfl ?_) | (refine O_move (v := (.slice _ _ _)) rfl ?_) | (refine O_move (v := (.agg _)) rfl ?_) | (refine O_move (v := (.tuple _)) rfl ?_))
    | (guard_target =~ WO _ _ (Oper.mk _ (Op.nilCheck _) _ _ _ none) _ _ _ _; first | (refine O_nil rfl ?_))
    | (guard_target =~ WO _ _ (Oper.mk _ (Op.fieldAddr 86 _ 4) _ _ _ none) _ _ _ _; first | (refine O_fdT fd86_4 (by decide) rfl ?_) | (refine O_field fd86_4 (by decide) rfl ?_))
    | (guard_target =~ WO _ _ (Oper.mk _ (Op.store 81 _ _) _ _ _ none) _ _ _ _; first | (refine O_st (by assumption) (by repeat (first | exact List.Mem.head _ | refine List.Mem.tail _ ?_)) (by omega) on81 rfl rfl (by first | omega | (simp only [csz]; omega)) (okp (c' := 100 + 178) (by first | rfl | exact layMod rfl rfl) (okS (by first | exact Sl.nil _ | exact TS.slN (by assumption) (by repeat (first | exact List.Mem.head _ | refine List.Mem.tail _ ?_))))) rfl ?_; intro _ _))
    | (guard_target =~ WO _ _ (Oper.mk _ (Op.fieldAddr 86 _ 6) _ _ _ none) _ _ _ _; first | (refine O_fdT fd86_6 (by decide) rfl ?_) | (refine O_field fd86_6 (by decide) rfl ?_))
    | (guard_target =~ WO _ _ (Oper.mk _ (Op.store 21 _ _) _ _ _ none) _ _ _ _; first | (refine O_st (by assumption) (by repeat (first | exact List.Mem.head _ | refine List.Mem.tail _ ?_)) (by omega) on21 rfl rfl (by first | omega | (simp only [csz]; omega)) (by first | exact okp (c' := 2) (by first | rfl | exact layMod rfl rfl) (ok64 (by omega)) | exact okp (c' := 1) (by first | rfl | exact layMod rfl rfl) (ok8 (by omega)) | exact okp (c' := 3) (by first | rfl | exact layMod rfl rfl) (ok32 (by omega) (by omega)) | exact okp (c' := 4) (by first | rfl | exact layMod rfl rfl) okB_) rfl ?_; intro _ _))
    | (guard_target =~ WO _ _ (Oper.mk _ (Op.fieldAddr 86 _ 7) _ _ _ none) _ _ _ _; first | (refine O_fdT fd86_7 (by decide) rfl ?_) | (refine O_field fd86_7 (by decide) rfl ?_))
    | (guard_target =~ WO _ _ (Oper.mk _ (Op.store 27 _ _) _ _ _ none) _ _ _ _; first | (refine O_st (by assumption) (by repeat (first | exact List.Mem.head _ | refine List.Mem.tail _ ?_)) (by omega) on27 rfl rfl (by first | omega | (simp only [csz]; omega)) (by first | exact okp (c' := 2) (by first | rfl | exact layMod rfl rfl) (ok64 (by omega)) | exact okp (c' := 1) (by first | rfl | exact layMod rfl rfl) (ok8 (by omega)) | exact okp (c' := 3) (by first | rfl | exact layMod rfl rfl) (ok32 (by omega) (by omega)) | exact okp (c' := 4) (by first | rfl | exact layMod rfl rfl) okB_) rfl ?_; intro _ _))
    | (guard_target =~ WO _ _ (Oper.mk _ (Op.fieldAddr 86 _ 8) _ _ _ none) _ _ _ _; first | (refine O_fdT fd86_8 (by decide) rfl ?_) | (refine O_field fd86_8 (by decide) rfl ?_))
    | (guard_target =~ WO _ _ (Oper.mk _ (Op.fieldAddr 86 _ 9) _ _ _ none) _ _ _ _; first | (refine O_fdT fd86_9 (by decide) rfl ?_) | (refine O_field fd86_9 (by decide) rfl ?_))
    | (guard_target =~ WO _ _ (Oper.mk _ (Op.store 83 _ _) _ _ _ none) _ _ _ _; first | (refine O_st (by assumption) (by repeat (first | exact List.Mem.head _ | refine List.Mem.tail _ ?_)) (by omega) on83 rfl rfl (by first | omega | (simp only [csz]; omega)) (okp (c' := 100 + 172) (by first | rfl | exact layMod rfl rfl) (okS (by first | exact Sl.nil _ | exact TS.slN (by assumption) (by repeat (first | exact List.Mem.head _ | refine List.Mem.tail _ ?_))))) rfl ?_; intro _ _))
    | (guard_target =~ WO _ _ (Oper.mk _ (Op.fieldAddr 86 _ 10) _ _ _ none) _ _ _ _; first | (refine O_fdT fd86_10 (by decide) rfl ?_) | (refine O_field fd86_10 (by decide) rfl ?_))
    | (guard_target =~ WO _ _ (Oper.mk _ (Op.store 84 _ _) _ _ _ none) _ _ _ _; first | (refine O_st (by assumption) (by repeat (first | exact List.Mem.head _ | refine List.Mem.tail _ ?_)) (by omega) on84 rfl rfl (by first | omega | (simp only [csz]; omega)) (okp (c' := 100 + 21) (by first | rfl | exact layMod rfl rfl) (okS (by first | exact Sl.nil _ | exact TS.slN (by assumption) (by repeat (first | exact List.Mem.head _ | refine List.Mem.tail _ ?_))))) rfl ?_; intro _ _))
    | (guard_target =~ WO _ _ (Oper.mk _ (Op.fieldAddr 86 _ 1) _ _ _ none) _ _ _ _; first | (refine O_fdT fd86_1 (by decide) rfl ?_) | (refine O_field fd86_1 (by decide) rfl ?_))
    | (guard_target =~ WO _ _ (Oper.mk _ (Op.call _) _ _ _ none) _ _ _ _; first | (refine O_len Samg.underlying79 rfl rfl ?_) | (refine O_len Samg.underlying78 rfl rfl ?_))
    | (guard_target =~ WO _ _ (Oper.mk _ (Op.binOp BinOp.lss 3 _ _ _) _ _ _ none) _ _ _ _; first | (first | (refine O_lssS rfl rfl (fun h => absurd h (by omega)) ?_; intro _) | (refine O_lssS rfl rfl ?_ (fun h => absurd h (by omega)); intro _) | (refine O_lssS rfl rfl ?_ ?_ <;> intro _)))
    | (guard_target =~ WO _ _ (Oper.mk _ (Op.assign _) _ _ _ none) _ _ _ _; first | (refine O_assign (v := (.int _ _)) rfl ?_) | (refine O_assign (v := (.bool _)) rfl ?_) | (refine O_assign (v := (.pointer _)) rfl ?_) | (refine O_assign (v := (.slice _ _ _)) rfl ?_) | (refine O_assign (v := (.agg _)) rfl ?_) | (refine O_assign (v := (.tuple _)) rfl ?_))
    | (guard_target =~ WO _ _ (Oper.mk _ (Op.indexAddr 79 _ _) _ _ _ none) _ _ _ _; first | (refine O_ixK (by assumption) (by repeat (first | exact List.Mem.head _ | refine List.Mem.tail _ ?_)) sl79 rfl rfl (by omega) (by omega) ?_; rintro _ _ _) | (refine O_ixN (by assumption) (by repeat (first | exact List.Mem.head _ | refine List.Mem.tail _ ?_)) sl79 rfl rfl (by omega) (by omega) ?_; rintro _ _ _ _ _ _))
    | (guard_target =~ WO _ _ (Oper.mk _ (Op.fieldAddr 153 _ 0) _ _ _ none) _ _ _ _; first | (refine O_fdT fd153_0 (by decide) rfl ?_) | (refine O_field fd153_0 (by decide) rfl ?_))
    | (guard_target =~ WO _ _ (Oper.mk _ (Op.binOp BinOp.geq 21 _ _ _) _ _ _ none) _ _ _ _; first | (first | (refine O_geqS rfl rfl (fun h => absurd h (by omega)) ?_; intro _) | (refine O_geqS rfl rfl ?_ (fun h => absurd h (by omega)); intro _) | (refine O_geqS rfl rfl ?_ ?_ <;> intro _)))
    | (guard_target =~ WO _ _ (Oper.mk _ (Op.convert 21 3 _) _ _ _ none) _ _ _ _; first | (refine O_convZ Samg.underlying21 Samg.underlying3 rfl (by simp only [rngZ]; omega) ?_) | (refine O_convA Samg.underlying21 Samg.underlying3 rfl rfl ?_; intro _ hr; simp only [rngZ] at hr))
    | (guard_target =~ WO _ _ (Oper.mk _ (Op.fieldAddr 86 _ 0) _ _ _ none) _ _ _ _; first | (refine O_fdT fd86_0 (by decide) rfl ?_) | (refine O_field fd86_0 (by decide) rfl ?_))
    | (guard_target =~ WO _ _ (Oper.mk _ (Op.pick _ _ _) _ _ _ none) _ _ _ _; first | (refine O_pick_t (v := (.bool _)) rfl rfl ?_) | (refine O_pick_f (v := (.bool _)) rfl rfl ?_))
    | (guard_target =~ WO _ _ (Oper.mk _ (Op.indexAddr 78 _ _) _ _ _ none) _ _ _ _; first | (refine O_ixK (by assumption) (by repeat (first | exact List.Mem.head _ | refine List.Mem.tail _ ?_)) sl78 rfl rfl (by omega) (by omega) ?_; rintro _ _ _) | (refine O_ixN (by assumption) (by repeat (first | exact List.Mem.head _ | refine List.Mem.tail _ ?_)) sl78 rfl rfl (by omega) (by omega) ?_; rintro _ _ _ _ _ _))
    | (guard_target =~ WO _ _ (Oper.mk _ (Op.fieldAddr 148 _ 6) _ _ _ none) _ _ _ _; first | (refine O_fdT fd148_6 (by decide) rfl ?_) | (refine O_field fd148_6 (by decide) rfl ?_))
    | (guard_target =~ WO _ _ (Oper.mk _ (Op.load 4 _) _ _ _ none) _ _ _ _; first | (refine O_ldb (by assumption) (by repeat (first | exact List.Mem.head _ | refine List.Mem.tail _ ?_)) on4 rfl (by first | omega | (simp only [csz]; omega)) (by first | rfl | exact layMod rfl rfl) ?_ ?_))
    | (guard_target =~ WO _ _ (Oper.mk _ (Op.build 45 #[]) _ _ _ none) _ _ _ _; first | (refine O_bdn64 (l := []) (by assumption) ar45 zc45 rfl rfl rfl rfl trivial ?_; intro _ _))
    | (guard_target =~ WO _ _ (Oper.mk _ (Op.fieldAddr 153 _ 2) _ _ _ none) _ _ _ _; first | (refine O_fdT fd153_2 (by decide) rfl ?_) | (refine O_field fd153_2 (by decide) rfl ?_))
    | (guard_target =~ WO _ _ (Oper.mk _ (Op.store 45 _ _) _ _ _ none) _ _ _ _; first | (refine O_stn64 (by assumption) (by repeat (first | exact List.Mem.head _ | refine List.Mem.tail _ ?_)) (by omega) ag45 rfl rfl (by assumption) (by first | omega | (simp only [csz]; omega)) (by first | exact layRun0 rfl rfl | exact layRun rfl rfl rfl) rfl ?_; intro _ _))
    | (guard_target =~ WO _ _ (Oper.mk _ (Op.fieldAddr 153 _ 4) _ _ _ none) _ _ _ _; first | (refine O_fdT fd153_4 (by decide) rfl ?_) | (refine O_field fd153_4 (by decide) rfl ?_))
    | (guard_target =~ WO _ _ (Oper.mk _ (Op.store 4 _ _) _ _ _ none) _ _ _ _; first | (refine O_st (by assumption) (by repeat (first | exact List.Mem.head _ | refine List.Mem.tail _ ?_)) (by omega) on4 rfl rfl (by first | omega | (simp only [csz]; omega)) (by first | exact okp (c' := 2) (by first | rfl | exact layMod rfl rfl) (ok64 (by omega)) | exact okp (c' := 1) (by first | rfl | exact layMod rfl rfl) (ok8 (by omega)) | exact okp (c' := 3) (by first | rfl | exact layMod rfl rfl) (ok32 (by omega) (by omega)) | exact okp (c' := 4) (by first | rfl | exact layMod rfl rfl) okB_) rfl ?_; intro _ _))
    | (guard_target =~ WO _ _ (Oper.mk _ (Op.load 45 _) _ _ _ none) _ _ _ _; first | (refine O_ldn64 (by assumption) (by repeat (first | exact List.Mem.head _ | refine List.Mem.tail _ ?_)) ag45 rfl (by first | omega | (simp only [csz]; omega)) (by first | exact layRun0 rfl rfl | exact layRun rfl rfl rfl) ?_; intro _ _))
    | (guard_target =~ WO _ _ (Oper.mk _ (Op.fieldAddr 153 _ 3) _ _ _ none) _ _ _ _; first | (refine O_fdT fd153_3 (by decide) rfl ?_) | (refine O_field fd153_3 (by decide) rfl ?_))
    | (guard_target =~ WO _ _ (Oper.mk _ (Op.binOp BinOp.add 3 _ _ _) _ _ _ none) _ _ _ _; first | (refine O_addZ rfl rfl (by simp only [rngZ]; omega) ?_))
    | (guard_target =~ WO _ _ (Oper.mk _ (Op.fieldAddr 148 _ 1) _ _ _ none) _ _ _ _; first | (refine O_fdT fd148_1 (by decide) rfl ?_) | (refine O_field fd148_1 (by decide) rfl ?_))
    | (guard_target =~ WO _ _ (Oper.mk _ (Op.fieldAddr 148 _ 3) _ _ _ none) _ _ _ _; first | (refine O_fdT fd148_3 (by decide) rfl ?_) | (refine O_field fd148_3 (by decide) rfl ?_))
    | (guard_target =~ WO _ _ (Oper.mk _ (Op.store 31 _ _) _ _ _ none) _ _ _ _; first | (refine O_st (by assumption) (by repeat (first | exact List.Mem.head _ | refine List.Mem.tail _ ?_)) (by omega) on31 rfl rfl (by first | omega | (simp only [csz]; omega)) (okp (c' := 100 + 5) (by first | rfl | exact layMod rfl rfl) (okS (by first | exact Sl.nil _ | exact TS.slN (by assumption) (by repeat (first | exact List.Mem.head _ | refine List.Mem.tail _ ?_))))) rfl ?_; intro _ _))
    | (guard_target =~ WO _ _ (Oper.mk _ (Op.fieldAddr 148 _ 4) _ _ _ none) _ _ _ _; first | (refine O_fdT fd148_4 (by decide) rfl ?_) | (refine O_field fd148_4 (by decide) rfl ?_))
    | (guard_target =~ WO _ _ (Oper.mk _ (Op.fieldAddr 148 _ 5) _ _ _ none) _ _ _ _; first | (refine O_fdT fd148_5 (by decide) rfl ?_) | (refine O_field fd148_5 (by decide) rfl ?_)))
  refine O_stM (by assumption) hV hMu (T := 86) (by repeat (first | exact List.Mem.head _ | refine List.Mem.tail _ ?_)) rfl on46 rfl rfl (by simp only [csz]; omega) (okp (c' := 100 + 126) rfl (okS (Sl.nil _))) rfl ?_
  intro w5 hS5 hMu he5 hV0 hW5
  have hV := hV0.setLog hnm0 (Sl.nil _) he5 hW5
  repeat' (first
    | (refine L_cons ?_)
    | (refine R_cons rfl ?_)
    | (refine W_seq ?_)
    | (refine W_region (by kernel_rfl) ?_)
    | (refine L_nil ?_)
    | (refine R_nil ?_)
    | (refine W_block ?_)
    | (refine W_skip ?_)
    | (refine W_exit ?_)
    | (refine W_ret ?_)
    | (guard_target =~ thenQ _ _ _ _ _; first | (refine T_next ?_) | (refine T_exit ?_) | (refine T_ret ?_))
    | (guard_target =~ blockQ _ _ _ _ _; first | (refine B_next ?_) | (refine B_same ?_) | (refine B_other (by kernel_rfl) ?_) | (refine B_ret ?_))
    | (refine W_true rfl rfl ?_)
    | (refine W_false rfl rfl ?_)
    | (guard_target =~ WO _ _ (Oper.mk _ (Op.load 78 _) _ _ _ none) _ _ _ _; first | (refine O_ldV (by assumption) on78 rfl hV.acc hV.lt ?_) | (refine O_lds (t' := 148) (by assumption) (by repeat (first | exact List.Mem.head _ | refine List.Mem.tail _ ?_)) on78 rfl (by first | omega | (simp only [csz]; omega)) (by first | rfl | exact layMod rfl rfl) ?_; intro _ _ _ _ _ _))
    | (guard_target =~ WO _ _ (Oper.mk _ (Op.load 79 _) _ _ _ none) _ _ _ _; first | (refine O_ldV (by assumption) on79 rfl hV.slo hV.lt ?_) | (refine O_lds (t' := 153) (by assumption) (by repeat (first | exact List.Mem.head _ | refine List.Mem.tail _ ?_)) on79 rfl (by first | omega | (simp only [csz]; omega)) (by first | rfl | exact layMod rfl rfl) ?_; intro _ _ _ _ _ _))
    | (guard_target =~ WO _ _ (Oper.mk _ (Op.load 81 _) _ _ _ none) _ _ _ _; first | (refine O_ldV (by assumption) on81 rfl hV.jou hV.lt ?_) | (refine O_lds (t' := 178) (by assumption) (by repeat (first | exact List.Mem.head _ | refine List.Mem.tail _ ?_)) on81 rfl (by first | omega | (simp only [csz]; omega)) (by first | rfl | exact layMod rfl rfl) ?_; intro _ _ _ _ _ _))
    | (guard_target =~ WO _ _ (Oper.mk _ (Op.load 46 _) _ _ _ none) _ _ _ _; first | (refine O_ldV (by assumption) on46 rfl hV.log hV.lt ?_))
    | (guard_target =~ WO _ _ (Oper.mk _ (Op.load 83 _) _ _ _ none) _ _ _ _; first | (refine O_ldV (by assumption) on83 rfl hV.tem hV.lt ?_))
    | (guard_target =~ WO _ _ (Oper.mk _ (Op.load 84 _) _ _ _ none) _ _ _ _; first | (refine O_ldV (by assumption) on84 rfl hV.tta hV.lt ?_))
    | (guard_target =~ WO _ _ (Oper.mk _ (Op.load 21 _) _ _ _ none) _ _ _ _; first | (refine O_ldV (by assumption) on21 rfl hV.nmk hV.lt ?_) | (refine O_ld32 (by assumption) (by repeat (first | exact List.Mem.head _ | refine List.Mem.tail _ ?_)) on21 rfl (by first | omega | (simp only [csz]; omega)) (by first | rfl | exact layMod rfl rfl) ?_; intro _ _ _))
    | (guard_target =~ WO _ _ (Oper.mk _ (Op.load 27 _) _ _ _ none) _ _ _ _; first | (refine O_ldV (by assumption) on27 rfl hV.rf hV.lt ?_))
    | (guard_target =~ WO _ _ (Oper.mk _ _ _ _ _ (some _)) _ _ _ _; first | (refine G_yes rfl ?_) | (refine G_no rfl ?_))
    | (guard_target =~ WC _ _ (Code.region 11 _ true) _ _ _; first | (refine W_drawnT (id := 11) [] [0, 1, 2, 3, 4, 5, 6, 7, 8, 9, 10, 11, 12, 13, 14, 15, 16, 17, 18, 19, 20, 21, 22, 23, 24, 25, 26, 27, 28, 29, 30] mixed (by kernel_rfl) (by kernel_rfl) (by assumption) ?_; intro _ _ _))
    | (guard_target =~ WO _ _ (Oper.mk _ (Op.move _) _ _ _ none) _ _ _ _; first | (refine O_move (v := (.int _ _)) rfl ?_) | (refine O_move (v := (.bool _)) rfl ?_) | (refine O_move (v := (.pointer _)) rfl ?_) | (refine O_move (v := (.slice _ _ _)) rfl ?_) | (refine O_move (v := (.agg _)) rfl ?_) | (refine O_move (v := (.tuple _)) rfl ?_))
    | (guard_target =~ WO _ _ (Oper.mk _ (Op.nilCheck _) _ _ _ none) _ _ _ _; first | (refine O_nil rfl ?_))
    | (guard_target =~ WO _ _ (Oper.mk _ (Op.fieldAddr 86 _ 4) _ _ _ none) _ _ _ _; first | (refine O_fdT fd86_4 (by decide) rfl ?_) | (refine O_field fd86_4 (by decide) rfl ?_))
    | (guard_target =~ WO _ _ (Oper.mk _ (Op.store 81 _ _) _ _ _ none) _ _ _ _; first | (refine O_st (by assumption) (by repeat (first | exact List.Mem.head _ | refine List.Mem.tail _ ?_)) (by omega) on81 rfl rfl (by first | omega | (simp only [csz]; omega)) (okp (c' := 100 + 178) (by first | rfl | exact layMod rfl rfl) (okS (by first | exact Sl.nil _ | exact TS.slN (by assumption) (by repeat (first | exact List.Mem.head _ | refine List.Mem.tail _ ?_))))) rfl ?_; intro _ _))
    | (guard_target =~ WO _ _ (Oper.mk _ (Op.fieldAddr 86 _ 6) _ _ _ none) _ _ _ _; first | (refine O_fdT fd86_6 (by decide) rfl ?_) | (refine O_field fd86_6 (by decide) rfl ?_))
    | (guard_target =~ WO _ _ (Oper.mk _ (Op.store 21 _ _) _ _ _ none) _ _ _ _; first | (refine O_st (by assumption) (by repeat (first | exact List.Mem.head _ | refine List.Mem.tail _ ?_)) (by omega) on21 rfl rfl (by first | omega | (simp only [csz]; omega)) (by first | exact okp (c' := 2) (by first | rfl | exact layMod rfl rfl) (ok64 (by omega)) | exact okp (c' := 1) (by first | rfl | exact layMod rfl rfl) (ok8 (by omega)) | exact okp (c' := 3) (by first | rfl | exact layMod rfl rfl) (ok32 (by omega) (by omega)) | exact okp (c' := 4) (by first | rfl | exact layMod rfl rfl) okB_) rfl ?_; intro _ _))
    | (guard_target =~ WO _ _ (Oper.mk _ (Op.fieldAddr 86 _ 7) _ _ _ none) _ _ _ _; first | (refine O_fdT fd86_7 (by decide) rfl ?_) | (refine O_field fd86_7 (by decide) rfl ?_))
    | (guard_target =~ WO _ _ (Oper.mk _ (Op.store 27 _ _) _ _ _ none) _ _ _ _; first | (refine O_st (by assumption) (by repeat (first | exact List.Mem.head _ | refine List.Mem.tail _ ?_)) (by omega) on27 rfl rfl (by first | omega | (simp only [csz]; omega)) (by first | exact okp (c' := 2) (by first | rfl | exact layMod rfl rfl) (ok64 (by omega)) | exact okp (c' := 1) (by first | rfl | exact layMod rfl rfl) (ok8 (by omega)) | exact okp (c' := 3) (by first | rfl | exact layMod rfl rfl) (ok32 (by omega) (by omega)) | exact okp (c' := 4) (by first | rfl | exact layMod rfl rfl) okB_) rfl ?_; intro _ _))
    | (guard_target =~ WO _ _ (Oper.mk _ (Op.fieldAddr 86 _ 8) _ _ _ none) _ _ _ _; first | (refine O_fdT fd86_8 (by decide) rfl ?_) | (refine O_field fd86_8 (by decide) rfl ?_))
    | (guard_target =~ WO _ _ (Oper.mk _ (Op.store 46 _ _) _ _ _ none) _ _ _ _; first | (refine O_st (by assumption) (by repeat (first | exact List.Mem.head _ | refine List.Mem.tail _ ?_)) (by omega) on46 rfl rfl (by first | omega | (simp only [csz]; omega)) (okp (c' := 100 + 126) (by first | rfl | exact layMod rfl rfl) (okS (by first | exact Sl.nil _ | exact TS.slN (by assumption) (by repeat (first | exact List.Mem.head _ | refine List.Mem.tail _ ?_))))) rfl ?_; intro _ _))
    | (guard_target =~ WO _ _ (Oper.mk _ (Op.fieldAddr 86 _ 9) _ _ _ none) _ _ _ _; first | (refine O_fdT fd86_9 (by decide) rfl ?_) | (refine O_field fd86_9 (by decide) rfl ?_))
    | (guard_target =~ WO _ _ (Oper.mk _ (Op.fieldAddr 86 _ 10) _ _ _ none) _ _ _ _; first | (refine O_fdT fd86_10 (by decide) rfl ?_) | (refine O_field fd86_10 (by decide) rfl ?_))
    | (guard_target =~ WO _ _ (Oper.mk _ (Op.store 84 _ _) _ _ _ none) _ _ _ _; first | (refine O_st (by assumption) (by repeat (first | exact List.Mem.head _ | refine List.Mem.tail _ ?_)) (by omega) on84 rfl rfl (by first | omega | (simp only [csz]; omega)) (okp (c' := 100 + 21) (by first | rfl | exact layMod rfl rfl) (okS (by first | exact Sl.nil _ | exact TS.slN (by assumption) (by repeat (first | exact List.Mem.head _ | refine List.Mem.tail _ ?_))))) rfl ?_; intro _ _))
    | (guard_target =~ WO _ _ (Oper.mk _ (Op.fieldAddr 86 _ 1) _ _ _ none) _ _ _ _; first | (refine O_fdT fd86_1 (by decide) rfl ?_) | (refine O_field fd86_1 (by decide) rfl ?_))
    | (guard_target =~ WO _ _ (Oper.mk _ (Op.call _) _ _ _ none) _ _ _ _; first | (refine O_len Samg.underlying79 rfl rfl ?_) | (refine O_len Samg.underlying78 rfl rfl ?_))
    | (guard_target =~ WO _ _ (Oper.mk _ (Op.binOp BinOp.lss 3 _ _ _) _ _ _ none) _ _ _ _; first | (first | (refine O_lssS rfl rfl (fun h => absurd h (by omega)) ?_; intro _) | (refine O_lssS rfl rfl ?_ (fun h => absurd h (by omega)); intro _) | (refine O_lssS rfl rfl ?_ ?_ <;> intro _)))
    | (guard_target =~ WO _ _ (Oper.mk _ (Op.assign _) _ _ _ none) _ _ _ _; first | (refine O_assign (v := (.int _ _)) rfl ?_) | (refine O_assign (v := (.bool _)) rfl ?_) | (refine O_assign (v := (.pointer _)) rfl ?_) | (refine O_assign (v := (.slice _ _ _)) rfl ?_) | (refine O_assign (v := (.agg _)) rfl ?_) | (refine O_assign (v := (.tuple _)) rfl ?_))
    | (guard_target =~ WO _ _ (Oper.mk _ (Op.indexAddr 79 _ _) _ _ _ none) _ _ _ _; first | (refine O_ixK (by assumption) (by repeat (first | exact List.Mem.head _ | refine List.Mem.tail _ ?_)) sl79 rfl rfl (by omega) (by omega) ?_; rintro _ _ _) | (refine O_ixN (by assumption) (by repeat (first | exact List.Mem.head _ | refine List.Mem.tail _ ?_)) sl79 rfl rfl (by omega) (by omega) ?_; rintro _ _ _ _ _ _))
    | (guard_target =~ WO _ _ (Oper.mk _ (Op.fieldAddr 153 _ 0) _ _ _ none) _ _ _ _; first | (refine O_fdT fd153_0 (by decide) rfl ?_) | (refine O_field fd153_0 (by decide) rfl ?_))
    | (guard_target =~ WO _ _ (Oper.mk _ (Op.binOp BinOp.geq 21 _ _ _) _ _ _ none) _ _ _ _; first | (first | (refine O_geqS rfl rfl (fun h => absurd h (by omega)) ?_; intro _) | (refine O_geqS rfl rfl ?_ (fun h => absurd h (by omega)); intro _) | (refine O_geqS rfl rfl ?_ ?_ <;> intro _)))
    | (guard_target =~ WO _ _ (Oper.mk _ (Op.convert 21 3 _) _ _ _ none) _ _ _ _; first | (refine O_convZ Samg.underlying21 Samg.underlying3 rfl (by simp only [rngZ]; omega) ?_) | (refine O_convA Samg.underlying21 Samg.underlying3 rfl rfl ?_; intro _ hr; simp only [rngZ] at hr))
    | (guard_target =~ WO _ _ (Oper.mk _ (Op.fieldAddr 86 _ 0) _ _ _ none) _ _ _ _; first | (refine O_fdT fd86_0 (by decide) rfl ?_) | (refine O_field fd86_0 (by decide) rfl ?_))
    | (guard_target =~ WO _ _ (Oper.mk _ (Op.pick _ _ _) _ _ _ none) _ _ _ _; first | (refine O_pick_t (v := (.bool _)) rfl rfl ?_) | (refine O_pick_f (v := (.bool _)) rfl rfl ?_))
    | (guard_target =~ WO _ _ (Oper.mk _ (Op.indexAddr 78 _ _) _ _ _ none) _ _ _ _; first | (refine O_ixK (by assumption) (by repeat (first | exact List.Mem.head _ | refine List.Mem.tail _ ?_)) sl78 rfl rfl (by omega) (by omega) ?_; rintro _ _ _) | (refine O_ixN (by assumption) (by repeat (first | exact List.Mem.head _ | refine List.Mem.tail _ ?_)) sl78 rfl rfl (by omega) (by omega) ?_; rintro _ _ _ _ _ _))
    | (guard_target =~ WO _ _ (Oper.mk _ (Op.fieldAddr 148 _ 6) _ _ _ none) _ _ _ _; first | (refine O_fdT fd148_6 (by decide) rfl ?_) | (refine O_field fd148_6 (by decide) rfl ?_))
    | (guard_target =~ WO _ _ (Oper.mk _ (Op.load 4 _) _ _ _ none) _ _ _ _; first | (refine O_ldb (by assumption) (by repeat (first | exact List.Mem.head _ | refine List.Mem.tail _ ?_)) on4 rfl (by first | omega | (simp only [csz]; omega)) (by first | rfl | exact layMod rfl rfl) ?_ ?_))
    | (guard_target =~ WO _ _ (Oper.mk _ (Op.build 45 #[]) _ _ _ none) _ _ _ _; first | (refine O_bdn64 (l := []) (by assumption) ar45 zc45 rfl rfl rfl rfl trivial ?_; intro _ _))
    | (guard_target =~ WO _ _ (Oper.mk _ (Op.fieldAddr 153 _ 2) _ _ _ none) _ _ _ _; first | (refine O_fdT fd153_2 (by decide) rfl ?_) | (refine O_field fd153_2 (by decide) rfl ?_))
    | (guard_target =~ WO _ _ (Oper.mk _ (Op.store 45 _ _) _ _ _ none) _ _ _ _; first | (refine O_stn64 (by assumption) (by repeat (first | exact List.Mem.head _ | refine List.Mem.tail _ ?_)) (by omega) ag45 rfl rfl (by assumption) (by first | omega | (simp only [csz]; omega)) (by first | exact layRun0 rfl rfl | exact layRun rfl rfl rfl) rfl ?_; intro _ _))
    | (guard_target =~ WO _ _ (Oper.mk _ (Op.fieldAddr 153 _ 4) _ _ _ none) _ _ _ _; first | (refine O_fdT fd153_4 (by decide) rfl ?_) | (refine O_field fd153_4 (by decide) rfl ?_))
    | (guard_target =~ WO _ _ (Oper.mk _ (Op.store 4 _ _) _ _ _ none) _ _ _ _; first | (refine O_st (by assumption) (by repeat (first | exact List.Mem.head _ | refine List.Mem.tail _ ?_)) (by omega) on4 rfl rfl (by first | omega | (simp only [csz]; omega)) (by first | exact okp (c' := 2) (by first | rfl | exact layMod rfl rfl) (ok64 (by omega)) | exact okp (c' := 1) (by first | rfl | exact layMod rfl rfl) (ok8 (by omega)) | exact okp (c' := 3) (by first | rfl | exact layMod rfl rfl) (ok32 (by omega) (by omega)) | exact okp (c' := 4) (by first | rfl | exact layMod rfl rfl) okB_) rfl ?_; intro _ _))
    | (guard_target =~ WO _ _ (Oper.mk _ (Op.load 45 _) _ _ _ none) _ _ _ _; first | (refine O_ldn64 (by assumption) (by repeat (first | exact List.Mem.head _ | refine List.Mem.tail _ ?_)) ag45 rfl (by first | omega | (simp only [csz]; omega)) (by first | exact layRun0 rfl rfl | exact layRun rfl rfl rfl) ?_; intro _ _))
    | (guard_target =~ WO _ _ (Oper.mk _ (Op.fieldAddr 153 _ 3) _ _ _ none) _ _ _ _; first | (refine O_fdT fd153_3 (by decide) rfl ?_) | (refine O_field fd153_3 (by decide) rfl ?_))
    | (guard_target =~ WO _ _ (Oper.mk _ (Op.binOp BinOp.add 3 _ _ _) _ _ _ none) _ _ _ _; first | (refine O_addZ rfl rfl (by simp only [rngZ]; omega) ?_))
    | (guard_target =~ WO _ _ (Oper.mk _ (Op.fieldAddr 148 _ 1) _ _ _ none) _ _ _ _; first | (refine O_fdT fd148_1 (by decide) rfl ?_) | (refine O_field fd148_1 (by decide) rfl ?_))
    | (guard_target =~ WO _ _ (Oper.mk _ (Op.fieldAddr 148 _ 3) _ _ _ none) _ _ _ _; first | (refine O_fdT fd148_3 (by decide) rfl ?_) | (refine O_field fd148_3 (by decide) rfl ?_))
    | (guard_target =~ WO _ _ (Oper.mk _ (Op.store 31 _ _) _ _ _ none) _ _ _ _; first | (refine O_st (by assumption) (by repeat (first | exact List.Mem.head _ | refine List.Mem.tail _ ?_)) (by omega) on31 rfl rfl (by first | omega | (simp only [csz]; omega)) (okp (c' := 100 + 5) (by first | rfl | exact layMod rfl rfl) (okS (by first | exact Sl.nil _ | exact TS.slN (by assumption) (by repeat (first | exact List.Mem.head _ | refine List.Mem.tail _ ?_))))) rfl ?_; intro _ _))
    | (guard_target =~ WO _ _ (Oper.mk _ (Op.fieldAddr 148 _ 4) _ _ _ none) _ _ _ _; first | (refine O_fdT fd148_4 (by decide) rfl ?_) | (refine O_field fd148_4 (by decide) rfl ?_))
    | (guard_target =~ WO _ _ (Oper.mk _ (Op.fieldAddr 148 _ 5) _ _ _ none) _ _ _ _; first | (refine O_fdT fd148_5 (by decide) rfl ?_) | (refine O_field fd148_5 (by decide) rfl ?_)))
  refine O_stM (by assumption) hV hMu (T := 86) (by repeat (first | exact List.Mem.head _ | refine List.Mem.tail _ ?_)) rfl on83 rfl rfl (by simp only [csz]; omega) (okp (c' := 100 + 172) rfl (okS (Sl.nil _))) rfl ?_
  intro w6 hS6 hMu he6 hV0 hW6
  have hV := hV0.setTem hnm0 (Sl.nil _) he6 hW6
  repeat' (first
    | (refine L_cons ?_)
    | (refine R_cons rfl ?_)
    | (refine W_seq ?_)
    | (refine W_region (by kernel_rfl) ?_)
    | (refine L_nil ?_)
    | (refine R_nil ?_)
    | (refine W_block ?_)
    | (refine W_skip ?_)
    | (refine W_exit ?_)
    | (refine W_ret ?_)
    | (guard_target =~ thenQ _ _ _ _ _; first | (refine T_next ?_) | (refine T_exit ?_) | (refine T_ret ?_))
    | (guard_target =~ blockQ _ _ _ _ _; first | (refine B_next ?_) | (refine B_same ?_) | (refine B_other (by kernel_rfl) ?_) | (refine B_ret ?_))
    | (refine W_true rfl rfl ?_)
    | (refine W_false rfl rfl ?_)
    | (guard_target =~ WO _ _ (Oper.mk _ (Op.load 78 _) _ _ _ none) _ _ _ _; first | (refine O_ldV (by assumption) on78 rfl hV.acc hV.lt ?_) | (refine O_lds (t' := 148) (by assumption) (by repeat (first | exact List.Mem.head _ | refine List.Mem.tail _ ?_)) on78 rfl (by first | omega | (simp only [csz]; omega)) (by first | rfl | exact layMod rfl rfl) ?_; intro _ _ _ _ _ _))
    | (guard_target =~ WO _ _ (Oper.mk _ (Op.load 79 _) _ _ _ none) _ _ _ _; first | (refine O_ldV (by assumption) on79 rfl hV.slo hV.lt ?_) | (refine O_lds (t' := 153) (by assumption) (by repeat (first | exact List.Mem.head _ | refine List.Mem.tail _ ?_)) on79 rfl (by first | omega | (simp only [csz]; omega)) (by first | rfl | exact layMod rfl rfl) ?_; intro _ _ _ _ _ _))
    | (guard_target =~ WO _ _ (Oper.mk _ (Op.load 81 _) _ _ _ none) _ _ _ _; first | (refine O_ldV (by assumption) on81 rfl hV.jou hV.lt ?_) | (refine O_lds (t' := 178) (by assumption) (by repeat (first | exact List.Mem.head _ | refine List.Mem.tail _ ?_)) on81 rfl (by first | omega | (simp only [csz]; omega)) (by first | rfl | exact layMod rfl rfl) ?_; intro _ _ _ _ _ _))
    | (guard_target =~ WO _ _ (Oper.mk _ (Op.load 46 _) _ _ _ none) _ _ _ _; first | (refine O_ldV (by assumption) on46 rfl hV.log hV.lt ?_))
    | (guard_target =~ WO _ _ (Oper.mk _ (Op.load 83 _) _ _ _ none) _ _ _ _; first | (refine O_ldV (by assumption) on83 rfl hV.tem hV.lt ?_))
    | (guard_target =~ WO _ _ (Oper.mk _ (Op.load 84 _) _ _ _ none) _ _ _ _; first | (refine O_ldV (by assumption) on84 rfl hV.tta hV.lt ?_))
    | (guard_target =~ WO _ _ (Oper.mk _ (Op.load 21 _) _ _ _ none) _ _ _ _; first | (refine O_ldV (by assumption) on21 rfl hV.nmk hV.lt ?_) | (refine O_ld32 (by assumption) (by repeat (first | exact List.Mem.head _ | refine List.Mem.tail _ ?_)) on21 rfl (by first | omega | (simp only [csz]; omega)) (by first | rfl | exact layMod rfl rfl) ?_; intro _ _ _))
    | (guard_target =~ WO _ _ (Oper.mk _ (Op.load 27 _) _ _ _ none) _ _ _ _; first | (refine O_ldV (by assumption) on27 rfl hV.rf hV.lt ?_))
    | (guard_target =~ WO _ _ (Oper.mk _ _ _ _ _ (some _)) _ _ _ _; first | (refine G_yes rfl ?_) | (refine G_no rfl ?_))
    | (guard_target =~ WC _ _ (Code.region 11 _ true) _ _ _; first | (refine W_drawnT (id := 11) [] [0, 1, 2, 3, 4, 5, 6, 7, 8, 9, 10, 11, 12, 13, 14, 15, 16, 17, 18, 19, 20, 21, 22, 23, 24, 25, 26, 27, 28, 29, 30] mixed (by kernel_rfl) (by kernel_rfl) (by assumption) ?_; intro _ _ _))
    | (guard_target =~ WO _ _ (Oper.mk _ (Op.move _) _ _ _ none) _ _ _ _; first | (refine O_move (v := (.int _ _)) rfl ?_) | (refine O_move (v := (.bool _)) rfl ?_) | (refine O_move (v := (.pointer _)) rfl ?_) | (refine O_move (v := (.slice _ _ _)) rfl ?_) | (refine O_move (v := (.agg _)) rfl ?_) | (refine O_move (v := (.tuple _)) rfl ?_))
    | (guard_target =~ WO _ _ (Oper.mk _ (Op.nilCheck _) _ _ _ none) _ _ _ _; first | (refine O_nil rfl ?_))
    | (guard_target =~ WO _ _ (Oper.mk _ (Op.fieldAddr 86 _ 4) _ _ _ none) _ _ _ _; first | (refine O_fdT fd86_4 (by decide) rfl ?_) | (refine O_field fd86_4 (by decide) rfl ?_))
    | (guard_target =~ WO _ _ (Oper.mk _ (Op.store 81 _ _) _ _ _ none) _ _ _ _; first | (refine O_st (by assumption) (by repeat (first | exact List.Mem.head _ | refine List.Mem.tail _ ?_)) (by omega) on81 rfl rfl (by first | omega | (simp only [csz]; omega)) (okp (c' := 100 + 178) (by first | rfl | exact layMod rfl rfl) (okS (by first | exact Sl.nil _ | exact TS.slN (by assumption) (by repeat (first | exact List.Mem.head _ | refine List.Mem.tail _ ?_))))) rfl ?_; intro _ _))
    | (guard_target =~ WO _ _ (Oper.mk _ (Op.fieldAddr 86 _ 6) _ _ _ none) _ _ _ _; first | (refine O_fdT fd86_6 (by decide) rfl ?_) | (refine O_field fd86_6 (by decide) rfl ?_))
    | (guard_target =~ WO _ _ (Oper.mk _ (Op.store 21 _ _) _ _ _ none) _ _ _ _; first | (refine O_st (by assumption) (by repeat (first | exact List.Mem.head _ | refine List.Mem.tail _ ?_)) (by omega) on21 rfl rfl (by first | omega | (simp only [csz]; omega)) (by first | exact okp (c' := 2) (by first | rfl | exact layMod rfl rfl) (ok64 (by omega)) | exact okp (c' := 1) (by first | rfl | exact layMod rfl rfl) (ok8 (by omega)) | exact okp (c' := 3) (by first | rfl | exact layMod rfl rfl) (ok32 (by omega) (by omega)) | exact okp (c' := 4) (by first | rfl | exact layMod rfl rfl) okB_) rfl ?_; intro _ _))
    | (guard_target =~ WO _ _ (Oper.mk _ (Op.fieldAddr 86 _ 7) _ _ _ none) _ _ _ _; first | (refine O_fdT fd86_7 (by decide) rfl ?_) | (refine O_field fd86_7 (by decide) rfl ?_))
    | (guard_target =~ WO _ _ (Oper.mk _ (Op.store 27 _ _) _ _ _ none) _ _ _ _; first | (refine O_st (by assumption) (by repeat (first | exact List.Mem.head _ | refine List.Mem.tail _ ?_)) (by omega) on27 rfl rfl (by first | omega | (simp only [csz]; omega)) (by first | exact okp (c' := 2) (by first | rfl | exact layMod rfl rfl) (ok64 (by omega)) | exact okp (c' := 1) (by first | rfl | exact layMod rfl rfl) (ok8 (by omega)) | exact okp (c' := 3) (by first | rfl | exact layMod rfl rfl) (ok32 (by omega) (by omega)) | exact okp (c' := 4) (by first | rfl | exact layMod rfl rfl) okB_) rfl ?_; intro _ _))
    | (guard_target =~ WO _ _ (Oper.mk _ (Op.fieldAddr 86 _ 8) _ _ _ none) _ _ _ _; first | (refine O_fdT fd86_8 (by decide) rfl ?_) | (refine O_field fd86_8 (by decide) rfl ?_))
    | (guard_target =~ WO _ _ (Oper.mk _ (Op.store 46 _ _) _ _ _ none) _ _ _ _; first | (refine O_st (by assumption) (by repeat (first | exact List.Mem.head _ | refine List.Mem.tail _ ?_)) (by omega) on46 rfl rfl (by first | omega | (simp only [csz]; omega)) (okp (c' := 100 + 126) (by first | rfl | exact layMod rfl rfl) (okS (by first | exact Sl.nil _ | exact TS.slN (by assumption) (by repeat (first | exact List.Mem.head _ | refine List.Mem.tail _ ?_))))) rfl ?_; intro _ _))
    | (guard_target =~ WO _ _ (Oper.mk _ (Op.fieldAddr 86 _ 9) _ _ _ none) _ _ _ _; first | (refine O_fdT fd86_9 (by decide) rfl ?_) | (refine O_field fd86_9 (by decide) rfl ?_))
    | (guard_target =~ WO _ _ (Oper.mk _ (Op.store 83 _ _) _ _ _ none) _ _ _ _; first | (refine O_st (by assumption) (by repeat (first | exact List.Mem.head _ | refine List.Mem.tail _ ?_)) (by omega) on83 rfl rfl (by first | omega | (simp only [csz]; omega)) (okp (c' := 100 + 172) (by first | rfl | exact layMod rfl rfl) (okS (by first | exact Sl.nil _ | exact TS.slN (by assumption) (by repeat (first | exact List.Mem.head _ | refine List.Mem.tail _ ?_))))) rfl ?_; intro _ _))
    | (guard_target =~ WO _ _ (Oper.mk _ (Op.fieldAddr 86 _ 10) _ _ _ none) _ _ _ _; first | (refine O_fdT fd86_10 (by decide) rfl ?_) | (refine O_field fd86_10 (by decide) rfl ?_))
    | (guard_target =~ WO _ _ (Oper.mk _ (Op.fieldAddr 86 _ 1) _ _ _ none) _ _ _ _; first | (refine O_fdT fd86_1 (by decide) rfl ?_) | (refine O_field fd86_1 (by decide) rfl ?_))
    | (guard_target =~ WO _ _ (Oper.mk _ (Op.call _) _ _ _ none) _ _ _ _; first | (refine O_len Samg.underlying79 rfl rfl ?_) | (refine O_len Samg.underlying78 rfl rfl ?_))
    | (guard_target =~ WO _ _ (Oper.mk _ (Op.binOp BinOp.lss 3 _ _ _) _ _ _ none) _ _ _ _; first | (first | (refine O_lssS rfl rfl (fun h => absurd h (by omega)) ?_; intro _) | (refine O_lssS rfl rfl ?_ (fun h => absurd h (by omega)); intro _) | (refine O_lssS rfl rfl ?_ ?_ <;> intro _)))
    | (guard_target =~ WO _ _ (Oper.mk _ (Op.assign _) _ _ _ none) _ _ _ _; first | (refine O_assign (v := (.int _ _)) rfl ?_) | (refine O_assign (v := (.bool _)) rfl ?_) | (refine O_assign (v := (.pointer _)) rfl ?_) | (refine O_assign (v := (.slice _ _ _)) rfl ?_) | (refine O_assign (v := (.agg _)) rfl ?_) | (refine O_assign (v := (.tuple _)) rfl ?_))
    | (guard_target =~ WO _ _ (Oper.mk _ (Op.indexAddr 79 _ _) _ _ _ none) _ _ _ _; first | (refine O_ixK (by assumption) (by repeat (first | exact List.Mem.head _ | refine List.Mem.tail _ ?_)) sl79 rfl rfl (by omega) (by omega) ?_; rintro _ _ _) | (refine O_ixN (by assumption) (by repeat (first | exact List.Mem.head _ | refine List.Mem.tail _ ?_)) sl79 rfl rfl (by omega) (by omega) ?_; rintro _ _ _ _ _ _))
    | (guard_target =~ WO _ _ (Oper.mk _ (Op.fieldAddr 153 _ 0) _ _ _ none) _ _ _ _; first | (refine O_fdT fd153_0 (by decide) rfl ?_) | (refine O_field fd153_0 (by decide) rfl ?_))
    | (guard_target =~ WO _ _ (Oper.mk _ (Op.binOp BinOp.geq 21 _ _ _) _ _ _ none) _ _ _ _; first | (first | (refine O_geqS rfl rfl (fun h => absurd h (by omega)) ?_; intro _) | (refine O_geqS rfl rfl ?_ (fun h => absurd h (by omega)); intro _) | (refine O_geqS rfl rfl ?_ ?_ <;> intro _)))
    | (guard_target =~ WO _ _ (Oper.mk _ (Op.convert 21 3 _) _ _ _ none) _ _ _ _; first | (refine O_convZ Samg.underlying21 Samg.underlying3 rfl (by simp only [rngZ]; omega) ?_) | (refine O_convA Samg.underlying21 Samg.underlying3 rfl rfl ?_; intro _ hr; simp only [rngZ] at hr))
    | (guard_target =~ WO _ _ (Oper.mk _ (Op.fieldAddr 86 _ 0) _ _ _ none) _ _ _ _; first | (refine O_fdT fd86_0 (by decide) rfl ?_) | (refine O_field fd86_0 (by decide) rfl ?_))
    | (guard_target =~ WO _ _ (Oper.mk _ (Op.pick _ _ _) _ _ _ none) _ _ _ _; first | (refine O_pick_t (v := (.bool _)) rfl rfl ?_) | (refine O_pick_f (v := (.bool _)) rfl rfl ?_))
    | (guard_target =~ WO _ _ (Oper.mk _ (Op.indexAddr 78 _ _) _ _ _ none) _ _ _ _; first | (refine O_ixK (by assumption) (by repeat (first | exact List.Mem.head _ | refine List.Mem.tail _ ?_)) sl78 rfl rfl (by omega) (by omega) ?_; rintro _ _ _) | (refine O_ixN (by assumption) (by repeat (first | exact List.Mem.head _ | refine List.Mem.tail _ ?_)) sl78 rfl rfl (by omega) (by omega) ?_; rintro _ _ _ _ _ _))
    | (guard_target =~ WO _ _ (Oper.mk _ (Op.fieldAddr 148 _ 6) _ _ _ none) _ _ _ _; first | (refine O_fdT fd148_6 (by decide) rfl ?_) | (refine O_field fd148_6 (by decide) rfl ?_))
    | (guard_target =~ WO _ _ (Oper.mk _ (Op.load 4 _) _ _ _ none) _ _ _ _; first | (refine O_ldb (by assumption) (by repeat (first | exact List.Mem.head _ | refine List.Mem.tail _ ?_)) on4 rfl (by first | omega | (simp only [csz]; omega)) (by first | rfl | exact layMod rfl rfl) ?_ ?_))
    | (guard_target =~ WO _ _ (Oper.mk _ (Op.build 45 #[]) _ _ _ none) _ _ _ _; first | (refine O_bdn64 (l := []) (by assumption) ar45 zc45 rfl rfl rfl rfl trivial ?_; intro _ _))
    | (guard_target =~ WO _ _ (Oper.mk _ (Op.fieldAddr 153 _ 2) _ _ _ none) _ _ _ _; first | (refine O_fdT fd153_2 (by decide) rfl ?_) | (refine O_field fd153_2 (by decide) rfl ?_))
    | (guard_target =~ WO _ _ (Oper.mk _ (Op.store 45 _ _) _ _ _ none) _ _ _ _; first | (refine O_stn64 (by assumption) (by repeat (first | exact List.Mem.head _ | refine List.Mem.tail _ ?_)) (by omega) ag45 rfl rfl (by assumption) (by first | omega | (simp only [csz]; omega)) (by first | exact layRun0 rfl rfl | exact layRun rfl rfl rfl) rfl ?_; intro _ _))
    | (guard_target =~ WO _ _ (Oper.mk _ (Op.fieldAddr 153 _ 4) _ _ _ none) _ _ _ _; first | (refine O_fdT fd153_4 (by decide) rfl ?_) | (refine O_field fd153_4 (by decide) rfl ?_))
    | (guard_target =~ WO _ _ (Oper.mk _ (Op.store 4 _ _) _ _ _ none) _ _ _ _; first | (refine O_st (by assumption) (by repeat (first | exact List.Mem.head _ | refine List.Mem.tail _ ?_)) (by omega) on4 rfl rfl (by first | omega | (simp only [csz]; omega)) (by first | exact okp (c' := 2) (by first | rfl | exact layMod rfl rfl) (ok64 (by omega)) | exact okp (c' := 1) (by first | rfl | exact layMod rfl rfl) (ok8 (by omega)) | exact okp (c' := 3) (by first | rfl | exact layMod rfl rfl) (ok32 (by omega) (by omega)) | exact okp (c' := 4) (by first | rfl | exact layMod rfl rfl) okB_) rfl ?_; intro _ _))
    | (guard_target =~ WO _ _ (Oper.mk _ (Op.load 45 _) _ _ _ none) _ _ _ _; first | (refine O_ldn64 (by assumption) (by repeat (first | exact List.Mem.head _ | refine List.Mem.tail _ ?_)) ag45 rfl (by first | omega | (simp only [csz]; omega)) (by first | exact layRun0 rfl rfl | exact layRun rfl rfl rfl) ?_; intro _ _))
    | (guard_target =~ WO _ _ (Oper.mk _ (Op.fieldAddr 153 _ 3) _ _ _ none) _ _ _ _; first | (refine O_fdT fd153_3 (by decide) rfl ?_) | (refine O_field fd153_3 (by decide) rfl ?_))
    | (guard_target =~ WO _ _ (Oper.mk _ (Op.binOp BinOp.add 3 _ _ _) _ _ _ none) _ _ _ _; first | (refine O_addZ rfl rfl (by simp only [rngZ]; omega) ?_))
    | (guard_target =~ WO _ _ (Oper.mk _ (Op.fieldAddr 148 _ 1) _ _ _ none) _ _ _ _; first | (refine O_fdT fd148_1 (by decide) rfl ?_) | (refine O_field fd148_1 (by decide) rfl ?_))
    | (guard_target =~ WO _ _ (Oper.mk _ (Op.fieldAddr 148 _ 3) _ _ _ none) _ _ _ _; first | (refine O_fdT fd148_3 (by decide) rfl ?_) | (refine O_field fd148_3 (by decide) rfl ?_))
    | (guard_target =~ WO _ _ (Oper.mk _ (Op.store 31 _ _) _ _ _ none) _ _ _ _; first | (refine O_st (by assumption) (by repeat (first | exact List.Mem.head _ | refine List.Mem.tail _ ?_)) (by omega) on31 rfl rfl (by first | omega | (simp only [csz]; omega)) (okp (c' := 100 + 5) (by first | rfl | exact layMod rfl rfl) (okS (by first | exact Sl.nil _ | exact TS.slN (by assumption) (by repeat (first | exact List.Mem.head _ | refine List.Mem.tail _ ?_))))) rfl ?_; intro _ _))
    | (guard_target =~ WO _ _ (Oper.mk _ (Op.fieldAddr 148 _ 4) _ _ _ none) _ _ _ _; first | (refine O_fdT fd148_4 (by decide) rfl ?_) | (refine O_field fd148_4 (by decide) rfl ?_))
    | (guard_target =~ WO _ _ (Oper.mk _ (Op.fieldAddr 148 _ 5) _ _ _ none) _ _ _ _; first | (refine O_fdT fd148_5 (by decide) rfl ?_) | (refine O_field fd148_5 (by decide) rfl ?_)))
  refine O_stM (by assumption) hV hMu (T := 86) (by repeat (first | exact List.Mem.head _ | refine List.Mem.tail _ ?_)) rfl on84 rfl rfl (by simp only [csz]; omega) (okp (c' := 100 + 21) rfl (okS (Sl.nil _))) rfl ?_
  intro w7 hS7 hMu he7 hV0 hW7
  have hV := hV0.setTta hnm0 (Sl.nil _) he7 hW7
  have hI2 := VI.reset hI (aJ := σ.aJ) (cJ := σ.cJ) (aL := none) (cL := 0) (aT := none) (cT := 0) (aH := none) (nh := 0) (cH := 0) (mks := σ.mks) (kd := fun _ => 0) (ja := fun _ => 0) (jn := fun _ => 0) (jw := fun _ _ => 0) (fun _ => by omega) (fun _ _ => by omega)
  obtain ⟨σ2, hσ2, hV, hI2, eA, eS, ena, ens, ecA, ecS⟩ : ∃ σ2 : VS, V B w7 s σ2 ∧ V B w7 s σ2 ∧ VI σ2 ∧ σ2.aA = σ.aA ∧ σ2.aS = σ.aS ∧ σ2.na = σ.na ∧ σ2.ns = σ.ns ∧ σ2.cA = σ.cA ∧ σ2.cS = σ.cS := ⟨_, hV, hV, hI2, rfl, rfl, rfl, rfl, rfl, rfl⟩
  have hS8 := (hS7.clear).withV hV
  repeat' (first
    | (refine L_cons ?_)
    | (refine R_cons rfl ?_)
    | (refine W_seq ?_)
    | (refine W_region (by kernel_rfl) ?_)
    | (refine L_nil ?_)
    | (refine R_nil ?_)
    | (refine W_block ?_)
    | (refine W_skip ?_)
    | (refine W_exit ?_)
    | (refine W_ret ?_)
    | (guard_target =~ thenQ _ _ _ _ _; first | (refine T_next ?_) | (refine T_exit ?_) | (refine T_ret ?_))
    | (guard_target =~ blockQ _ _ _ _ _; first | (refine B_next ?_) | (refine B_same ?_) | (refine B_other (by kernel_rfl) ?_) | (refine B_ret ?_))
    | (refine W_true rfl rfl ?_)
    | (refine W_false rfl rfl ?_)
    | (guard_target =~ WO _ _ (Oper.mk _ (Op.load 78 _) _ _ _ none) _ _ _ _; first | (refine O_ldV (by assumption) on78 rfl hV.acc hV.lt ?_) | (refine O_lds (t' := 148) (by assumption) (by repeat (first | exact List.Mem.head _ | refine List.Mem.tail _ ?_)) on78 rfl (by first | omega | (simp only [csz]; omega)) (by first | rfl | exact layMod rfl rfl) ?_; intro _ _ _ _ _ _))
    | (guard_target =~ WO _ _ (Oper.mk _ (Op.load 79 _) _ _ _ none) _ _ _ _; first | (refine O_ldV (by assumption) on79 rfl hV.slo hV.lt ?_) | (refine O_lds (t' := 153) (by assumption) (by repeat (first | exact List.Mem.head _ | refine List.Mem.tail _ ?_)) on79 rfl (by first | omega | (simp only [csz]; omega)) (by first | rfl | exact layMod rfl rfl) ?_; intro _ _ _ _ _ _))
    | (guard_target =~ WO _ _ (Oper.mk _ (Op.load 81 _) _ _ _ none) _ _ _ _; first | (refine O_ldV (by assumption) on81 rfl hV.jou hV.lt ?_) | (refine O_lds (t' := 178) (by assumption) (by repeat (first | exact List.Mem.head _ | refine List.Mem.tail _ ?_)) on81 rfl (by first | omega | (simp only [csz]; omega)) (by first | rfl | exact layMod rfl rfl) ?_; intro _ _ _ _ _ _))
    | (guard_target =~ WO _ _ (Oper.mk _ (Op.load 46 _) _ _ _ none) _ _ _ _; first | (refine O_ldV (by assumption) on46 rfl hV.log hV.lt ?_))
    | (guard_target =~ WO _ _ (Oper.mk _ (Op.load 83 _) _ _ _ none) _ _ _ _; first | (refine O_ldV (by assumption) on83 rfl hV.tem hV.lt ?_))
    | (guard_target =~ WO _ _ (Oper.mk _ (Op.load 84 _) _ _ _ none) _ _ _ _; first | (refine O_ldV (by assumption) on84 rfl hV.tta hV.lt ?_))
    | (guard_target =~ WO _ _ (Oper.mk _ (Op.load 21 _) _ _ _ none) _ _ _ _; first | (refine O_ldV (by assumption) on21 rfl hV.nmk hV.lt ?_) | (refine O_ld32 (by assumption) (by repeat (first | exact List.Mem.head _ | refine List.Mem.tail _ ?_)) on21 rfl (by first | omega | (simp only [csz]; omega)) (by first | rfl | exact layMod rfl rfl) ?_; intro _ _ _))
    | (guard_target =~ WO _ _ (Oper.mk _ (Op.load 27 _) _ _ _ none) _ _ _ _; first | (refine O_ldV (by assumption) on27 rfl hV.rf hV.lt ?_))
    | (guard_target =~ WO _ _ (Oper.mk _ _ _ _ _ (some _)) _ _ _ _; first | (refine G_yes rfl ?_) | (refine G_no rfl ?_))
    | (guard_target =~ WC _ _ (Code.region 11 _ true) _ _ _; first | (refine W_drawnT (id := 11) [] [0, 1, 2, 3, 4, 5, 6, 7, 8, 9, 10, 11, 12, 13, 14, 15, 16, 17, 18, 19, 20, 21, 22, 23, 24, 25, 26, 27, 28, 29, 30] mixed (by kernel_rfl) (by kernel_rfl) (by assumption) ?_; intro _ _ _))
    | (guard_target =~ WO _ _ (Oper.mk _ (Op.move _) _ _ _ none) _ _ _ _; first | (refine O_move (v := (.int _ _)) rfl ?_) | (refine O_move (v := (.bool _)) rfl ?_) | (refine O_move (v := (.pointer _)) rfl ?_) | (refine O_move (v := (.slice _ _ _)) rfl ?_) | (refine O_move (v := (.agg _)) rfl ?_) | (refine O_move (v := (.tuple _)) rfl ?_))
    | (guard_target =~ WO _ _ (Oper.mk _ (Op.nilCheck _) _ _ _ none) _ _ _ _; first | (refine O_nil rfl ?_))
    | (guard_target =~ WO _ _ (Oper.mk _ (Op.fieldAddr 86 _ 4) _ _ _ none) _ _ _ _; first | (refine O_fdT fd86_4 (by decide) rfl ?_) | (refine O_field fd86_4 (by decide) rfl ?_))
    | (guard_target =~ WO _ _ (Oper.mk _ (Op.store 81 _ _) _ _ _ none) _ _ _ _; first | (refine O_st (by assumption) (by repeat (first | exact List.Mem.head _ | refine List.Mem.tail _ ?_)) (by omega) on81 rfl rfl (by first | omega | (simp only [csz]; omega)) (okp (c' := 100 + 178) (by first | rfl | exact layMod rfl rfl) (okS (by first | exact Sl.nil _ | exact TS.slN (by assumption) (by repeat (first | exact List.Mem.head _ | refine List.Mem.tail _ ?_))))) rfl ?_; intro _ _))
    | (guard_target =~ WO _ _ (Oper.mk _ (Op.fieldAddr 86 _ 6) _ _ _ none) _ _ _ _; first | (refine O_fdT fd86_6 (by decide) rfl ?_) | (refine O_field fd86_6 (by decide) rfl ?_))
    | (guard_target =~ WO _ _ (Oper.mk _ (Op.store 21 _ _) _ _ _ none) _ _ _ _; first | (refine O_st (by assumption) (by repeat (first | exact List.Mem.head _ | refine List.Mem.tail _ ?_)) (by omega) on21 rfl rfl (by first | omega | (simp only [csz]; omega)) (by first | exact okp (c' := 2) (by first | rfl | exact layMod rfl rfl) (ok64 (by omega)) | exact okp (c' := 1) (by first | rfl | exact layMod rfl rfl) (ok8 (by omega)) | exact okp (c' := 3) (by first | rfl | exact layMod rfl rfl) (ok32 (by omega) (by omega)) | exact okp (c' := 4) (by first | rfl | exact layMod rfl rfl) okB_) rfl ?_; intro _ _))
    | (guard_target =~ WO _ _ (Oper.mk _ (Op.fieldAddr 86 _ 7) _ _ _ none) _ _ _ _; first | (refine O_fdT fd86_7 (by decide) rfl ?_) | (refine O_field fd86_7 (by decide) rfl ?_))
    | (guard_target =~ WO _ _ (Oper.mk _ (Op.store 27 _ _) _ _ _ none) _ _ _ _; first | (refine O_st (by assumption) (by repeat (first | exact List.Mem.head _ | refine List.Mem.tail _ ?_)) (by omega) on27 rfl rfl (by first | omega | (simp only [csz]; omega)) (by first | exact okp (c' := 2) (by first | rfl | exact layMod rfl rfl) (ok64 (by omega)) | exact okp (c' := 1) (by first | rfl | exact layMod rfl rfl) (ok8 (by omega)) | exact okp (c' := 3) (by first | rfl | exact layMod rfl rfl) (ok32 (by omega) (by omega)) | exact okp (c' := 4) (by first | rfl | exact layMod rfl rfl) okB_) rfl ?_; intro _ _))
    | (guard_target =~ WO _ _ (Oper.mk _ (Op.fieldAddr 86 _ 8) _ _ _ none) _ _ _ _; first | (refine O_fdT fd86_8 (by decide) rfl ?_) | (refine O_field fd86_8 (by decide) rfl ?_))
    | (guard_target =~ WO _ _ (Oper.mk _ (Op.store 46 _ _) _ _ _ none) _ _ _ _; first | (refine O_st (by assumption) (by repeat (first | exact List.Mem.head _ | refine List.Mem.tail _ ?_)) (by omega) on46 rfl rfl (by first | omega | (simp only [csz]; omega)) (okp (c' := 100 + 126) (by first | rfl | exact layMod rfl rfl) (okS (by first | exact Sl.nil _ | exact TS.slN (by assumption) (by repeat (first | exact List.Mem.head _ | refine List.Mem.tail _ ?_))))) rfl ?_; intro _ _))
    | (guard_target =~ WO _ _ (Oper.mk _ (Op.fieldAddr 86 _ 9) _ _ _ none) _ _ _ _; first | (refine O_fdT fd86_9 (by decide) rfl ?_) | (refine O_field fd86_9 (by decide) rfl ?_))
    | (guard_target =~ WO _ _ (Oper.mk _ (Op.store 83 _ _) _ _ _ none) _ _ _ _; first | (refine O_st (by assumption) (by repeat (first | exact List.Mem.head _ | refine List.Mem.tail _ ?_)) (by omega) on83 rfl rfl (by first | omega | (simp only [csz]; omega)) (okp (c' := 100 + 172) (by first | rfl | exact layMod rfl rfl) (okS (by first | exact Sl.nil _ | exact TS.slN (by assumption) (by repeat (first | exact List.Mem.head _ | refine List.Mem.tail _ ?_))))) rfl ?_; intro _ _))
    | (guard_target =~ WO _ _ (Oper.mk _ (Op.fieldAddr 86 _ 10) _ _ _ none) _ _ _ _; first | (refine O_fdT fd86_10 (by decide) rfl ?_) | (refine O_field fd86_10 (by decide) rfl ?_))
    | (guard_target =~ WO _ _ (Oper.mk _ (Op.store 84 _ _) _ _ _ none) _ _ _ _; first | (refine O_st (by assumption) (by repeat (first | exact List.Mem.head _ | refine List.Mem.tail _ ?_)) (by omega) on84 rfl rfl (by first | omega | (simp only [csz]; omega)) (okp (c' := 100 + 21) (by first | rfl | exact layMod rfl rfl) (okS (by first | exact Sl.nil _ | exact TS.slN (by assumption) (by repeat (first | exact List.Mem.head _ | refine List.Mem.tail _ ?_))))) rfl ?_; intro _ _))
    | (guard_target =~ WO _ _ (Oper.mk _ (Op.fieldAddr 86 _ 1) _ _ _ none) _ _ _ _; first | (refine O_fdT fd86_1 (by decide) rfl ?_) | (refine O_field fd86_1 (by decide) rfl ?_))
    | (guard_target =~ WO _ _ (Oper.mk _ (Op.call _) _ _ _ none) _ _ _ _; first | (refine O_len Samg.underlying79 rfl rfl ?_) | (refine O_len Samg.underlying78 rfl rfl ?_))
    | (guard_target =~ WO _ _ (Oper.mk _ (Op.binOp BinOp.lss 3 _ _ _) _ _ _ none) _ _ _ _; first | (first | (refine O_lssS rfl rfl (fun h => absurd h (by omega)) ?_; intro _) | (refine O_lssS rfl rfl ?_ (fun h => absurd h (by omega)); intro _) | (refine O_lssS rfl rfl ?_ ?_ <;> intro _)))
    | (guard_target =~ WO _ _ (Oper.mk _ (Op.assign _) _ _ _ none) _ _ _ _; first | (refine O_assign (v := (.int _ _)) rfl ?_) | (refine O_assign (v := (.bool _)) rfl ?_) | (refine O_assign (v := (.pointer _)) rfl ?_) | (refine O_assign (v := (.slice _ _ _)) rfl ?_) | (refine O_assign (v := (.agg _)) rfl ?_) | (refine O_assign (v := (.tuple _)) rfl ?_))
    | (guard_target =~ WO _ _ (Oper.mk _ (Op.indexAddr 79 _ _) _ _ _ none) _ _ _ _; first | (refine O_ixK (by assumption) (by repeat (first | exact List.Mem.head _ | refine List.Mem.tail _ ?_)) sl79 rfl rfl (by omega) (by omega) ?_; rintro _ _ _) | (refine O_ixN (by assumption) (by repeat (first | exact List.Mem.head _ | refine List.Mem.tail _ ?_)) sl79 rfl rfl (by omega) (by omega) ?_; rintro _ _ _ _ _ _))
    | (guard_target =~ WO _ _ (Oper.mk _ (Op.fieldAddr 153 _ 0) _ _ _ none) _ _ _ _; first | (refine O_fdT fd153_0 (by decide) rfl ?_) | (refine O_field fd153_0 (by decide) rfl ?_))
    | (guard_target =~ WO _ _ (Oper.mk _ (Op.binOp BinOp.geq 21 _ _ _) _ _ _ none) _ _ _ _; first | (first | (refine O_geqS rfl rfl (fun h => absurd h (by omega)) ?_; intro _) | (refine O_geqS rfl rfl ?_ (fun h => absurd h (by omega)); intro _) | (refine O_geqS rfl rfl ?_ ?_ <;> intro _)))
    | (guard_target =~ WO _ _ (Oper.mk _ (Op.convert 21 3 _) _ _ _ none) _ _ _ _; first | (refine O_convZ Samg.underlying21 Samg.underlying3 rfl (by simp only [rngZ]; omega) ?_) | (refine O_convA Samg.underlying21 Samg.underlying3 rfl rfl ?_; intro _ hr; simp only [rngZ] at hr))
    | (guard_target =~ WO _ _ (Oper.mk _ (Op.fieldAddr 86 _ 0) _ _ _ none) _ _ _ _; first | (refine O_fdT fd86_0 (by decide) rfl ?_) | (refine O_field fd86_0 (by decide) rfl ?_))
    | (guard_target =~ WO _ _ (Oper.mk _ (Op.pick _ _ _) _ _ _ none) _ _ _ _; first | (refine O_pick_t (v := (.bool _)) rfl rfl ?_) | (refine O_pick_f (v := (.bool _)) rfl rfl ?_))
    | (guard_target =~ WO _ _ (Oper.mk _ (Op.indexAddr 78 _ _) _ _ _ none) _ _ _ _; first | (refine O_ixK (by assumption) (by repeat (first | exact List.Mem.head _ | refine List.Mem.tail _ ?_)) sl78 rfl rfl (by omega) (by omega) ?_; rintro _ _ _) | (refine O_ixN (by assumption) (by repeat (first | exact List.Mem.head _ | refine List.Mem.tail _ ?_)) sl78 rfl rfl (by omega) (by omega) ?_; rintro _ _ _ _ _ _))
    | (guard_target =~ WO _ _ (Oper.mk _ (Op.fieldAddr 148 _ 6) _ _ _ none) _ _ _ _; first | (refine O_fdT fd148_6 (by decide) rfl ?_) | (refine O_field fd148_6 (by decide) rfl ?_))
    | (guard_target =~ WO _ _ (Oper.mk _ (Op.load 4 _) _ _ _ none) _ _ _ _; first | (refine O_ldb (by assumption) (by repeat (first | exact List.Mem.head _ | refine List.Mem.tail _ ?_)) on4 rfl (by first | omega | (simp only [csz]; omega)) (by first | rfl | exact layMod rfl rfl) ?_ ?_))
    | (guard_target =~ WO _ _ (Oper.mk _ (Op.build 45 #[]) _ _ _ none) _ _ _ _; first | (refine O_bdn64 (l := []) (by assumption) ar45 zc45 rfl rfl rfl rfl trivial ?_; intro _ _))
    | (guard_target =~ WO _ _ (Oper.mk _ (Op.fieldAddr 153 _ 2) _ _ _ none) _ _ _ _; first | (refine O_fdT fd153_2 (by decide) rfl ?_) | (refine O_field fd153_2 (by decide) rfl ?_))
    | (guard_target =~ WO _ _ (Oper.mk _ (Op.store 45 _ _) _ _ _ none) _ _ _ _; first | (refine O_stn64 (by assumption) (by repeat (first | exact List.Mem.head _ | refine List.Mem.tail _ ?_)) (by omega) ag45 rfl rfl (by assumption) (by first | omega | (simp only [csz]; omega)) (by first | exact layRun0 rfl rfl | exact layRun rfl rfl rfl) rfl ?_; intro _ _))
    | (guard_target =~ WO _ _ (Oper.mk _ (Op.fieldAddr 153 _ 4) _ _ _ none) _ _ _ _; first | (refine O_fdT fd153_4 (by decide) rfl ?_) | (refine O_field fd153_4 (by decide) rfl ?_))
    | (guard_target =~ WO _ _ (Oper.mk _ (Op.store 4 _ _) _ _ _ none) _ _ _ _; first | (refine O_st (by assumption) (by repeat (first | exact List.Mem.head _ | refine List.Mem.tail _ ?_)) (by omega) on4 rfl rfl (by first | omega | (simp only [csz]; omega)) (by first | exact okp (c' := 2) (by first | rfl | exact layMod rfl rfl) (ok64 (by omega)) | exact okp (c' := 1) (by first | rfl | exact layMod rfl rfl) (ok8 (by omega)) | exact okp (c' := 3) (by first | rfl | exact layMod rfl rfl) (ok32 (by omega) (by omega)) | exact okp (c' := 4) (by first | rfl | exact layMod rfl rfl) okB_) rfl ?_; intro _ _))
    | (guard_target =~ WO _ _ (Oper.mk _ (Op.load 45 _) _ _ _ none) _ _ _ _; first | (refine O_ldn64 (by assumption) (by repeat (first | exact List.Mem.head _ | refine List.Mem.tail _ ?_)) ag45 rfl (by first | omega | (simp only [csz]; omega)) (by first | exact layRun0 rfl rfl | exact layRun rfl rfl rfl) ?_; intro _ _))
    | (guard_target =~ WO _ _ (Oper.mk _ (Op.fieldAddr 153 _ 3) _ _ _ none) _ _ _ _; first | (refine O_fdT fd153_3 (by decide) rfl ?_) | (refine O_field fd153_3 (by decide) rfl ?_))
    | (guard_target =~ WO _ _ (Oper.mk _ (Op.binOp BinOp.add 3 _ _ _) _ _ _ none) _ _ _ _; first | (refine O_addZ rfl rfl (by simp only [rngZ]; omega) ?_))
    | (guard_target =~ WO _ _ (Oper.mk _ (Op.fieldAddr 148 _ 1) _ _ _ none) _ _ _ _; first | (refine O_fdT fd148_1 (by decide) rfl ?_) | (refine O_field fd148_1 (by decide) rfl ?_))
    | (guard_target =~ WO _ _ (Oper.mk _ (Op.fieldAddr 148 _ 3) _ _ _ none) _ _ _ _; first | (refine O_fdT fd148_3 (by decide) rfl ?_) | (refine O_field fd148_3 (by decide) rfl ?_))
    | (guard_target =~ WO _ _ (Oper.mk _ (Op.store 31 _ _) _ _ _ none) _ _ _ _; first | (refine O_st (by assumption) (by repeat (first | exact List.Mem.head _ | refine List.Mem.tail _ ?_)) (by omega) on31 rfl rfl (by first | omega | (simp only [csz]; omega)) (okp (c' := 100 + 5) (by first | rfl | exact layMod rfl rfl) (okS (by first | exact Sl.nil _ | exact TS.slN (by assumption) (by repeat (first | exact List.Mem.head _ | refine List.Mem.tail _ ?_))))) rfl ?_; intro _ _))
    | (guard_target =~ WO _ _ (Oper.mk _ (Op.fieldAddr 148 _ 4) _ _ _ none) _ _ _ _; first | (refine O_fdT fd148_4 (by decide) rfl ?_) | (refine O_field fd148_4 (by decide) rfl ?_))
    | (guard_target =~ WO _ _ (Oper.mk _ (Op.fieldAddr 148 _ 5) _ _ _ none) _ _ _ _; first | (refine O_fdT fd148_5 (by decide) rfl ?_) | (refine O_field fd148_5 (by decide) rfl ?_)))
  refine W_loop (fun m ρ w' => ∃ (i : Nat) (σ3 : VS), m = σ2.ns - i ∧ i ≤ σ2.ns ∧ V B w' s σ3 ∧ VI σ3 ∧ Mu B w w' ∧ WT B w' ∧ σ3.aA = σ2.aA ∧ σ3.aS = σ2.aS ∧ σ3.na = σ2.na ∧ σ3.ns = σ2.ns ∧ σ3.cA = σ2.cA ∧ σ3.cS = σ2.cS ∧ Has ρ [(0, .pointer (some ⟨s, 0, none⟩)), (37, .int .i64 ((σ2.ns : Nat) : Int)), (38, .int .i64 ((i : Nat) : Int))]) σ2.ns ⟨0, σ2, by omega, by omega, hV, hI2, hMu, hS8.t, rfl, rfl, rfl, rfl, rfl, rfl, Has.mk ⟨rfl, rfl, rfl, trivial⟩⟩ ?_
  rintro m ρ w8 ⟨i, σ3, rfl, hi, hV, hI3, hMu, hT8, fA, fS, fna, fns, fcA, fcS, σ', rfl⟩
  have hS9 := hV.start hT8
  have hcapA := hV.sA.1
  have hcapS := hV.sS.1
  have hna3 := hI3.na; have hns3 := hI3.ns
  repeat' (first
    | (refine L_cons ?_)
    | (refine R_cons rfl ?_)
    | (refine W_seq ?_)
    | (refine W_region (by kernel_rfl) ?_)
    | (refine L_nil ?_)
    | (refine R_nil ?_)
    | (refine W_block ?_)
    | (refine W_skip ?_)
    | (refine W_exit ?_)
    | (refine W_ret ?_)
    | (guard_target =~ thenQ _ _ _ _ _; first | (refine T_next ?_) | (refine T_exit ?_) | (refine T_ret ?_))
    | (guard_target =~ blockQ _ _ _ _ _; first | (refine B_next ?_) | (refine B_same ?_) | (refine B_other (by kernel_rfl) ?_) | (refine B_ret ?_))
    | (refine W_true rfl rfl ?_)
    | (refine W_false rfl rfl ?_)
    | (guard_target =~ WO _ _ (Oper.mk _ (Op.indexAddr 79 _ _) _ _ _ none) _ _ _ _; first | (refine O_ixM (m := i) (by assumption) (by repeat (first | exact List.Mem.head _ | refine List.Mem.tail _ ?_)) sl79 rfl rfl (by omega) ?_; intro b6 hcap6 hb6 _; obtain ⟨za, hza, hz1, hz2⟩ := hV.acctOf hT8 hb6 (show i < σ3.ns by omega)) | (refine O_ixK (by assumption) (by repeat (first | exact List.Mem.head _ | refine List.Mem.tail _ ?_)) sl79 rfl rfl (by omega) (by omega) ?_; rintro _ _ _) | (refine O_ixN (by assumption) (by repeat (first | exact List.Mem.head _ | refine List.Mem.tail _ ?_)) sl79 rfl rfl (by omega) (by omega) ?_; rintro _ _ _ _ _ _))
    | (guard_target =~ WO _ _ (Oper.mk _ (Op.load 21 _) _ _ _ none) _ _ _ _; first | (refine O_ldI (by assumption) on21 rfl hza ⟨hz1, hz2⟩ (cell_lt hza) ?_; intro _ _) | (refine O_ldV (by assumption) on21 rfl hV.nmk hV.lt ?_) | (refine O_ld32 (by assumption) (by repeat (first | exact List.Mem.head _ | refine List.Mem.tail _ ?_)) on21 rfl (by first | omega | (simp only [csz]; omega)) (by first | rfl | exact layMod rfl rfl) ?_; intro _ _ _))
    | (guard_target =~ WO _ _ (Oper.mk _ (Op.store 45 _ _) _ _ _ none) _ _ _ _; first | (refine O_stM64 (by assumption) hV hMu (T := 153) (by repeat (first | exact List.Mem.head _ | refine List.Mem.tail _ ?_)) rfl ag45 rfl rfl (by assumption) (by simp only [csz]; omega) (layRun rfl rfl rfl) rfl ?_; intro w9 hS9 hMu he9 hV0 hW9; first | (have hV := hV0.valSet he9 hb6 hW9) | (have hV := hV0.origSet he9 hb6 hW9)) | (refine O_stn64 (by assumption) (by repeat (first | exact List.Mem.head _ | refine List.Mem.tail _ ?_)) (by omega) ag45 rfl rfl (by assumption) (by first | omega | (simp only [csz]; omega)) (by first | exact layRun0 rfl rfl | exact layRun rfl rfl rfl) rfl ?_; intro _ _))
    | (guard_target =~ WO _ _ (Oper.mk _ (Op.store 4 _ _) _ _ _ none) _ _ _ _; first | (refine O_stM (by assumption) hV hMu (T := 153) (by repeat (first | exact List.Mem.head _ | refine List.Mem.tail _ ?_)) rfl on4 rfl rfl (by simp only [csz]; omega) (okp (c' := 4) (layMod rfl rfl) okB_) rfl ?_; intro w10 hS10 hMu he10 hV0 hW10; have hV := hV0.slotSet he10 hb6 hW10 (fun i k hk => by simp; omega)) | (refine O_st (by assumption) (by repeat (first | exact List.Mem.head _ | refine List.Mem.tail _ ?_)) (by omega) on4 rfl rfl (by first | omega | (simp only [csz]; omega)) (by first | exact okp (c' := 2) (by first | rfl | exact layMod rfl rfl) (ok64 (by omega)) | exact okp (c' := 1) (by first | rfl | exact layMod rfl rfl) (ok8 (by omega)) | exact okp (c' := 3) (by first | rfl | exact layMod rfl rfl) (ok32 (by omega) (by omega)) | exact okp (c' := 4) (by first | rfl | exact layMod rfl rfl) okB_) rfl ?_; intro _ _))
    | (guard_target =~ WO _ _ (Oper.mk _ (Op.load 78 _) _ _ _ none) _ _ _ _; first | (refine O_ldV (by assumption) on78 rfl hV.acc hV.lt ?_) | (refine O_lds (t' := 148) (by assumption) (by repeat (first | exact List.Mem.head _ | refine List.Mem.tail _ ?_)) on78 rfl (by first | omega | (simp only [csz]; omega)) (by first | rfl | exact layMod rfl rfl) ?_; intro _ _ _ _ _ _))
    | (guard_target =~ WO _ _ (Oper.mk _ (Op.load 79 _) _ _ _ none) _ _ _ _; first | (refine O_ldV (by assumption) on79 rfl hV.slo hV.lt ?_) | (refine O_lds (t' := 153) (by assumption) (by repeat (first | exact List.Mem.head _ | refine List.Mem.tail _ ?_)) on79 rfl (by first | omega | (simp only [csz]; omega)) (by first | rfl | exact layMod rfl rfl) ?_; intro _ _ _ _ _ _))
    | (guard_target =~ WO _ _ (Oper.mk _ (Op.load 81 _) _ _ _ none) _ _ _ _; first | (refine O_ldV (by assumption) on81 rfl hV.jou hV.lt ?_) | (refine O_lds (t' := 178) (by assumption) (by repeat (first | exact List.Mem.head _ | refine List.Mem.tail _ ?_)) on81 rfl (by first | omega | (simp only [csz]; omega)) (by first | rfl | exact layMod rfl rfl) ?_; intro _ _ _ _ _ _))
    | (guard_target =~ WO _ _ (Oper.mk _ (Op.load 46 _) _ _ _ none) _ _ _ _; first | (refine O_ldV (by assumption) on46 rfl hV.log hV.lt ?_))
    | (guard_target =~ WO _ _ (Oper.mk _ (Op.load 83 _) _ _ _ none) _ _ _ _; first | (refine O_ldV (by assumption) on83 rfl hV.tem hV.lt ?_))
    | (guard_target =~ WO _ _ (Oper.mk _ (Op.load 84 _) _ _ _ none) _ _ _ _; first | (refine O_ldV (by assumption) on84 rfl hV.tta hV.lt ?_))
    | (guard_target =~ WO _ _ (Oper.mk _ (Op.load 27 _) _ _ _ none) _ _ _ _; first | (refine O_ldV (by assumption) on27 rfl hV.rf hV.lt ?_))
    | (guard_target =~ WO _ _ (Oper.mk _ _ _ _ _ (some _)) _ _ _ _; first | (refine G_yes rfl ?_) | (refine G_no rfl ?_))
    | (guard_target =~ WC _ _ (Code.region 11 _ true) _ _ _; first | (refine W_drawnT (id := 11) [] [0, 1, 2, 3, 4, 5, 6, 7, 8, 9, 10, 11, 12, 13, 14, 15, 16, 17, 18, 19, 20, 21, 22, 23, 24, 25, 26, 27, 28, 29, 30] mixed (by kernel_rfl) (by kernel_rfl) (by assumption) ?_; intro _ _ _))
    | (guard_target =~ WO _ _ (Oper.mk _ (Op.move _) _ _ _ none) _ _ _ _; first | (refine O_move (v := (.int _ _)) rfl ?_) | (refine O_move (v := (.bool _)) rfl ?_) | (refine O_move (v := (.pointer _)) rfl ?_) | (refine O_move (v := (.slice _ _ _)) rfl ?_) | (refine O_move (v := (.agg _)) rfl ?_) | (refine O_move (v := (.tuple _)) rfl ?_))
    | (guard_target =~ WO _ _ (Oper.mk _ (Op.nilCheck _) _ _ _ none) _ _ _ _; first | (refine O_nil rfl ?_))
    | (guard_target =~ WO _ _ (Oper.mk _ (Op.fieldAddr 86 _ 4) _ _ _ none) _ _ _ _; first | (refine O_fdT fd86_4 (by decide) rfl ?_) | (refine O_field fd86_4 (by decide) rfl ?_))
    | (guard_target =~ WO _ _ (Oper.mk _ (Op.store 81 _ _) _ _ _ none) _ _ _ _; first | (refine O_st (by assumption) (by repeat (first | exact List.Mem.head _ | refine List.Mem.tail _ ?_)) (by omega) on81 rfl rfl (by first | omega | (simp only [csz]; omega)) (okp (c' := 100 + 178) (by first | rfl | exact layMod rfl rfl) (okS (by first | exact Sl.nil _ | exact TS.slN (by assumption) (by repeat (first | exact List.Mem.head _ | refine List.Mem.tail _ ?_))))) rfl ?_; intro _ _))
    | (guard_target =~ WO _ _ (Oper.mk _ (Op.fieldAddr 86 _ 6) _ _ _ none) _ _ _ _; first | (refine O_fdT fd86_6 (by decide) rfl ?_) | (refine O_field fd86_6 (by decide) rfl ?_))
    | (guard_target =~ WO _ _ (Oper.mk _ (Op.store 21 _ _) _ _ _ none) _ _ _ _; first | (refine O_st (by assumption) (by repeat (first | exact List.Mem.head _ | refine List.Mem.tail _ ?_)) (by omega) on21 rfl rfl (by first | omega | (simp only [csz]; omega)) (by first | exact okp (c' := 2) (by first | rfl | exact layMod rfl rfl) (ok64 (by omega)) | exact okp (c' := 1) (by first | rfl | exact layMod rfl rfl) (ok8 (by omega)) | exact okp (c' := 3) (by first | rfl | exact layMod rfl rfl) (ok32 (by omega) (by omega)) | exact okp (c' := 4) (by first | rfl | exact layMod rfl rfl) okB_) rfl ?_; intro _ _))
    | (guard_target =~ WO _ _ (Oper.mk _ (Op.fieldAddr 86 _ 7) _ _ _ none) _ _ _ _; first | (refine O_fdT fd86_7 (by decide) rfl ?_) | (refine O_field fd86_7 (by decide) rfl ?_))
    | (guard_target =~ WO _ _ (Oper.mk _ (Op.store 27 _ _) _ _ _ none) _ _ _ _; first | (refine O_st (by assumption) (by repeat (first | exact List.Mem.head _ | refine List.Mem.tail _ ?_)) (by omega) on27 rfl rfl (by first | omega | (simp only [csz]; omega)) (by first | exact okp (c' := 2) (by first | rfl | exact layMod rfl rfl) (ok64 (by omega)) | exact okp (c' := 1) (by first | rfl | exact layMod rfl rfl) (ok8 (by omega)) | exact okp (c' := 3) (by first | rfl | exact layMod rfl rfl) (ok32 (by omega) (by omega)) | exact okp (c' := 4) (by first | rfl | exact layMod rfl rfl) okB_) rfl ?_; intro _ _))
    | (guard_target =~ WO _ _ (Oper.mk _ (Op.fieldAddr 86 _ 8) _ _ _ none) _ _ _ _; first | (refine O_fdT fd86_8 (by decide) rfl ?_) | (refine O_field fd86_8 (by decide) rfl ?_))
    | (guard_target =~ WO _ _ (Oper.mk _ (Op.store 46 _ _) _ _ _ none) _ _ _ _; first | (refine O_st (by assumption) (by repeat (first | exact List.Mem.head _ | refine List.Mem.tail _ ?_)) (by omega) on46 rfl rfl (by first | omega | (simp only [csz]; omega)) (okp (c' := 100 + 126) (by first | rfl | exact layMod rfl rfl) (okS (by first | exact Sl.nil _ | exact TS.slN (by assumption) (by repeat (first | exact List.Mem.head _ | refine List.Mem.tail _ ?_))))) rfl ?_; intro _ _))
    | (guard_target =~ WO _ _ (Oper.mk _ (Op.fieldAddr 86 _ 9) _ _ _ none) _ _ _ _; first | (refine O_fdT fd86_9 (by decide) rfl ?_) | (refine O_field fd86_9 (by decide) rfl ?_))
    | (guard_target =~ WO _ _ (Oper.mk _ (Op.store 83 _ _) _ _ _ none) _ _ _ _; first | (refine O_st (by assumption) (by repeat (first | exact List.Mem.head _ | refine List.Mem.tail _ ?_)) (by omega) on83 rfl rfl (by first | omega | (simp only [csz]; omega)) (okp (c' := 100 + 172) (by first | rfl | exact layMod rfl rfl) (okS (by first | exact Sl.nil _ | exact TS.slN (by assumption) (by repeat (first | exact List.Mem.head _ | refine List.Mem.tail _ ?_))))) rfl ?_; intro _ _))
    | (guard_target =~ WO _ _ (Oper.mk _ (Op.fieldAddr 86 _ 10) _ _ _ none) _ _ _ _; first | (refine O_fdT fd86_10 (by decide) rfl ?_) | (refine O_field fd86_10 (by decide) rfl ?_))
    | (guard_target =~ WO _ _ (Oper.mk _ (Op.store 84 _ _) _ _ _ none) _ _ _ _; first | (refine O_st (by assumption) (by repeat (first | exact List.Mem.head _ | refine List.Mem.tail _ ?_)) (by omega) on84 rfl rfl (by first | omega | (simp only [csz]; omega)) (okp (c' := 100 + 21) (by first | rfl | exact layMod rfl rfl) (okS (by first | exact Sl.nil _ | exact TS.slN (by assumption) (by repeat (first | exact List.Mem.head _ | refine List.Mem.tail _ ?_))))) rfl ?_; intro _ _))
    | (guard_target =~ WO _ _ (Oper.mk _ (Op.fieldAddr 86 _ 1) _ _ _ none) _ _ _ _; first | (refine O_fdT fd86_1 (by decide) rfl ?_) | (refine O_field fd86_1 (by decide) rfl ?_))
    | (guard_target =~ WO _ _ (Oper.mk _ (Op.call _) _ _ _ none) _ _ _ _; first | (refine O_len Samg.underlying79 rfl rfl ?_) | (refine O_len Samg.underlying78 rfl rfl ?_))
    | (guard_target =~ WO _ _ (Oper.mk _ (Op.binOp BinOp.lss 3 _ _ _) _ _ _ none) _ _ _ _; first | (first | (refine O_lssS rfl rfl (fun h => absurd h (by omega)) ?_; intro _) | (refine O_lssS rfl rfl ?_ (fun h => absurd h (by omega)); intro _) | (refine O_lssS rfl rfl ?_ ?_ <;> intro _)))
    | (guard_target =~ WO _ _ (Oper.mk _ (Op.assign _) _ _ _ none) _ _ _ _; first | (refine O_assign (v := (.int _ _)) rfl ?_) | (refine O_assign (v := (.bool _)) rfl ?_) | (refine O_assign (v := (.pointer _)) rfl ?_) | (refine O_assign (v := (.slice _ _ _)) rfl ?_) | (refine O_assign (v := (.agg _)) rfl ?_) | (refine O_assign (v := (.tuple _)) rfl ?_))
    | (guard_target =~ WO _ _ (Oper.mk _ (Op.fieldAddr 153 _ 0) _ _ _ none) _ _ _ _; first | (refine O_fdT fd153_0 (by decide) rfl ?_) | (refine O_field fd153_0 (by decide) rfl ?_))
    | (guard_target =~ WO _ _ (Oper.mk _ (Op.binOp BinOp.geq 21 _ _ _) _ _ _ none) _ _ _ _; first | (first | (refine O_geqS rfl rfl (fun h => absurd h (by omega)) ?_; intro _) | (refine O_geqS rfl rfl ?_ (fun h => absurd h (by omega)); intro _) | (refine O_geqS rfl rfl ?_ ?_ <;> intro _)))
    | (guard_target =~ WO _ _ (Oper.mk _ (Op.convert 21 3 _) _ _ _ none) _ _ _ _; first | (refine O_convZ Samg.underlying21 Samg.underlying3 rfl (by simp only [rngZ]; omega) ?_) | (refine O_convA Samg.underlying21 Samg.underlying3 rfl rfl ?_; intro _ hr; simp only [rngZ] at hr))
    | (guard_target =~ WO _ _ (Oper.mk _ (Op.fieldAddr 86 _ 0) _ _ _ none) _ _ _ _; first | (refine O_fdT fd86_0 (by decide) rfl ?_) | (refine O_field fd86_0 (by decide) rfl ?_))
    | (guard_target =~ WO _ _ (Oper.mk _ (Op.pick _ _ _) _ _ _ none) _ _ _ _; first | (refine O_pick_t (v := (.bool _)) rfl rfl ?_) | (refine O_pick_f (v := (.bool _)) rfl rfl ?_))
    | (guard_target =~ WO _ _ (Oper.mk _ (Op.indexAddr 78 _ _) _ _ _ none) _ _ _ _; first | (refine O_ixK (by assumption) (by repeat (first | exact List.Mem.head _ | refine List.Mem.tail _ ?_)) sl78 rfl rfl (by omega) (by omega) ?_; rintro _ _ _) | (refine O_ixN (by assumption) (by repeat (first | exact List.Mem.head _ | refine List.Mem.tail _ ?_)) sl78 rfl rfl (by omega) (by omega) ?_; rintro _ _ _ _ _ _))
    | (guard_target =~ WO _ _ (Oper.mk _ (Op.fieldAddr 148 _ 6) _ _ _ none) _ _ _ _; first | (refine O_fdT fd148_6 (by decide) rfl ?_) | (refine O_field fd148_6 (by decide) rfl ?_))
    | (guard_target =~ WO _ _ (Oper.mk _ (Op.load 4 _) _ _ _ none) _ _ _ _; first | (refine O_ldb (by assumption) (by repeat (first | exact List.Mem.head _ | refine List.Mem.tail _ ?_)) on4 rfl (by first | omega | (simp only [csz]; omega)) (by first | rfl | exact layMod rfl rfl) ?_ ?_))
    | (guard_target =~ WO _ _ (Oper.mk _ (Op.build 45 #[]) _ _ _ none) _ _ _ _; first | (refine O_bdn64 (l := []) (by assumption) ar45 zc45 rfl rfl rfl rfl trivial ?_; intro _ _))
    | (guard_target =~ WO _ _ (Oper.mk _ (Op.fieldAddr 153 _ 2) _ _ _ none) _ _ _ _; first | (refine O_fdT fd153_2 (by decide) rfl ?_) | (refine O_field fd153_2 (by decide) rfl ?_))
    | (guard_target =~ WO _ _ (Oper.mk _ (Op.fieldAddr 153 _ 4) _ _ _ none) _ _ _ _; first | (refine O_fdT fd153_4 (by decide) rfl ?_) | (refine O_field fd153_4 (by decide) rfl ?_))
    | (guard_target =~ WO _ _ (Oper.mk _ (Op.load 45 _) _ _ _ none) _ _ _ _; first | (refine O_ldn64 (by assumption) (by repeat (first | exact List.Mem.head _ | refine List.Mem.tail _ ?_)) ag45 rfl (by first | omega | (simp only [csz]; omega)) (by first | exact layRun0 rfl rfl | exact layRun rfl rfl rfl) ?_; intro _ _))
    | (guard_target =~ WO _ _ (Oper.mk _ (Op.fieldAddr 153 _ 3) _ _ _ none) _ _ _ _; first | (refine O_fdT fd153_3 (by decide) rfl ?_) | (refine O_field fd153_3 (by decide) rfl ?_))
    | (guard_target =~ WO _ _ (Oper.mk _ (Op.binOp BinOp.add 3 _ _ _) _ _ _ none) _ _ _ _; first | (refine O_addZ rfl rfl (by simp only [rngZ]; omega) ?_))
    | (guard_target =~ WO _ _ (Oper.mk _ (Op.fieldAddr 148 _ 1) _ _ _ none) _ _ _ _; first | (refine O_fdT fd148_1 (by decide) rfl ?_) | (refine O_field fd148_1 (by decide) rfl ?_))
    | (guard_target =~ WO _ _ (Oper.mk _ (Op.fieldAddr 148 _ 3) _ _ _ none) _ _ _ _; first | (refine O_fdT fd148_3 (by decide) rfl ?_) | (refine O_field fd148_3 (by decide) rfl ?_))
    | (guard_target =~ WO _ _ (Oper.mk _ (Op.store 31 _ _) _ _ _ none) _ _ _ _; first | (refine O_st (by assumption) (by repeat (first | exact List.Mem.head _ | refine List.Mem.tail _ ?_)) (by omega) on31 rfl rfl (by first | omega | (simp only [csz]; omega)) (okp (c' := 100 + 5) (by first | rfl | exact layMod rfl rfl) (okS (by first | exact Sl.nil _ | exact TS.slN (by assumption) (by repeat (first | exact List.Mem.head _ | refine List.Mem.tail _ ?_))))) rfl ?_; intro _ _))
    | (guard_target =~ WO _ _ (Oper.mk _ (Op.fieldAddr 148 _ 4) _ _ _ none) _ _ _ _; first | (refine O_fdT fd148_4 (by decide) rfl ?_) | (refine O_field fd148_4 (by decide) rfl ?_))
    | (guard_target =~ WO _ _ (Oper.mk _ (Op.fieldAddr 148 _ 5) _ _ _ none) _ _ _ _; first | (refine O_fdT fd148_5 (by decide) rfl ?_) | (refine O_field fd148_5 (by decide) rfl ?_)))
  all_goals try (first
    | exact ⟨σ2.ns - (i + 1), by omega, i + 1, _, rfl, by omega, hV, hI3.origs (a := i) (by omega) (by assumption), hMu, TS.t (by assumption), fA, fS, fna, fns, fcA, fcS, Has.mk ⟨rfl, rfl, rfl, trivial⟩⟩
    | exact ⟨σ2.ns - (i + 1), by omega, i + 1, _, rfl, by omega, hV, (hI3.vals (a := i) (by omega) (by assumption)).origs (a := i) (show i < σ3.ns by omega) (by assumption), hMu, TS.t (by assumption), fA, fS, fna, fns, fcA, fcS, Has.mk ⟨rfl, rfl, rfl, trivial⟩⟩)
  clear hS9
  refine W_loop (fun m ρ w' => ∃ (i : Nat), m = σ3.na - i ∧ i ≤ σ3.na ∧ V B w' s σ3 ∧ Mu B w w' ∧ WT B w' ∧ Has ρ [(0, .pointer (some ⟨s, 0, none⟩)), (97, .int .i64 ((σ3.na : Nat) : Int)), (98, .int .i64 ((i : Nat) : Int))]) σ3.na ⟨0, by omega, by omega, hV, hMu, hT8, Has.mk ⟨rfl, rfl, rfl, trivial⟩⟩ ?_
  rintro m ρ w9 ⟨j, rfl, hj, hV, hMu, hT9, σ'', rfl⟩
  have hS9 := hV.start hT9
  repeat' (first
    | (refine L_cons ?_)
    | (refine R_cons rfl ?_)
    | (refine W_seq ?_)
    | (refine W_region (by kernel_rfl) ?_)
    | (refine L_nil ?_)
    | (refine R_nil ?_)
    | (refine W_block ?_)
    | (refine W_skip ?_)
    | (refine W_exit ?_)
    | (refine W_ret ?_)
    | (guard_target =~ thenQ _ _ _ _ _; first | (refine T_next ?_) | (refine T_exit ?_) | (refine T_ret ?_))
    | (guard_target =~ blockQ _ _ _ _ _; first | (refine B_next ?_) | (refine B_same ?_) | (refine B_other (by kernel_rfl) ?_) | (refine B_ret ?_))
    | (refine W_true rfl rfl ?_)
    | (refine W_false rfl rfl ?_)
    | (guard_target =~ WO _ _ (Oper.mk _ (Op.indexAddr 78 _ _) _ _ _ none) _ _ _ _; first | (refine O_ixM (m := j) (by assumption) (by repeat (first | exact List.Mem.head _ | refine List.Mem.tail _ ?_)) sl78 rfl rfl (by omega) ?_; intro b6 hcap6 hb6 _) | (refine O_ixK (by assumption) (by repeat (first | exact List.Mem.head _ | refine List.Mem.tail _ ?_)) sl78 rfl rfl (by omega) (by omega) ?_; rintro _ _ _) | (refine O_ixN (by assumption) (by repeat (first | exact List.Mem.head _ | refine List.Mem.tail _ ?_)) sl78 rfl rfl (by omega) (by omega) ?_; rintro _ _ _ _ _ _))
    | (guard_target =~ WO _ _ (Oper.mk _ (Op.store 4 _ _) _ _ _ none) _ _ _ _; first | (refine O_stM (by assumption) hV hMu (T := 148) (by repeat (first | exact List.Mem.head _ | refine List.Mem.tail _ ?_)) rfl on4 rfl rfl (by simp only [csz]; omega) (okp (c' := 4) (layMod rfl rfl) okB_) rfl ?_; intro w10 hS10 hMu he10 hV0 hW10; have hV := hV0.acctSet he10 hb6 hW10 (fun i k hk => by simp; omega)) | (refine O_st (by assumption) (by repeat (first | exact List.Mem.head _ | refine List.Mem.tail _ ?_)) (by omega) on4 rfl rfl (by first | omega | (simp only [csz]; omega)) (by first | exact okp (c' := 2) (by first | rfl | exact layMod rfl rfl) (ok64 (by omega)) | exact okp (c' := 1) (by first | rfl | exact layMod rfl rfl) (ok8 (by omega)) | exact okp (c' := 3) (by first | rfl | exact layMod rfl rfl) (ok32 (by omega) (by omega)) | exact okp (c' := 4) (by first | rfl | exact layMod rfl rfl) okB_) rfl ?_; intro _ _))
    | (guard_target =~ WO _ _ (Oper.mk _ (Op.store 27 _ _) _ _ _ none) _ _ _ _; first | (refine O_stM (by assumption) hV hMu (T := 148) (by repeat (first | exact List.Mem.head _ | refine List.Mem.tail _ ?_)) rfl on27 rfl rfl (by simp only [csz]; omega) (okp (c' := 2) (layMod rfl rfl) (ok64 (z := 0) (by omega))) rfl ?_; intro w10 hS10 hMu he10 hV0 hW10; have hV := hV0.acctSet he10 hb6 hW10 (fun i k hk => by simp; omega)) | (refine O_st (by assumption) (by repeat (first | exact List.Mem.head _ | refine List.Mem.tail _ ?_)) (by omega) on27 rfl rfl (by first | omega | (simp only [csz]; omega)) (by first | exact okp (c' := 2) (by first | rfl | exact layMod rfl rfl) (ok64 (by omega)) | exact okp (c' := 1) (by first | rfl | exact layMod rfl rfl) (ok8 (by omega)) | exact okp (c' := 3) (by first | rfl | exact layMod rfl rfl) (ok32 (by omega) (by omega)) | exact okp (c' := 4) (by first | rfl | exact layMod rfl rfl) okB_) rfl ?_; intro _ _))
    | (guard_target =~ WO _ _ (Oper.mk _ (Op.store 31 _ _) _ _ _ none) _ _ _ _; first | (refine O_stM (by assumption) hV hMu (T := 148) (by repeat (first | exact List.Mem.head _ | refine List.Mem.tail _ ?_)) rfl on31 rfl rfl (by simp only [csz]; omega) (okp (c' := 100 + 5) (layMod rfl rfl) (okS (Sl.nil _))) rfl ?_; intro w10 hS10 hMu he10 hV0 hW10; have hV := hV0.acctSet he10 hb6 hW10 (fun i k hk => by simp; omega)) | (refine O_st (by assumption) (by repeat (first | exact List.Mem.head _ | refine List.Mem.tail _ ?_)) (by omega) on31 rfl rfl (by first | omega | (simp only [csz]; omega)) (okp (c' := 100 + 5) (by first | rfl | exact layMod rfl rfl) (okS (by first | exact Sl.nil _ | exact TS.slN (by assumption) (by repeat (first | exact List.Mem.head _ | refine List.Mem.tail _ ?_))))) rfl ?_; intro _ _))
    | (guard_target =~ WO _ _ (Oper.mk _ (Op.load 78 _) _ _ _ none) _ _ _ _; first | (refine O_ldV (by assumption) on78 rfl hV.acc hV.lt ?_) | (refine O_lds (t' := 148) (by assumption) (by repeat (first | exact List.Mem.head _ | refine List.Mem.tail _ ?_)) on78 rfl (by first | omega | (simp only [csz]; omega)) (by first | rfl | exact layMod rfl rfl) ?_; intro _ _ _ _ _ _))
    | (guard_target =~ WO _ _ (Oper.mk _ (Op.load 79 _) _ _ _ none) _ _ _ _; first | (refine O_ldV (by assumption) on79 rfl hV.slo hV.lt ?_) | (refine O_lds (t' := 153) (by assumption) (by repeat (first | exact List.Mem.head _ | refine List.Mem.tail _ ?_)) on79 rfl (by first | omega | (simp only [csz]; omega)) (by first | rfl | exact layMod rfl rfl) ?_; intro _ _ _ _ _ _))
    | (guard_target =~ WO _ _ (Oper.mk _ (Op.load 81 _) _ _ _ none) _ _ _ _; first | (refine O_ldV (by assumption) on81 rfl hV.jou hV.lt ?_) | (refine O_lds (t' := 178) (by assumption) (by repeat (first | exact List.Mem.head _ | refine List.Mem.tail _ ?_)) on81 rfl (by first | omega | (simp only [csz]; omega)) (by first | rfl | exact layMod rfl rfl) ?_; intro _ _ _ _ _ _))
    | (guard_target =~ WO _ _ (Oper.mk _ (Op.load 46 _) _ _ _ none) _ _ _ _; first | (refine O_ldV (by assumption) on46 rfl hV.log hV.lt ?_))
    | (guard_target =~ WO _ _ (Oper.mk _ (Op.load 83 _) _ _ _ none) _ _ _ _; first | (refine O_ldV (by assumption) on83 rfl hV.tem hV.lt ?_))
    | (guard_target =~ WO _ _ (Oper.mk _ (Op.load 84 _) _ _ _ none) _ _ _ _; first | (refine O_ldV (by assumption) on84 rfl hV.tta hV.lt ?_))
    | (guard_target =~ WO _ _ (Oper.mk _ (Op.load 21 _) _ _ _ none) _ _ _ _; first | (refine O_ldV (by assumption) on21 rfl hV.nmk hV.lt ?_) | (refine O_ld32 (by assumption) (by repeat (first | exact List.Mem.head _ | refine List.Mem.tail _ ?_)) on21 rfl (by first | omega | (simp only [csz]; omega)) (by first | rfl | exact layMod rfl rfl) ?_; intro _ _ _))
    | (guard_target =~ WO _ _ (Oper.mk _ (Op.load 27 _) _ _ _ none) _ _ _ _; first | (refine O_ldV (by assumption) on27 rfl hV.rf hV.lt ?_))
    | (guard_target =~ WO _ _ (Oper.mk _ _ _ _ _ (some _)) _ _ _ _; first | (refine G_yes rfl ?_) | (refine G_no rfl ?_))
    | (guard_target =~ WC _ _ (Code.region 11 _ true) _ _ _; first | (refine W_drawnT (id := 11) [] [0, 1, 2, 3, 4, 5, 6, 7, 8, 9, 10, 11, 12, 13, 14, 15, 16, 17, 18, 19, 20, 21, 22, 23, 24, 25, 26, 27, 28, 29, 30] mixed (by kernel_rfl) (by kernel_rfl) (by assumption) ?_; intro _ _ _))
    | (guard_target =~ WO _ _ (Oper.mk _ (Op.move _) _ _ _ none) _ _ _ _; first | (refine O_move (v := (.int _ _)) rfl ?_) | (refine O_move (v := (.bool _)) rfl ?_) | (refine O_move (v := (.pointer _)) rfl ?_) | (refine O_move (v := (.slice _ _ _)) rfl ?_) | (refine O_move (v := (.agg _)) rfl ?_) | (refine O_move (v := (.tuple _)) rfl ?_))
    | (guard_target =~ WO _ _ (Oper.mk _ (Op.nilCheck _) _ _ _ none) _ _ _ _; first | (refine O_nil rfl ?_))
    | (guard_target =~ WO _ _ (Oper.mk _ (Op.fieldAddr 86 _ 4) _ _ _ none) _ _ _ _; first | (refine O_fdT fd86_4 (by decide) rfl ?_) | (refine O_field fd86_4 (by decide) rfl ?_))
    | (guard_target =~ WO _ _ (Oper.mk _ (Op.store 81 _ _) _ _ _ none) _ _ _ _; first | (refine O_st (by assumption) (by repeat (first | exact List.Mem.head _ | refine List.Mem.tail _ ?_)) (by omega) on81 rfl rfl (by first | omega | (simp only [csz]; omega)) (okp (c' := 100 + 178) (by first | rfl | exact layMod rfl rfl) (okS (by first | exact Sl.nil _ | exact TS.slN (by assumption) (by repeat (first | exact List.Mem.head _ | refine List.Mem.tail _ ?_))))) rfl ?_; intro _ _))
    | (guard_target =~ WO _ _ (Oper.mk _ (Op.fieldAddr 86 _ 6) _ _ _ none) _ _ _ _; first | (refine O_fdT fd86_6 (by decide) rfl ?_) | (refine O_field fd86_6 (by decide) rfl ?_))
    | (guard_target =~ WO _ _ (Oper.mk _ (Op.store 21 _ _) _ _ _ none) _ _ _ _; first | (refine O_st (by assumption) (by repeat (first | exact List.Mem.head _ | refine List.Mem.tail _ ?_)) (by omega) on21 rfl rfl (by first | omega | (simp only [csz]; omega)) (by first | exact okp (c' := 2) (by first | rfl | exact layMod rfl rfl) (ok64 (by omega)) | exact okp (c' := 1) (by first | rfl | exact layMod rfl rfl) (ok8 (by omega)) | exact okp (c' := 3) (by first | rfl | exact layMod rfl rfl) (ok32 (by omega) (by omega)) | exact okp (c' := 4) (by first | rfl | exact layMod rfl rfl) okB_) rfl ?_; intro _ _))
    | (guard_target =~ WO _ _ (Oper.mk _ (Op.fieldAddr 86 _ 7) _ _ _ none) _ _ _ _; first | (refine O_fdT fd86_7 (by decide) rfl ?_) | (refine O_field fd86_7 (by decide) rfl ?_))
    | (guard_target =~ WO _ _ (Oper.mk _ (Op.fieldAddr 86 _ 8) _ _ _ none) _ _ _ _; first | (refine O_fdT fd86_8 (by decide) rfl ?_) | (refine O_field fd86_8 (by decide) rfl ?_))
    | (guard_target =~ WO _ _ (Oper.mk _ (Op.store 46 _ _) _ _ _ none) _ _ _ _; first | (refine O_st (by assumption) (by repeat (first | exact List.Mem.head _ | refine List.Mem.tail _ ?_)) (by omega) on46 rfl rfl (by first | omega | (simp only [csz]; omega)) (okp (c' := 100 + 126) (by first | rfl | exact layMod rfl rfl) (okS (by first | exact Sl.nil _ | exact TS.slN (by assumption) (by repeat (first | exact List.Mem.head _ | refine List.Mem.tail _ ?_))))) rfl ?_; intro _ _))
    | (guard_target =~ WO _ _ (Oper.mk _ (Op.fieldAddr 86 _ 9) _ _ _ none) _ _ _ _; first | (refine O_fdT fd86_9 (by decide) rfl ?_) | (refine O_field fd86_9 (by decide) rfl ?_))
    | (guard_target =~ WO _ _ (Oper.mk _ (Op.store 83 _ _) _ _ _ none) _ _ _ _; first | (refine O_st (by assumption) (by repeat (first | exact List.Mem.head _ | refine List.Mem.tail _ ?_)) (by omega) on83 rfl rfl (by first | omega | (simp only [csz]; omega)) (okp (c' := 100 + 172) (by first | rfl | exact layMod rfl rfl) (okS (by first | exact Sl.nil _ | exact TS.slN (by assumption) (by repeat (first | exact List.Mem.head _ | refine List.Mem.tail _ ?_))))) rfl ?_; intro _ _))
    | (guard_target =~ WO _ _ (Oper.mk _ (Op.fieldAddr 86 _ 10) _ _ _ none) _ _ _ _; first | (refine O_fdT fd86_10 (by decide) rfl ?_) | (refine O_field fd86_10 (by decide) rfl ?_))
    | (guard_target =~ WO _ _ (Oper.mk _ (Op.store 84 _ _) _ _ _ none) _ _ _ _; first | (refine O_st (by assumption) (by repeat (first | exact List.Mem.head _ | refine List.Mem.tail _ ?_)) (by omega) on84 rfl rfl (by first | omega | (simp only [csz]; omega)) (okp (c' := 100 + 21) (by first | rfl | exact layMod rfl rfl) (okS (by first | exact Sl.nil _ | exact TS.slN (by assumption) (by repeat (first | exact List.Mem.head _ | refine List.Mem.tail _ ?_))))) rfl ?_; intro _ _))
    | (guard_target =~ WO _ _ (Oper.mk _ (Op.fieldAddr 86 _ 1) _ _ _ none) _ _ _ _; first | (refine O_fdT fd86_1 (by decide) rfl ?_) | (refine O_field fd86_1 (by decide) rfl ?_))
    | (guard_target =~ WO _ _ (Oper.mk _ (Op.call _) _ _ _ none) _ _ _ _; first | (refine O_len Samg.underlying79 rfl rfl ?_) | (refine O_len Samg.underlying78 rfl rfl ?_))
    | (guard_target =~ WO _ _ (Oper.mk _ (Op.binOp BinOp.lss 3 _ _ _) _ _ _ none) _ _ _ _; first | (first | (refine O_lssS rfl rfl (fun h => absurd h (by omega)) ?_; intro _) | (refine O_lssS rfl rfl ?_ (fun h => absurd h (by omega)); intro _) | (refine O_lssS rfl rfl ?_ ?_ <;> intro _)))
    | (guard_target =~ WO _ _ (Oper.mk _ (Op.assign _) _ _ _ none) _ _ _ _; first | (refine O_assign (v := (.int _ _)) rfl ?_) | (refine O_assign (v := (.bool _)) rfl ?_) | (refine O_assign (v := (.pointer _)) rfl ?_) | (refine O_assign (v := (.slice _ _ _)) rfl ?_) | (refine O_assign (v := (.agg _)) rfl ?_) | (refine O_assign (v := (.tuple _)) rfl ?_))
    | (guard_target =~ WO _ _ (Oper.mk _ (Op.indexAddr 79 _ _) _ _ _ none) _ _ _ _; first | (refine O_ixK (by assumption) (by repeat (first | exact List.Mem.head _ | refine List.Mem.tail _ ?_)) sl79 rfl rfl (by omega) (by omega) ?_; rintro _ _ _) | (refine O_ixN (by assumption) (by repeat (first | exact List.Mem.head _ | refine List.Mem.tail _ ?_)) sl79 rfl rfl (by omega) (by omega) ?_; rintro _ _ _ _ _ _))
    | (guard_target =~ WO _ _ (Oper.mk _ (Op.fieldAddr 153 _ 0) _ _ _ none) _ _ _ _; first | (refine O_fdT fd153_0 (by decide) rfl ?_) | (refine O_field fd153_0 (by decide) rfl ?_))
    | (guard_target =~ WO _ _ (Oper.mk _ (Op.binOp BinOp.geq 21 _ _ _) _ _ _ none) _ _ _ _; first | (first | (refine O_geqS rfl rfl (fun h => absurd h (by omega)) ?_; intro _) | (refine O_geqS rfl rfl ?_ (fun h => absurd h (by omega)); intro _) | (refine O_geqS rfl rfl ?_ ?_ <;> intro _)))
    | (guard_target =~ WO _ _ (Oper.mk _ (Op.convert 21 3 _) _ _ _ none) _ _ _ _; first | (refine O_convZ Samg.underlying21 Samg.underlying3 rfl (by simp only [rngZ]; omega) ?_) | (refine O_convA Samg.underlying21 Samg.underlying3 rfl rfl ?_; intro _ hr; simp only [rngZ] at hr))
    | (guard_target =~ WO _ _ (Oper.mk _ (Op.fieldAddr 86 _ 0) _ _ _ none) _ _ _ _; first | (refine O_fdT fd86_0 (by decide) rfl ?_) | (refine O_field fd86_0 (by decide) rfl ?_))
    | (guard_target =~ WO _ _ (Oper.mk _ (Op.pick _ _ _) _ _ _ none) _ _ _ _; first | (refine O_pick_t (v := (.bool _)) rfl rfl ?_) | (refine O_pick_f (v := (.bool _)) rfl rfl ?_))
    | (guard_target =~ WO _ _ (Oper.mk _ (Op.fieldAddr 148 _ 6) _ _ _ none) _ _ _ _; first | (refine O_fdT fd148_6 (by decide) rfl ?_) | (refine O_field fd148_6 (by decide) rfl ?_))
    | (guard_target =~ WO _ _ (Oper.mk _ (Op.load 4 _) _ _ _ none) _ _ _ _; first | (refine O_ldb (by assumption) (by repeat (first | exact List.Mem.head _ | refine List.Mem.tail _ ?_)) on4 rfl (by first | omega | (simp only [csz]; omega)) (by first | rfl | exact layMod rfl rfl) ?_ ?_))
    | (guard_target =~ WO _ _ (Oper.mk _ (Op.build 45 #[]) _ _ _ none) _ _ _ _; first | (refine O_bdn64 (l := []) (by assumption) ar45 zc45 rfl rfl rfl rfl trivial ?_; intro _ _))
    | (guard_target =~ WO _ _ (Oper.mk _ (Op.fieldAddr 153 _ 2) _ _ _ none) _ _ _ _; first | (refine O_fdT fd153_2 (by decide) rfl ?_) | (refine O_field fd153_2 (by decide) rfl ?_))
    | (guard_target =~ WO _ _ (Oper.mk _ (Op.store 45 _ _) _ _ _ none) _ _ _ _; first | (refine O_stn64 (by assumption) (by repeat (first | exact List.Mem.head _ | refine List.Mem.tail _ ?_)) (by omega) ag45 rfl rfl (by assumption) (by first | omega | (simp only [csz]; omega)) (by first | exact layRun0 rfl rfl | exact layRun rfl rfl rfl) rfl ?_; intro _ _))
    | (guard_target =~ WO _ _ (Oper.mk _ (Op.fieldAddr 153 _ 4) _ _ _ none) _ _ _ _; first | (refine O_fdT fd153_4 (by decide) rfl ?_) | (refine O_field fd153_4 (by decide) rfl ?_))
    | (guard_target =~ WO _ _ (Oper.mk _ (Op.load 45 _) _ _ _ none) _ _ _ _; first | (refine O_ldn64 (by assumption) (by repeat (first | exact List.Mem.head _ | refine List.Mem.tail _ ?_)) ag45 rfl (by first | omega | (simp only [csz]; omega)) (by first | exact layRun0 rfl rfl | exact layRun rfl rfl rfl) ?_; intro _ _))
    | (guard_target =~ WO _ _ (Oper.mk _ (Op.fieldAddr 153 _ 3) _ _ _ none) _ _ _ _; first | (refine O_fdT fd153_3 (by decide) rfl ?_) | (refine O_field fd153_3 (by decide) rfl ?_))
    | (guard_target =~ WO _ _ (Oper.mk _ (Op.binOp BinOp.add 3 _ _ _) _ _ _ none) _ _ _ _; first | (refine O_addZ rfl rfl (by simp only [rngZ]; omega) ?_))
    | (guard_target =~ WO _ _ (Oper.mk _ (Op.fieldAddr 148 _ 1) _ _ _ none) _ _ _ _; first | (refine O_fdT fd148_1 (by decide) rfl ?_) | (refine O_field fd148_1 (by decide) rfl ?_))
    | (guard_target =~ WO _ _ (Oper.mk _ (Op.fieldAddr 148 _ 3) _ _ _ none) _ _ _ _; first | (refine O_fdT fd148_3 (by decide) rfl ?_) | (refine O_field fd148_3 (by decide) rfl ?_))
    | (guard_target =~ WO _ _ (Oper.mk _ (Op.fieldAddr 148 _ 4) _ _ _ none) _ _ _ _; first | (refine O_fdT fd148_4 (by decide) rfl ?_) | (refine O_field fd148_4 (by decide) rfl ?_))
    | (guard_target =~ WO _ _ (Oper.mk _ (Op.fieldAddr 148 _ 5) _ _ _ none) _ _ _ _; first | (refine O_fdT fd148_5 (by decide) rfl ?_) | (refine O_field fd148_5 (by decide) rfl ?_)))
  all_goals first
    | exact ⟨σ3.na - (j + 1), by omega, j + 1, rfl, by omega, hV, hMu, TS.t (by assumption), Has.mk ⟨rfl, rfl, rfl, trivial⟩⟩
    | exact E_end0 rfl ⟨hMu, hT9, σ3, hV, hI3, rfl⟩
end Go.Proofs.Ygcsam
