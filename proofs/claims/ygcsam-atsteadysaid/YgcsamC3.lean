/-
  Load and Peek. Own work.
-/
import Derived.Test.YgcsamC2
import Derived.Test.YgcsamU4
namespace Go.Proofs.Ygcsam
set_option linter.unusedVariables false
set_option linter.unusedSimpArgs false
set_option maxRecDepth 4000
theorem E_cc {P : Program} {n : Nat} {ρ : Env} {w : World} {fn : Func} {R : Value → World → Prop} {t t' T T' s s' b b' : Nat} {c c' : Array Value} {tb tb' : TypeId} (hr : fn.results = #[.cell t T, .cell t' T']) (ht : Nat.blt t n = true) (ht' : Nat.blt t' n = true) (hT : aggT P T s) (hT' : aggT P T' s') (hv : ρ t = .pointer (some ⟨b, 0, none⟩)) (hv' : ρ t' = .pointer (some ⟨b', 0, none⟩)) (hb : Blk w b c tb) (hb' : Blk w b' c' tb') (hs : c.size = s) (hs' : c'.size = s') (h : R (.tuple #[.agg c, .agg c']) w) : bodyQ P n fn R .ret ρ w := by
  have h1 := Fr_getD (ρ := ρ) ht
  have h1' := Fr_getD (ρ := ρ) ht'
  rw [Array.getD_eq_getD_getElem?] at h1 h1'
  have ex : ∀ (d : Array Value) (m : Nat), d.size = m → d.extract 0 (0 + m) = d := fun d m hd => by
    apply Array.ext
    · simp; omega
    · intro i h1 h2; simp
  have h2 := run_load_agg (P := P) hT hb (by omega : 0 + s ≤ c.size)
  have h2' := run_load_agg (P := P) hT' hb' (by omega : 0 + s' ≤ c'.size)
  simp only [Instr.loadAt, Instr.sureAddr] at h2 h2'
  have h3 : (loadVar T ⟨b, 0, none⟩).run P w = .ok (.agg c) w := by rw [ex c s hs] at h2; simpa using h2
  have h3' : (loadVar T' ⟨b', 0, none⟩).run P w = .ok (.agg c') w := by rw [ex c' s' hs'] at h2'; simpa using h2'
  refine ⟨_, ?_, h⟩
  simp [results, hr, h1, h1', hv, hv', asAddr, h3, h3']
theorem E_cct {P : Program} {n : Nat} {ρ : Env} {w : World} {fn : Func} {R : Value → World → Prop} {t t' t'' T T' s s' b b' : Nat} {c c' : Array Value} {tb tb' : TypeId} {v : Value} (hr : fn.results = #[.cell t T, .cell t' T', .tmp t'']) (ht : Nat.blt t n = true) (ht' : Nat.blt t' n = true) (ht'' : Nat.blt t'' n = true) (hT : aggT P T s) (hT' : aggT P T' s') (hv : ρ t = .pointer (some ⟨b, 0, none⟩)) (hv' : ρ t' = .pointer (some ⟨b', 0, none⟩)) (hv'' : ρ t'' = v) (hb : Blk w b c tb) (hb' : Blk w b' c' tb') (hs : c.size = s) (hs' : c'.size = s') (h : R (.tuple #[.agg c, .agg c', v]) w) : bodyQ P n fn R .ret ρ w := by
  have h1 := Fr_getD (ρ := ρ) ht
  have h1' := Fr_getD (ρ := ρ) ht'
  have h1'' := Fr_getD (ρ := ρ) ht''
  rw [Array.getD_eq_getD_getElem?] at h1 h1' h1''
  have ex : ∀ (d : Array Value) (m : Nat), d.size = m → d.extract 0 (0 + m) = d := fun d m hd => by
    apply Array.ext
    · simp; omega
    · intro i h1 h2; simp
  have h2 := run_load_agg (P := P) hT hb (by omega : 0 + s ≤ c.size)
  have h2' := run_load_agg (P := P) hT' hb' (by omega : 0 + s' ≤ c'.size)
  simp only [Instr.loadAt, Instr.sureAddr] at h2 h2'
  have h3 : (loadVar T ⟨b, 0, none⟩).run P w = .ok (.agg c) w := by rw [ex c s hs] at h2; simpa using h2
  have h3' : (loadVar T' ⟨b', 0, none⟩).run P w = .ok (.agg c') w := by rw [ex c' s' hs'] at h2'; simpa using h2'
  refine ⟨_, ?_, h⟩
  simp [results, hr, h1, h1', h1'', hv, hv', hv'', asAddr, h3, h3']
theorem TS.word {B : Nat} {w0 w : World} {L : List Fact} {M : List (Nat × Array Value)} (h : TS B w0 w L M) {b : Nat} (hm : (45, some ⟨b, 0, none⟩, 1, 1) ∈ L) : ∃ g : Nat → Nat, (∀ i, g i < 18446744073709551616) ∧ Blk w b (ns .u64 4 g) 45 := by
  obtain ⟨hB, c, hb, hs⟩ := h.row hm
  obtain ⟨g, rfl, hg⟩ := row64 (B := B) (w := w) (m := 4) hs (fun o v hv => h.t.ok b c 45 hB hb o v hv)
  exact ⟨g, hg, hb⟩
theorem V.someS {B s : Nat} {σ : VS} {w : World} (hV : V B w s σ) (h : 0 < σ.ns) : ∃ b, σ.aS = some ⟨b, 0, none⟩ := by
  rcases hV.sS.2.2 with ⟨_, h1⟩ | ⟨b, h1, _⟩
  · have := hV.sS.1; omega
  · exact ⟨b, h1⟩
theorem load_ok {B s : Nat} {σ : VS} {w : World} (hT : WT B w) (hV : V B w s σ) (hI : VI σ) {f g : Nat → Nat} (hf : ∀ i, f i < 256) (hg : ∀ i, g i < 18446744073709551616) : Rd B Samg.prog 36 [.pointer (some ⟨s, 0, none⟩), .agg (ns .u8 20 f), .agg (ns .u64 4 g)] w fun v w' => ∃ g1 g2 : Nat → Nat, (∀ i, g1 i < 18446744073709551616) ∧ (∀ i, g2 i < 18446744073709551616) ∧ v = .tuple #[.agg (ns .u64 4 g1), .agg (ns .u64 4 g2)] := by
  refine W_enter (l := [_, _, _]) Samg.func36 rfl rfl rfl ?_
  have hS := hV.start hT; have hMu := Mu.refl B w; have hna := hI.na; have hns := hI.ns; have hnt := hI.nt; have hnj := hI.nj; have hnm := hI.nm; have hnl := hI.nl
  have hcS := hV.sS.1
  refine W_seq (W_region (by kernel_rfl) (L_cons ?_))
  refine O_bx8 (by assumption) rfl (by assumption) rfl rfl ?_; intro w1 b4 hn4 hS1
  refine L_cons ?_
  refine O_bx64 (by assumption) rfl (by assumption) rfl rfl ?_; intro w2 b5 hn5 hS2
  refine L_cons ?_
  refine O_al (by assumption) zc45 (by decide) ?_; intro w3 b6 hn6 hS3
  refine L_cons ?_
  refine O_al (by assumption) zc45 (by decide) ?_; intro w4 b7 hn7 hS4
  repeat' (first
    | (refine L_cons ?_)
    | (refine R_cons rfl ?_)
    | (refine W_seq ?_)
    | (refine W_region (by kernel_rfl) ?_)
    | (refine L_nil ?_)
    | (refine R_nil ?_)
    | (refine W_block ?_)
    | (refine W_skip ?_)
    | (refine W_exit ?_)
    | (refine W_ret ?_)
    | (guard_target =~ thenQ _ _ _ _ _; first | (refine T_next ?_) | (refine T_exit ?_) | (refine T_ret ?_))
    | (guard_target =~ blockQ _ _ _ _ _; first | (refine B_next ?_) | (refine B_same ?_) | (refine B_other (by kernel_rfl) ?_) | (refine B_ret ?_))
    | (refine W_true rfl rfl ?_)
    | (refine W_false rfl rfl ?_)
    | (guard_target =~ WO _ _ (Oper.mk _ (Op.call (Call.mk (Callee.value (Operand.func 85)) _ _)) _ _ _ none) _ _ _ _; first | (refine O_rd (l := [.pointer (some ⟨s, 0, none⟩), .agg (ns .u8 20 _), .agg (ns .u64 4 _)]) (by assumption) cl85 rfl (peekSlot_ok (TS.t (by assumption)) (hV.ext (TS.e (by assumption))) hI (by assumption) (by assumption)) ?_; rintro _ w4 ⟨at_, rfl, hat⟩ hS4 hE4))
    | (guard_target =~ WO _ _ (Oper.mk _ (Op.load 78 _) _ _ _ none) _ _ _ _; first | (refine O_ldV (by assumption) on78 rfl hV.acc hV.lt ?_))
    | (guard_target =~ WO _ _ (Oper.mk _ (Op.load 79 _) _ _ _ none) _ _ _ _; first | (refine O_ldV (by assumption) on79 rfl hV.slo hV.lt ?_) | (refine O_lds (t' := 153) (by assumption) (by repeat (first | exact List.Mem.head _ | refine List.Mem.tail _ ?_)) on79 rfl (by first | omega | (simp only [csz]; omega)) (by first | rfl | exact layMod rfl rfl) ?_; intro _ _ _ _ _ _))
    | (guard_target =~ WO _ _ (Oper.mk _ (Op.load 81 _) _ _ _ none) _ _ _ _; first | (refine O_ldV (by assumption) on81 rfl hV.jou hV.lt ?_))
    | (guard_target =~ WO _ _ (Oper.mk _ (Op.load 46 _) _ _ _ none) _ _ _ _; first | (refine O_ldV (by assumption) on46 rfl hV.log hV.lt ?_))
    | (guard_target =~ WO _ _ (Oper.mk _ (Op.load 83 _) _ _ _ none) _ _ _ _; first | (refine O_ldV (by assumption) on83 rfl hV.tem hV.lt ?_))
    | (guard_target =~ WO _ _ (Oper.mk _ (Op.load 84 _) _ _ _ none) _ _ _ _; first | (refine O_ldV (by assumption) on84 rfl hV.tta hV.lt ?_))
    | (guard_target =~ WO _ _ (Oper.mk _ (Op.load 21 _) _ _ _ none) _ _ _ _; first | (refine O_ldV (by assumption) on21 rfl hV.nmk hV.lt ?_))
    | (guard_target =~ WO _ _ (Oper.mk _ (Op.load 27 _) _ _ _ none) _ _ _ _; first | (refine O_ldV (by assumption) on27 rfl hV.rf hV.lt ?_))
    | (guard_target =~ WO _ _ (Oper.mk _ (Op.box 24 _) _ _ _ none) _ _ _ _; first | (refine O_bx8 (by assumption) rfl (by assumption) rfl rfl ?_; intro _ _ _ _))
    | (guard_target =~ WO _ _ (Oper.mk _ (Op.box 45 _) _ _ _ none) _ _ _ _; first | (refine O_bx64 (by assumption) rfl (by assumption) rfl rfl ?_; intro _ _ _ _))
    | (guard_target =~ WO _ _ (Oper.mk _ (Op.alloc 45) _ _ _ none) _ _ _ _; first | (refine O_al (by assumption) zc45 (by decide) ?_; intro _ _ _ _))
    | (guard_target =~ WO _ _ (Oper.mk _ (Op.move _) _ _ _ none) _ _ _ _; first | (refine O_move (v := (.int _ _)) rfl ?_) | (refine O_move (v := (.bool _)) rfl ?_) | (refine O_move (v := (.pointer _)) rfl ?_) | (refine O_move (v := (.slice _ _ _)) rfl ?_) | (refine O_move (v := (.agg _)) rfl ?_) | (refine O_move (v := (.tuple _)) rfl ?_))
    | (guard_target =~ WO _ _ (Oper.mk _ (Op.load 24 _) _ _ _ none) _ _ _ _; first | (refine O_ldn8 (by assumption) (by repeat (first | exact List.Mem.head _ | refine List.Mem.tail _ ?_)) ag24 rfl (by first | omega | (simp only [csz]; omega)) (by first | exact layRun0 rfl rfl | exact layRun rfl rfl rfl) ?_; intro _ _))
    | (guard_target =~ WO _ _ (Oper.mk _ (Op.load 45 _) _ _ _ none) _ _ _ _; first | (refine O_ldn64 (by assumption) (by repeat (first | exact List.Mem.head _ | refine List.Mem.tail _ ?_)) ag45 rfl (by first | omega | (simp only [csz]; omega)) (by first | exact layRun0 rfl rfl | exact layRun rfl rfl rfl) ?_; intro _ _))
    | (guard_target =~ WO _ _ (Oper.mk _ (Op.assign _) _ _ _ none) _ _ _ _; first | (refine O_assign (v := (.int _ _)) rfl ?_) | (refine O_assign (v := (.bool _)) rfl ?_) | (refine O_assign (v := (.pointer _)) rfl ?_) | (refine O_assign (v := (.slice _ _ _)) rfl ?_) | (refine O_assign (v := (.agg _)) rfl ?_) | (refine O_assign (v := (.tuple _)) rfl ?_))
    | (guard_target =~ WO _ _ (Oper.mk _ (Op.binOp BinOp.geq 21 _ _ _) _ _ _ none) _ _ _ _; first | (first | (refine O_geqS rfl rfl (fun h => absurd h (by omega)) ?_; intro _) | (refine O_geqS rfl rfl ?_ (fun h => absurd h (by omega)); intro _) | (refine O_geqS rfl rfl ?_ ?_ <;> intro _)))
    | (guard_target =~ WO _ _ (Oper.mk _ (Op.nilCheck _) _ _ _ none) _ _ _ _; first | (refine O_nil rfl ?_))
    | (guard_target =~ WO _ _ (Oper.mk _ (Op.fieldAddr 86 _ 1) _ _ _ none) _ _ _ _; first | (refine O_fdT fd86_1 (by decide) rfl ?_) | (refine O_field fd86_1 (by decide) rfl ?_))
    | (guard_target =~ WO _ _ (Oper.mk _ (Op.indexAddr 79 _ _) _ _ _ none) _ _ _ _; first | (refine O_ixK (by assumption) (by repeat (first | exact List.Mem.head _ | refine List.Mem.tail _ ?_)) sl79 rfl rfl (by omega) (by omega) ?_; rintro _ _ _) | (refine O_ixN (by assumption) (by repeat (first | exact List.Mem.head _ | refine List.Mem.tail _ ?_)) sl79 rfl rfl (by omega) (by omega) ?_; rintro _ _ _ _ _ _))
    | (guard_target =~ WO _ _ (Oper.mk _ (Op.fieldAddr 153 _ 2) _ _ _ none) _ _ _ _; first | (refine O_fdT fd153_2 (by decide) rfl ?_) | (refine O_field fd153_2 (by decide) rfl ?_))
    | (guard_target =~ WO _ _ (Oper.mk _ (Op.fieldAddr 153 _ 3) _ _ _ none) _ _ _ _; first | (refine O_fdT fd153_3 (by decide) rfl ?_) | (refine O_field fd153_3 (by decide) rfl ?_))
    | (guard_target =~ WO _ _ (Oper.mk _ (Op.store 45 _ _) _ _ _ none) _ _ _ _; first | (refine O_stn64 (by assumption) (by repeat (first | exact List.Mem.head _ | refine List.Mem.tail _ ?_)) (by omega) ag45 rfl rfl (by assumption) (by first | omega | (simp only [csz]; omega)) (by first | exact layRun0 rfl rfl | exact layRun rfl rfl rfl) rfl ?_; intro _ _))
    | (guard_target =~ WO _ _ (Oper.mk _ (Op.build 45 #[]) _ _ _ none) _ _ _ _; first | (refine O_bdn64 (l := []) (by assumption) ar45 zc45 rfl rfl rfl rfl trivial ?_; intro _ _)))
  · obtain ⟨m, rfl⟩ := Int.eq_ofNat_of_zero_le (show 0 ≤ at_ by omega)
    have hm : m < σ.ns := by omega
    obtain ⟨bS, hbS⟩ := hV.someS (by omega)
    refine W_inv (fun w' => TS B w w' ((45, some ⟨b6, 0, none⟩, 1, 1) :: (45, some ⟨b7, 0, none⟩, 1, 1) :: (153, some ⟨bS, 0, none⟩, σ.ns, σ.cS) :: [(86, some ⟨s, 0, none⟩, 1, 1), (148, σ.aA, σ.na, σ.cA), (153, σ.aS, σ.ns, σ.cS), (178, σ.aJ, σ.nj, σ.cJ), (126, σ.aL, σ.nl, σ.cL), (172, σ.aT, σ.nt, σ.cT), (21, σ.aH, σ.nh, σ.cH)]) []) (fun j v => match j with | 0 => v = .pointer (some ⟨s, 0, none⟩) | 1 => v = .pointer (some ⟨s, 0, none⟩) | 2 => v = .pointer (some ⟨s, 0 + 1, none⟩) | 3 => v = .slice σ.aS σ.ns σ.cS | 4 => v = .int .i32 ((m : Nat) : Int) | 5 => v = .pointer (some ⟨bS, m * 14 + 0, none⟩) | 6 => v = .pointer (some ⟨bS, m * 14 + (0 + 5), none⟩) | 7 => ∃ f : Nat → Nat, (∀ i, f i < 18446744073709551616) ∧ v = .agg (ns .u64 4 f) | 8 => v = .pointer (some ⟨s, 0, none⟩) | 9 => v = .pointer (some ⟨s, 0, none⟩) | 10 => v = .pointer (some ⟨s, 0 + 1, none⟩) | 11 => v = .slice σ.aS σ.ns σ.cS | 12 => v = .int .i32 ((m : Nat) : Int) | 13 => v = .pointer (some ⟨bS, m * 14 + 0, none⟩) | 14 => v = .pointer (some ⟨bS, m * 14 + (0 + 9), none⟩) | 15 => ∃ f : Nat → Nat, (∀ i, f i < 18446744073709551616) ∧ v = .agg (ns .u64 4 f) | 16 => True | 17 => True | _ => True) mixed (by kernel_rfl) ?_ ?_ ?_
    · exact TS.drew (TS.pick (by assumption) (by repeat (first | exact List.Mem.head _ | refine List.Mem.tail _ ?_)) (TS.pick (by assumption) (by repeat (first | exact List.Mem.head _ | refine List.Mem.tail _ ?_)) (TS.addL (hV.at (by assumption)) (hbS ▸ (hV.ext (TS.e (by assumption))).sS))))
    · intro i o ho ρ w5 hJ2 hk hA
      have hi : i < 18 := (Array.getElem?_eq_some_iff.1 ho).1
      have e0 : ρ 0 = .pointer (some ⟨s, 0, none⟩) := (hk.get (by kernel_rfl)).trans rfl
      have e8 : ρ 8 = .int .i32 ((m : Nat) : Int) := (hk.get (by kernel_rfl)).trans rfl
      have e6 : ρ 6 = .pointer (some ⟨b6, 0, none⟩) := (hk.get (by kernel_rfl)).trans rfl
      have e7 : ρ 7 = .pointer (some ⟨b7, 0, none⟩) := (hk.get (by kernel_rfl)).trans rfl
      have hor : i = 0 ∨ i = 1 ∨ i = 2 ∨ i = 3 ∨ i = 4 ∨ i = 5 ∨ i = 6 ∨ i = 7 ∨ i = 8 ∨ i = 9 ∨ i = 10 ∨ i = 11 ∨ i = 12 ∨ i = 13 ∨ i = 14 ∨ i = 15 ∨ i = 16 ∨ i = 17 := by omega
      rcases hor with rfl | rfl | rfl | rfl | rfl | rfl | rfl | rfl | rfl | rfl | rfl | rfl | rfl | rfl | rfl | rfl | rfl | rfl
      · cases Option.some.inj ho
        exact O_move (v := .pointer (some ⟨s, 0, none⟩)) e0 ⟨hJ2, _, rfl, rfl⟩
      · cases Option.some.inj ho
        exact O_nil (hA 0 _ 15 (mem_direct (by kernel_rfl)) rfl rfl) ⟨hJ2, _, rfl, rfl⟩
      · cases Option.some.inj ho
        exact O_field fd86_1 (by decide) (hA 1 _ 16 (mem_direct (by kernel_rfl)) rfl rfl) ⟨hJ2, _, rfl, rfl⟩
      · cases Option.some.inj ho
        exact O_ldV hJ2 on79 (hA 2 _ 17 (mem_direct (by kernel_rfl)) rfl rfl) hV.slo hV.lt ⟨hJ2, _, rfl, rfl⟩
      · cases Option.some.inj ho
        exact O_move (v := .int .i32 ((m : Nat) : Int)) e8 ⟨hJ2, _, rfl, rfl⟩
      · cases Option.some.inj ho
        exact O_index_s sl79 ((show ρ 18 = .slice (some ⟨bS, 0, none⟩) σ.ns σ.cS from ((hA 3 _ 18 (mem_direct (by kernel_rfl)) rfl rfl) : ρ 18 = .slice σ.aS σ.ns σ.cS).trans (by rw [hbS]))) (hA 4 _ 19 (mem_direct (by kernel_rfl)) rfl rfl) hm ⟨hJ2, _, rfl, by rw [Nat.zero_add]; rfl⟩
      · cases Option.some.inj ho
        exact O_fdT fd153_2 (by decide) (hA 5 _ 20 (mem_direct (by kernel_rfl)) rfl rfl) ⟨hJ2, _, rfl, rfl⟩
      · cases Option.some.inj ho
        exact O_ldn64 hJ2 (by repeat (first | exact List.Mem.head _ | refine List.Mem.tail _ ?_)) ag45 (hA 6 _ 21 (mem_direct (by kernel_rfl)) rfl rfl) (by simp only [csz]; omega) (layRun rfl rfl rfl) fun f hf => ⟨hJ2, _, rfl, f, hf, rfl⟩
      · cases Option.some.inj ho
        exact O_move (v := .pointer (some ⟨s, 0, none⟩)) e0 ⟨hJ2, _, rfl, rfl⟩
      · cases Option.some.inj ho
        exact O_nil (hA 8 _ 23 (mem_direct (by kernel_rfl)) rfl rfl) ⟨hJ2, _, rfl, rfl⟩
      · cases Option.some.inj ho
        exact O_field fd86_1 (by decide) (hA 9 _ 24 (mem_direct (by kernel_rfl)) rfl rfl) ⟨hJ2, _, rfl, rfl⟩
      · cases Option.some.inj ho
        exact O_ldV hJ2 on79 (hA 10 _ 25 (mem_direct (by kernel_rfl)) rfl rfl) hV.slo hV.lt ⟨hJ2, _, rfl, rfl⟩
      · cases Option.some.inj ho
        exact O_move (v := .int .i32 ((m : Nat) : Int)) e8 ⟨hJ2, _, rfl, rfl⟩
      · cases Option.some.inj ho
        exact O_index_s sl79 ((show ρ 26 = .slice (some ⟨bS, 0, none⟩) σ.ns σ.cS from ((hA 11 _ 26 (mem_direct (by kernel_rfl)) rfl rfl) : ρ 26 = .slice σ.aS σ.ns σ.cS).trans (by rw [hbS]))) (hA 12 _ 27 (mem_direct (by kernel_rfl)) rfl rfl) hm ⟨hJ2, _, rfl, by rw [Nat.zero_add]; rfl⟩
      · cases Option.some.inj ho
        exact O_fdT fd153_3 (by decide) (hA 13 _ 28 (mem_direct (by kernel_rfl)) rfl rfl) ⟨hJ2, _, rfl, rfl⟩
      · cases Option.some.inj ho
        exact O_ldn64 hJ2 (by repeat (first | exact List.Mem.head _ | refine List.Mem.tail _ ?_)) ag45 (hA 14 _ 29 (mem_direct (by kernel_rfl)) rfl rfl) (by simp only [csz]; omega) (layRun rfl rfl rfl) fun f hf => ⟨hJ2, _, rfl, f, hf, rfl⟩
      · cases Option.some.inj ho
        obtain ⟨f1, hf1, ef1⟩ := (hA 7 _ 22 (mem_direct (by kernel_rfl)) rfl rfl); exact O_stn64 hJ2 (by repeat (first | exact List.Mem.head _ | refine List.Mem.tail _ ?_)) (by omega) ag45 e6 ef1 hf1 (by simp only [csz]; omega) (layRun0 rfl rfl) rfl fun w3 hS3 => ⟨hS3, undef, rfl, trivial⟩
      · cases Option.some.inj ho
        obtain ⟨f1, hf1, ef1⟩ := (hA 15 _ 30 (mem_direct (by kernel_rfl)) rfl rfl); exact O_stn64 hJ2 (by repeat (first | exact List.Mem.head _ | refine List.Mem.tail _ ?_)) (by omega) ag45 e7 ef1 hf1 (by simp only [csz]; omega) (layRun0 rfl rfl) rfl fun w3 hS3 => ⟨hS3, undef, rfl, trivial⟩
    · intro ρ w5 hJ2 hk hA
      have e6 : ρ 6 = .pointer (some ⟨b6, 0, none⟩) := (hk.get (by kernel_rfl)).trans rfl
      have e7 : ρ 7 = .pointer (some ⟨b7, 0, none⟩) := (hk.get (by kernel_rfl)).trans rfl
      repeat' (first
        | (refine L_cons ?_)
        | (refine R_cons rfl ?_)
        | (refine W_seq ?_)
        | (refine W_region (by kernel_rfl) ?_)
        | (refine L_nil ?_)
        | (refine R_nil ?_)
        | (refine W_block ?_)
        | (refine W_skip ?_)
        | (refine W_exit ?_)
        | (refine W_ret ?_)
        | (guard_target =~ thenQ _ _ _ _ _; first | (refine T_next ?_) | (refine T_exit ?_) | (refine T_ret ?_))
        | (guard_target =~ blockQ _ _ _ _ _; first | (refine B_next ?_) | (refine B_same ?_) | (refine B_other (by kernel_rfl) ?_) | (refine B_ret ?_))
        | (refine W_true rfl rfl ?_)
        | (refine W_false rfl rfl ?_)
        | (guard_target =~ WO _ _ (Oper.mk _ (Op.load 78 _) _ _ _ none) _ _ _ _; first | (refine O_ldV (by assumption) on78 rfl hV.acc hV.lt ?_))
        | (guard_target =~ WO _ _ (Oper.mk _ (Op.load 79 _) _ _ _ none) _ _ _ _; first | (refine O_ldV (by assumption) on79 rfl hV.slo hV.lt ?_) | (refine O_lds (t' := 153) (by assumption) (by repeat (first | exact List.Mem.head _ | refine List.Mem.tail _ ?_)) on79 rfl (by first | omega | (simp only [csz]; omega)) (by first | rfl | exact layMod rfl rfl) ?_; intro _ _ _ _ _ _))
        | (guard_target =~ WO _ _ (Oper.mk _ (Op.load 81 _) _ _ _ none) _ _ _ _; first | (refine O_ldV (by assumption) on81 rfl hV.jou hV.lt ?_))
        | (guard_target =~ WO _ _ (Oper.mk _ (Op.load 46 _) _ _ _ none) _ _ _ _; first | (refine O_ldV (by assumption) on46 rfl hV.log hV.lt ?_))
        | (guard_target =~ WO _ _ (Oper.mk _ (Op.load 83 _) _ _ _ none) _ _ _ _; first | (refine O_ldV (by assumption) on83 rfl hV.tem hV.lt ?_))
        | (guard_target =~ WO _ _ (Oper.mk _ (Op.load 84 _) _ _ _ none) _ _ _ _; first | (refine O_ldV (by assumption) on84 rfl hV.tta hV.lt ?_))
        | (guard_target =~ WO _ _ (Oper.mk _ (Op.load 21 _) _ _ _ none) _ _ _ _; first | (refine O_ldV (by assumption) on21 rfl hV.nmk hV.lt ?_))
        | (guard_target =~ WO _ _ (Oper.mk _ (Op.load 27 _) _ _ _ none) _ _ _ _; first | (refine O_ldV (by assumption) on27 rfl hV.rf hV.lt ?_))
        | (guard_target =~ WC _ _ (Code.region 3 _ true) _ _ _; first | (refine W_drawnT (id := 3) [16] [0, 1, 2, 3, 4, 5, 6, 7, 8, 9, 10, 11, 12, 13, 14, 15, 16, 17] mixed (by kernel_rfl) (by kernel_rfl) (by assumption) ?_; intro _ _ _))
        | (guard_target =~ WO _ _ (Oper.mk _ (Op.box 24 _) _ _ _ none) _ _ _ _; first | (refine O_bx8 (by assumption) rfl (by assumption) rfl rfl ?_; intro _ _ _ _))
        | (guard_target =~ WO _ _ (Oper.mk _ (Op.box 45 _) _ _ _ none) _ _ _ _; first | (refine O_bx64 (by assumption) rfl (by assumption) rfl rfl ?_; intro _ _ _ _))
        | (guard_target =~ WO _ _ (Oper.mk _ (Op.alloc 45) _ _ _ none) _ _ _ _; first | (refine O_al (by assumption) zc45 (by decide) ?_; intro _ _ _ _))
        | (guard_target =~ WO _ _ (Oper.mk _ (Op.move _) _ _ _ none) _ _ _ _; first | (refine O_move (v := (.int _ _)) rfl ?_) | (refine O_move (v := (.bool _)) rfl ?_) | (refine O_move (v := (.pointer _)) rfl ?_) | (refine O_move (v := (.slice _ _ _)) rfl ?_) | (refine O_move (v := (.agg _)) rfl ?_) | (refine O_move (v := (.tuple _)) rfl ?_))
        | (guard_target =~ WO _ _ (Oper.mk _ (Op.load 24 _) _ _ _ none) _ _ _ _; first | (refine O_ldn8 (by assumption) (by repeat (first | exact List.Mem.head _ | refine List.Mem.tail _ ?_)) ag24 rfl (by first | omega | (simp only [csz]; omega)) (by first | exact layRun0 rfl rfl | exact layRun rfl rfl rfl) ?_; intro _ _))
        | (guard_target =~ WO _ _ (Oper.mk _ (Op.load 45 _) _ _ _ none) _ _ _ _; first | (refine O_ldn64 (by assumption) (by repeat (first | exact List.Mem.head _ | refine List.Mem.tail _ ?_)) ag45 rfl (by first | omega | (simp only [csz]; omega)) (by first | exact layRun0 rfl rfl | exact layRun rfl rfl rfl) ?_; intro _ _))
        | (guard_target =~ WO _ _ (Oper.mk _ (Op.assign _) _ _ _ none) _ _ _ _; first | (refine O_assign (v := (.int _ _)) rfl ?_) | (refine O_assign (v := (.bool _)) rfl ?_) | (refine O_assign (v := (.pointer _)) rfl ?_) | (refine O_assign (v := (.slice _ _ _)) rfl ?_) | (refine O_assign (v := (.agg _)) rfl ?_) | (refine O_assign (v := (.tuple _)) rfl ?_))
        | (guard_target =~ WO _ _ (Oper.mk _ (Op.binOp BinOp.geq 21 _ _ _) _ _ _ none) _ _ _ _; first | (first | (refine O_geqS rfl rfl (fun h => absurd h (by omega)) ?_; intro _) | (refine O_geqS rfl rfl ?_ (fun h => absurd h (by omega)); intro _) | (refine O_geqS rfl rfl ?_ ?_ <;> intro _)))
        | (guard_target =~ WO _ _ (Oper.mk _ (Op.nilCheck _) _ _ _ none) _ _ _ _; first | (refine O_nil rfl ?_))
        | (guard_target =~ WO _ _ (Oper.mk _ (Op.fieldAddr 86 _ 1) _ _ _ none) _ _ _ _; first | (refine O_fdT fd86_1 (by decide) rfl ?_) | (refine O_field fd86_1 (by decide) rfl ?_))
        | (guard_target =~ WO _ _ (Oper.mk _ (Op.indexAddr 79 _ _) _ _ _ none) _ _ _ _; first | (refine O_ixK (by assumption) (by repeat (first | exact List.Mem.head _ | refine List.Mem.tail _ ?_)) sl79 rfl rfl (by omega) (by omega) ?_; rintro _ _ _) | (refine O_ixN (by assumption) (by repeat (first | exact List.Mem.head _ | refine List.Mem.tail _ ?_)) sl79 rfl rfl (by omega) (by omega) ?_; rintro _ _ _ _ _ _))
        | (guard_target =~ WO _ _ (Oper.mk _ (Op.fieldAddr 153 _ 2) _ _ _ none) _ _ _ _; first | (refine O_fdT fd153_2 (by decide) rfl ?_) | (refine O_field fd153_2 (by decide) rfl ?_))
        | (guard_target =~ WO _ _ (Oper.mk _ (Op.fieldAddr 153 _ 3) _ _ _ none) _ _ _ _; first | (refine O_fdT fd153_3 (by decide) rfl ?_) | (refine O_field fd153_3 (by decide) rfl ?_))
        | (guard_target =~ WO _ _ (Oper.mk _ (Op.store 45 _ _) _ _ _ none) _ _ _ _; first | (refine O_stn64 (by assumption) (by repeat (first | exact List.Mem.head _ | refine List.Mem.tail _ ?_)) (by omega) ag45 rfl rfl (by assumption) (by first | omega | (simp only [csz]; omega)) (by first | exact layRun0 rfl rfl | exact layRun rfl rfl rfl) rfl ?_; intro _ _))
        | (guard_target =~ WO _ _ (Oper.mk _ (Op.build 45 #[]) _ _ _ none) _ _ _ _; first | (refine O_bdn64 (l := []) (by assumption) ar45 zc45 rfl rfl rfl rfl trivial ?_; intro _ _)))
      obtain ⟨g1, hg1, hb1⟩ := TS.word (b := b6) (by assumption) (by repeat (first | exact List.Mem.head _ | refine List.Mem.tail _ ?_))
      obtain ⟨g2, hg2, hb2⟩ := TS.word (b := b7) (by assumption) (by repeat (first | exact List.Mem.head _ | refine List.Mem.tail _ ?_))
      exact E_cc rfl rfl rfl ag45 ag45 e6 e7 hb1 hb2 (ns_size _ _ _) (ns_size _ _ _) ⟨TS.e (by assumption), TS.t (by assumption), g1, g2, hg1, hg2, rfl⟩
  · obtain ⟨g1, hg1, hb1⟩ := TS.word (b := b6) (by assumption) (by repeat (first | exact List.Mem.head _ | refine List.Mem.tail _ ?_))
    obtain ⟨g2, hg2, hb2⟩ := TS.word (b := b7) (by assumption) (by repeat (first | exact List.Mem.head _ | refine List.Mem.tail _ ?_))
    exact E_cc rfl rfl rfl ag45 ag45 rfl rfl hb1 hb2 (ns_size _ _ _) (ns_size _ _ _) ⟨TS.e (by assumption), TS.t (by assumption), g1, g2, hg1, hg2, rfl⟩
theorem peek_ok {B s : Nat} {σ : VS} {w : World} (hT : WT B w) (hV : V B w s σ) (hI : VI σ) {f g : Nat → Nat} (hf : ∀ i, f i < 256) (hg : ∀ i, g i < 18446744073709551616) : Rd B Samg.prog 42 [.pointer (some ⟨s, 0, none⟩), .agg (ns .u8 20 f), .agg (ns .u64 4 g)] w fun v w' => ∃ (g1 g2 : Nat → Nat) (p : Bool), (∀ i, g1 i < 18446744073709551616) ∧ (∀ i, g2 i < 18446744073709551616) ∧ v = .tuple #[.agg (ns .u64 4 g1), .agg (ns .u64 4 g2), .bool p] := by
  refine W_enter (l := [_, _, _]) Samg.func42 rfl rfl rfl ?_
  have hS := hV.start hT; have hMu := Mu.refl B w; have hna := hI.na; have hns := hI.ns; have hnt := hI.nt; have hnj := hI.nj; have hnm := hI.nm; have hnl := hI.nl
  have hcS := hV.sS.1
  refine W_seq (W_region (by kernel_rfl) (L_cons ?_))
  refine O_bx8 (by assumption) rfl (by assumption) rfl rfl ?_; intro w1 b4 hn4 hS1
  refine L_cons ?_
  refine O_bx64 (by assumption) rfl (by assumption) rfl rfl ?_; intro w2 b5 hn5 hS2
  refine L_cons ?_
  refine O_al (by assumption) zc45 (by decide) ?_; intro w3 b6 hn6 hS3
  refine L_cons ?_
  refine O_al (by assumption) zc45 (by decide) ?_; intro w4 b7 hn7 hS4
  repeat' (first
    | (refine L_cons ?_)
    | (refine R_cons rfl ?_)
    | (refine W_seq ?_)
    | (refine W_region (by kernel_rfl) ?_)
    | (refine L_nil ?_)
    | (refine R_nil ?_)
    | (refine W_block ?_)
    | (refine W_skip ?_)
    | (refine W_exit ?_)
    | (refine W_ret ?_)
    | (guard_target =~ thenQ _ _ _ _ _; first | (refine T_next ?_) | (refine T_exit ?_) | (refine T_ret ?_))
    | (guard_target =~ blockQ _ _ _ _ _; first | (refine B_next ?_) | (refine B_same ?_) | (refine B_other (by kernel_rfl) ?_) | (refine B_ret ?_))
    | (refine W_true rfl rfl ?_)
    | (refine W_false rfl rfl ?_)
    | (guard_target =~ WO _ _ (Oper.mk _ (Op.call (Call.mk (Callee.value (Operand.func 85)) _ _)) _ _ _ none) _ _ _ _; first | (refine O_rd (l := [.pointer (some ⟨s, 0, none⟩), .agg (ns .u8 20 _), .agg (ns .u64 4 _)]) (by assumption) cl85 rfl (peekSlot_ok (TS.t (by assumption)) (hV.ext (TS.e (by assumption))) hI (by assumption) (by assumption)) ?_; rintro _ w4 ⟨at_, rfl, hat⟩ hS4 hE4))
    | (guard_target =~ WO _ _ (Oper.mk _ (Op.indexAddr 79 _ _) _ _ _ none) _ _ _ _; first | (refine O_ixN (by assumption) (by repeat (first | exact List.Mem.head _ | refine List.Mem.tail _ ?_)) sl79 rfl rfl (by omega) (by omega) ?_; rintro bS m hm6 hcap6 hbS hS6) | (refine O_ixK (by assumption) (by repeat (first | exact List.Mem.head _ | refine List.Mem.tail _ ?_)) sl79 rfl rfl (by omega) (by omega) ?_; rintro _ _ _) | (refine O_ixN (by assumption) (by repeat (first | exact List.Mem.head _ | refine List.Mem.tail _ ?_)) sl79 rfl rfl (by omega) (by omega) ?_; rintro _ _ _ _ _ _))
    | (guard_target =~ WO _ _ (Oper.mk _ (Op.load 78 _) _ _ _ none) _ _ _ _; first | (refine O_ldV (by assumption) on78 rfl hV.acc hV.lt ?_))
    | (guard_target =~ WO _ _ (Oper.mk _ (Op.load 79 _) _ _ _ none) _ _ _ _; first | (refine O_ldV (by assumption) on79 rfl hV.slo hV.lt ?_) | (refine O_lds (t' := 153) (by assumption) (by repeat (first | exact List.Mem.head _ | refine List.Mem.tail _ ?_)) on79 rfl (by first | omega | (simp only [csz]; omega)) (by first | rfl | exact layMod rfl rfl) ?_; intro _ _ _ _ _ _))
    | (guard_target =~ WO _ _ (Oper.mk _ (Op.load 81 _) _ _ _ none) _ _ _ _; first | (refine O_ldV (by assumption) on81 rfl hV.jou hV.lt ?_))
    | (guard_target =~ WO _ _ (Oper.mk _ (Op.load 46 _) _ _ _ none) _ _ _ _; first | (refine O_ldV (by assumption) on46 rfl hV.log hV.lt ?_))
    | (guard_target =~ WO _ _ (Oper.mk _ (Op.load 83 _) _ _ _ none) _ _ _ _; first | (refine O_ldV (by assumption) on83 rfl hV.tem hV.lt ?_))
    | (guard_target =~ WO _ _ (Oper.mk _ (Op.load 84 _) _ _ _ none) _ _ _ _; first | (refine O_ldV (by assumption) on84 rfl hV.tta hV.lt ?_))
    | (guard_target =~ WO _ _ (Oper.mk _ (Op.load 21 _) _ _ _ none) _ _ _ _; first | (refine O_ldV (by assumption) on21 rfl hV.nmk hV.lt ?_))
    | (guard_target =~ WO _ _ (Oper.mk _ (Op.load 27 _) _ _ _ none) _ _ _ _; first | (refine O_ldV (by assumption) on27 rfl hV.rf hV.lt ?_))
    | (guard_target =~ WO _ _ (Oper.mk _ (Op.box 24 _) _ _ _ none) _ _ _ _; first | (refine O_bx8 (by assumption) rfl (by assumption) rfl rfl ?_; intro _ _ _ _))
    | (guard_target =~ WO _ _ (Oper.mk _ (Op.box 45 _) _ _ _ none) _ _ _ _; first | (refine O_bx64 (by assumption) rfl (by assumption) rfl rfl ?_; intro _ _ _ _))
    | (guard_target =~ WO _ _ (Oper.mk _ (Op.alloc 45) _ _ _ none) _ _ _ _; first | (refine O_al (by assumption) zc45 (by decide) ?_; intro _ _ _ _))
    | (guard_target =~ WO _ _ (Oper.mk _ (Op.assign _) _ _ _ none) _ _ _ _; first | (refine O_assign (v := (.int _ _)) rfl ?_) | (refine O_assign (v := (.bool _)) rfl ?_) | (refine O_assign (v := (.pointer _)) rfl ?_) | (refine O_assign (v := (.slice _ _ _)) rfl ?_) | (refine O_assign (v := (.agg _)) rfl ?_) | (refine O_assign (v := (.tuple _)) rfl ?_))
    | (guard_target =~ WO _ _ (Oper.mk _ (Op.move _) _ _ _ none) _ _ _ _; first | (refine O_move (v := (.int _ _)) rfl ?_) | (refine O_move (v := (.bool _)) rfl ?_) | (refine O_move (v := (.pointer _)) rfl ?_) | (refine O_move (v := (.slice _ _ _)) rfl ?_) | (refine O_move (v := (.agg _)) rfl ?_) | (refine O_move (v := (.tuple _)) rfl ?_))
    | (guard_target =~ WO _ _ (Oper.mk _ (Op.load 24 _) _ _ _ none) _ _ _ _; first | (refine O_ldn8 (by assumption) (by repeat (first | exact List.Mem.head _ | refine List.Mem.tail _ ?_)) ag24 rfl (by first | omega | (simp only [csz]; omega)) (by first | exact layRun0 rfl rfl | exact layRun rfl rfl rfl) ?_; intro _ _))
    | (guard_target =~ WO _ _ (Oper.mk _ (Op.load 45 _) _ _ _ none) _ _ _ _; first | (refine O_ldn64 (by assumption) (by repeat (first | exact List.Mem.head _ | refine List.Mem.tail _ ?_)) ag45 rfl (by first | omega | (simp only [csz]; omega)) (by first | exact layRun0 rfl rfl | exact layRun rfl rfl rfl) ?_; intro _ _))
    | (guard_target =~ WO _ _ (Oper.mk _ (Op.binOp BinOp.geq 21 _ _ _) _ _ _ none) _ _ _ _; first | (first | (refine O_geqS rfl rfl (fun h => absurd h (by omega)) ?_; intro _) | (refine O_geqS rfl rfl ?_ (fun h => absurd h (by omega)); intro _) | (refine O_geqS rfl rfl ?_ ?_ <;> intro _)))
    | (guard_target =~ WO _ _ (Oper.mk _ (Op.nilCheck _) _ _ _ none) _ _ _ _; first | (refine O_nil rfl ?_))
    | (guard_target =~ WO _ _ (Oper.mk _ (Op.fieldAddr 86 _ 1) _ _ _ none) _ _ _ _; first | (refine O_fdT fd86_1 (by decide) rfl ?_) | (refine O_field fd86_1 (by decide) rfl ?_))
    | (guard_target =~ WO _ _ (Oper.mk _ (Op.fieldAddr 153 _ 2) _ _ _ none) _ _ _ _; first | (refine O_fdT fd153_2 (by decide) rfl ?_) | (refine O_field fd153_2 (by decide) rfl ?_))
    | (guard_target =~ WO _ _ (Oper.mk _ (Op.fieldAddr 153 _ 3) _ _ _ none) _ _ _ _; first | (refine O_fdT fd153_3 (by decide) rfl ?_) | (refine O_field fd153_3 (by decide) rfl ?_))
    | (guard_target =~ WO _ _ (Oper.mk _ (Op.fieldAddr 153 _ 4) _ _ _ none) _ _ _ _; first | (refine O_fdT fd153_4 (by decide) rfl ?_) | (refine O_field fd153_4 (by decide) rfl ?_))
    | (guard_target =~ WO _ _ (Oper.mk _ (Op.load 4 _) _ _ _ none) _ _ _ _; first | (refine O_ldb (by assumption) (by repeat (first | exact List.Mem.head _ | refine List.Mem.tail _ ?_)) on4 rfl (by first | omega | (simp only [csz]; omega)) (by first | rfl | exact layMod rfl rfl) ?_ ?_))
    | (guard_target =~ WO _ _ (Oper.mk _ (Op.store 45 _ _) _ _ _ none) _ _ _ _; first | (refine O_stn64 (by assumption) (by repeat (first | exact List.Mem.head _ | refine List.Mem.tail _ ?_)) (by omega) ag45 rfl rfl (by assumption) (by first | omega | (simp only [csz]; omega)) (by first | exact layRun0 rfl rfl | exact layRun rfl rfl rfl) rfl ?_; intro _ _))
    | (guard_target =~ WO _ _ (Oper.mk _ (Op.build 45 #[]) _ _ _ none) _ _ _ _; first | (refine O_bdn64 (l := []) (by assumption) ar45 zc45 rfl rfl rfl rfl trivial ?_; intro _ _)))
  · have hm : m < σ.ns := by omega
    refine W_inv (fun w' => TS B w w' ((45, some ⟨b6, 0, none⟩, 1, 1) :: (45, some ⟨b7, 0, none⟩, 1, 1) :: (153, some ⟨bS, 0, none⟩, σ.ns, σ.cS) :: [(86, some ⟨s, 0, none⟩, 1, 1), (148, σ.aA, σ.na, σ.cA), (153, σ.aS, σ.ns, σ.cS), (178, σ.aJ, σ.nj, σ.cJ), (126, σ.aL, σ.nl, σ.cL), (172, σ.aT, σ.nt, σ.cT), (21, σ.aH, σ.nh, σ.cH)]) []) (fun j v => match j with | 0 => v = .pointer (some ⟨bS, m * 14 + 0, none⟩) | 1 => v = .pointer (some ⟨bS, m * 14 + 0, none⟩) | 2 => v = .pointer (some ⟨bS, m * 14 + (0 + 5), none⟩) | 3 => ∃ f : Nat → Nat, (∀ i, f i < 18446744073709551616) ∧ v = .agg (ns .u64 4 f) | 4 => v = .pointer (some ⟨bS, m * 14 + 0, none⟩) | 5 => v = .pointer (some ⟨bS, m * 14 + 0, none⟩) | 6 => v = .pointer (some ⟨bS, m * 14 + (0 + 9), none⟩) | 7 => ∃ f : Nat → Nat, (∀ i, f i < 18446744073709551616) ∧ v = .agg (ns .u64 4 f) | 8 => v = .pointer (some ⟨bS, m * 14 + 0, none⟩) | 9 => v = .pointer (some ⟨bS, m * 14 + 0, none⟩) | 10 => v = .pointer (some ⟨bS, m * 14 + (0 + 13), none⟩) | 11 => ∃ p : Bool, v = .bool p | 12 => True | 13 => True | 14 => ∃ p : Bool, v = .bool p | _ => True) mixed (by kernel_rfl) ?_ ?_ ?_
    · exact TS.drew (TS.pick (by assumption) (by repeat (first | exact List.Mem.head _ | refine List.Mem.tail _ ?_)) (TS.pick (by assumption) (by repeat (first | exact List.Mem.head _ | refine List.Mem.tail _ ?_)) (TS.addL (hV.at (by assumption)) (hbS ▸ (hV.ext (TS.e (by assumption))).sS))))
    · intro i o ho ρ w5 hJ2 hk hA
      have hi : i < 15 := (Array.getElem?_eq_some_iff.1 ho).1
      have e10 : ρ 10 = .pointer (some ⟨bS, m * 14 + 0, none⟩) := (hk.get (by kernel_rfl)).trans rfl
      have e6 : ρ 6 = .pointer (some ⟨b6, 0, none⟩) := (hk.get (by kernel_rfl)).trans rfl
      have e7 : ρ 7 = .pointer (some ⟨b7, 0, none⟩) := (hk.get (by kernel_rfl)).trans rfl
      have hor : i = 0 ∨ i = 1 ∨ i = 2 ∨ i = 3 ∨ i = 4 ∨ i = 5 ∨ i = 6 ∨ i = 7 ∨ i = 8 ∨ i = 9 ∨ i = 10 ∨ i = 11 ∨ i = 12 ∨ i = 13 ∨ i = 14 := by omega
      rcases hor with rfl | rfl | rfl | rfl | rfl | rfl | rfl | rfl | rfl | rfl | rfl | rfl | rfl | rfl | rfl
      · cases Option.some.inj ho
        exact O_move (v := .pointer (some ⟨bS, m * 14 + 0, none⟩)) e10 ⟨hJ2, _, rfl, rfl⟩
      · cases Option.some.inj ho
        exact O_nil (hA 0 _ 23 (mem_direct (by kernel_rfl)) rfl rfl) ⟨hJ2, _, rfl, rfl⟩
      · cases Option.some.inj ho
        exact O_fdT fd153_2 (by decide) (hA 1 _ 24 (mem_direct (by kernel_rfl)) rfl rfl) ⟨hJ2, _, rfl, rfl⟩
      · cases Option.some.inj ho
        exact O_ldn64 hJ2 (by repeat (first | exact List.Mem.head _ | refine List.Mem.tail _ ?_)) ag45 (hA 2 _ 25 (mem_direct (by kernel_rfl)) rfl rfl) (by simp only [csz]; omega) (layRun rfl rfl rfl) fun f hf => ⟨hJ2, _, rfl, f, hf, rfl⟩
      · cases Option.some.inj ho
        exact O_move (v := .pointer (some ⟨bS, m * 14 + 0, none⟩)) e10 ⟨hJ2, _, rfl, rfl⟩
      · cases Option.some.inj ho
        exact O_nil (hA 4 _ 27 (mem_direct (by kernel_rfl)) rfl rfl) ⟨hJ2, _, rfl, rfl⟩
      · cases Option.some.inj ho
        exact O_fdT fd153_3 (by decide) (hA 5 _ 28 (mem_direct (by kernel_rfl)) rfl rfl) ⟨hJ2, _, rfl, rfl⟩
      · cases Option.some.inj ho
        exact O_ldn64 hJ2 (by repeat (first | exact List.Mem.head _ | refine List.Mem.tail _ ?_)) ag45 (hA 6 _ 29 (mem_direct (by kernel_rfl)) rfl rfl) (by simp only [csz]; omega) (layRun rfl rfl rfl) fun f hf => ⟨hJ2, _, rfl, f, hf, rfl⟩
      · cases Option.some.inj ho
        exact O_move (v := .pointer (some ⟨bS, m * 14 + 0, none⟩)) e10 ⟨hJ2, _, rfl, rfl⟩
      · cases Option.some.inj ho
        exact O_nil (hA 8 _ 31 (mem_direct (by kernel_rfl)) rfl rfl) ⟨hJ2, _, rfl, rfl⟩
      · cases Option.some.inj ho
        exact O_fdT fd153_4 (by decide) (hA 9 _ 32 (mem_direct (by kernel_rfl)) rfl rfl) ⟨hJ2, _, rfl, rfl⟩
      · cases Option.some.inj ho
        exact O_ldb hJ2 (by repeat (first | exact List.Mem.head _ | refine List.Mem.tail _ ?_)) on4 (hA 10 _ 33 (mem_direct (by kernel_rfl)) rfl rfl) (by simp only [csz]; omega) (layMod rfl rfl) ⟨hJ2, _, rfl, _, rfl⟩ ⟨hJ2, _, rfl, _, rfl⟩
      · cases Option.some.inj ho
        obtain ⟨f1, hf1, ef1⟩ := (hA 3 _ 26 (mem_direct (by kernel_rfl)) rfl rfl); exact O_stn64 hJ2 (by repeat (first | exact List.Mem.head _ | refine List.Mem.tail _ ?_)) (by omega) ag45 e6 ef1 hf1 (by simp only [csz]; omega) (layRun0 rfl rfl) rfl fun w6 hS6 => ⟨hS6, undef, rfl, trivial⟩
      · cases Option.some.inj ho
        obtain ⟨f1, hf1, ef1⟩ := (hA 7 _ 30 (mem_direct (by kernel_rfl)) rfl rfl); exact O_stn64 hJ2 (by repeat (first | exact List.Mem.head _ | refine List.Mem.tail _ ?_)) (by omega) ag45 e7 ef1 hf1 (by simp only [csz]; omega) (layRun0 rfl rfl) rfl fun w6 hS6 => ⟨hS6, undef, rfl, trivial⟩
      · cases Option.some.inj ho
        obtain ⟨p1, ep1⟩ := (hA 11 _ 34 (mem_direct (by kernel_rfl)) rfl rfl); exact O_assign (v := .bool p1) ep1 ⟨hJ2, _, rfl, p1, rfl⟩
    · intro ρ w5 hJ2 hk hA
      have e6 : ρ 6 = .pointer (some ⟨b6, 0, none⟩) := (hk.get (by kernel_rfl)).trans rfl
      have e7 : ρ 7 = .pointer (some ⟨b7, 0, none⟩) := (hk.get (by kernel_rfl)).trans rfl
      repeat' (first
        | (refine L_cons ?_)
        | (refine R_cons rfl ?_)
        | (refine W_seq ?_)
        | (refine W_region (by kernel_rfl) ?_)
        | (refine L_nil ?_)
        | (refine R_nil ?_)
        | (refine W_block ?_)
        | (refine W_skip ?_)
        | (refine W_exit ?_)
        | (refine W_ret ?_)
        | (guard_target =~ thenQ _ _ _ _ _; first | (refine T_next ?_) | (refine T_exit ?_) | (refine T_ret ?_))
        | (guard_target =~ blockQ _ _ _ _ _; first | (refine B_next ?_) | (refine B_same ?_) | (refine B_other (by kernel_rfl) ?_) | (refine B_ret ?_))
        | (refine W_true rfl rfl ?_)
        | (refine W_false rfl rfl ?_)
        | (guard_target =~ WO _ _ (Oper.mk _ (Op.load 78 _) _ _ _ none) _ _ _ _; first | (refine O_ldV (by assumption) on78 rfl hV.acc hV.lt ?_))
        | (guard_target =~ WO _ _ (Oper.mk _ (Op.load 79 _) _ _ _ none) _ _ _ _; first | (refine O_ldV (by assumption) on79 rfl hV.slo hV.lt ?_) | (refine O_lds (t' := 153) (by assumption) (by repeat (first | exact List.Mem.head _ | refine List.Mem.tail _ ?_)) on79 rfl (by first | omega | (simp only [csz]; omega)) (by first | rfl | exact layMod rfl rfl) ?_; intro _ _ _ _ _ _))
        | (guard_target =~ WO _ _ (Oper.mk _ (Op.load 81 _) _ _ _ none) _ _ _ _; first | (refine O_ldV (by assumption) on81 rfl hV.jou hV.lt ?_))
        | (guard_target =~ WO _ _ (Oper.mk _ (Op.load 46 _) _ _ _ none) _ _ _ _; first | (refine O_ldV (by assumption) on46 rfl hV.log hV.lt ?_))
        | (guard_target =~ WO _ _ (Oper.mk _ (Op.load 83 _) _ _ _ none) _ _ _ _; first | (refine O_ldV (by assumption) on83 rfl hV.tem hV.lt ?_))
        | (guard_target =~ WO _ _ (Oper.mk _ (Op.load 84 _) _ _ _ none) _ _ _ _; first | (refine O_ldV (by assumption) on84 rfl hV.tta hV.lt ?_))
        | (guard_target =~ WO _ _ (Oper.mk _ (Op.load 21 _) _ _ _ none) _ _ _ _; first | (refine O_ldV (by assumption) on21 rfl hV.nmk hV.lt ?_))
        | (guard_target =~ WO _ _ (Oper.mk _ (Op.load 27 _) _ _ _ none) _ _ _ _; first | (refine O_ldV (by assumption) on27 rfl hV.rf hV.lt ?_))
        | (guard_target =~ WC _ _ (Code.region 4 _ true) _ _ _; first | (refine W_drawnT (id := 4) [12, 13] [0, 1, 2, 3, 4, 5, 6, 7, 8, 9, 10, 11, 12, 13, 14] mixed (by kernel_rfl) (by kernel_rfl) (by assumption) ?_; intro _ _ _))
        | (guard_target =~ WO _ _ (Oper.mk _ (Op.box 24 _) _ _ _ none) _ _ _ _; first | (refine O_bx8 (by assumption) rfl (by assumption) rfl rfl ?_; intro _ _ _ _))
        | (guard_target =~ WO _ _ (Oper.mk _ (Op.box 45 _) _ _ _ none) _ _ _ _; first | (refine O_bx64 (by assumption) rfl (by assumption) rfl rfl ?_; intro _ _ _ _))
        | (guard_target =~ WO _ _ (Oper.mk _ (Op.alloc 45) _ _ _ none) _ _ _ _; first | (refine O_al (by assumption) zc45 (by decide) ?_; intro _ _ _ _))
        | (guard_target =~ WO _ _ (Oper.mk _ (Op.assign _) _ _ _ none) _ _ _ _; first | (refine O_assign (v := (.int _ _)) rfl ?_) | (refine O_assign (v := (.bool _)) rfl ?_) | (refine O_assign (v := (.pointer _)) rfl ?_) | (refine O_assign (v := (.slice _ _ _)) rfl ?_) | (refine O_assign (v := (.agg _)) rfl ?_) | (refine O_assign (v := (.tuple _)) rfl ?_))
        | (guard_target =~ WO _ _ (Oper.mk _ (Op.move _) _ _ _ none) _ _ _ _; first | (refine O_move (v := (.int _ _)) rfl ?_) | (refine O_move (v := (.bool _)) rfl ?_) | (refine O_move (v := (.pointer _)) rfl ?_) | (refine O_move (v := (.slice _ _ _)) rfl ?_) | (refine O_move (v := (.agg _)) rfl ?_) | (refine O_move (v := (.tuple _)) rfl ?_))
        | (guard_target =~ WO _ _ (Oper.mk _ (Op.load 24 _) _ _ _ none) _ _ _ _; first | (refine O_ldn8 (by assumption) (by repeat (first | exact List.Mem.head _ | refine List.Mem.tail _ ?_)) ag24 rfl (by first | omega | (simp only [csz]; omega)) (by first | exact layRun0 rfl rfl | exact layRun rfl rfl rfl) ?_; intro _ _))
        | (guard_target =~ WO _ _ (Oper.mk _ (Op.load 45 _) _ _ _ none) _ _ _ _; first | (refine O_ldn64 (by assumption) (by repeat (first | exact List.Mem.head _ | refine List.Mem.tail _ ?_)) ag45 rfl (by first | omega | (simp only [csz]; omega)) (by first | exact layRun0 rfl rfl | exact layRun rfl rfl rfl) ?_; intro _ _))
        | (guard_target =~ WO _ _ (Oper.mk _ (Op.binOp BinOp.geq 21 _ _ _) _ _ _ none) _ _ _ _; first | (first | (refine O_geqS rfl rfl (fun h => absurd h (by omega)) ?_; intro _) | (refine O_geqS rfl rfl ?_ (fun h => absurd h (by omega)); intro _) | (refine O_geqS rfl rfl ?_ ?_ <;> intro _)))
        | (guard_target =~ WO _ _ (Oper.mk _ (Op.nilCheck _) _ _ _ none) _ _ _ _; first | (refine O_nil rfl ?_))
        | (guard_target =~ WO _ _ (Oper.mk _ (Op.fieldAddr 86 _ 1) _ _ _ none) _ _ _ _; first | (refine O_fdT fd86_1 (by decide) rfl ?_) | (refine O_field fd86_1 (by decide) rfl ?_))
        | (guard_target =~ WO _ _ (Oper.mk _ (Op.indexAddr 79 _ _) _ _ _ none) _ _ _ _; first | (refine O_ixK (by assumption) (by repeat (first | exact List.Mem.head _ | refine List.Mem.tail _ ?_)) sl79 rfl rfl (by omega) (by omega) ?_; rintro _ _ _) | (refine O_ixN (by assumption) (by repeat (first | exact List.Mem.head _ | refine List.Mem.tail _ ?_)) sl79 rfl rfl (by omega) (by omega) ?_; rintro _ _ _ _ _ _))
        | (guard_target =~ WO _ _ (Oper.mk _ (Op.fieldAddr 153 _ 2) _ _ _ none) _ _ _ _; first | (refine O_fdT fd153_2 (by decide) rfl ?_) | (refine O_field fd153_2 (by decide) rfl ?_))
        | (guard_target =~ WO _ _ (Oper.mk _ (Op.fieldAddr 153 _ 3) _ _ _ none) _ _ _ _; first | (refine O_fdT fd153_3 (by decide) rfl ?_) | (refine O_field fd153_3 (by decide) rfl ?_))
        | (guard_target =~ WO _ _ (Oper.mk _ (Op.fieldAddr 153 _ 4) _ _ _ none) _ _ _ _; first | (refine O_fdT fd153_4 (by decide) rfl ?_) | (refine O_field fd153_4 (by decide) rfl ?_))
        | (guard_target =~ WO _ _ (Oper.mk _ (Op.load 4 _) _ _ _ none) _ _ _ _; first | (refine O_ldb (by assumption) (by repeat (first | exact List.Mem.head _ | refine List.Mem.tail _ ?_)) on4 rfl (by first | omega | (simp only [csz]; omega)) (by first | rfl | exact layMod rfl rfl) ?_ ?_))
        | (guard_target =~ WO _ _ (Oper.mk _ (Op.store 45 _ _) _ _ _ none) _ _ _ _; first | (refine O_stn64 (by assumption) (by repeat (first | exact List.Mem.head _ | refine List.Mem.tail _ ?_)) (by omega) ag45 rfl rfl (by assumption) (by first | omega | (simp only [csz]; omega)) (by first | exact layRun0 rfl rfl | exact layRun rfl rfl rfl) rfl ?_; intro _ _))
        | (guard_target =~ WO _ _ (Oper.mk _ (Op.build 45 #[]) _ _ _ none) _ _ _ _; first | (refine O_bdn64 (l := []) (by assumption) ar45 zc45 rfl rfl rfl rfl trivial ?_; intro _ _)))
      obtain ⟨pw, epw⟩ : ∃ p, ρ 8 = .bool p := hA 14 _ 8 rfl rfl
      obtain ⟨g1, hg1, hb1⟩ := TS.word (b := b6) (by assumption) (by repeat (first | exact List.Mem.head _ | refine List.Mem.tail _ ?_))
      obtain ⟨g2, hg2, hb2⟩ := TS.word (b := b7) (by assumption) (by repeat (first | exact List.Mem.head _ | refine List.Mem.tail _ ?_))
      exact E_cct rfl rfl rfl rfl ag45 ag45 e6 e7 epw hb1 hb2 (ns_size _ _ _) (ns_size _ _ _) ⟨TS.e (by assumption), TS.t (by assumption), g1, g2, _, hg1, hg2, rfl⟩
  · obtain ⟨g1, hg1, hb1⟩ := TS.word (b := b6) (by assumption) (by repeat (first | exact List.Mem.head _ | refine List.Mem.tail _ ?_))
    obtain ⟨g2, hg2, hb2⟩ := TS.word (b := b7) (by assumption) (by repeat (first | exact List.Mem.head _ | refine List.Mem.tail _ ?_))
    exact E_cct rfl rfl rfl rfl ag45 ag45 rfl rfl rfl hb1 hb2 (ns_size _ _ _) (ns_size _ _ _) ⟨TS.e (by assumption), TS.t (by assumption), g1, g2, _, hg1, hg2, rfl⟩
end Go.Proofs.Ygcsam
