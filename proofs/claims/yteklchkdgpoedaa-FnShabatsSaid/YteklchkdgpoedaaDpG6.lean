/- DpMf, DpMj, DpMl -/
import Derived.Test.YteklchkdgpoedaaDpG4
import Derived.Test.YteklchkdgpoedaaDpG5
/- Draws of polynomials: l06Pair, l06Some, and what the laws draw. -/
set_option linter.unusedVariables false
set_option linter.unusedSimpArgs false
set_option linter.unusedSectionVars false
namespace Go.Bm
open Go Go.Am
section
variable {code : List Nat} {a : Nat} {h : Int} {H : BH} {x : Bool}
theorem NN_II {xs : List Int} {c : Int} : NN (.tuple ⟨[FI xs, I c]⟩) := NN.tuple (NNL.cons .fz (NNL.cons .int NNL.nil))
theorem l06Some_one {K : Value → BH → Prop} (ha : a ≤ code.length) (hl : code.length ≤ 1048576) (hcd : ∀ i, nl code i < 256)
    (hK : ∀ xs a' h', a' ≤ code.length → xs.length ≤ 1000 → K (FI xs) [some (SC code a' h')]) : CallX false F_spec_l06Some [P 0 0] [some (SC code a h)] K := by
  refine CallX_body Γ_spec_l06Some ?_; simp only [A_spec_l06Some, T_aiff]
  refine T_rseq fun Kr hKr => ?_; simp (disch := omega) only [RA, ↓reduceIte, Nat.reduceEqDiff, RD]; refine hKr _ _ ?_; clear hKr Kr; (try simp only [RN, reduceIte]); try refine T_e rfl ?_
  refine T_rseq fun Kr hKr => ?_; simp (disch := omega) only [RA, ↓reduceIte, Nat.reduceEqDiff, RD]
  refine l01Next_spec (i := 0) rfl ha hl hcd (by omega) fun v a h hA k2 k3 k4 k5 => ?_
  have hv := k4 (by omega)
  clear k3 k4 k5 ha
  simp (disch := omega) only [RA, ↓reduceIte, Nat.reduceEqDiff, Nat.reduceLeDiff, reduceCtorEq, RD]
  refine hKr _ _ ?_; clear hKr Kr; (try simp only [blkQ, thenQ, loopQ]); (try simp only [RN, reduceIte]); try refine T_e rfl ?_
  (first | refine T_bfree rfl ?_ | refine T_bfree' rfl ?_); (try simp only [RN, reduceIte]); try refine T_e rfl ?_
  refine T_rseq fun Kr hKr => ?_; simp (disch := omega) only [RA, ↓reduceIte, Nat.reduceEqDiff, RD]; refine hKr _ _ ?_; clear hKr Kr; (try simp only [RN, reduceIte]); try refine T_e rfl ?_
  refine T_csplit (p := v = 0) (by simp only [RA, ↓reduceIte, Nat.reduceEqDiff] <;> rfl) (by (try simp only [RB]) <;> first | done | exact Iff.rfl | omega | simp) (fun hc => ?_) (fun hc => ?_) <;> (try simp only [RN, reduceIte]) <;> (try refine T_e rfl ?_)
  · refine T_rseq fun Kr hKr => ?_; simp (disch := omega) only [RA, ↓reduceIte, Nat.reduceEqDiff, reduceCtorEq, RD]
    refine l01Next_spec (i := 0) rfl hA hl hcd (by omega) fun p a h hA _ _ _ _ => ?_
    simp (disch := omega) only [RA, ↓reduceIte, Nat.reduceEqDiff, Nat.reduceLeDiff, reduceCtorEq, RD]
    refine l01Next_spec (i := 0) rfl hA hl hcd (by omega) fun n a h hA m2 _ m4 _ => ?_
    have hn := m4 (by omega)
    obtain ⟨c, rfl⟩ : ∃ c : Nat, n = c := ⟨n.toNat, by omega⟩
    have e1 : (1 : Int) + c = ((c + 1 : Nat) : Int) := by omega
    simp (disch := omega) only [RA, ↓reduceIte, Nat.reduceEqDiff, RD, e1]
    refine l06Monomial_L (by omega) ?_
    simp (disch := omega) only [RA, ↓reduceIte, Nat.reduceEqDiff, Nat.reduceLeDiff, reduceCtorEq, RD]
    refine hKr _ _ ?_; clear hKr Kr; (try simp only [blkQ, thenQ, loopQ]); (try simp only [RN, reduceIte]); try refine T_e rfl ?_
    refine bodyQ_ret (by simp (disch := omega) only [RA, ↓reduceIte, Nat.reduceEqDiff, RD, resAll, resOf]; rfl) GhV.refl ?_; simp only [tup]
    exact hK _ a h hA (by simp [monom]; omega)
  refine T_rseq fun Kr hKr => ?_; simp (disch := omega) only [RA, ↓reduceIte, Nat.reduceEqDiff, RD]; refine hKr _ _ ?_; clear hKr Kr; (try simp only [RN, reduceIte]); try refine T_e rfl ?_
  refine T_csplit (p := v = 1) (by simp only [RA, ↓reduceIte, Nat.reduceEqDiff] <;> rfl) (by (try simp only [RB]) <;> first | done | exact Iff.rfl | omega | simp) (fun hc => ?_) (fun hc => ?_) <;> (try simp only [RN, reduceIte]) <;> (try refine T_e rfl ?_)
  · refine T_rseq fun Kr hKr => ?_; simp (disch := omega) only [RA, ↓reduceIte, Nat.reduceEqDiff, reduceCtorEq, RD]
    refine l01Next_spec (i := 0) rfl hA hl hcd (by omega) fun n a h hA m2 _ m4 _ => ?_
    have hn := m4 (by omega)
    obtain ⟨c, rfl⟩ : ∃ c : Nat, n = c := ⟨n.toNat, by omega⟩
    have e1 : (1 : Int) + c = ((c + 1 : Nat) : Int) := by omega
    simp (disch := omega) only [RA, ↓reduceIte, Nat.reduceEqDiff, RD, e1]
    refine l06Chain_L (by omega) ?_
    simp (disch := omega) only [RA, ↓reduceIte, Nat.reduceEqDiff, Nat.reduceLeDiff, reduceCtorEq, RD]
    refine hKr _ _ ?_; clear hKr Kr; (try simp only [blkQ, thenQ, loopQ]); (try simp only [RN, reduceIte]); try refine T_e rfl ?_
    refine bodyQ_ret (by simp (disch := omega) only [RA, ↓reduceIte, Nat.reduceEqDiff, RD, resAll, resOf]; rfl) GhV.refl ?_; simp only [tup]
    exact hK _ a h hA (by have := (chain_len c).2; omega)
  refine T_rseq fun Kr hKr => ?_; simp (disch := omega) only [RA, ↓reduceIte, Nat.reduceEqDiff, RD]; refine hKr _ _ ?_; clear hKr Kr; (try simp only [RN, reduceIte]); try refine T_e rfl ?_
  refine T_csplit (p := v = 2) (by simp only [RA, ↓reduceIte, Nat.reduceEqDiff] <;> rfl) (by (try simp only [RB]) <;> first | done | exact Iff.rfl | omega | simp) (fun hc => ?_) (fun hc => ?_) <;> (try simp only [RN, reduceIte]) <;> (try refine T_e rfl ?_)
  · refine T_rseq fun Kr hKr => ?_; simp (disch := omega) only [RA, ↓reduceIte, Nat.reduceEqDiff, reduceCtorEq, RD]
    refine l01Next_spec (i := 0) rfl hA hl hcd (by omega) fun n a h hA m2 _ m4 _ => ?_
    have hn := m4 (by omega)
    obtain ⟨c, rfl⟩ : ∃ c : Nat, n = c := ⟨n.toNat, by omega⟩
    have e1 : (1 : Int) + c = ((c + 1 : Nat) : Int) := by omega
    clear m2 m4
    simp (disch := omega) only [RA, ↓reduceIte, Nat.reduceEqDiff, Nat.reduceLeDiff, reduceCtorEq, RD]
    refine l01Next_spec (i := 0) rfl hA hl hcd (by omega) fun n a h hA m2 _ m4 _ => ?_
    have hn2 := m4 (by omega)
    obtain ⟨d, rfl⟩ : ∃ d : Nat, n = d := ⟨n.toNat, by omega⟩
    have e2 : (1 : Int) + d = ((d + 1 : Nat) : Int) := by omega
    simp (disch := omega) only [RA, ↓reduceIte, Nat.reduceEqDiff, RD, e1, e2]
    refine l06Fork_L (by omega) (by omega) (by omega) ?_
    simp (disch := omega) only [RA, ↓reduceIte, Nat.reduceEqDiff, Nat.reduceLeDiff, reduceCtorEq, RD]
    refine hKr _ _ ?_; clear hKr Kr; (try simp only [blkQ, thenQ, loopQ]); (try simp only [RN, reduceIte]); try refine T_e rfl ?_
    refine bodyQ_ret (by simp (disch := omega) only [RA, ↓reduceIte, Nat.reduceEqDiff, RD, resAll, resOf]; rfl) GhV.refl ?_; simp only [tup]
    exact hK _ a h hA (by have := fork_len (m := c + 1) (n := d + 1); omega)
  refine T_rseq fun Kr hKr => ?_; simp (disch := omega) only [RA, ↓reduceIte, Nat.reduceEqDiff, RD]; refine hKr _ _ ?_; clear hKr Kr; (try simp only [RN, reduceIte]); try refine T_e rfl ?_
  refine T_csplit (p := v = 3) (by simp only [RA, ↓reduceIte, Nat.reduceEqDiff] <;> rfl) (by (try simp only [RB]) <;> first | done | exact Iff.rfl | omega | simp) (fun hc => ?_) (fun hc => ?_) <;> (try simp only [RN, reduceIte]) <;> (try refine T_e rfl ?_)
  · refine T_rseq fun Kr hKr => ?_; simp (disch := omega) only [RA, ↓reduceIte, Nat.reduceEqDiff, reduceCtorEq, RD]
    refine l01Next_spec (i := 0) rfl hA hl hcd (by omega) fun n a h hA m2 _ m4 _ => ?_
    have hn := m4 (by omega)
    obtain ⟨c, rfl⟩ : ∃ c : Nat, n = c := ⟨n.toNat, by omega⟩
    have e1 : (1 : Int) + c = ((c + 1 : Nat) : Int) := by omega
    clear m2 m4
    simp (disch := omega) only [RA, ↓reduceIte, Nat.reduceEqDiff, Nat.reduceLeDiff, reduceCtorEq, RD]
    refine l01Next_spec (i := 0) rfl hA hl hcd (by omega) fun n a h hA m2 _ m4 _ => ?_
    have hn2 := m4 (by omega)
    obtain ⟨d, rfl⟩ : ∃ d : Nat, n = d := ⟨n.toNat, by omega⟩
    have e2 : (1 : Int) + d = ((d + 1 : Nat) : Int) := by omega
    clear m2 m4
    simp (disch := omega) only [RA, ↓reduceIte, Nat.reduceEqDiff, RD, e1, e2]
    refine l06Fork_L (by omega) (by omega) (by omega) ?_
    simp (disch := omega) only [RA, ↓reduceIte, Nat.reduceEqDiff, Nat.reduceLeDiff, reduceCtorEq, RD]
    refine l01Next_spec (i := 0) rfl hA hl hcd (by omega) fun n a h hA m2 _ m4 _ => ?_
    have hn3 := m4 (by omega)
    obtain ⟨c2, rfl⟩ : ∃ c : Nat, n = c := ⟨n.toNat, by omega⟩
    have e3 : (1 : Int) + c2 = ((c2 + 1 : Nat) : Int) := by omega
    clear m2 m4
    simp (disch := omega) only [RA, ↓reduceIte, Nat.reduceEqDiff, Nat.reduceLeDiff, reduceCtorEq, RD]
    refine l01Next_spec (i := 0) rfl hA hl hcd (by omega) fun n a h hA m2 _ m4 _ => ?_
    have hn4 := m4 (by omega)
    obtain ⟨d2, rfl⟩ : ∃ d : Nat, n = d := ⟨n.toNat, by omega⟩
    have e4 : (1 : Int) + d2 = ((d2 + 1 : Nat) : Int) := by omega
    simp (disch := omega) only [RA, ↓reduceIte, Nat.reduceEqDiff, RD, e3, e4]
    refine l06Fork_L (by omega) (by omega) (by omega) ?_
    simp (disch := omega) only [RA, ↓reduceIte, Nat.reduceEqDiff, Nat.reduceLeDiff, reduceCtorEq, RD]
    have l1 := fork_len (m := c + 1) (n := d + 1)
    have l2 := fork_len (m := c2 + 1) (n := d2 + 1)
    have p1 : Poly (fork (c + 1) (d + 1)) := Red.poly (xs := fork (c + 1) (d + 1)) (red_ptimes _ _) (by omega)
    have p2 : Poly (fork (c2 + 1) (d2 + 1)) := Red.poly (xs := fork (c2 + 1) (d2 + 1)) (red_ptimes _ _) (by omega)
    refine l06Compose_L p1 p2 ?_
    have l3 := comp_len (g := fork (c2 + 1) (d2 + 1)) (by omega) (fork (c + 1) (d + 1))
    simp (disch := omega) only [RA, ↓reduceIte, Nat.reduceEqDiff, Nat.reduceLeDiff, reduceCtorEq, RD]
    refine hKr _ _ ?_; clear hKr Kr; (try simp only [blkQ, thenQ, loopQ]); (try simp only [RN, reduceIte]); try refine T_e rfl ?_
    refine bodyQ_ret (by simp (disch := omega) only [RA, ↓reduceIte, Nat.reduceEqDiff, RD, resAll, resOf]; rfl) GhV.refl ?_; simp only [tup]
    exact hK _ a h hA (by omega)
  refine T_rseq fun Kr hKr => ?_; simp (disch := omega) only [RA, ↓reduceIte, Nat.reduceEqDiff, RD]; refine hKr _ _ ?_; clear hKr Kr; (try simp only [RN, reduceIte]); try refine T_e rfl ?_
  refine T_csplit (p := v = 4) (by simp only [RA, ↓reduceIte, Nat.reduceEqDiff] <;> rfl) (by (try simp only [RB]) <;> first | done | exact Iff.rfl | omega | simp) (fun hc => ?_) (fun hc => ?_) <;> (try simp only [RN, reduceIte]) <;> (try refine T_e rfl ?_)
  · refine T_rseq fun Kr hKr => ?_; simp (disch := omega) only [RA, ↓reduceIte, Nat.reduceEqDiff, reduceCtorEq, RD]
    refine l06Draw_spec (most := 3) (i := 0) rfl hA hl hcd (by omega) fun xs a h hA hx _ => ?_
    simp (disch := omega) only [RA, ↓reduceIte, Nat.reduceEqDiff, Nat.reduceLeDiff, reduceCtorEq, RD]
    refine hKr _ _ ?_; clear hKr Kr; (try simp only [blkQ, thenQ, loopQ]); (try simp only [RN, reduceIte]); try refine T_e rfl ?_
    refine T_rseq fun Kr hKr => ?_; simp (disch := omega) only [RA, ↓reduceIte, Nat.reduceEqDiff, RD]
    refine l06Is_L (by omega) ?_
    by_cases h1 : Poly xs
    · rw [decide_eq_true h1]
      simp (disch := omega) only [RA, ↓reduceIte, Nat.reduceEqDiff, Nat.reduceLeDiff, reduceCtorEq, RD]
      refine hKr _ _ ?_; clear hKr Kr; (try simp only [blkQ, thenQ, loopQ]); (try simp only [RN, reduceIte]); try refine T_e rfl ?_
      refine T_cseq (t := false) (by simp (disch := omega) only [RA, ↓reduceIte, Nat.reduceEqDiff, RD]) ?_; (try simp only [RN, reduceIte]); try refine T_e rfl ?_
      refine T_rseq fun Kr hKr => ?_; simp (disch := omega) only [RA, ↓reduceIte, Nat.reduceEqDiff, RD]
      refine l01Next_spec (i := 0) rfl hA hl hcd (by omega) fun n a h hA m2 _ m4 _ => ?_
      have hn := m4 (by omega)
      obtain ⟨c, rfl⟩ : ∃ c : Nat, n = c := ⟨n.toNat, by omega⟩
      have e1 : (1 : Int) + c = ((c + 1 : Nat) : Int) := by omega
      simp (disch := omega) only [RA, ↓reduceIte, Nat.reduceEqDiff, RD, e1]
      refine hKr _ _ ?_; clear hKr Kr; (try simp only [blkQ, thenQ, loopQ]); (try simp only [RN, reduceIte]); try refine T_e rfl ?_
      refine T_wloop (fun mm f H' => ∃ zs, Red zs ∧ zs.length + 16 * mm ≤ 60 ∧ f 3 = FI xs ∧ f 4 = FI zs ∧ f 5 = I (mm : Nat) ∧ H' = [some (SC code a h)]) (c + 1) ?_ ?_
      · exact ⟨_, _, (Gh.fz (i := 1) rfl (.cons .int .nil)).trans (Gh.nrm [0] rfl rfl (by simp only [RH, List.set_cons_succ, List.set_cons_zero, NNL_SC])), [1], red_1, by simp; omega, (by simp (disch := omega) only [RA, ↓reduceIte, Nat.reduceEqDiff, RD, RE, RZ, frz_ne, frz_all, *] <;> rfl), (by simp (disch := omega) only [RA, ↓reduceIte, Nat.reduceEqDiff, RD, RE, RZ, frz_ne, frz_all, *] <;> rfl), (by simp (disch := omega) only [RA, ↓reduceIte, Nat.reduceEqDiff, RD, RE, RZ, frz_ne, frz_all, *] <;> rfl), rfl⟩
      · rintro mm f H' R ⟨zs, hz, hzl, g3, g4, g5, rfl⟩ hN hX hR hE
        simp only [A_spec_l06Some.l0, T_aiff]
        refine T_rseq fun Kr hKr => ?_; simp (disch := omega) only [RA, ↓reduceIte, Nat.reduceEqDiff, RD, g5]; refine hKr _ _ ?_; clear hKr Kr; (try simp only [RN, reduceIte]); try refine T_e rfl ?_
        refine T_csplit (p := 0 < mm) (by simp only [RA, ↓reduceIte, Nat.reduceEqDiff] <;> rfl) (by (try simp only [RB]) <;> first | done | exact Iff.rfl | omega | simp) (fun hc => ?_) (fun hc => ?_) <;> (try simp only [RN, reduceIte]) <;> (try refine T_e rfl ?_)
        · obtain ⟨q, rfl⟩ : ∃ q, mm = q + 1 := ⟨mm - 1, by omega⟩
          have e2 : ((q + 1 : Nat) : Int) - 1 = (q : Nat) := by omega
          (first | refine T_bfree rfl ?_ | refine T_bfree' rfl ?_); (try simp only [RN, reduceIte]); try refine T_e rfl ?_
          refine T_rseq fun Kr hKr => ?_; simp (disch := omega) only [RA, ↓reduceIte, Nat.reduceEqDiff, RD, g3, g4]
          refine l06Times_L hz.fit (by omega) h1.fit (by omega) ?_
          simp (disch := omega) only [RA, ↓reduceIte, Nat.reduceEqDiff, Nat.reduceLeDiff, reduceCtorEq, RD]
          refine hKr _ _ ?_; clear hKr Kr; (try simp only [blkQ, thenQ, loopQ]); (try simp only [RN, reduceIte]); try refine T_e rfl ?_
          refine T_reg_k fun Kr hKr => ?_; simp (disch := omega) only [RA, ↓reduceIte, Nat.reduceEqDiff, RD, g5, e2]; refine hKr _ _ ?_; clear hKr Kr
          have := ptimes_len zs xs
          have := h1.2.1
          refine hN q _ _ _ _ (by omega) Gh.refl ⟨ptimes zs xs, red_ptimes _ _, by omega, ?_, ?_, ?_, rfl⟩
          any_goals (simp (disch := omega) only [RA, ↓reduceIte, Nat.reduceEqDiff, RD, RE, *] <;> rfl)
        · refine hX _ _ ?_
          (try simp only [RN, reduceIte]); try refine T_e rfl ?_
          refine T_rseq fun Kr hKr => ?_; simp (disch := omega) only [RA, ↓reduceIte, Nat.reduceEqDiff, RD, g4]; refine hKr _ _ ?_; clear hKr Kr; (try simp only [RN, reduceIte]); try refine T_e rfl ?_
          refine bodyQ_ret (by simp (disch := omega) only [RA, ↓reduceIte, Nat.reduceEqDiff, RD, resAll, resOf]; rfl) GhV.refl ?_; simp only [tup]
          exact hK zs a h hA (by omega)
    · rw [decide_eq_false h1]
      simp (disch := omega) only [RA, ↓reduceIte, Nat.reduceEqDiff, Nat.reduceLeDiff, reduceCtorEq, RD]
      refine hKr _ _ ?_; clear hKr Kr; (try simp only [blkQ, thenQ, loopQ]); (try simp only [RN, reduceIte]); try refine T_e rfl ?_
      refine T_cseq (t := true) (by simp (disch := omega) only [RA, ↓reduceIte, Nat.reduceEqDiff, RD]) ?_; (try simp only [RN, reduceIte]); try refine T_e rfl ?_
      refine T_rseq fun Kr hKr => ?_; simp (disch := omega) only [RA, ↓reduceIte, Nat.reduceEqDiff, RD]; refine hKr _ _ ?_; clear hKr Kr; (try simp only [RN, reduceIte]); try refine T_e rfl ?_
      refine bodyQ_ret (by simp (disch := omega) only [RA, ↓reduceIte, Nat.reduceEqDiff, RD, resAll, resOf, hl]; rfl) (GhV.nrm [0] rfl rfl (by simp only [RH, NNL_SC]) (by simp only [tup, RH])) ?_; simp only [tup]
      exact hK xs a h hA (by omega)
  · refine T_rseq fun Kr hKr => ?_; simp (disch := omega) only [RA, ↓reduceIte, Nat.reduceEqDiff, reduceCtorEq, RD]
    refine l06Draw_spec (most := 8) (i := 0) rfl hA hl hcd (by omega) fun xs a h hA hx _ => ?_
    simp (disch := omega) only [RA, ↓reduceIte, Nat.reduceEqDiff, Nat.reduceLeDiff, reduceCtorEq, RD]
    refine hKr _ _ ?_; clear hKr Kr; (try simp only [blkQ, thenQ, loopQ]); (try simp only [RN, reduceIte]); try refine T_e rfl ?_
    refine bodyQ_ret (by simp (disch := omega) only [RA, ↓reduceIte, Nat.reduceEqDiff, RD, resAll, resOf]; rfl) GhV.refl ?_; simp only [tup]
    exact hK xs a h hA (by omega)
theorem l06Some_spec {i : Nat} {K : Value → BH → Prop} (hb : blk H i = some (SC code a h)) (ha : a ≤ code.length) (hl : code.length ≤ 1048576) (hcd : ∀ i, nl code i < 256)
    (hK : ∀ xs a' h', a' ≤ code.length → xs.length ≤ 1000 → K (FI xs) (H.set i (some (SC code a' h')))) : CallX false F_spec_l06Some [P i 0] H K := by
  refine call1 hb NN_SC ?_
  have e : ([P i 0] : List Value).map (ren [i]) = [P 0 0] := by simp [ren, ren1, nm]
  rw [e]
  exact l06Some_one ha hl hcd fun xs a' h' k1 k2 => ⟨.fz, HN.cons NN_SC HN.nil, hK xs a' h' k1 k2⟩
theorem spec_DrawValueOf_spec {K : Value → BH → Prop} (hl : code.length ≤ 1048576) (hcd : ∀ i, nl code i < 256)
    (hK : ∀ xs v, xs.length ≤ 1000 → 0 ≤ v → v ≤ 10007 → K (.tuple ⟨[FI xs, I v]⟩) H) : CallX x F_spec_DrawValueOf [FB code] H K := by
  refine callP (.cons .fz .nil) ?_
  refine CallX_body Γ_spec_DrawValueOf ?_; simp only [A_spec_DrawValueOf, T_aiff]
  refine T_rseq fun Kr hKr => ?_; simp (disch := omega) only [RA, ↓reduceIte, Nat.reduceEqDiff, RD]; refine hKr _ _ ?_; clear hKr Kr; (try simp only [RN, reduceIte]); try refine T_e rfl ?_
  refine T_rseq fun Kr hKr => ?_; simp (disch := omega) only [RA, ↓reduceIte, Nat.reduceEqDiff, RD]
  refine l01From_spec hl hcd fun h => ?_
  simp (disch := omega) only [RA, ↓reduceIte, Nat.reduceEqDiff, RD]
  refine hKr _ _ ?_; clear hKr Kr; (try simp only [blkQ, thenQ, loopQ]); (try simp only [RN, reduceIte]); try refine T_e rfl ?_
  refine T_rseq fun Kr hKr => ?_; simp (disch := omega) only [RA, ↓reduceIte, Nat.reduceEqDiff, RD]
  refine l06Some_spec (i := 0) rfl (Nat.zero_le _) hl hcd fun xs a h hA hx => ?_
  simp (disch := omega) only [RA, ↓reduceIte, Nat.reduceEqDiff, RD]
  refine l06DrawValue_spec (i := 0) rfl hA hl hcd fun v a h hA h1 h2 => ?_
  simp (disch := omega) only [RA, ↓reduceIte, Nat.reduceEqDiff, RD]
  refine hKr _ _ ?_; clear hKr Kr; (try simp only [blkQ, thenQ, loopQ]); (try simp only [RN, reduceIte]); try refine T_e rfl ?_
  refine bodyQ_ret (by simp (disch := omega) only [RA, ↓reduceIte, Nat.reduceEqDiff, RD, resAll, resOf]; rfl) GhV.refl ?_; simp only [tup]
  exact ⟨NN_II, hK xs v hx h1 h2⟩
end
end Go.Bm

/- New slices of slices, carried over to the second machine; Shabat polynomials' functions. -/
set_option linter.unusedVariables false
set_option linter.unusedSimpArgs false
set_option linter.unusedSectionVars false
namespace Go.Bm
open Go Go.Am

theorem vz_own {Z : Nat → Option Blk} {HA : AHeap} {lo hi : Nat} {xs : List Int} {u : Value} (h : OwnI lo hi HA u xs) (hz : ∀ b, lo ≤ b → b < hi → Z b = HA.get b) : VZ Z (FI xs) u := by
  rcases h with ⟨rfl, rfl⟩ | ⟨b, rest, rfl, h1, h2, h3, h4⟩
  · exact .fz0
  · refine .fz (bk := ⟨xs.map I ++ rest, true⟩) (ds := ((xs.map I ++ rest).drop 0).take (xs.length * 1)) (by rw [hz b h1 h2, h4]) (by simp) (by simp) (by simp) rfl fun i c d k1 k2 => ?_
    rw [List.drop_zero, Nat.mul_one, List.take_append_of_le_length (by simp), List.take_of_length_le (by simp)] at k2
    rw [k1] at k2
    cases k2
    rw [List.getElem?_map, Option.map_eq_some_iff] at k1
    obtain ⟨y, _, rfl⟩ := k1
    exact .plain rfl
/-- All that was made is only read from now on. -/
theorem own_all {ρ : Nat → Option Nat} {Z : Nat → Option Blk} {H : BH} {HA HA' : AHeap} (hR : Rel ρ Z H HA) (he : Ext HA HA') :
    ∃ Z', (∀ b, HA.n ≤ b → b < HA'.n → Z' b = HA'.get b) ∧ Rel ρ Z' H HA' ∧ Frm ρ Z H HA ρ Z' H HA' := by
  have hx : ∀ c bk, Z c = some bk → (fun c => if c < HA.n then Z c else if c < HA'.n then HA'.get c else none) c = some bk := fun c bk hc => by
    have := (hR.fro c bk hc).1
    simp only [if_pos this]
    exact hc
  refine ⟨fun c => if c < HA.n then Z c else if c < HA'.n then HA'.get c else none, fun b h1 h2 => by
    show (if b < HA.n then Z b else if b < HA'.n then HA'.get b else none) = _
    rw [if_neg (by omega), if_pos h2], ⟨fun i cs hc => ?_, hR.inj, fun i cs c e1 e2 => ?_, fun c bk hz => ?_, hR.top⟩, ⟨he.n, fun b hb _ => he.get b hb, fun i cs b h1 h2 => .inr ⟨i, cs, h1, h2⟩, hx, fun c bk hz => ?_⟩⟩
  · obtain ⟨c, bk, e1, e2, e3, e4, e5⟩ := hR.liv i cs hc
    exact ⟨c, bk, e1, by have := he.n; omega, by rw [he.get c e2, e3], e4, e5.1, fun i c d k1 k2 => (e5.2 i c d k1 k2).mono (fun _ _ h => h) hx⟩
  · obtain ⟨c', bk, f1, f2, _⟩ := hR.liv i cs e1
    rw [e2] at f1
    cases f1
    show (if c < HA.n then Z c else if c < HA'.n then HA'.get c else none) = none
    rw [if_pos f2]
    exact hR.dis i cs c e1 e2
  · change (if c < HA.n then Z c else if c < HA'.n then HA'.get c else none) = some bk at hz
    split at hz
    · obtain ⟨e1, e2⟩ := hR.fro c bk hz
      exact ⟨by have := he.n; omega, by rw [he.get c e1, e2]⟩
    · split at hz
      · rename_i h
        exact ⟨h, hz⟩
      · cases hz
  · change (if c < HA.n then Z c else if c < HA'.n then HA'.get c else none) = some bk at hz
    split at hz
    · exact .inl hz
    · rename_i h
      exact .inr (.inl (by omega))
theorem vz_ownS {Z : Nat → Option Blk} {HA : AHeap} {lo hi : Nat} {xss : List (List Int)} {u : Value} (h : OwnSS lo hi HA u xss) (hz : ∀ b, lo ≤ b → b < hi → Z b = HA.get b) : VZ Z (FII xss) u := by
  rcases h with ⟨rfl, rfl⟩ | ⟨b, vs, rest, r, rfl, h1, h2, h3, h4, h5, h6, h7, h8, h9⟩
  · exact .fz0
  · refine .fz (bk := ⟨vs ++ rest, true⟩) (ds := ((vs ++ rest).drop 0).take (xss.length * 1)) (by rw [hz b h1 h2, h4]) (by simp) (by simp [h5]) (by simp [h5]) rfl fun i c d k1 k2 => ?_
    rw [List.drop_zero, Nat.mul_one, ← h5, List.take_append_of_le_length (Nat.le_refl _), List.take_length] at k2
    rw [List.getElem?_map, Option.map_eq_some_iff] at k1
    obtain ⟨ys, hy, rfl⟩ := k1
    obtain ⟨hi1, he1⟩ := List.getElem?_eq_some_iff.1 hy
    obtain ⟨hi2, he2⟩ := List.getElem?_eq_some_iff.1 k2
    obtain ⟨g1, g2⟩ := h9 i hi1
    have e1 : Am.rowAt xss i = ys := by simp [Am.rowAt, List.getD, hy]
    have e2 : valAt vs i = d := by simp [valAt, List.getD, k2]
    rw [e1, e2] at g2
    have m1 := mono_r (fun i hi => (h9 i hi).1) i 0 (by omega) (by omega)
    have m2 := mono_r (fun i hi => (h9 i hi).1) xss.length (i + 1) (by omega) (Nat.le_refl _)
    exact vz_own g2 fun b q1 q2 => hz b (by omega) (by omega)
/-- A call of the small machine that gives a new slice of slices and a number. -/
theorem lift_SS {x : Bool} {g : Nat} {vals : List Value} {H : BH} {K : Value → BH → Prop} {xss : List (List Int)} {c : Int}
    (h : ∀ ρ Z as HA, VL ρ Z vals as → Rel ρ Z H HA → Am.CallT g as HA fun v' HA' => Ext HA HA' ∧ ∃ u, OwnSS HA.n HA'.n HA' u xss ∧ v' = .tuple ⟨[u, I c]⟩) (hK : K (.tuple ⟨[FII xss, I c]⟩) H) : CallX x g vals H K := by
  intro ρ Z as HA h1 h2
  obtain ⟨v', HA', hc, he, u, ho, rfl⟩ := h ρ Z as HA h1 h2
  obtain ⟨Z', hz, hr, hf⟩ := own_all h2 he
  refine ⟨_, HA', hc, fun _ => he, ρ, Z', _, H, ?_, hr, Nat.le_refl _, fun _ _ => rfl, hf, hK⟩
  refine .tuple rfl fun i a d k1 k2 => ?_
  match i, k1, k2 with
  | 0, k1, k2 => cases k1; cases k2; exact .z (vz_ownS ho hz)
  | 1, k1, k2 => cases k1; cases k2; exact .z (.plain rfl)
section
variable {x : Bool} {H : BH} {K : Value → BH → Prop} {xs ys : List Int} {a b : Int}
theorem spec_PassportOfShabat_L (hlxs : xs.length < 2 ^ 62) (ha : -9223372036854775808 ≤ a ∧ a < 9223372036854775808) (hb : -9223372036854775808 ≤ b ∧ b < 9223372036854775808) (hK : K (.tuple ⟨[FII (resPassportOfShabat xs a b).1, I (resPassportOfShabat xs a b).2]⟩) H) : CallX x F_spec_PassportOfShabat [FI xs, I a, I b] H K := by
  refine lift_SS (fun ρ Z as HA hv hr => ?_) hK
  obtain ⟨u, v, w, rfl, e0, e1, e2⟩ := vl3 hv
  obtain rfl := vr_I e1
  obtain rfl := vr_I e2
  exact Am.PassportOfShabat_spec (isI_of hr e0) hlxs ha hb (fun r HA' he ho => ⟨he, r, ho, rfl⟩)
theorem impl_PassportOfShabat_L (hlxs : xs.length < 2 ^ 62) (ha : -9223372036854775808 ≤ a ∧ a < 9223372036854775808) (hb : -9223372036854775808 ≤ b ∧ b < 9223372036854775808) (hK : K (.tuple ⟨[FII (resPassportOfShabat xs a b).1, I (resPassportOfShabat xs a b).2]⟩) H) : CallX x F_impl_PassportOfShabat [FI xs, I a, I b] H K := by
  refine lift_SS (fun ρ Z as HA hv hr => ?_) hK
  obtain ⟨u, v, w, rfl, e0, e1, e2⟩ := vl3 hv
  obtain rfl := vr_I e1
  obtain rfl := vr_I e2
  exact Am.impl_PassportOfShabat_spec (isI_of hr e0) hlxs ha hb (fun r HA' he ho => ⟨he, r, ho, rfl⟩)
theorem impl_CountRooted_L (hlxs : xs.length ≤ 1048576) (hlys : ys.length ≤ 1048576) (hK : K (.tuple ⟨[I (resCountRooted xs ys).1, I (resCountRooted xs ys).2]⟩) H) : CallX x F_impl_CountRooted [FI xs, FI ys] H K := by
  refine lift_P (vz_p2 rfl rfl) (fun ρ Z as HA hv hr => ?_) hK
  obtain ⟨u, v, rfl, e0, e1⟩ := vl2 hv
  exact Am.impl_CountRooted_spec (isI_of hr e0) hlxs (isI_of hr e1) hlys (fun HA' he => ⟨he, rfl⟩)
end
end Go.Bm

/- Shabat polynomials: what the law draws, sums. -/
set_option linter.unusedVariables false
set_option linter.unusedSimpArgs false
set_option linter.unusedSectionVars false
namespace Go.Bm
open Go Go.Am
section
variable {code : List Nat} {a : Nat} {h : Int} {H : BH} {x : Bool}
theorem sum_spec {xs : List Int} {K : Value → BH → Prop} (hl : xs.length ≤ 1000) (hb : ∀ i, i < xs.length → 0 ≤ el xs i ∧ el xs i ≤ 16) (hK : K (I (lsum xs)) H) : CallX x F_laws_sum [FI xs] H K := by
  refine callP (.cons .fz .nil) ?_
  refine CallX_body Γ_laws_sum ?_; simp only [A_laws_sum, T_aiff]
  refine T_rseq fun Kr hKr => ?_; simp (disch := omega) only [RA, ↓reduceIte, Nat.reduceEqDiff, RD]; refine hKr _ _ ?_; clear hKr Kr; (try simp only [RN, reduceIte]); try refine T_e rfl ?_
  refine T_rseq fun Kr hKr => ?_; simp (disch := omega) only [RA, ↓reduceIte, Nat.reduceEqDiff, RD]; refine hKr _ _ ?_; clear hKr Kr; (try simp only [RN, reduceIte]); try refine T_e rfl ?_
  refine T_rseq fun Kr hKr => ?_; simp (disch := omega) only [RA, ↓reduceIte, Nat.reduceEqDiff, RD]; refine hKr _ _ ?_; clear hKr Kr; (try simp only [RN, reduceIte]); try refine T_e rfl ?_
  refine T_wloop (fun m f H' => ∃ i, i ≤ xs.length ∧ m = xs.length - i ∧ f 0 = FI xs ∧ f 3 = I (sm xs i) ∧ f 4 = I i ∧ 0 ≤ sm xs i ∧ sm xs i ≤ 16 * i ∧ H' = []) (xs.length) ?_ ?_
  · refine ⟨_, _, Gh.refl, 0, by omega, by omega, ?_, ?_, ?_, Int.le_refl _, Int.le_refl _, rfl⟩
    any_goals (simp (disch := omega) only [RA, ↓reduceIte, Nat.reduceEqDiff, RD, RE, *] <;> rfl)
  · rintro m f H' R ⟨i, hi, rfl, g0, g3, g4, h0, h1, rfl⟩ hN hX hR hE
    simp only [A_laws_sum.l0, T_aiff]
    refine T_rseq fun Kr hKr => ?_; simp (disch := omega) only [RA, ↓reduceIte, Nat.reduceEqDiff, RD, g0, g4]; refine hKr _ _ ?_; clear hKr Kr; (try simp only [RN, reduceIte]); try refine T_e rfl ?_
    refine T_csplit (p := i < xs.length) (by simp only [RA, ↓reduceIte, Nat.reduceEqDiff] <;> rfl) (by (try simp only [RB]) <;> first | done | exact Iff.rfl | omega | simp) (fun hc => ?_) (fun hc => ?_) <;> (try simp only [RN, reduceIte]) <;> (try refine T_e rfl ?_)
    · have hil : i < xs.length := by assumption
      have hs : sm xs (i + 1) = sm xs i + el xs i := rfl
      have hbi := hb i hil
      (first | refine T_bfree rfl ?_ | refine T_bfree' rfl ?_); (try simp only [RN, reduceIte]); try refine T_e rfl ?_
      refine T_rseq fun Kr hKr => ?_; simp (disch := omega) only [RA, ↓reduceIte, Nat.reduceEqDiff, RD, g0, g3, g4]; refine hKr _ _ ?_; clear hKr Kr; (try simp only [RN, reduceIte]); try refine T_e rfl ?_
      refine T_reg_k fun Kr hKr => ?_; simp (disch := omega) only [RA, ↓reduceIte, Nat.reduceEqDiff, RD, g4]; refine hKr _ _ ?_; clear hKr Kr
      refine hN (xs.length - (i + 1)) _ _ _ _ (by omega) Gh.refl ⟨i + 1, by omega, rfl, ?_, ?_, ?_, by omega, by omega, rfl⟩
      any_goals (simp (disch := omega) only [RA, ↓reduceIte, Nat.reduceEqDiff, RD, RE, *] <;> rfl)
    · refine hX _ _ ?_
      obtain rfl : i = xs.length := by omega
      rw [← lsum_sm] at g3
      refine T_rseq fun Kr hKr => ?_; simp (disch := omega) only [RA, ↓reduceIte, Nat.reduceEqDiff, RD, g3]; refine hKr _ _ ?_; clear hKr Kr; (try simp only [RN, reduceIte]); try refine T_e rfl ?_
      refine bodyQ_ret (by simp (disch := omega) only [RA, ↓reduceIte, Nat.reduceEqDiff, RD, resAll, resOf]; rfl) GhV.refl ?_; simp only [tup]
      exact ⟨.int, hK⟩
theorem NN_III {xs : List Int} {c d : Int} : NN (.tuple ⟨[FI xs, I c, I d]⟩) := NN.tuple (NNL.cons .fz (NNL.cons .int (NNL.cons .int NNL.nil)))
theorem NN_I2 {c d : Int} : NN (.tuple ⟨[I c, I d]⟩) := NN.tuple (NNL.cons .int (NNL.cons .int NNL.nil))
theorem spec_DrawMultiplicitiesOf_spec {K : Value → BH → Prop} (hl : code.length ≤ 1048576) (hcd : ∀ i, nl code i < 256)
    (hK : ∀ xs v, xs.length ≤ 1000 → 0 ≤ v → v ≤ 10007 → K (.tuple ⟨[FI xs, I v]⟩) H) : CallX x F_spec_DrawMultiplicitiesOf [FB code] H K := by
  refine callP (.cons .fz .nil) ?_
  refine CallX_body Γ_spec_DrawMultiplicitiesOf ?_; simp only [A_spec_DrawMultiplicitiesOf, T_aiff]
  refine T_rseq fun Kr hKr => ?_; simp (disch := omega) only [RA, ↓reduceIte, Nat.reduceEqDiff, RD]; refine hKr _ _ ?_; clear hKr Kr; (try simp only [RN, reduceIte]); try refine T_e rfl ?_
  refine T_rseq fun Kr hKr => ?_; simp (disch := omega) only [RA, ↓reduceIte, Nat.reduceEqDiff, RD]
  refine spec_DrawValueOf_spec hl hcd fun xs v h0 h1 h2 => ?_
  simp (disch := omega) only [RA, ↓reduceIte, Nat.reduceEqDiff, RD]
  refine hKr _ _ ?_; clear hKr Kr; (try simp only [blkQ, thenQ, loopQ]); (try simp only [RN, reduceIte]); try refine T_e rfl ?_
  refine T_rseq fun Kr hKr => ?_; simp (disch := omega) only [RA, ↓reduceIte, Nat.reduceEqDiff, RD]; refine hKr _ _ ?_; clear hKr Kr; (try simp only [RN, reduceIte]); try refine T_e rfl ?_
  refine bodyQ_ret (by simp (disch := omega) only [RA, ↓reduceIte, Nat.reduceEqDiff, RD, resAll, resOf]; rfl) GhV.refl ?_; simp only [tup]
  exact ⟨NN_II, hK xs v h0 h1 h2⟩
theorem spec_DrawIsShabat_spec {K : Value → BH → Prop} (hl : code.length ≤ 1048576) (hcd : ∀ i, nl code i < 256)
    (hK : ∀ xs v w, xs.length ≤ 1000 → (0 ≤ v ∧ v ≤ 10007) → (0 ≤ w ∧ w ≤ 10007) → K (.tuple ⟨[FI xs, I v, I w]⟩) H) : CallX x F_spec_DrawIsShabat [FB code] H K := by
  refine callP (.cons .fz .nil) ?_
  refine CallX_body Γ_spec_DrawIsShabat ?_; simp only [A_spec_DrawIsShabat, T_aiff]
  refine T_rseq fun Kr hKr => ?_; simp (disch := omega) only [RA, ↓reduceIte, Nat.reduceEqDiff, RD]; refine hKr _ _ ?_; clear hKr Kr; (try simp only [RN, reduceIte]); try refine T_e rfl ?_
  refine T_rseq fun Kr hKr => ?_; simp (disch := omega) only [RA, ↓reduceIte, Nat.reduceEqDiff, RD]
  refine l01From_spec hl hcd fun h => ?_
  simp (disch := omega) only [RA, ↓reduceIte, Nat.reduceEqDiff, RD]
  refine hKr _ _ ?_; clear hKr Kr; (try simp only [blkQ, thenQ, loopQ]); (try simp only [RN, reduceIte]); try refine T_e rfl ?_
  refine T_rseq fun Kr hKr => ?_; simp (disch := omega) only [RA, ↓reduceIte, Nat.reduceEqDiff, RD]
  refine l06Some_spec (i := 0) rfl (Nat.zero_le _) hl hcd fun xs a h hA hx => ?_
  simp (disch := omega) only [RA, ↓reduceIte, Nat.reduceEqDiff, RD]
  refine hKr _ _ ?_; clear hKr Kr; (try simp only [blkQ, thenQ, loopQ]); (try simp only [RN, reduceIte]); try refine T_e rfl ?_
  refine T_rseq fun Kr hKr => ?_; simp (disch := omega) only [RA, ↓reduceIte, Nat.reduceEqDiff, RD]
  refine l01Next_spec (i := 0) rfl hA hl hcd (by omega) fun c a h hA _ _ _ _ => ?_
  simp (disch := omega) only [RA, ↓reduceIte, Nat.reduceEqDiff, RD]
  refine hKr _ _ ?_; clear hKr Kr; (try simp only [blkQ, thenQ, loopQ]); (try simp only [RN, reduceIte]); try refine T_e rfl ?_
  (first | refine T_bfree rfl ?_ | refine T_bfree' rfl ?_); (try simp only [RN, reduceIte]); try refine T_e rfl ?_
  refine T_rseq fun Kr hKr => ?_; simp (disch := omega) only [RA, ↓reduceIte, Nat.reduceEqDiff, RD]; refine hKr _ _ ?_; clear hKr Kr; (try simp only [RN, reduceIte]); try refine T_e rfl ?_
  refine T_csplit (p := c = 0) (by simp only [RA, ↓reduceIte, Nat.reduceEqDiff] <;> rfl) (by (try simp only [RB]) <;> first | done | exact Iff.rfl | omega | simp) (fun hc => ?_) (fun hc => ?_) <;> (try simp only [RN, reduceIte]) <;> (try refine T_e rfl ?_)
  · refine T_rseq fun Kr hKr => ?_; simp (disch := omega) only [RA, ↓reduceIte, Nat.reduceEqDiff, RD]; refine hKr _ _ ?_; clear hKr Kr; (try simp only [RN, reduceIte]); try refine T_e rfl ?_
    refine bodyQ_ret (by simp (disch := omega) only [RA, ↓reduceIte, Nat.reduceEqDiff, RD, resAll, resOf]; rfl) GhV.refl ?_; simp only [tup]
    exact ⟨NN_III, hK xs 0 1 hx (by omega) (by omega)⟩
  refine T_rseq fun Kr hKr => ?_; simp (disch := omega) only [RA, ↓reduceIte, Nat.reduceEqDiff, RD]; refine hKr _ _ ?_; clear hKr Kr; (try simp only [RN, reduceIte]); try refine T_e rfl ?_
  refine T_csplit (p := c = 1) (by simp only [RA, ↓reduceIte, Nat.reduceEqDiff] <;> rfl) (by (try simp only [RB]) <;> first | done | exact Iff.rfl | omega | simp) (fun hc => ?_) (fun hc => ?_) <;> (try simp only [RN, reduceIte]) <;> (try refine T_e rfl ?_)
  · refine T_rseq fun Kr hKr => ?_; simp (disch := omega) only [RA, ↓reduceIte, Nat.reduceEqDiff, RD]; refine hKr _ _ ?_; clear hKr Kr; (try simp only [RN, reduceIte]); try refine T_e rfl ?_
    refine bodyQ_ret (by simp (disch := omega) only [RA, ↓reduceIte, Nat.reduceEqDiff, RD, resAll, resOf]; rfl) GhV.refl ?_; simp only [tup]
    exact ⟨NN_III, hK xs 1 10006 hx (by omega) (by omega)⟩
  · refine T_rseq fun Kr hKr => ?_; simp (disch := omega) only [RA, ↓reduceIte, Nat.reduceEqDiff, RD]
    refine l06DrawValue_spec (i := 0) rfl hA hl hcd fun v a h hA v1 v2 => ?_
    simp (disch := omega) only [RA, ↓reduceIte, Nat.reduceEqDiff, RD]
    refine l06DrawValue_spec (i := 0) rfl hA hl hcd fun w a h hA w1 w2 => ?_
    simp (disch := omega) only [RA, ↓reduceIte, Nat.reduceEqDiff, RD]
    refine hKr _ _ ?_; clear hKr Kr; (try simp only [blkQ, thenQ, loopQ]); (try simp only [RN, reduceIte]); try refine T_e rfl ?_
    refine bodyQ_ret (by simp (disch := omega) only [RA, ↓reduceIte, Nat.reduceEqDiff, RD, resAll, resOf]; rfl) GhV.refl ?_; simp only [tup]
    exact ⟨NN_III, hK xs v w hx ⟨v1, v2⟩ ⟨w1, w2⟩⟩
theorem spec_DrawStarPolynomial_spec {K : Value → BH → Prop} (hl : code.length ≤ 1048576) (hcd : ∀ i, nl code i < 256)
    (hK : ∀ v, 0 ≤ v → v < 18 → K (I v) H) : CallX x F_spec_DrawStarPolynomial [FB code] H K := by
  refine callP (.cons .fz .nil) ?_
  refine CallX_body Γ_spec_DrawStarPolynomial ?_; simp only [A_spec_DrawStarPolynomial, T_aiff]
  refine T_rseq fun Kr hKr => ?_; simp (disch := omega) only [RA, ↓reduceIte, Nat.reduceEqDiff, RD]; refine hKr _ _ ?_; clear hKr Kr; (try simp only [RN, reduceIte]); try refine T_e rfl ?_
  refine T_rseq fun Kr hKr => ?_; simp (disch := omega) only [RA, ↓reduceIte, Nat.reduceEqDiff, RD]
  refine l01From_spec hl hcd fun h => ?_
  simp (disch := omega) only [RA, ↓reduceIte, Nat.reduceEqDiff, RD]
  refine l01Next_spec (i := 0) rfl (Nat.zero_le _) hl hcd (by omega) fun c a h hA h1 _ h2 _ => ?_
  have := h2 (by omega)
  simp (disch := omega) only [RA, ↓reduceIte, Nat.reduceEqDiff, RD]
  refine hKr _ _ ?_; clear hKr Kr; (try simp only [blkQ, thenQ, loopQ]); (try simp only [RN, reduceIte]); try refine T_e rfl ?_
  refine bodyQ_ret (by simp (disch := omega) only [RA, ↓reduceIte, Nat.reduceEqDiff, RD, resAll, resOf]; rfl) GhV.refl ?_; simp only [tup]
  exact ⟨.int, hK c (by omega) (by omega)⟩
theorem spec_DrawChainPolynomial_spec {K : Value → BH → Prop} (hl : code.length ≤ 1048576) (hcd : ∀ i, nl code i < 256)
    (hK : ∀ v, 0 ≤ v → v < 18 → K (I v) H) : CallX x F_spec_DrawChainPolynomial [FB code] H K := by
  refine callP (.cons .fz .nil) ?_
  refine CallX_body Γ_spec_DrawChainPolynomial ?_; simp only [A_spec_DrawChainPolynomial, T_aiff]
  refine T_rseq fun Kr hKr => ?_; simp (disch := omega) only [RA, ↓reduceIte, Nat.reduceEqDiff, RD]; refine hKr _ _ ?_; clear hKr Kr; (try simp only [RN, reduceIte]); try refine T_e rfl ?_
  refine T_rseq fun Kr hKr => ?_; simp (disch := omega) only [RA, ↓reduceIte, Nat.reduceEqDiff, RD]
  refine l01From_spec hl hcd fun h => ?_
  simp (disch := omega) only [RA, ↓reduceIte, Nat.reduceEqDiff, RD]
  refine l01Next_spec (i := 0) rfl (Nat.zero_le _) hl hcd (by omega) fun c a h hA h1 _ h2 _ => ?_
  have := h2 (by omega)
  simp (disch := omega) only [RA, ↓reduceIte, Nat.reduceEqDiff, RD]
  refine hKr _ _ ?_; clear hKr Kr; (try simp only [blkQ, thenQ, loopQ]); (try simp only [RN, reduceIte]); try refine T_e rfl ?_
  refine bodyQ_ret (by simp (disch := omega) only [RA, ↓reduceIte, Nat.reduceEqDiff, RD, resAll, resOf]; rfl) GhV.refl ?_; simp only [tup]
  exact ⟨.int, hK c (by omega) (by omega)⟩
theorem spec_DrawForkPolynomial_spec {K : Value → BH → Prop} (hl : code.length ≤ 1048576) (hcd : ∀ i, nl code i < 256)
    (hK : ∀ v w, (0 ≤ v ∧ v < 18) → (0 ≤ w ∧ w < 18) → K (.tuple ⟨[I v, I w]⟩) H) : CallX x F_spec_DrawForkPolynomial [FB code] H K := by
  refine callP (.cons .fz .nil) ?_
  refine CallX_body Γ_spec_DrawForkPolynomial ?_; simp only [A_spec_DrawForkPolynomial, T_aiff]
  refine T_rseq fun Kr hKr => ?_; simp (disch := omega) only [RA, ↓reduceIte, Nat.reduceEqDiff, RD]; refine hKr _ _ ?_; clear hKr Kr; (try simp only [RN, reduceIte]); try refine T_e rfl ?_
  refine T_rseq fun Kr hKr => ?_; simp (disch := omega) only [RA, ↓reduceIte, Nat.reduceEqDiff, RD]
  refine l01From_spec hl hcd fun h => ?_
  simp (disch := omega) only [RA, ↓reduceIte, Nat.reduceEqDiff, RD]
  refine hKr _ _ ?_; clear hKr Kr; (try simp only [blkQ, thenQ, loopQ]); (try simp only [RN, reduceIte]); try refine T_e rfl ?_
  refine T_rseq fun Kr hKr => ?_; simp (disch := omega) only [RA, ↓reduceIte, Nat.reduceEqDiff, RD]
  refine l01Next_spec (i := 0) rfl (Nat.zero_le _) hl hcd (by omega) fun c a h hA h1 _ h2 _ => ?_
  have := h2 (by omega)
  simp (disch := omega) only [RA, ↓reduceIte, Nat.reduceEqDiff, RD]
  refine l01Next_spec (i := 0) rfl hA hl hcd (by omega) fun d a h hA h1 _ h2 _ => ?_
  have := h2 (by omega)
  simp (disch := omega) only [RA, ↓reduceIte, Nat.reduceEqDiff, RD]
  refine hKr _ _ ?_; clear hKr Kr; (try simp only [blkQ, thenQ, loopQ]); (try simp only [RN, reduceIte]); try refine T_e rfl ?_
  refine bodyQ_ret (by simp (disch := omega) only [RA, ↓reduceIte, Nat.reduceEqDiff, RD, resAll, resOf]; rfl) GhV.refl ?_; simp only [tup]
  exact ⟨NN_I2, hK c d (by omega) (by omega)⟩
end
end Go.Bm

