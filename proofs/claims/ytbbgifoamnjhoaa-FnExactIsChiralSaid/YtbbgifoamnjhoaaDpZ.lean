/- Names from a dart, and what is alike: the reference's, and both against each other. -/
import Derived.Test.YtbbgifoamnjhoaaDpY
import Derived.Test.YtbbgifoamnjhoaaDp0b
import Derived.Test.YtbbgifoamnjhoaaDpX
set_option linter.unusedVariables false
set_option linter.unusedSimpArgs false
namespace Go.Bm
open Go Go.Am

theorem nmK_pre {l q : List Nat} : ∀ {k : Nat}, k ≤ l.length → nmK (l ++ q) k = nmK l k
  | 0, _ => rfl
  | k + 1, h => by rw [nmK, nmK, nmK_pre (by omega), nl_append, if_pos (by omega)]
theorem fill2_64 {a b : Nat} : fillL (List.replicate 2 (.int .i64 0)) [(0, 1, .int .i64 (a : Int)), (1, 1, .int .i64 (b : Int))] = some ([a, b].map N64) := rfl
theorem eqaV_D {neg : Bool} {n m : Int} {b w b' w' : List Nat} (hb : b.length = 16) (hw : w.length = 16) (hb' : b'.length = 16) (hw' : w'.length = 16) :
    eqaV neg 33 (aggL (DC n b w)) (aggL (DC m b' w')) = some (.bool (if neg then !decide (n = m ∧ (b, w) = (b', w')) else decide (n = m ∧ (b, w) = (b', w')))) := by
  have e1 : eqCells ((b ++ w).map N8) ((b' ++ w').map N8) = some (decide (b ++ w = b' ++ w')) := eqCells_N (by simp [hb, hw, hb', hw'])
  have e2 : (b ++ w = b' ++ w') ↔ (b, w) = (b', w') := by
    rw [Prod.mk.injEq]
    exact ⟨fun h => List.append_inj h (by omega), fun h => by rw [h.1, h.2]⟩
  have : aEqa 33 (aggL (DC n b w)) (aggL (DC m b' w')) = some (decide (n = m ∧ (b, w) = (b', w'))) := by
    simp only [aEqa]
    rw [if_pos (by simp [hb, hw])]
    rw [List.map_append, List.map_append] at e1
    simp only [DC, eqCells, eqCell, if_true, e1, Option.map_some, Option.some.injEq]
    by_cases h1 : n = m
    · by_cases h2 : b ++ w = b' ++ w'
      · rw [decide_eq_true h2, decide_eq_true ⟨h1, e2.1 h2⟩]
        simp [h1]
      · have h3 := fun h => h2 (e2.2 h)
        rw [decide_eq_false h2, decide_eq_false (fun h => h3 h.2)]
        simp
    · simp [h1]
  simp only [eqaV, this, Option.map_some]
theorem l07From_spec {x0 : Bool} {n x : Nat} {b w : List Nat} {H : BH} {K : Value → BH → Prop} (hb : By 16 b) (hw : By 16 w) (hd : Des n b w) (hx : x < n)
    (hK : K (DV n (ren2 b w n x).1 (ren2 b w n x).2) H) : CallX x0 F_spec_l07From [DV n b w, I x] H K := by
  have hlb := hb.len
  have hlw := hw.len
  have hz := z16_len
  have hn := hd.1.1
  have hb16 := fun i => hd.1.lt16 hlb i
  have hw16 := fun i => hd.2.1.lt16 hlw i
  have hl16 : ∀ p ∈ [b, w], ∀ i, nl p i < 16 := by simp; exact ⟨hb16, hw16⟩
  have hx16 : x < 16 := by omega
  have hr16 : (List.replicate 16 false).length = 16 := List.length_replicate
  have hnm16 := nam_16 hd hx
  refine callP (by exact .cons nn_D (.cons .int .nil)) ?_
  refine CallX_body Γ_spec_l07From ?_
  simp only [A_spec_l07From, T_aiff]
  refine T_rseq fun Kr hKr => ?_
  simp (disch := omega) only [RA, ↓reduceIte, Nat.reduceEqDiff, Nat.reduceBEq, Nat.reduceSub, Nat.reduceAdd, Nat.reduceMul, Nat.reduceLT, Nat.reduceLeDiff, Int.reduceLE, Int.reduceLT, Int.reduceEq, Int.reduceNeg, Int.reduceToNat, Int.reduceMul, Int.reduceAdd, Int.reduceSub, Int.reduceBEq, Int.reduceBNe, reduceCtorEq, RD, RDS]
  refine hKr _ _ ?_
  clear hKr Kr
  try simp only [RN, reduceIte]
  try refine T_e rfl ?_
  refine T_rseq fun Kr hKr => ?_
  simp (disch := omega) only [RA, ↓reduceIte, Nat.reduceEqDiff, Nat.reduceBEq, Nat.reduceSub, Nat.reduceAdd, Nat.reduceMul, Nat.reduceLT, Nat.reduceLeDiff, Int.reduceLE, Int.reduceLT, Int.reduceEq, Int.reduceNeg, Int.reduceToNat, Int.reduceMul, Int.reduceAdd, Int.reduceSub, Int.reduceBEq, Int.reduceBNe, reduceCtorEq, RD]
  refine hKr _ _ ?_
  clear hKr Kr
  try simp only [RN, reduceIte]
  try refine T_e rfl ?_
  refine T_rseq fun Kr hKr => ?_
  simp (disch := omega) only [RA, ↓reduceIte, Nat.reduceEqDiff, RD, repB]
  refine hKr _ _ ?_
  clear hKr Kr
  try simp only [RN, reduceIte]
  try refine T_e rfl ?_
  refine T_rseq fun Kr hKr => ?_
  simp (disch := omega) only [RA, ↓reduceIte, Nat.reduceEqDiff, Nat.reduceBEq, Nat.reduceSub, Nat.reduceAdd, Nat.reduceMul, Nat.reduceLT, Nat.reduceLeDiff, Int.reduceLE, Int.reduceLT, Int.reduceEq, Int.reduceNeg, Int.reduceToNat, Int.reduceMul, Int.reduceAdd, Int.reduceSub, Int.reduceBEq, Int.reduceBNe, reduceCtorEq, RD]
  refine hKr _ _ ?_
  clear hKr Kr
  try simp only [RN, reduceIte]
  try refine T_e rfl ?_
  refine T_wloop (fun m f H' => ∃ k st, k ≤ 16 ∧ m = 16 - k ∧ st = bfs [b, w] (stA x) k ∧ k ≤ st.2.length ∧ f 2 = P 0 0 ∧ f 4 = P 1 0 ∧ f 5 = P 3 0 ∧ f 6 = P 4 0 ∧ f 7 = S 2 0 st.2.length 1 ∧ f 8 = I k ∧ H' = [some (DC n b w), some (DC 0 z16 z16), some (st.2.map N64), some ((nmK st.2 k).map N8), some (st.1.map B)]) (16) ?_ ?_
  · refine ⟨_, _, Gh.refl, 0, stA x, by omega, by omega, rfl, Nat.zero_le _, ?_, ?_, ?_, ?_, ?_, ?_, by simp [stA, none16, nmK]⟩
    any_goals (simp (disch := omega) only [RA, ↓reduceIte, Nat.reduceEqDiff, RD, RE, *] <;> rfl)
  · rintro m f H' R ⟨k, st, hk, rfl, hst, hkl, g2, g4, g5, g6, g7, g8, rfl⟩ hN hX hR hE
    simp only [A_spec_l07From.l1, T_aiff]
    have hB := (stA_bi hx16).bfs hl16 k
    rw [← hst] at hB
    replace hst := hst.symm
    have hle := hB.le
    have hsl := hB.len
    have hnl := @nmK_len st.2 k
    refine T_rseq fun Kr hKr => ?_
    simp (disch := omega) only [RA, ↓reduceIte, Nat.reduceEqDiff, Nat.reduceAdd, Nat.reduceMul, Int.reduceToNat, Nat.reduceLT, reduceCtorEq, RD, g7, g8]
    refine hKr _ _ ?_
    clear hKr Kr
    try simp only [RN, reduceIte]
    try refine T_e rfl ?_
    refine T_csplit (p := k < st.2.length) (by simp only [RA, ↓reduceIte, Nat.reduceEqDiff, Nat.reduceBEq, Nat.reduceSub, Nat.reduceAdd, Nat.reduceMul, Nat.reduceLT, Nat.reduceLeDiff, Int.reduceLE, Int.reduceLT, Int.reduceEq, Int.reduceNeg, Int.reduceToNat, Int.reduceMul, Int.reduceAdd, Int.reduceSub, Int.reduceBEq, Int.reduceBNe, reduceCtorEq] <;> rfl) (by (try simp only [RB]) <;> first | done | exact Iff.rfl | omega | simp) (fun hc => ?_) (fun hc => ?_) <;> (try simp only [RN, reduceIte]) <;> (try refine T_e rfl ?_)
    · have hxk := hB.lt k hc
      have hkst : k < st.2.length := by assumption
      have h1 := hb16 (nl st.2 k)
      have h2 := hw16 (nl st.2 k)
      obtain ⟨pr, hpr⟩ : ∃ pr, pr = [nl b (nl st.2 k), nl w (nl st.2 k)] := ⟨_, rfl⟩
      have hpl : pr.length = 2 := by rw [hpr]; rfl
      have hpj : ∀ j, j < 2 → nl pr j = nl ([b, w].getD j []) (nl st.2 k) := fun j hj => by rw [hpr]; exact pair_nl hj
      have hpre : ∀ q, nmK (st.2 ++ q) (k + 1) = (nmK st.2 k).set (nl st.2 k) k := fun q => by rw [nmK, nmK_pre (by omega), nl_append, if_pos hkst]
      first | refine T_bfree rfl ?_ | refine T_bfree' rfl ?_
      try simp only [RN, reduceIte]
      try refine T_e rfl ?_
      refine T_rseq fun Kr hKr => ?_
      simp (disch := omega) only [RA, ↓reduceIte, Nat.reduceEqDiff, Nat.reduceBEq, Nat.reduceSub, Nat.reduceAdd, Nat.reduceMul, Nat.reduceLT, Nat.reduceLeDiff, Int.reduceLE, Int.reduceLT, Int.reduceEq, Int.reduceNeg, Int.reduceToNat, Int.reduceMul, Int.reduceAdd, Int.reduceSub, Int.reduceBEq, Int.reduceBNe, reduceCtorEq, RD, g5, g7, g8, getN_64, hnl]
      refine hKr _ _ ?_
      clear hKr Kr
      try simp only [RN, reduceIte]
      try refine T_e rfl ?_
      refine T_rseq fun Kr hKr => ?_
      simp (disch := omega) only [RA, ↓reduceIte, Nat.reduceEqDiff, Nat.reduceBEq, Nat.reduceSub, Nat.reduceAdd, Nat.reduceMul, Nat.reduceLT, Nat.reduceLeDiff, Int.reduceLE, Int.reduceLT, Int.reduceEq, Int.reduceNeg, Int.reduceToNat, Int.reduceMul, Int.reduceAdd, Int.reduceSub, Int.reduceBEq, Int.reduceBNe, reduceCtorEq, RD, g2, g7, g8, getN_64, RDS, RDD, fill2_64]
      refine hKr _ _ ?_
      clear hKr Kr
      try simp only [RN, reduceIte]
      try refine T_e rfl ?_
      refine T_rseq fun Kr hKr => ?_
      simp (disch := omega) only [RA, ↓reduceIte, Nat.reduceEqDiff, Nat.reduceBEq, Nat.reduceSub, Nat.reduceAdd, Nat.reduceMul, Nat.reduceLT, Nat.reduceLeDiff, Int.reduceLE, Int.reduceLT, Int.reduceEq, Int.reduceNeg, Int.reduceToNat, Int.reduceMul, Int.reduceAdd, Int.reduceSub, Int.reduceBEq, Int.reduceBNe, reduceCtorEq, RD]
      refine hKr _ _ ?_
      clear hKr Kr
      try simp only [RN, reduceIte]
      try refine T_e rfl ?_
      refine T_wloop (fun m f H' => ∃ j st', j ≤ 2 ∧ m = 2 - j ∧ st' = roundX ([b, w].take j) (nl st.2 k) st ∧ f 2 = P 0 0 ∧ f 4 = P 1 0 ∧ f 5 = P 3 0 ∧ f 6 = P 4 0 ∧ f 7 = S 2 0 st'.2.length 1 ∧ f 8 = I k ∧ f 9 = S 5 0 2 1 ∧ f 10 = I j ∧ H' = [some (DC n b w), some (DC 0 z16 z16), some (st'.2.map N64), some (((nmK st.2 k).set (nl st.2 k) k).map N8), some (st'.1.map B), some (pr.map N64)]) (2) ?_ ?_
      · refine ⟨_, _, Gh.refl, 0, st, by omega, by omega, rfl, ?_, ?_, ?_, ?_, ?_, ?_, ?_, ?_, by rw [hpr]; rfl⟩
        any_goals (simp (disch := omega) only [RA, ↓reduceIte, Nat.reduceEqDiff, RD, RE, *] <;> rfl)
      · clear g2 g4 g5 g6 g7 g8 hpr
        rintro m f H' R2 ⟨j, st', hj, rfl, hst', g2, g4, g5, g6, g7, g8, g9, g10, rfl⟩ hN2 hX2 hR2 hE2
        simp only [A_spec_l07From.l0, T_aiff]
        refine T_rseq fun Kr hKr => ?_
        simp (disch := omega) only [RA, ↓reduceIte, Nat.reduceEqDiff, RD, g10]
        refine hKr _ _ ?_
        clear hKr Kr
        try simp only [RN, reduceIte]
        try refine T_e rfl ?_
        have hB' : Bi 16 st' := by rw [hst']; exact hB.round fun p hp => hl16 p (List.mem_of_mem_take hp) _
        have hle' := hB'.le
        have hsl' := hB'.len
        refine T_csplit (p := j < 2) (by simp only [RA, ↓reduceIte, Nat.reduceEqDiff] <;> rfl) (by (try simp only [RB]) <;> first | done | exact Iff.rfl | omega | simp) (fun hc => ?_) (fun hc => ?_) <;> (try simp only [RN, reduceIte]) <;> (try refine T_e rfl ?_)
        · have hnx := round_take (ls := [b, w]) (x := nl st.2 k) (st := st) hc
          rw [← hst', ← hpj j hc] at hnx
          have hyl : nl pr j < 16 := by
            rw [hpj j hc]
            exact hl16 _ (getD_mem hc) _
          obtain ⟨y, hyd⟩ : ∃ y, nl pr j = y := ⟨_, rfl⟩
          rw [hyd] at hyl hnx
          have hxi : y < 16 := hyl
          have hnext : ∀ f' st2, f' 2 = P 0 0 → f' 4 = P 1 0 → f' 5 = P 3 0 → f' 6 = P 4 0 → f' 7 = S 2 0 st2.2.length 1 → f' 8 = I k → f' 9 = S 5 0 2 1 → f' 10 = I j → st2 = visit st' y → T 0 A_spec_l07From.r10 R2 f' [some (DC n b w), some (DC 0 z16 z16), some (st2.2.map N64), some (((nmK st.2 k).set (nl st.2 k) k).map N8), some (st2.1.map B), some (pr.map N64)] := by
            intro f' st2 g2 g4 g5 g6 g7 g8 g9 g10 hs2
            refine T_reg_k fun Kr hKr => ?_
            simp (disch := omega) only [RA, ↓reduceIte, Nat.reduceEqDiff, RD, g10]
            refine hKr _ _ ?_
            clear hKr Kr
            refine hN2 (2 - (j + 1)) _ _ _ _ (by omega) Gh.refl ⟨j + 1, st2, by omega, rfl, by rw [hnx, hs2], ?_, ?_, ?_, ?_, ?_, ?_, ?_, ?_, rfl⟩
            any_goals (simp (disch := omega) only [RA, ↓reduceIte, Nat.reduceEqDiff, RD, RE, *] <;> rfl)
          first | refine T_bfree rfl ?_ | refine T_bfree' rfl ?_
          try simp only [RN, reduceIte]
          try refine T_e rfl ?_
          refine T_rseq fun Kr hKr => ?_
          simp (disch := omega) only [RA, ↓reduceIte, Nat.reduceEqDiff, Nat.reduceBEq, Nat.reduceSub, Nat.reduceAdd, Nat.reduceMul, Nat.reduceLT, Nat.reduceLeDiff, Int.reduceLE, Int.reduceLT, Int.reduceEq, Int.reduceNeg, Int.reduceToNat, Int.reduceMul, Int.reduceAdd, Int.reduceSub, Int.reduceBEq, Int.reduceBNe, reduceCtorEq, RD, g6, g9, g10, getN_64, hpl, hyd, hsl']
          refine hKr _ _ ?_
          clear hKr Kr
          try simp only [RN, reduceIte]
          try refine T_e rfl ?_
          refine T_csplit (p := ¬ bl st'.1 y = true) (by simp only [RA, ↓reduceIte, Nat.reduceEqDiff, Nat.reduceBEq, Nat.reduceSub, Nat.reduceAdd, Nat.reduceMul, Nat.reduceLT, Nat.reduceLeDiff, Int.reduceLE, Int.reduceLT, Int.reduceEq, Int.reduceNeg, Int.reduceToNat, Int.reduceMul, Int.reduceAdd, Int.reduceSub, Int.reduceBEq, Int.reduceBNe, reduceCtorEq] <;> rfl) (by (try simp only [RB]) <;> first | done | exact Iff.rfl | omega | simp) (fun hc => ?_) (fun hc => ?_) <;> (try simp only [RN, reduceIte]) <;> (try refine T_e rfl ?_)
          · refine T_rseq fun Kr hKr => ?_
            simp (disch := omega) only [RA, ↓reduceIte, Nat.reduceEqDiff, Nat.reduceBEq, Nat.reduceSub, Nat.reduceAdd, Nat.reduceMul, Nat.reduceLT, Nat.reduceLeDiff, Int.reduceLE, Int.reduceLT, Int.reduceEq, Int.reduceNeg, Int.reduceToNat, Int.reduceMul, Int.reduceAdd, Int.reduceSub, Int.reduceBEq, Int.reduceBNe, reduceCtorEq, RD, g6, g9, g10, getN_64, hpl, hyd, hsl']
            refine hKr _ _ ?_
            clear hKr Kr
            try simp only [RN, reduceIte]
            try refine T_e rfl ?_
            refine T_rseq fun Kr hKr => ?_
            simp (disch := omega) only [RA, ↓reduceIte, Nat.reduceEqDiff, Nat.reduceBEq, Nat.reduceSub, Nat.reduceAdd, Nat.reduceMul, Nat.reduceLT, Nat.reduceLeDiff, Int.reduceLE, Int.reduceLT, Int.reduceEq, Int.reduceNeg, Int.reduceToNat, Int.reduceMul, Int.reduceAdd, Int.reduceSub, Int.reduceBEq, Int.reduceBNe, reduceCtorEq, RD, g7, g9, g10, getN_64, hpl, hyd, app1_64]
            refine hKr _ _ ?_
            clear hKr Kr
            try simp only [RN, reduceIte]
            try refine T_e rfl ?_
            refine T_gh (Gh.nrm [0, 1, 7, 3, 4, 5] rfl rfl (by simp only [RH, NN_D, RV])) ?_
            refine hnext _ (st'.1.set y true, st'.2 ++ [y]) ?_ ?_ ?_ ?_ ?_ ?_ ?_ ?_ ?_
            any_goals (simp (disch := omega) only [RA, ↓reduceIte, Nat.reduceEqDiff, RD, RE, *] <;> rfl)
            rw [visit, if_neg hc]
          · try simp only [RN, reduceIte]
            try refine T_e rfl ?_
            refine hnext _ st' ?_ ?_ ?_ ?_ ?_ ?_ ?_ ?_ ?_
            any_goals (simp (disch := omega) only [RA, ↓reduceIte, Nat.reduceEqDiff, RD, RE, *] <;> rfl)
            rw [visit, if_pos (by simpa using hc)]
        · refine hX2 _ _ ?_
          obtain rfl : j = 2 := by omega
          have hst2 : st' = bfs [b, w] (stA x) (k + 1) := by
            rw [hst', bfs, hst, if_pos hkst]; rfl
          obtain ⟨q, hq⟩ := @round_pre (nl st.2 k) ([b, w].take 2) st
          rw [← hst'] at hq
          have hlq : k + 1 ≤ st'.2.length := by rw [hq]; simp; omega
          have hnmq : (nmK st.2 k).set (nl st.2 k) k = nmK st'.2 (k + 1) := by rw [hq, hpre]
          rw [hnmq]
          refine T_reg_k fun Kr hKr => ?_
          simp (disch := omega) only [RA, ↓reduceIte, Nat.reduceEqDiff, RD, g8]
          refine hKr _ _ ?_
          clear hKr Kr
          refine hN (16 - (k + 1)) _ _ _ _ (by omega) (Gh.nrm [0, 1, 2, 3, 4] rfl rfl (by simp only [RH, NN_D, RV])) ⟨k + 1, st', by omega, rfl, hst2, hlq, ?_, ?_, ?_, ?_, ?_, ?_, rfl⟩
          any_goals (simp (disch := omega) only [RA, ↓reduceIte, Nat.reduceEqDiff, RD, RE, *] <;> rfl)
    · refine hX _ _ ?_
      have hfin : ord b w x = st.2 := by rw [ord, bfs_stop (i := k) (by rw [hst]; omega) 16 hk, hst]
      have hnm : nmK st.2 k = nam b w x := by rw [nam, hfin, show k = st.2.length by omega]
      rw [hnm] at hnl ⊢
      clear g7 g8 hc hN
      rw [ren2] at hK
      generalize nam b w x = nm at hnm16 hnl hK ⊢
      try simp only [RN, reduceIte]
      try refine T_e rfl ?_
      refine T_rseq fun Kr hKr => ?_
      simp (disch := omega) only [RA, ↓reduceIte, Nat.reduceEqDiff, RD, g2, RDS, RDD]
      refine hKr _ _ ?_
      clear hKr Kr
      try simp only [RN, reduceIte]
      try refine T_e rfl ?_
      refine T_rseq fun Kr hKr => ?_
      simp (disch := omega) only [RA, ↓reduceIte, Nat.reduceEqDiff, Nat.reduceBEq, Nat.reduceSub, Nat.reduceAdd, Nat.reduceMul, Nat.reduceLT, Nat.reduceLeDiff, Int.reduceLE, Int.reduceLT, Int.reduceEq, Int.reduceNeg, Int.reduceToNat, Int.reduceMul, Int.reduceAdd, Int.reduceSub, Int.reduceBEq, Int.reduceBNe, reduceCtorEq, RD]
      refine hKr _ _ ?_
      clear hKr Kr
      try simp only [RN, reduceIte]
      try refine T_e rfl ?_
      refine T_wloop (fun m f H' => ∃ y, y ≤ n ∧ m = n - y ∧ f 2 = P 0 0 ∧ f 4 = P 1 0 ∧ f 5 = P 3 0 ∧ f 11 = P 5 0 ∧ f 12 = I y ∧ H' = [some (DC n b w), some (DC 0 z16 z16), some (st.2.map N64), some (nm.map N8), some (st.1.map B), some (DC n (rnK b nm y) (rnK w nm y))]) (n) ?_ ?_
      · refine ⟨_, _, Gh.refl, 0, by omega, by omega, ?_, ?_, ?_, ?_, ?_, rfl⟩
        any_goals (simp (disch := omega) only [RA, ↓reduceIte, Nat.reduceEqDiff, RD, RE, *] <;> rfl)
      · clear g2 g4 g5 g6
        rintro m f H' R2 ⟨y, hy, rfl, g2, g4, g5, g11, g12, rfl⟩ hN2 hX2 hR2 hE2
        simp only [A_spec_l07From.l2, T_aiff]
        have hl1 := @rnK_len b nm y
        have hl2 := @rnK_len w nm y
        refine T_rseq fun Kr hKr => ?_
        simp (disch := omega) only [RA, ↓reduceIte, Nat.reduceEqDiff, RD, g2, g12, RDS]
        refine hKr _ _ ?_
        clear hKr Kr
        try simp only [RN, reduceIte]
        try refine T_e rfl ?_
        refine T_csplit (p := y < n) (by simp only [RA, ↓reduceIte, Nat.reduceEqDiff] <;> rfl) (by (try simp only [RB]) <;> first | done | exact Iff.rfl | omega | simp) (fun hc => ?_) (fun hc => ?_) <;> (try simp only [RN, reduceIte]) <;> (try refine T_e rfl ?_)
        · have h1 := hb16 y
          have h2 := hw16 y
          have h3 := hnm16 y
          have hl3 : ((rnK b nm y).set (nl nm y) (nl nm (nl b y))).length = 16 := by rw [List.length_set]; exact hl1
          first | refine T_bfree rfl ?_ | refine T_bfree' rfl ?_
          try simp only [RN, reduceIte]
          try refine T_e rfl ?_
          refine T_rseq fun Kr hKr => ?_
          simp (disch := omega) only [RA, ↓reduceIte, Nat.reduceEqDiff, RD, g2, g5, g11, g12, RDS, RDD]
          refine hKr _ _ ?_
          clear hKr Kr
          try simp only [RN, reduceIte]
          try refine T_e rfl ?_
          refine T_rseq fun Kr hKr => ?_
          simp (disch := omega) only [RA, ↓reduceIte, Nat.reduceEqDiff, RD, g2, g5, g11, g12, RDS, RDD]
          refine hKr _ _ ?_
          clear hKr Kr
          try simp only [RN, reduceIte]
          try refine T_e rfl ?_
          refine T_reg_k fun Kr hKr => ?_
          simp (disch := omega) only [RA, ↓reduceIte, Nat.reduceEqDiff, RD, g12]
          refine hKr _ _ ?_
          clear hKr Kr
          refine hN2 (n - (y + 1)) _ _ _ _ (by omega) Gh.refl ⟨y + 1, by omega, rfl, ?_, ?_, ?_, ?_, ?_, rfl⟩
          any_goals (simp (disch := omega) only [RA, ↓reduceIte, Nat.reduceEqDiff, RD, RE, *] <;> rfl)
        · refine hX2 _ _ ?_
          obtain rfl : y = n := by omega
          refine T_rseq fun Kr hKr => ?_
          simp (disch := omega) only [RA, ↓reduceIte, Nat.reduceEqDiff, RD, g4, g11, RDS, RDD]
          refine hKr _ _ ?_
          clear hKr Kr
          try simp only [RN, reduceIte]
          try refine T_e rfl ?_
          refine bodyQ_ret (by simp (disch := omega) only [RA, ↓reduceIte, Nat.reduceEqDiff, RD, resAll, resOf, g4, RDS, RDD]; rfl) GhV.refl ?_
          simp only [tup]
          exact ⟨nn_D, hK⟩
end Go.Bm
