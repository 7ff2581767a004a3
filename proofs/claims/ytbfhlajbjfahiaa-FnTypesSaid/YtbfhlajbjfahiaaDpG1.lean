/- DpV, DpVa, DpDa, DpCc, DpCd, DpDg, DpDb -/
import Derived.Test.YtbfhlajbjfahiaaBmQ
import Derived.Test.YtbfhlajbjfahiaaDpG0
/- Cycles in memory. -/
set_option linter.unusedVariables false
set_option linter.unusedSimpArgs false
namespace Go.Bm
open Go Go.Am

/-- A list of numbers that is only read. -/
abbrev FN (c : List Nat) : Value := Fz c.length 1 (c.map N64)
theorem NNL_FN {p : List (List Nat)} : NNL (p.map FN) := NNL.map fun _ => NN.fz
theorem NNL_64 {p : List Nat} : NNL (p.map N64) := NNL.map fun _ => NN.int
theorem app1_FN {H : BH} {b bytes cn : Nat} {xs : List (List Nat)} {y : List Nat} (h : (xs.length + 1) * bytes ≤ 140737488355328) : app1 (some [Fz y.length 1 (y.map N64)]) (some (xs.map FN)) H b xs.length bytes cn = some (S H.length 0 (xs.length + 1) 1, (H.set b none) ++ [some ((xs ++ [y]).map FN)]) := app1_g (g := FN) rfl h
theorem getN_FN {xs : List (List Nat)} {k : Nat} (h : k < xs.length) : getN none (xs.map FN) k = some (FN (xs.getD k [])) := by
  simp [getN, h, List.getD]
theorem frz_ne {i j o l e : Nat} {cs : List Value} (h : j ≠ i) : frz i cs (S j o l e) = S j o l e := by
  simp only [frz]
  rw [if_neg (fun k => h k.1)]
theorem RV : (type_of% @NNL_FN) ∧ (type_of% @NNL_64) := ⟨@NNL_FN, @NNL_64⟩
theorem l01Cycles_run {p : List Nat} {n : Nat} (hb : By 16 p) (hp : Perm p n) :
    CallX false F_spec_l01Cycles [PL p, I n] [] fun v H1 => ∃ j, v = S j 0 (cyc p n).length 1 ∧ blk H1 j = some ((cyc p n).map FN) := by
  have hlen := hb.len
  have hn := hp.1
  obtain ⟨M, hM⟩ : ∃ M, M = 16 := ⟨_, rfl⟩
  have hcyc : cyc p n = (cycK p M n).2 := by rw [hM]; rfl
  rw [hcyc]
  refine CallX_body Γ_spec_l01Cycles ?_
  simp only [A_spec_l01Cycles, T_aiff]
  refine T_rseq fun Kr hKr => ?_
  simp (disch := omega) only [RA, ↓reduceIte, Nat.reduceEqDiff, Nat.reduceBEq, Nat.reduceSub, Nat.reduceAdd, Nat.reduceMul, Nat.reduceLT, Nat.reduceLeDiff, Int.reduceLE, Int.reduceLT, Int.reduceEq, Int.reduceNeg, Int.reduceToNat, Int.reduceMul, Int.reduceAdd, Int.reduceSub, Int.reduceBEq, Int.reduceBNe, reduceCtorEq, RD]
  refine hKr _ _ ?_
  clear hKr Kr
  try simp only [RN, reduceIte]
  try refine T_e rfl ?_
  refine T_rseq fun Kr hKr => ?_
  simp (disch := omega) only [RA, ↓reduceIte, Nat.reduceEqDiff, Nat.reduceBEq, Nat.reduceSub, Nat.reduceAdd, Nat.reduceMul, Nat.reduceLT, Nat.reduceLeDiff, Int.reduceLE, Int.reduceLT, Int.reduceEq, Int.reduceNeg, Int.reduceToNat, Int.reduceMul, Int.reduceAdd, Int.reduceSub, Int.reduceBEq, Int.reduceBNe, reduceCtorEq, RD]
  refine hKr _ _ ?_
  clear hKr Kr
  try simp only [RN, reduceIte]
  try refine T_e rfl ?_
  refine T_rseq fun Kr hKr => ?_
  simp (disch := omega) only [RA, ↓reduceIte, Nat.reduceEqDiff, Nat.reduceBEq, Nat.reduceSub, Nat.reduceAdd, Nat.reduceMul, Nat.reduceLT, Nat.reduceLeDiff, Int.reduceLE, Int.reduceLT, Int.reduceEq, Int.reduceNeg, Int.reduceToNat, Int.reduceMul, Int.reduceAdd, Int.reduceSub, Int.reduceBEq, Int.reduceBNe, reduceCtorEq, RD]
  refine hKr _ _ ?_
  clear hKr Kr
  try simp only [RN, reduceIte]
  try refine T_e rfl ?_
  refine T_wloop (fun m f H' => ∃ i sc, i ≤ n ∧ m = n - i ∧ sc = cycK p M i ∧ f 1 = I n ∧ f 2 = P 0 0 ∧ f 5 = S 1 0 sc.2.length 1 ∧ f 6 = P 2 0 ∧ f 7 = I i ∧ H' = [some (p.map N8), some (sc.2.map FN), some (sc.1.map B)]) (n) ?_ ?_
  · refine ⟨_, _, Gh.refl, 0, (List.replicate 16 false, []), by omega, by omega, rfl, ?_, ?_, ?_, ?_, ?_, by simp⟩
    any_goals (simp (disch := omega) only [RA, ↓reduceIte, Nat.reduceEqDiff, RD, RE, *] <;> rfl)
  · rintro m f H' R ⟨i, sc, hi, rfl, hsc, g1, g2, g5, g6, g7, rfl⟩ hN hX hR hE
    simp only [A_spec_l01Cycles.l1, T_aiff]
    have hok := CycOk.all hM hp hi
    rw [← hsc] at hok
    have hsl := hok.len
    have hnum := hok.num
    refine T_rseq fun Kr hKr => ?_
    simp (disch := omega) only [RA, ↓reduceIte, Nat.reduceEqDiff, RD, g1, g7]
    refine hKr _ _ ?_
    clear hKr Kr
    try simp only [RN, reduceIte]
    try refine T_e rfl ?_
    refine T_csplit (p := i < n) (by simp only [RA, ↓reduceIte, Nat.reduceEqDiff] <;> rfl) (by (try simp only [RB]) <;> first | done | exact Iff.rfl | omega | simp) (fun hc => ?_) (fun hc => ?_) <;> (try simp only [RN, reduceIte]) <;> (try refine T_e rfl ?_)
    · have hnext : ∀ f' sc', f' 1 = I n → f' 2 = P 0 0 → f' 5 = S 1 0 sc'.2.length 1 → f' 6 = P 2 0 → f' 7 = I i → sc' = cycK p M (i + 1) → T 0 A_spec_l01Cycles.r4 R f' [some (p.map N8), some (sc'.2.map FN), some (sc'.1.map B)] := by
        intro f' sc' g1 g2 g5 g6 g7 hs
        refine T_reg_k fun Kr hKr => ?_
        simp (disch := omega) only [RA, ↓reduceIte, Nat.reduceEqDiff, RD, g7]
        refine hKr _ _ ?_
        clear hKr Kr
        refine hN (n - (i + 1)) _ _ _ _ (by omega) Gh.refl ⟨i + 1, sc', by omega, rfl, hs, ?_, ?_, ?_, ?_, ?_, rfl⟩
        any_goals (simp (disch := omega) only [RA, ↓reduceIte, Nat.reduceEqDiff, RD, RE, *] <;> rfl)
      have hin : i < n := by assumption
      first | refine T_bfree rfl ?_ | refine T_bfree' rfl ?_
      try simp only [RN, reduceIte]
      try refine T_e rfl ?_
      refine T_rseq fun Kr hKr => ?_
      simp (disch := omega) only [RA, ↓reduceIte, Nat.reduceEqDiff, Nat.reduceBEq, Nat.reduceSub, Nat.reduceAdd, Nat.reduceMul, Nat.reduceLT, Nat.reduceLeDiff, Int.reduceLE, Int.reduceLT, Int.reduceEq, Int.reduceNeg, Int.reduceToNat, Int.reduceMul, Int.reduceAdd, Int.reduceSub, Int.reduceBEq, Int.reduceBNe, reduceCtorEq, RD]
      refine hKr _ _ ?_
      clear hKr Kr
      try simp only [RN, reduceIte]
      try refine T_e rfl ?_
      refine T_rseq fun Kr hKr => ?_
      simp (disch := omega) only [RA, ↓reduceIte, Nat.reduceEqDiff, RD, g7]
      refine hKr _ _ ?_
      clear hKr Kr
      try simp only [RN, reduceIte]
      try refine T_e rfl ?_
      by_cases hm : bl sc.1 i = true
      · refine T_wloop (fun m f H' => m = 0 ∧ f 1 = I n ∧ f 2 = P 0 0 ∧ f 5 = S 1 0 sc.2.length 1 ∧ f 6 = P 2 0 ∧ f 7 = I i ∧ f 8 = S 3 0 0 1 ∧ f 9 = I i ∧ H' = [some (p.map N8), some (sc.2.map FN), some (sc.1.map B), some []]) (0) ?_ ?_
        · refine ⟨_, _, Gh.refl, rfl, ?_, ?_, ?_, ?_, ?_, ?_, ?_, by simp⟩
          any_goals (simp (disch := omega) only [RA, ↓reduceIte, Nat.reduceEqDiff, RD, RE, *] <;> rfl)
        · clear g1 g2 g5 g6 g7
          rintro m f H' R1 ⟨rfl, g1, g2, g5, g6, g7, g8, g9, rfl⟩ hN1 hX1 hR1 hE1
          simp only [A_spec_l01Cycles.l0, T_aiff]
          refine T_rseq fun Kr hKr => ?_
          simp (disch := omega) only [RA, ↓reduceIte, Nat.reduceEqDiff, RD, g6, g9, hsl]
          refine hKr _ _ ?_
          clear hKr Kr
          try simp only [RN, reduceIte]
          try refine T_e rfl ?_
          refine T_cseq (t := false) (by simp (disch := omega) only [RA, ↓reduceIte, Nat.reduceEqDiff, RD, hm]) ?_
          try simp only [RN, reduceIte]
          try refine T_e rfl ?_
          refine hX1 _ _ ?_
          try simp only [RN, reduceIte]
          try refine T_e rfl ?_
          refine T_rseq fun Kr hKr => ?_
          simp (disch := omega) only [RA, ↓reduceIte, Nat.reduceEqDiff, Nat.reduceBEq, Nat.reduceSub, Nat.reduceAdd, Nat.reduceMul, Nat.reduceLT, Nat.reduceLeDiff, Int.reduceLE, Int.reduceLT, Int.reduceEq, Int.reduceNeg, Int.reduceToNat, Int.reduceMul, Int.reduceAdd, Int.reduceSub, Int.reduceBEq, Int.reduceBNe, reduceCtorEq, RD, g8]
          refine hKr _ _ ?_
          clear hKr Kr
          try simp only [RN, reduceIte]
          try refine T_e rfl ?_
          refine T_cseq (t := false) (by simp (disch := omega) only [RA, ↓reduceIte, Nat.reduceEqDiff, RD]) ?_
          try simp only [RN, reduceIte]
          try refine T_e rfl ?_
          refine T_gh (Gh.nrm [0, 1, 2] rfl rfl (by simp only [RH, RV])) ?_
          refine hnext _ sc ?_ ?_ ?_ ?_ ?_ (by rw [cycK, ← hsc, if_pos hm])
          any_goals (simp (disch := omega) only [RA, ↓reduceIte, Nat.reduceEqDiff, RD, RE, *] <;> rfl)
      · have h0 : bl sc.1 i = false := by simpa using hm
        have hdone := WkOk.done hM hp hsl hin h0 hok.inv
        have hcyc1 := (WkOk.cyc hM hp hsl hin h0 hok.inv hok.upto).1.ne
        refine T_wloop (fun m f H' => ∃ j st, j ≤ M ∧ m = M - j ∧ st = wk p (sc.1, [], i) j ∧ f 1 = I n ∧ f 2 = P 0 0 ∧ f 5 = S 1 0 sc.2.length 1 ∧ f 6 = P 2 0 ∧ f 7 = I i ∧ f 8 = S 3 0 st.2.1.length 1 ∧ f 9 = I st.2.2 ∧ H' = [some (p.map N8), some (sc.2.map FN), some (st.1.map B), some (st.2.1.map N64)]) (M) ?_ ?_
        · refine ⟨_, _, Gh.refl, 0, (sc.1, [], i), by omega, by omega, rfl, ?_, ?_, ?_, ?_, ?_, ?_, ?_, by simp⟩
          any_goals (simp (disch := omega) only [RA, ↓reduceIte, Nat.reduceEqDiff, RD, RE, *] <;> rfl)
        · clear g1 g2 g5 g6 g7
          rintro m f H' R1 ⟨j, st, hj, rfl, hst, g1, g2, g5, g6, g7, g8, g9, rfl⟩ hN1 hX1 hR1 hE1
          simp only [A_spec_l01Cycles.l0, T_aiff]
          have hw := WkOk.wk hp hsl hin h0 hok.inv j
          have hstep : wk p (sc.1, [], i) (j + 1) = wstep p st := by rw [hst]; rfl
          have hstop : bl st.1 st.2.2 = true → wk p (sc.1, [], i) M = st := fun h => by
            rw [hst] at h ⊢
            exact wk_stop h M hj
          have hdj : j = M → bl st.1 st.2.2 = true := fun h => by
            rw [hst, h]
            exact hdone
          rw [← hst] at hw
          clear hst hdone
          obtain ⟨s, l, k⟩ := st
          simp only at g8 g9 hstop hdj hstep ⊢
          have hwl : s.length = 16 := hw.len
          have hwk : k < n := hw.at_
          have hpk := hp.lt hwk
          have hll : l.length ≤ 16 := by
            have h1 := hw.cnt
            have h2 := List.count_le_length (a := true) (l := s)
            simp only at h1
            omega
          refine T_rseq fun Kr hKr => ?_
          simp (disch := omega) only [RA, ↓reduceIte, Nat.reduceEqDiff, Nat.reduceBEq, Nat.reduceSub, Nat.reduceAdd, Nat.reduceMul, Nat.reduceLT, Nat.reduceLeDiff, Int.reduceLE, Int.reduceLT, Int.reduceEq, Int.reduceNeg, Int.reduceToNat, Int.reduceMul, Int.reduceAdd, Int.reduceSub, Int.reduceBEq, Int.reduceBNe, reduceCtorEq, RD, g6, g9, hwl]
          refine hKr _ _ ?_
          clear hKr Kr
          try simp only [RN, reduceIte]
          try refine T_e rfl ?_
          refine T_csplit (p := ¬ bl s k = true) (by simp only [RA, ↓reduceIte, Nat.reduceEqDiff, Nat.reduceBEq, Nat.reduceSub, Nat.reduceAdd, Nat.reduceMul, Nat.reduceLT, Nat.reduceLeDiff, Int.reduceLE, Int.reduceLT, Int.reduceEq, Int.reduceNeg, Int.reduceToNat, Int.reduceMul, Int.reduceAdd, Int.reduceSub, Int.reduceBEq, Int.reduceBNe, reduceCtorEq] <;> rfl) (by (try simp only [RB]) <;> first | done | exact Iff.rfl | omega | simp) (fun hc => ?_) (fun hc => ?_) <;> (try simp only [RN, reduceIte]) <;> (try refine T_e rfl ?_)
          · rw [wstep, if_neg hc] at hstep
            have hjM : j < M := by
              rcases Nat.lt_or_ge j M with h | h
              · exact h
              · exact absurd (hdj (by omega)) hc
            first | refine T_bfree rfl ?_ | refine T_bfree' rfl ?_
            try simp only [RN, reduceIte]
            try refine T_e rfl ?_
            refine T_rseq fun Kr hKr => ?_
            simp (disch := omega) only [RA, ↓reduceIte, Nat.reduceEqDiff, Nat.reduceBEq, Nat.reduceSub, Nat.reduceAdd, Nat.reduceMul, Nat.reduceLT, Nat.reduceLeDiff, Int.reduceLE, Int.reduceLT, Int.reduceEq, Int.reduceNeg, Int.reduceToNat, Int.reduceMul, Int.reduceAdd, Int.reduceSub, Int.reduceBEq, Int.reduceBNe, reduceCtorEq, RD, g6, g9, hwl]
            refine hKr _ _ ?_
            clear hKr Kr
            try simp only [RN, reduceIte]
            try refine T_e rfl ?_
            refine T_rseq fun Kr hKr => ?_
            simp (disch := omega) only [RA, ↓reduceIte, Nat.reduceEqDiff, Nat.reduceBEq, Nat.reduceSub, Nat.reduceAdd, Nat.reduceMul, Nat.reduceLT, Nat.reduceLeDiff, Int.reduceLE, Int.reduceLT, Int.reduceEq, Int.reduceNeg, Int.reduceToNat, Int.reduceMul, Int.reduceAdd, Int.reduceSub, Int.reduceBEq, Int.reduceBNe, reduceCtorEq, RD, g8, g9, app1_64]
            refine hKr _ _ ?_
            clear hKr Kr
            try simp only [RN, reduceIte]
            try refine T_e rfl ?_
            refine T_reg_k fun Kr hKr => ?_
            simp (disch := omega) only [RA, ↓reduceIte, Nat.reduceEqDiff, RD, g2, g9]
            refine hKr _ _ ?_
            clear hKr Kr
            refine hN1 (M - (j + 1)) _ _ _ _ (by omega) (Gh.nrm [0, 1, 2, 5] rfl rfl (by simp only [RH, RV])) ⟨j + 1, (s.set k true, l ++ [k], nl p k), by omega, rfl, hstep.symm, ?_, ?_, ?_, ?_, ?_, ?_, ?_, rfl⟩
            any_goals (simp (disch := omega) only [RA, ↓reduceIte, Nat.reduceEqDiff, Nat.reduceAdd, Nat.reduceMul, Int.reduceToNat, Nat.reduceLT, reduceCtorEq, RD, RE, *] <;> rfl)
          · refine hX1 _ _ ?_
            have hc' : bl s k = true := by simpa using hc
            have hfin := hstop hc'
            rw [hfin] at hcyc1
            have hfl : l.length * 1 = (l.map N64).length := by simp
            have hl0 : 0 < l.length := hcyc1
            try simp only [RN, reduceIte]
            try refine T_e rfl ?_
            refine T_rseq fun Kr hKr => ?_
            simp (disch := omega) only [RA, ↓reduceIte, Nat.reduceEqDiff, Nat.reduceBEq, Nat.reduceSub, Nat.reduceAdd, Nat.reduceMul, Nat.reduceLT, Nat.reduceLeDiff, Int.reduceLE, Int.reduceLT, Int.reduceEq, Int.reduceNeg, Int.reduceToNat, Int.reduceMul, Int.reduceAdd, Int.reduceSub, Int.reduceBEq, Int.reduceBNe, reduceCtorEq, RD, g8]
            refine hKr _ _ ?_
            clear hKr Kr
            try simp only [RN, reduceIte]
            try refine T_e rfl ?_
            refine T_cseq (t := true) (by simp (disch := omega) only [RA, ↓reduceIte, Nat.reduceEqDiff, Nat.reduceBEq, Nat.reduceSub, Nat.reduceAdd, Nat.reduceMul, Nat.reduceLT, Nat.reduceLeDiff, Int.reduceLE, Int.reduceLT, Int.reduceEq, Int.reduceNeg, Int.reduceToNat, Int.reduceMul, Int.reduceAdd, Int.reduceSub, Int.reduceBEq, Int.reduceBNe, reduceCtorEq, RD]) ?_
            try simp only [RN, reduceIte]
            try refine T_e rfl ?_
            have hfz : ∀ f2 : Fr, f2 1 = I n → f2 2 = P 0 0 → f2 5 = S 1 0 sc.2.length 1 → f2 6 = P 2 0 → f2 7 = I i → f2 8 = Fz l.length 1 (l.map N64) → T 0 (.seq A_spec_l01Cycles.r12 A_spec_l01Cycles.r4) R f2 [some (p.map N8), some (sc.2.map FN), some (s.map B), none] := by
              clear g1 g2 g5 g6 g7 g8 g9
              intro f2 g1 g2 g5 g6 g7 g8
              refine T_rseq fun Kr hKr => ?_
              simp (disch := omega) only [RA, ↓reduceIte, Nat.reduceEqDiff, Nat.reduceBEq, Nat.reduceSub, Nat.reduceAdd, Nat.reduceMul, Nat.reduceLT, Nat.reduceLeDiff, Int.reduceLE, Int.reduceLT, Int.reduceEq, Int.reduceNeg, Int.reduceToNat, Int.reduceMul, Int.reduceAdd, Int.reduceSub, Int.reduceBEq, Int.reduceBNe, reduceCtorEq, RD, g5, g8, app1_FN]
              refine hKr _ _ ?_
              clear hKr Kr
              try simp only [RN, reduceIte]
              try refine T_e rfl ?_
              refine T_gh (Gh.nrm [0, 5, 2] rfl rfl (by simp only [RH, RV])) ?_
              refine hnext _ (s, sc.2 ++ [l]) ?_ ?_ ?_ ?_ ?_ ?_
              any_goals (simp (disch := omega) only [RA, ↓reduceIte, Nat.reduceEqDiff, RD, RE, *] <;> rfl)
              rw [cycK, ← hsc, if_neg (by simp [h0]), hfin]
            exact T_gh (Gh.fz (i := 3) (cs := l.map N64) rfl NNL_64) (hfz _ (by simp (disch := omega) only [RA, ↓reduceIte, Nat.reduceEqDiff, RD, RE, RZ, frz_ne, frz_all, *] <;> rfl) (by simp (disch := omega) only [RA, ↓reduceIte, Nat.reduceEqDiff, RD, RE, RZ, frz_ne, frz_all, *] <;> rfl) (by simp (disch := omega) only [RA, ↓reduceIte, Nat.reduceEqDiff, RD, RE, RZ, frz_ne, frz_all, *] <;> rfl) (by simp (disch := omega) only [RA, ↓reduceIte, Nat.reduceEqDiff, RD, RE, RZ, frz_ne, frz_all, *] <;> rfl) (by simp (disch := omega) only [RA, ↓reduceIte, Nat.reduceEqDiff, RD, RE, RZ, frz_ne, frz_all, *] <;> rfl) (by simp (disch := omega) only [RA, ↓reduceIte, Nat.reduceEqDiff, RD, RE, RZ, frz_ne, frz_all, *] <;> rfl))
    · refine hX _ _ ?_
      obtain rfl : i = n := by omega
      refine T_rseq fun Kr hKr => ?_
      simp (disch := omega) only [RA, ↓reduceIte, Nat.reduceEqDiff, RD, g5]
      refine hKr _ _ ?_
      clear hKr Kr
      try simp only [RN, reduceIte]
      try refine T_e rfl ?_
      refine bodyQ_ret (by simp (disch := omega) only [RA, ↓reduceIte, Nat.reduceEqDiff, RD, resAll, resOf, g5]; rfl) GhV.refl ?_
      simp only [tup]
      rw [hsc]
      exact ⟨1, rfl, rfl⟩
theorem l01Cycles_spec {x : Bool} {p : List Nat} {n : Nat} {H : BH} {K : Value → BH → Prop} (hb : By 16 p) (hp : Perm p n) (hK : K (Fz (cyc p n).length 1 ((cyc p n).map FN)) H) : CallX x F_spec_l01Cycles [PL p, I n] H K :=
  callRZ (by (simp only [RH])) NNL_FN (by simp) (l01Cycles_run hb hp) hK
end Go.Bm

/- Lists put behind lists. -/
set_option linter.unusedVariables false
set_option linter.unusedSimpArgs false
namespace Go.Bm
open Go Go.Am

/-- More elements, out of what is only read. -/
def appz (c : Option (List Value)) (H : BH) (b l m bytes : Nat) (ys : List Value) : Option (Value × BH) :=
  match c with
  | some cs => if ys.length = m ∧ l ≤ cs.length ∧ (l + m) * bytes ≤ 140737488355328 ∧ ys.all one2 = true then some (S H.length 0 (l + m) 1, (H.set b none) ++ [some (cs.take l ++ ys)]) else bAppend 1 bytes (S b 0 l 1) (Fz m 1 ys) H
  | none => bAppend 1 bytes (S b 0 l 1) (Fz m 1 ys) H
theorem bApp_z {H : BH} {b l m bytes : Nat} {ys : List Value} : bAppend 1 bytes (S b 0 l 1) (Fz m 1 ys) H = appz (blk H b) H b l m bytes ys := by
  unfold appz
  split
  · rename_i cs hb
    split
    · rename_i h
      obtain ⟨h1, h2, h3, h4⟩ := h
      by_cases hm : m = 0
      · subst hm
        obtain rfl : ys = [] := List.eq_nil_of_length_eq_zero h1
        simp only [Nat.add_zero] at h3
        simp [bAppend, newC, Fz, hb, h2, h3]
      · simp only [bAppend, newC, Fz, if_neg hm, if_true, hb, Nat.mul_one]
        rw [if_pos ⟨h2, h3, h4⟩]
    · rfl
  · rfl
section
variable {H : BH} {b bytes : Nat}
theorem appz_g {α : Type} {g : α → Value} {xs ys : List α} (ho : ∀ a, one2 (g a) = true) (h : (xs.length + ys.length) * bytes ≤ 140737488355328) :
    appz (some (xs.map g)) H b xs.length ys.length bytes (ys.map g) = some (S H.length 0 (xs.length + ys.length) 1, (H.set b none) ++ [some ((xs ++ ys).map g)]) := by
  simp only [appz]
  rw [if_pos ⟨by simp, by simp, h, by simp [ho]⟩]
  simp [List.take_of_length_le]
theorem appz_1 {α : Type} {g : α → Value} {x : α} {ys : List α} (ho : ∀ a, one2 (g a) = true) (h : (ys.length + 1) * bytes ≤ 140737488355328) :
    appz (some [g x]) H b 1 ys.length bytes (ys.map g) = some (S H.length 0 (ys.length + 1) 1, (H.set b none) ++ [some ((x :: ys).map g)]) := by
  have := appz_g (H := H) (b := b) (bytes := bytes) (g := g) (xs := [x]) (ys := ys) ho (by simpa [Nat.add_comm] using h)
  simpa [Nat.add_comm] using this
theorem appz_0 {α : Type} {g : α → Value} {ys : List α} (ho : ∀ a, one2 (g a) = true) (h : ys.length * bytes ≤ 140737488355328) :
    appz (some []) H b 0 ys.length bytes (ys.map g) = some (S H.length 0 ys.length 1, (H.set b none) ++ [some (ys.map g)]) := by
  have := appz_g (H := H) (b := b) (bytes := bytes) (g := g) (xs := []) (ys := ys) ho (by simpa using h)
  simpa using this
theorem appz_64c {x : Nat} {ys : List Nat} (h : (ys.length + 1) * bytes ≤ 140737488355328) : appz (some [.int .i64 (x : Int)]) H b 1 ys.length bytes (ys.map N64) = some (S H.length 0 (ys.length + 1) 1, (H.set b none) ++ [some ((x :: ys).map N64)]) := appz_1 (g := N64) (fun _ => rfl) h
end
end Go.Bm

/- Draws: a source of numbers. What it draws is not followed, but its range. -/
set_option linter.unusedVariables false
set_option linter.unusedSimpArgs false
namespace Go.Bm
open Go Go.Am

abbrev U64 (h : Int) : Value := .int .u64 h
def SC (code : List Nat) (a : Nat) (h : Int) : List Value := [Fz code.length 1 (code.map N8), I a, U64 h]
section
variable {code : List Nat} {a b : Nat} {h : Int} {H : BH}
theorem sc_0 : getN none (SC code a h) 0 = some (Fz code.length 1 (code.map N8)) := rfl
theorem sc_1 : getN none (SC code a h) 1 = some (I a) := rfl
theorem sc_2 : getN none (SC code a h) 2 = some (U64 h) := rfl
theorem sc_s1 {x : Nat} : stO (some (SC code a h)) H b 1 1 (.int .i64 (x : Int)) = some (undef, H.set b (some (SC code x h))) := by
  rw [stO_1 rfl rfl rfl (by simp [SC])]
  rfl
theorem sc_s2 {x : Int} : stO (some (SC code a h)) H b 2 1 (.int .u64 x) = some (undef, H.set b (some (SC code a x))) := by
  rw [stO_1 rfl rfl rfl (by simp [SC])]
  rfl
theorem sc_f {x : Int} : fillL [.slice none 0 0, .int .i64 0, .int .u64 0] [(0, 1, Fz code.length 1 (code.map N8)), (2, 1, .int .u64 x)] = some (SC code 0 x) := by
  simp [fillL, cellsL, SC, splice, Fz]
theorem NN_SC : NNL (SC code a h) := NNL.cons .fz (NNL.cons .int (NNL.cons .int NNL.nil))
theorem and24 {x : Int} : 0 ≤ IntKind.u64.wrap ((BitVec.ofInt IntKind.u64.bits x &&& BitVec.ofInt IntKind.u64.bits 16777215).toNat : Int) ∧ IntKind.u64.wrap ((BitVec.ofInt IntKind.u64.bits x &&& BitVec.ofInt IntKind.u64.bits 16777215).toNat : Int) ≤ 16777215 := by
  have h1 : (BitVec.ofInt IntKind.u64.bits x &&& BitVec.ofInt IntKind.u64.bits 16777215).toNat ≤ 16777215 := by
    rw [BitVec.toNat_and]
    exact Nat.le_trans Nat.and_le_right (by decide)
  have h2 : IntKind.u64.wrap ((BitVec.ofInt IntKind.u64.bits x &&& BitVec.ofInt IntKind.u64.bits 16777215).toNat : Int) = ((BitVec.ofInt IntKind.u64.bits x &&& BitVec.ofInt IntKind.u64.bits 16777215).toNat : Int) := by
    generalize (BitVec.ofInt IntKind.u64.bits x &&& BitVec.ofInt IntKind.u64.bits 16777215).toNat = k at h1
    exact wu64 (by omega) (by omega)
  rw [h2]
  omega
theorem l01Next_one {n : Int} {K : Value → BH → Prop} (ha : a ≤ code.length) (hl : code.length ≤ 1048576) (hcd : ∀ i, nl code i < 256) (hn : n < 4611686018427387904)
    (hK : ∀ v a' h', a' ≤ code.length → 0 ≤ v → v ≤ 16777470 → (0 < n → v < n) → (n < 1 → v = 0) → K (I v) [some (SC code a' h')]) : CallX false F_spec_l01Next [P 0 0, I n] [some (SC code a h)] K := by
  refine CallX_body Γ_spec_l01Next ?_
  simp only [A_spec_l01Next, T_aiff]
  refine T_rseq fun Kr hKr => ?_
  simp (disch := omega) only [RA, ↓reduceIte, Nat.reduceEqDiff, Nat.reduceBEq, Nat.reduceSub, Nat.reduceAdd, Nat.reduceMul, Nat.reduceLT, Nat.reduceLeDiff, Int.reduceLE, Int.reduceLT, Int.reduceEq, Int.reduceNeg, Int.reduceToNat, Int.reduceMul, Int.reduceAdd, Int.reduceSub, Int.reduceBEq, Int.reduceBNe, reduceCtorEq, RD]
  refine hKr _ _ ?_
  clear hKr Kr
  try simp only [RN, reduceIte]
  try refine T_e rfl ?_
  refine T_rseq fun Kr hKr => ?_
  simp (disch := omega) only [RA, ↓reduceIte, Nat.reduceEqDiff, Nat.reduceBEq, Nat.reduceSub, Nat.reduceAdd, Nat.reduceMul, Nat.reduceLT, Nat.reduceLeDiff, Int.reduceLE, Int.reduceLT, Int.reduceEq, Int.reduceNeg, Int.reduceToNat, Int.reduceMul, Int.reduceAdd, Int.reduceSub, Int.reduceBEq, Int.reduceBNe, reduceCtorEq, RD]
  refine hKr _ _ ?_
  clear hKr Kr
  try simp only [RN, reduceIte]
  try refine T_e rfl ?_
  refine T_csplit (p := n < 1) (by simp only [RA, ↓reduceIte, Nat.reduceEqDiff, Nat.reduceBEq, Nat.reduceSub, Nat.reduceAdd, Nat.reduceMul, Nat.reduceLT, Nat.reduceLeDiff, Int.reduceLE, Int.reduceLT, Int.reduceEq, Int.reduceNeg, Int.reduceToNat, Int.reduceMul, Int.reduceAdd, Int.reduceSub, Int.reduceBEq, Int.reduceBNe, reduceCtorEq] <;> rfl) (by (try simp only [RB]) <;> first | done | exact Iff.rfl | omega | simp) (fun hc => ?_) (fun hc => ?_) <;> (try simp only [RN, reduceIte]) <;> (try refine T_e rfl ?_)
  · refine T_rseq fun Kr hKr => ?_
    simp (disch := omega) only [RA, ↓reduceIte, Nat.reduceEqDiff, Nat.reduceBEq, Nat.reduceSub, Nat.reduceAdd, Nat.reduceMul, Nat.reduceLT, Nat.reduceLeDiff, Int.reduceLE, Int.reduceLT, Int.reduceEq, Int.reduceNeg, Int.reduceToNat, Int.reduceMul, Int.reduceAdd, Int.reduceSub, Int.reduceBEq, Int.reduceBNe, reduceCtorEq, RD]
    refine hKr _ _ ?_
    clear hKr Kr
    try simp only [RN, reduceIte]
    try refine T_e rfl ?_
    refine bodyQ_ret (by simp (disch := omega) only [RA, ↓reduceIte, Nat.reduceEqDiff, Nat.reduceBEq, Nat.reduceSub, Nat.reduceAdd, Nat.reduceMul, Nat.reduceLT, Nat.reduceLeDiff, Int.reduceLE, Int.reduceLT, Int.reduceEq, Int.reduceNeg, Int.reduceToNat, Int.reduceMul, Int.reduceAdd, Int.reduceSub, Int.reduceBEq, Int.reduceBNe, reduceCtorEq, RD, resAll, resOf]; rfl) GhV.refl ?_
    simp only [tup]
    exact hK 0 a h ha (by omega) (by omega) (fun h => by omega) (fun _ => rfl)
  · refine T_rseq fun Kr hKr => ?_
    simp (disch := omega) only [RA, ↓reduceIte, Nat.reduceEqDiff, Nat.reduceBEq, Nat.reduceSub, Nat.reduceAdd, Nat.reduceMul, Nat.reduceLT, Nat.reduceLeDiff, Int.reduceLE, Int.reduceLT, Int.reduceEq, Int.reduceNeg, Int.reduceToNat, Int.reduceMul, Int.reduceAdd, Int.reduceSub, Int.reduceBEq, Int.reduceBNe, reduceCtorEq, RD, sc_2, sc_s2]
    refine hKr _ _ ?_
    clear hKr Kr
    try simp only [RN, reduceIte]
    try refine T_e rfl ?_
    generalize IntKind.u64.wrap (IntKind.u64.wrap (h * 6364136223846793005) + 1442695040888963407) = h2
    refine T_rseq fun Kr hKr => ?_
    simp (disch := omega) only [RA, ↓reduceIte, Nat.reduceEqDiff, Nat.reduceBEq, Nat.reduceSub, Nat.reduceAdd, Nat.reduceMul, Nat.reduceLT, Nat.reduceLeDiff, Int.reduceLE, Int.reduceLT, Int.reduceEq, Int.reduceNeg, Int.reduceToNat, Int.reduceMul, Int.reduceAdd, Int.reduceSub, Int.reduceBEq, Int.reduceBNe, reduceCtorEq, RD, sc_2, sc_s2]
    refine hKr _ _ ?_
    clear hKr Kr
    try simp only [RN, reduceIte]
    try refine T_e rfl ?_
    obtain ⟨y, hy, hy0, hy1⟩ : ∃ y, IntKind.u64.wrap ((BitVec.ofInt IntKind.u64.bits (h2.fdiv (2 ^ min 33 IntKind.u64.bits)) &&& BitVec.ofInt IntKind.u64.bits 16777215).toNat : Int) = y ∧ 0 ≤ y ∧ y ≤ 16777215 := ⟨_, rfl, and24.1, and24.2⟩
    rw [hy]
    have hyw : IntKind.i64.wrap y = y := w64 (by omega) (by omega)
    rw [hyw]
    have hend : ∀ f' y' a', 0 ≤ y' → y' ≤ 16777470 → a' ≤ code.length → f' 1 = I n → f' 5 = I y' → T 1 (.seq A_spec_l01Next.r8 .ret) (bodyQ 1 [.tmp 4] K) f' [some (SC code a' h2)] := by
      intro f' y' a' k1 k2 k3 g1 g5
      have hn0 : n ≠ 0 := by omega
      refine T_rseq fun Kr hKr => ?_
      simp (disch := omega) only [RA, ↓reduceIte, Nat.reduceEqDiff, Nat.reduceBEq, Nat.reduceSub, Nat.reduceAdd, Nat.reduceMul, Nat.reduceLT, Nat.reduceLeDiff, Int.reduceLE, Int.reduceLT, Int.reduceEq, Int.reduceNeg, Int.reduceToNat, Int.reduceMul, Int.reduceAdd, Int.reduceSub, Int.reduceBEq, Int.reduceBNe, reduceCtorEq, RD, g1, g5, hn0]
      refine hKr _ _ ?_
      clear hKr Kr
      try simp only [RN, reduceIte]
      try refine T_e rfl ?_
      refine bodyQ_ret (by simp (disch := omega) only [RA, ↓reduceIte, Nat.reduceEqDiff, Nat.reduceBEq, Nat.reduceSub, Nat.reduceAdd, Nat.reduceMul, Nat.reduceLT, Nat.reduceLeDiff, Int.reduceLE, Int.reduceLT, Int.reduceEq, Int.reduceNeg, Int.reduceToNat, Int.reduceMul, Int.reduceAdd, Int.reduceSub, Int.reduceBEq, Int.reduceBNe, reduceCtorEq, RD, resAll, resOf]; rfl) GhV.refl ?_
      simp only [tup]
      have t1 := Int.tmod_nonneg n k1
      have t2 := Int.tmod_lt_of_pos y' (show 0 < n by omega)
      have t3 : y'.tmod n ≤ y' := by
        rw [Int.tmod_eq_emod_of_nonneg k1]
        have q := Int.mul_ediv_add_emod y' n
        have q2 := Int.mul_nonneg (show 0 ≤ n by omega) (Int.ediv_nonneg k1 (show 0 ≤ n by omega))
        omega
      exact hK _ a' h2 k3 t1 (by omega) (fun _ => t2) (fun h => by omega)
    refine T_rseq fun Kr hKr => ?_
    simp (disch := omega) only [RA, ↓reduceIte, Nat.reduceEqDiff, Nat.reduceBEq, Nat.reduceSub, Nat.reduceAdd, Nat.reduceMul, Nat.reduceLT, Nat.reduceLeDiff, Int.reduceLE, Int.reduceLT, Int.reduceEq, Int.reduceNeg, Int.reduceToNat, Int.reduceMul, Int.reduceAdd, Int.reduceSub, Int.reduceBEq, Int.reduceBNe, reduceCtorEq, RD, sc_1, sc_0]
    refine hKr _ _ ?_
    clear hKr Kr
    try simp only [RN, reduceIte]
    try refine T_e rfl ?_
    refine T_csplit (p := a < code.length) (by simp only [RA, ↓reduceIte, Nat.reduceEqDiff, Nat.reduceBEq, Nat.reduceSub, Nat.reduceAdd, Nat.reduceMul, Nat.reduceLT, Nat.reduceLeDiff, Int.reduceLE, Int.reduceLT, Int.reduceEq, Int.reduceNeg, Int.reduceToNat, Int.reduceMul, Int.reduceAdd, Int.reduceSub, Int.reduceBEq, Int.reduceBNe, reduceCtorEq] <;> rfl) (by (try simp only [RB]) <;> first | done | exact Iff.rfl | omega | simp) (fun hc => ?_) (fun hc => ?_) <;> (try simp only [RN, reduceIte]) <;> (try refine T_e rfl ?_)
    · have hcc := hcd a
      refine T_rseq fun Kr hKr => ?_
      simp (disch := omega) only [RA, ↓reduceIte, Nat.reduceEqDiff, Nat.reduceBEq, Nat.reduceSub, Nat.reduceAdd, Nat.reduceMul, Nat.reduceLT, Nat.reduceLeDiff, Int.reduceLE, Int.reduceLT, Int.reduceEq, Int.reduceNeg, Int.reduceToNat, Int.reduceMul, Int.reduceAdd, Int.reduceSub, Int.reduceBEq, Int.reduceBNe, reduceCtorEq, RD, sc_1, sc_0]
      refine hKr _ _ ?_
      clear hKr Kr
      try simp only [RN, reduceIte]
      try refine T_e rfl ?_
      have e1 : ((a : Nat) : Int) + 1 = ((a + 1 : Nat) : Int) := by omega
      refine T_rseq fun Kr hKr => ?_
      simp (disch := omega) only [RA, ↓reduceIte, Nat.reduceEqDiff, Nat.reduceBEq, Nat.reduceSub, Nat.reduceAdd, Nat.reduceMul, Nat.reduceLT, Nat.reduceLeDiff, Int.reduceLE, Int.reduceLT, Int.reduceEq, Int.reduceNeg, Int.reduceToNat, Int.reduceMul, Int.reduceAdd, Int.reduceSub, Int.reduceBEq, Int.reduceBNe, reduceCtorEq, RD, sc_1, e1, sc_s1]
      refine hKr _ _ ?_
      clear hKr Kr
      try simp only [RN, reduceIte]
      try refine T_e rfl ?_
      refine hend _ (y + nl code a) (a + 1) (by omega) (by omega) (by omega) ?_ ?_
      any_goals (simp (disch := omega) only [RA, ↓reduceIte, Nat.reduceEqDiff, Nat.reduceBEq, Nat.reduceSub, Nat.reduceAdd, Nat.reduceMul, Nat.reduceLT, Nat.reduceLeDiff, Int.reduceLE, Int.reduceLT, Int.reduceEq, Int.reduceNeg, Int.reduceToNat, Int.reduceMul, Int.reduceAdd, Int.reduceSub, Int.reduceBEq, Int.reduceBNe, reduceCtorEq, RD, RE, *] <;> rfl)
    · refine hend _ y a (by omega) (by omega) ha ?_ ?_
      any_goals (simp (disch := omega) only [RA, ↓reduceIte, Nat.reduceEqDiff, Nat.reduceBEq, Nat.reduceSub, Nat.reduceAdd, Nat.reduceMul, Nat.reduceLT, Nat.reduceLeDiff, Int.reduceLE, Int.reduceLT, Int.reduceEq, Int.reduceNeg, Int.reduceToNat, Int.reduceMul, Int.reduceAdd, Int.reduceSub, Int.reduceBEq, Int.reduceBNe, reduceCtorEq, RD, RE, *] <;> rfl)
theorem l01Next_spec {n : Int} {i : Nat} {K : Value → BH → Prop} (hb : blk H i = some (SC code a h)) (ha : a ≤ code.length) (hl : code.length ≤ 1048576) (hcd : ∀ i, nl code i < 256) (hn : n < 4611686018427387904)
    (hK : ∀ v a' h', a' ≤ code.length → 0 ≤ v → v ≤ 16777470 → (0 < n → v < n) → (n < 1 → v = 0) → K (I v) (H.set i (some (SC code a' h')))) : CallX false F_spec_l01Next [P i 0, I n] H K := by
  refine call1 hb NN_SC ?_
  have e : ([P i 0, I n] : List Value).map (ren [i]) = [P 0 0, I n] := by simp [ren, ren1, nm]
  rw [e]
  exact l01Next_one ha hl hcd hn fun v a' h' k1 k2 k3 k4 k5 => ⟨.int, HN.cons NN_SC HN.nil, hK v a' h' k1 k2 k3 k4 k5⟩
theorem l01From_run (hl : code.length ≤ 1048576) (hcd : ∀ i, nl code i < 256) : CallX false F_spec_l01From [Fz code.length 1 (code.map N8)] [] fun v H1 => ∃ j h, v = P j 0 ∧ blk H1 j = some (SC code 0 h) := by
  refine CallX_body Γ_spec_l01From ?_
  simp only [A_spec_l01From, T_aiff]
  refine T_rseq fun Kr hKr => ?_
  simp (disch := omega) only [RA, ↓reduceIte, Nat.reduceEqDiff, Nat.reduceBEq, Nat.reduceSub, Nat.reduceAdd, Nat.reduceMul, Nat.reduceLT, Nat.reduceLeDiff, Int.reduceLE, Int.reduceLT, Int.reduceEq, Int.reduceNeg, Int.reduceToNat, Int.reduceMul, Int.reduceAdd, Int.reduceSub, Int.reduceBEq, Int.reduceBNe, reduceCtorEq, RD]
  refine hKr _ _ ?_
  clear hKr Kr
  try simp only [RN, reduceIte]
  try refine T_e rfl ?_
  refine T_rseq fun Kr hKr => ?_
  simp (disch := omega) only [RA, ↓reduceIte, Nat.reduceEqDiff, Nat.reduceBEq, Nat.reduceSub, Nat.reduceAdd, Nat.reduceMul, Nat.reduceLT, Nat.reduceLeDiff, Int.reduceLE, Int.reduceLT, Int.reduceEq, Int.reduceNeg, Int.reduceToNat, Int.reduceMul, Int.reduceAdd, Int.reduceSub, Int.reduceBEq, Int.reduceBNe, reduceCtorEq, RD, sc_f]
  refine hKr _ _ ?_
  clear hKr Kr
  try simp only [RN, reduceIte]
  try refine T_e rfl ?_
  refine T_rseq fun Kr hKr => ?_
  simp (disch := omega) only [RA, ↓reduceIte, Nat.reduceEqDiff, Nat.reduceBEq, Nat.reduceSub, Nat.reduceAdd, Nat.reduceMul, Nat.reduceLT, Nat.reduceLeDiff, Int.reduceLE, Int.reduceLT, Int.reduceEq, Int.reduceNeg, Int.reduceToNat, Int.reduceMul, Int.reduceAdd, Int.reduceSub, Int.reduceBEq, Int.reduceBNe, reduceCtorEq, RD]
  refine hKr _ _ ?_
  clear hKr Kr
  try simp only [RN, reduceIte]
  try refine T_e rfl ?_
  refine T_wloop (fun d f H' => ∃ i h, i ≤ code.length ∧ d = code.length - i ∧ f 0 = Fz code.length 1 (code.map N8) ∧ f 3 = P 0 0 ∧ f 4 = I i ∧ H' = [some (SC code 0 h)]) (code.length) ?_ ?_
  · refine ⟨_, _, Gh.refl, 0, _, by omega, by omega, ?_, ?_, ?_, rfl⟩
    any_goals (simp (disch := omega) only [RA, ↓reduceIte, Nat.reduceEqDiff, Nat.reduceBEq, Nat.reduceSub, Nat.reduceAdd, Nat.reduceMul, Nat.reduceLT, Nat.reduceLeDiff, Int.reduceLE, Int.reduceLT, Int.reduceEq, Int.reduceNeg, Int.reduceToNat, Int.reduceMul, Int.reduceAdd, Int.reduceSub, Int.reduceBEq, Int.reduceBNe, reduceCtorEq, RD, RE, *] <;> rfl)
  · rintro d f H' R ⟨i, h, hi, rfl, g0, g3, g4, rfl⟩ hN hX hR hE
    simp only [A_spec_l01From.l0, T_aiff]
    by_cases h1 : i < code.length
    · by_cases h2 : i < 4096
      · have hcc := hcd i
        refine T_rseq fun Kr hKr => ?_
        simp (disch := omega) only [RA, ↓reduceIte, Nat.reduceEqDiff, Nat.reduceBEq, Nat.reduceSub, Nat.reduceAdd, Nat.reduceMul, Nat.reduceLT, Nat.reduceLeDiff, Int.reduceLE, Int.reduceLT, Int.reduceEq, Int.reduceNeg, Int.reduceToNat, Int.reduceMul, Int.reduceAdd, Int.reduceSub, Int.reduceBEq, Int.reduceBNe, reduceCtorEq, RD, g0, g4]
        refine hKr _ _ ?_
        clear hKr Kr
        try simp only [RN, reduceIte]
        try refine T_e rfl ?_
        refine T_cseq (t := true) (by simp (disch := omega) only [RA, ↓reduceIte, Nat.reduceEqDiff, Nat.reduceBEq, Nat.reduceSub, Nat.reduceAdd, Nat.reduceMul, Nat.reduceLT, Nat.reduceLeDiff, Int.reduceLE, Int.reduceLT, Int.reduceEq, Int.reduceNeg, Int.reduceToNat, Int.reduceMul, Int.reduceAdd, Int.reduceSub, Int.reduceBEq, Int.reduceBNe, reduceCtorEq, RD]) ?_
        try simp only [RN, reduceIte]
        try refine T_e rfl ?_
        first | refine T_bfree rfl ?_ | refine T_bfree' rfl ?_
        try simp only [RN, reduceIte]
        try refine T_e rfl ?_
        refine T_rseq fun Kr hKr => ?_
        simp (disch := omega) only [RA, ↓reduceIte, Nat.reduceEqDiff, Nat.reduceBEq, Nat.reduceSub, Nat.reduceAdd, Nat.reduceMul, Nat.reduceLT, Nat.reduceLeDiff, Int.reduceLE, Int.reduceLT, Int.reduceEq, Int.reduceNeg, Int.reduceToNat, Int.reduceMul, Int.reduceAdd, Int.reduceSub, Int.reduceBEq, Int.reduceBNe, reduceCtorEq, RD, g0, g3, g4, sc_2, sc_s2]
        refine hKr _ _ ?_
        clear hKr Kr
        try simp only [RN, reduceIte]
        try refine T_e rfl ?_
        refine T_reg_k fun Kr hKr => ?_
        simp (disch := omega) only [RA, ↓reduceIte, Nat.reduceEqDiff, Nat.reduceBEq, Nat.reduceSub, Nat.reduceAdd, Nat.reduceMul, Nat.reduceLT, Nat.reduceLeDiff, Int.reduceLE, Int.reduceLT, Int.reduceEq, Int.reduceNeg, Int.reduceToNat, Int.reduceMul, Int.reduceAdd, Int.reduceSub, Int.reduceBEq, Int.reduceBNe, reduceCtorEq, RD, g4]
        refine hKr _ _ ?_
        clear hKr Kr
        refine hN (code.length - (i + 1)) _ _ _ _ (by omega) Gh.refl ⟨i + 1, _, by omega, rfl, ?_, ?_, ?_, rfl⟩
        any_goals (simp (disch := omega) only [RA, ↓reduceIte, Nat.reduceEqDiff, Nat.reduceBEq, Nat.reduceSub, Nat.reduceAdd, Nat.reduceMul, Nat.reduceLT, Nat.reduceLeDiff, Int.reduceLE, Int.reduceLT, Int.reduceEq, Int.reduceNeg, Int.reduceToNat, Int.reduceMul, Int.reduceAdd, Int.reduceSub, Int.reduceBEq, Int.reduceBNe, reduceCtorEq, RD, RE, *] <;> rfl)
      · refine T_rseq fun Kr hKr => ?_
        simp (disch := omega) only [RA, ↓reduceIte, Nat.reduceEqDiff, Nat.reduceBEq, Nat.reduceSub, Nat.reduceAdd, Nat.reduceMul, Nat.reduceLT, Nat.reduceLeDiff, Int.reduceLE, Int.reduceLT, Int.reduceEq, Int.reduceNeg, Int.reduceToNat, Int.reduceMul, Int.reduceAdd, Int.reduceSub, Int.reduceBEq, Int.reduceBNe, reduceCtorEq, RD, g0, g4]
        refine hKr _ _ ?_
        clear hKr Kr
        try simp only [RN, reduceIte]
        try refine T_e rfl ?_
        refine T_cseq (t := false) (by simp (disch := omega) only [RA, ↓reduceIte, Nat.reduceEqDiff, Nat.reduceBEq, Nat.reduceSub, Nat.reduceAdd, Nat.reduceMul, Nat.reduceLT, Nat.reduceLeDiff, Int.reduceLE, Int.reduceLT, Int.reduceEq, Int.reduceNeg, Int.reduceToNat, Int.reduceMul, Int.reduceAdd, Int.reduceSub, Int.reduceBEq, Int.reduceBNe, reduceCtorEq, RD]) ?_
        try simp only [RN, reduceIte]
        try refine T_e rfl ?_
        refine hX _ _ ?_
        refine T_rseq fun Kr hKr => ?_
        simp (disch := omega) only [RA, ↓reduceIte, Nat.reduceEqDiff, Nat.reduceBEq, Nat.reduceSub, Nat.reduceAdd, Nat.reduceMul, Nat.reduceLT, Nat.reduceLeDiff, Int.reduceLE, Int.reduceLT, Int.reduceEq, Int.reduceNeg, Int.reduceToNat, Int.reduceMul, Int.reduceAdd, Int.reduceSub, Int.reduceBEq, Int.reduceBNe, reduceCtorEq, RD, g3]
        refine hKr _ _ ?_
        clear hKr Kr
        try simp only [RN, reduceIte]
        try refine T_e rfl ?_
        refine bodyQ_ret (by simp (disch := omega) only [RA, ↓reduceIte, Nat.reduceEqDiff, Nat.reduceBEq, Nat.reduceSub, Nat.reduceAdd, Nat.reduceMul, Nat.reduceLT, Nat.reduceLeDiff, Int.reduceLE, Int.reduceLT, Int.reduceEq, Int.reduceNeg, Int.reduceToNat, Int.reduceMul, Int.reduceAdd, Int.reduceSub, Int.reduceBEq, Int.reduceBNe, reduceCtorEq, RD, resAll, resOf]; rfl) GhV.refl ?_
        simp only [tup]
        exact ⟨0, h, rfl, rfl⟩
    · refine T_rseq fun Kr hKr => ?_
      simp (disch := omega) only [RA, ↓reduceIte, Nat.reduceEqDiff, Nat.reduceBEq, Nat.reduceSub, Nat.reduceAdd, Nat.reduceMul, Nat.reduceLT, Nat.reduceLeDiff, Int.reduceLE, Int.reduceLT, Int.reduceEq, Int.reduceNeg, Int.reduceToNat, Int.reduceMul, Int.reduceAdd, Int.reduceSub, Int.reduceBEq, Int.reduceBNe, reduceCtorEq, RD, g0, g4]
      refine hKr _ _ ?_
      clear hKr Kr
      try simp only [RN, reduceIte]
      try refine T_e rfl ?_
      refine T_cseq (t := false) (by simp (disch := omega) only [RA, ↓reduceIte, Nat.reduceEqDiff, Nat.reduceBEq, Nat.reduceSub, Nat.reduceAdd, Nat.reduceMul, Nat.reduceLT, Nat.reduceLeDiff, Int.reduceLE, Int.reduceLT, Int.reduceEq, Int.reduceNeg, Int.reduceToNat, Int.reduceMul, Int.reduceAdd, Int.reduceSub, Int.reduceBEq, Int.reduceBNe, reduceCtorEq, RD]) ?_
      try simp only [RN, reduceIte]
      try refine T_e rfl ?_
      refine hX _ _ ?_
      refine T_rseq fun Kr hKr => ?_
      simp (disch := omega) only [RA, ↓reduceIte, Nat.reduceEqDiff, Nat.reduceBEq, Nat.reduceSub, Nat.reduceAdd, Nat.reduceMul, Nat.reduceLT, Nat.reduceLeDiff, Int.reduceLE, Int.reduceLT, Int.reduceEq, Int.reduceNeg, Int.reduceToNat, Int.reduceMul, Int.reduceAdd, Int.reduceSub, Int.reduceBEq, Int.reduceBNe, reduceCtorEq, RD, g3]
      refine hKr _ _ ?_
      clear hKr Kr
      try simp only [RN, reduceIte]
      try refine T_e rfl ?_
      refine bodyQ_ret (by simp (disch := omega) only [RA, ↓reduceIte, Nat.reduceEqDiff, Nat.reduceBEq, Nat.reduceSub, Nat.reduceAdd, Nat.reduceMul, Nat.reduceLT, Nat.reduceLeDiff, Int.reduceLE, Int.reduceLT, Int.reduceEq, Int.reduceNeg, Int.reduceToNat, Int.reduceMul, Int.reduceAdd, Int.reduceSub, Int.reduceBEq, Int.reduceBNe, reduceCtorEq, RD, resAll, resOf]; rfl) GhV.refl ?_
      simp only [tup]
      exact ⟨0, h, rfl, rfl⟩
theorem l01From_spec {x : Bool} {K : Value → BH → Prop} (hl : code.length ≤ 1048576) (hcd : ∀ i, nl code i < 256) (hK : ∀ h, K (P H.length 0) (H ++ [some (SC code 0 h)])) :
    CallX x F_spec_l01From [Fz code.length 1 (code.map N8)] H K :=
  callR2 (.cons .fz .nil) ((l01From_run hl hcd).mono fun v H1 ⟨j, h, h1, h2⟩ => ⟨j, _, _, fun ρ ρ' Z u hr hv => by
    rw [h1] at hv
    obtain ⟨b, hb, rfl⟩ := hv.ptr_inv
    exact .ptr (by rw [hr]; exact hb), h2, NN_SC, hK h⟩)
theorem l01Pick_spec {xs : List Int} {i : Nat} {K : Value → BH → Prop} (hb : blk H i = some (SC code a h)) (ha : a ≤ code.length) (hl : code.length ≤ 1048576) (hcd : ∀ i, nl code i < 256) (h0 : 0 < xs.length) (hx : xs.length ≤ 1000)
    (hK : ∀ k a' h', k < xs.length → a' ≤ code.length → K (I (el xs k)) (H.set i (some (SC code a' h')))) : CallX false F_spec_l01Pick [P i 0, Fz xs.length 1 (xs.map I)] H K := by
  refine call1 hb NN_SC ?_
  have e : ([P i 0, Fz xs.length 1 (xs.map I)] : List Value).map (ren [i]) = [P 0 0, Fz xs.length 1 (xs.map I)] := by simp [ren, ren1, nm, Fz]
  rw [e]
  refine CallX_body Γ_spec_l01Pick ?_
  simp only [A_spec_l01Pick, T_aiff]
  refine T_rseq fun Kr hKr => ?_
  simp (disch := omega) only [RA, ↓reduceIte, Nat.reduceEqDiff, Nat.reduceBEq, Nat.reduceSub, Nat.reduceAdd, Nat.reduceMul, Nat.reduceLT, Nat.reduceLeDiff, Int.reduceLE, Int.reduceLT, Int.reduceEq, Int.reduceNeg, Int.reduceToNat, Int.reduceMul, Int.reduceAdd, Int.reduceSub, Int.reduceBEq, Int.reduceBNe, reduceCtorEq, RD]
  refine hKr _ _ ?_
  clear hKr Kr
  try simp only [RN, reduceIte]
  try refine T_e rfl ?_
  refine T_rseq fun Kr hKr => ?_
  simp (disch := omega) only [RA, ↓reduceIte, Nat.reduceEqDiff, Nat.reduceBEq, Nat.reduceSub, Nat.reduceAdd, Nat.reduceMul, Nat.reduceLT, Nat.reduceLeDiff, Int.reduceLE, Int.reduceLT, Int.reduceEq, Int.reduceNeg, Int.reduceToNat, Int.reduceMul, Int.reduceAdd, Int.reduceSub, Int.reduceBEq, Int.reduceBNe, reduceCtorEq, RD]
  refine l01Next_spec (i := 0) rfl ha hl hcd (by omega) fun v a' h' k1 k2 k3 k4 k5 => ?_
  have hv := k4 (by omega)
  obtain ⟨k, rfl⟩ : ∃ k : Nat, v = k := ⟨v.toNat, by omega⟩
  simp (disch := omega) only [RA, ↓reduceIte, Nat.reduceEqDiff, Nat.reduceBEq, Nat.reduceSub, Nat.reduceAdd, Nat.reduceMul, Nat.reduceLT, Nat.reduceLeDiff, Int.reduceLE, Int.reduceLT, Int.reduceEq, Int.reduceNeg, Int.reduceToNat, Int.reduceMul, Int.reduceAdd, Int.reduceSub, Int.reduceBEq, Int.reduceBNe, reduceCtorEq, RD]
  refine hKr _ _ ?_
  clear hKr Kr
  try simp only [blkQ, thenQ, loopQ]
  try simp only [RN, reduceIte]
  try refine T_e rfl ?_
  refine bodyQ_ret (by simp (disch := omega) only [RA, ↓reduceIte, Nat.reduceEqDiff, Nat.reduceBEq, Nat.reduceSub, Nat.reduceAdd, Nat.reduceMul, Nat.reduceLT, Nat.reduceLeDiff, Int.reduceLE, Int.reduceLT, Int.reduceEq, Int.reduceNeg, Int.reduceToNat, Int.reduceMul, Int.reduceAdd, Int.reduceSub, Int.reduceBEq, Int.reduceBNe, reduceCtorEq, RD, resAll, resOf]; rfl) GhV.refl ?_
  simp only [tup]
  exact ⟨.int, HN.cons NN_SC HN.nil, hK k a' h' (by omega) k1⟩
end
end Go.Bm

/- What is reached from each dart, and names from a dart: the plain law. -/
set_option linter.unusedVariables false
set_option linter.unusedSimpArgs false
namespace Go.Bm
open Go Go.Am

def none16 : List Bool := List.replicate 16 false
theorem none16_bl {x : Nat} : bl none16 x = false := bl_rep
theorem none16_len : none16.length = 16 := by simp [none16]
/-- One starts at x, nothing met but x. -/
def stA (x : Nat) : BS := (none16.set x true, [x])
/-- What stands once what the first d lead to has been met. -/
structure BfOk (ls : List (List Nat)) (n x d : Nat) (st : BS) : Prop where
  len : st.1.length = 16
  mem : ∀ y, bl st.1 y = true ↔ y ∈ st.2
  nod : st.2.Nodup
  lt : ∀ y ∈ st.2, y < n
  pre : ∃ r, st.2 = x :: r
  le : d ≤ st.2.length
  done : ∀ j, j < d → ∀ p ∈ ls, nl p (nl st.2 j) ∈ st.2
theorem BfOk.visit {ls : List (List Nat)} {n x d y : Nat} {st : BS} (hn : n ≤ 16) (h : BfOk ls n x d st) (hy : y < n) : BfOk ls n x d (Bm.visit st y) ∧ (∃ q, (Bm.visit st y).2 = st.2 ++ q) ∧ y ∈ (Bm.visit st y).2 := by
  unfold Bm.visit
  by_cases hb : bl st.1 y = true
  · rw [if_pos hb]
    exact ⟨h, ⟨[], by simp⟩, (h.mem y).1 hb⟩
  · rw [if_neg hb]
    have hny : y ∉ st.2 := fun hm => hb ((h.mem y).2 hm)
    refine ⟨⟨by simpa using h.len, fun z => ?_, ?_, fun z hz => ?_, ?_, ?_, fun j hj1 p hp => ?_⟩, ⟨[y], rfl⟩, by simp⟩
    · show bl (st.1.set y true) z = true ↔ z ∈ st.2 ++ [y]
      rw [bl_set]
      by_cases e : z = y
      · subst e
        rw [if_pos ⟨rfl, by have := h.len; omega⟩]
        simp
      · rw [if_neg (fun k => e k.1), h.mem z]
        simp [e]
    · show (st.2 ++ [y]).Nodup
      rw [List.nodup_append]
      exact ⟨h.nod, by simp, fun a ha b hb => by
        rw [List.mem_singleton] at hb
        subst hb
        exact fun e => hny (e ▸ ha)⟩
    · rcases List.mem_append.1 hz with k | k
      · exact h.lt z k
      · rw [List.mem_singleton] at k
        omega
    · obtain ⟨r, hr⟩ := h.pre
      exact ⟨r ++ [y], by show st.2 ++ [y] = _; rw [hr]; rfl⟩
    · show d ≤ (st.2 ++ [y]).length
      have := h.le
      simp
      omega
    · show nl p (nl (st.2 ++ [y]) j) ∈ st.2 ++ [y]
      rw [nl_append, if_pos (by have := h.le; omega)]
      exact List.mem_append_left _ (h.done j hj1 p hp)
theorem BfOk.round {ls : List (List Nat)} {n x d z : Nat} (hn : n ≤ 16) : ∀ {l2 : List (List Nat)} {st : BS}, BfOk ls n x d st → (∀ p ∈ l2, nl p z < n) → BfOk ls n x d (roundX l2 z st) ∧ (∃ q, (roundX l2 z st).2 = st.2 ++ q) ∧ ∀ p ∈ l2, nl p z ∈ (roundX l2 z st).2
  | [], st, h, _ => ⟨h, ⟨[], by simp [roundX]⟩, by simp⟩
  | p :: l2, st, h, hp => by
    obtain ⟨h1, ⟨q1, h2⟩, h3⟩ := h.visit hn (hp p (by simp))
    obtain ⟨h4, ⟨q2, h5⟩, h6⟩ := BfOk.round hn (l2 := l2) h1 fun q hq => hp q (by simp [hq])
    have e : roundX (p :: l2) z st = roundX l2 z (Bm.visit st (nl p z)) := rfl
    rw [e]
    refine ⟨h4, ⟨q1 ++ q2, by rw [h5, h2, List.append_assoc]⟩, fun q hq => ?_⟩
    rcases List.mem_cons.1 hq with rfl | hq
    · rw [h5]
      exact List.mem_append_left _ h3
    · exact h6 q hq
theorem BfOk.bfs {ls : List (List Nat)} {n x : Nat} {st : BS} (hn : n ≤ 16) (hl : ∀ p ∈ ls, ∀ y, y < n → nl p y < n) (h : BfOk ls n x 0 st) : ∀ i, BfOk ls n x (min i (Bm.bfs ls st i).2.length) (Bm.bfs ls st i)
  | 0 => by rw [Nat.zero_min]; exact h
  | i + 1 => by
    have ih := BfOk.bfs hn hl h i
    simp only [Bm.bfs]
    generalize Bm.bfs ls st i = s at ih ⊢
    by_cases hi : i < s.2.length
    · rw [if_pos hi]
      rw [Nat.min_eq_left (by omega)] at ih
      obtain ⟨h1, ⟨q, h2⟩, h3⟩ := ih.round hn (z := nl s.2 i) (l2 := ls) fun p hp => hl p hp _ (ih.lt _ (nl_mem hi))
      have hlen : i + 1 ≤ (roundX ls (nl s.2 i) s).2.length := by rw [h2]; simp; omega
      rw [Nat.min_eq_left hlen]
      refine ⟨h1.len, h1.mem, h1.nod, h1.lt, h1.pre, hlen, fun j hj p hp => ?_⟩
      by_cases e : j = i
      · subst e
        have : nl (roundX ls (nl s.2 j) s).2 j = nl s.2 j := by rw [h2, nl_append, if_pos hi]
        rw [this]
        exact h3 p hp
      · exact h1.done j (by omega) p hp
    · rw [if_neg hi]
      rw [Nat.min_eq_right (by omega)] at ih
      rw [Nat.min_eq_right (by omega)]
      exact ih
theorem BfOk.start {ls : List (List Nat)} {n x : Nat} (hn : n ≤ 16) (hx : x < n) : BfOk ls n x 0 (stA x) := by
  refine ⟨by simp [stA, none16_len], fun y => ?_, by simp [stA], fun y hy => ?_, ⟨[], rfl⟩, Nat.zero_le _, fun j hj => by omega⟩
  · show bl (none16.set x true) y = true ↔ y ∈ [x]
    rw [bl_set, none16_len, none16_bl]
    by_cases e : y = x
    · rw [if_pos ⟨e, by omega⟩]; simp [e]
    · rw [if_neg (fun k => e k.1)]; simp [e]
  · rw [show (stA x).2 = [x] from rfl, List.mem_singleton] at hy
    omega
theorem nodup_le {n : Nat} {l : List Nat} (h : l.Nodup) (hl : ∀ x ∈ l, x < n) : l.length ≤ n := by
  have := List.Nodup.length_le_of_subset h (l₂ := List.range n) fun x hx => List.mem_range.2 (hl x hx)
  simpa using this
theorem nodup_full {n : Nat} {l : List Nat} (h : l.Nodup) (hl : ∀ x ∈ l, x < n) (hn : n ≤ l.length) {x : Nat} (hx : x < n) : x ∈ l := by
  apply Classical.byContradiction
  intro hxl
  have := nodup_le (n := n) (l := x :: l) (List.nodup_cons.2 ⟨hxl, h⟩) (by
    intro y hy
    rcases List.mem_cons.1 hy with rfl | hy
    · exact hx
    · exact hl y hy)
  rw [List.length_cons] at this
  omega
/-- The darts in the order in which they are met from x. -/
def ord (b w : List Nat) (x : Nat) : List Nat := (bfs [b, w] (stA x) 16).2
section
variable {b w : List Nat} {n : Nat}
theorem ord_bf (hb : Perm b n) (hw : Perm w n) {x : Nat} (hx : x < n) : BfOk [b, w] n x (ord b w x).length (bfs [b, w] (stA x) 16) := by
  have hn := hb.1
  have h := (BfOk.start (ls := [b, w]) (x := x) (n := n) (by omega) hx).bfs (by omega) (by
    intro p hp y hy
    simp only [List.mem_cons, List.not_mem_nil, or_false] at hp
    rcases hp with rfl | rfl
    · exact hb.lt hy
    · exact hw.lt hy) 16
  have h16 := nodup_le h.nod h.lt
  rw [Nat.min_eq_right (by omega)] at h
  exact h
theorem ord_cl (hb : Perm b n) (hw : Perm w n) {x : Nat} (hx : x < n) : ∀ y ∈ ord b w x, nl b y ∈ ord b w x ∧ nl w y ∈ ord b w x := fun y hy => by
  have h := ord_bf hb hw hx
  obtain ⟨j, hj, rfl⟩ := mem_nl hy
  exact ⟨h.done j hj b (by simp), h.done j hj w (by simp)⟩
/-- What a permutation leads into itself is also led into itself backwards. -/
theorem closed_bwd {p : List Nat} (hp : Perm p n) {S : Nat → Prop} (hS : ∀ x, x < n → S x → S (nl p x)) {x : Nat} (hx : x < n) (h : S (nl p x)) : S x := by
  obtain ⟨c, hc, hxc⟩ := cyc_at hp hx
  have hi := cyc_is hp hc
  obtain ⟨j, hj, hje⟩ := mem_nl (hi.fwd hxc)
  have hup : ∀ d, j + d < c.length → S (nl c (j + d)) := by
    intro d
    induction d with
    | zero => intro _; rw [Nat.add_zero, hje]; exact h
    | succ d ih =>
      intro hd
      rw [← Nat.add_assoc, ← hi.step (j + d) (by omega)]
      exact hS _ (hi.lt _ (nl_mem (by omega))) (ih (by omega))
  have h0 : S (nl c 0) := by
    rw [← hi.last]
    have := hup (c.length - 1 - j) (by omega)
    rw [show j + (c.length - 1 - j) = c.length - 1 by omega] at this
    exact hS _ (hi.lt _ (nl_mem (by omega))) this
  have hall : ∀ k, k < c.length → S (nl c k) := by
    intro k
    induction k with
    | zero => intro _; exact h0
    | succ k ih =>
      intro hk
      rw [← hi.step k hk]
      exact hS _ (hi.lt _ (nl_mem (by omega))) (ih (by omega))
  obtain ⟨k, hk, rfl⟩ := mem_nl hxc
  exact hall k hk
theorem Des.reach (h : Des n b w) {y : Nat} (hy : y < n) : y ∈ ord b w 0 := by
  obtain ⟨hb, hw, hr⟩ := h
  have hn := hb.1
  have h1 := ord_bf hb hw (x := 0) (by omega)
  refine nodup_full h1.nod h1.lt ?_ hy
  have : (Bm.reach b w).2.length = n := by omega
  have e : (bfs [b, w] (stA 0) 16).2.length = n := this
  omega
/-- What is true of 0 and led on by both permutations is true of all darts. -/
theorem Des.ind (h : Des n b w) (S : Nat → Prop) (s1 : ∀ z, z < n → S z → S (nl b z)) (s2 : ∀ z, z < n → S z → S (nl w z)) (s0 : S 0) : ∀ z, z < n → S z := by
  obtain ⟨hb, hw, hr⟩ := id h
  have hn := hb.1
  intro z hz
  have hcl : ∀ i, ∀ z ∈ (bfs [b, w] (stA 0) i).2, z < n ∧ S z := by
    have hv : ∀ (st : BS) (y : Nat), (∀ z ∈ st.2, z < n ∧ S z) → y < n → S y → ∀ z ∈ (visit st y).2, z < n ∧ S z := by
      intro st y h1 h2 h3 z hz
      unfold visit at hz
      split at hz
      · exact h1 z hz
      · rcases List.mem_append.1 hz with k | k
        · exact h1 z k
        · rw [List.mem_singleton] at k
          subst k
          exact ⟨h2, h3⟩
    intro i
    induction i with
    | zero =>
      intro z hz
      have : z = 0 := by simpa [bfs, stA] using hz
      subst this
      exact ⟨by omega, s0⟩
    | succ i ih =>
      simp only [bfs]
      split
      · rename_i hi
        obtain ⟨hz1, hz2⟩ := ih _ (nl_mem hi)
        exact hv _ _ (hv _ _ ih (hb.lt hz1) (s1 _ hz1 hz2)) (hw.lt hz1) (s2 _ hz1 hz2)
      · exact ih
  exact (hcl 16 z (h.reach hz)).2
/-- From each dart all are reached. -/
theorem Des.all (h : Des n b w) {x y : Nat} (hx : x < n) (hy : y < n) : y ∈ ord b w x := by
  obtain ⟨hb, hw, hr⟩ := id h
  have hn := hb.1
  have h0 := h.ind
  have hx0 : (ord b w x) = (ord b w x) := rfl
  have hfw := ord_cl hb hw hx
  have key : ∀ z, z < n → (z ∈ ord b w x ↔ 0 ∈ ord b w x) := by
    refine h0 _ ?_ ?_ Iff.rfl
    · intro z hz hS
      rw [← hS]
      exact ⟨closed_bwd hb (S := fun z => z ∈ ord b w x) (fun z _ h => (hfw z h).1) hz, fun h => (hfw z h).1⟩
    · intro z hz hS
      rw [← hS]
      exact ⟨closed_bwd hw (S := fun z => z ∈ ord b w x) (fun z _ h => (hfw z h).2) hz, fun h => (hfw z h).2⟩
  have hxx : x ∈ ord b w x := by
    obtain ⟨r, hr⟩ := (ord_bf hb hw hx).pre
    rw [ord, hr]
    simp
  exact (key y hy).2 ((key x hx).1 hxx)
/-! ### Names -/
end
section
variable {b w b' w' : List Nat} {n : Nat}
/-- Two dessins that a map of the darts leads to each other. -/
structure Iso (n : Nat) (b w b' w' : List Nat) (φ : Nat → Nat) : Prop where
  lt : ∀ y, y < n → φ y < n
  inj : ∀ y z, y < n → z < n → φ y = φ z → y = z
  b : ∀ y, y < n → nl b' (φ y) = φ (nl b y)
  w : ∀ y, y < n → nl w' (φ y) = φ (nl w y)
structure BfRel (n : Nat) (φ : Nat → Nat) (st st' : BS) : Prop where
  ord : st'.2 = st.2.map φ
  lt : ∀ y ∈ st.2, y < n
  met : ∀ y, y < n → bl st'.1 (φ y) = bl st.1 y
  len : st.1.length = 16 ∧ st'.1.length = 16
theorem BfRel.visit {φ : Nat → Nat} {st st' : BS} {y : Nat} (hn : n ≤ 16) (hl : ∀ y, y < n → φ y < n) (hinj : ∀ y z, y < n → z < n → φ y = φ z → y = z) (h : BfRel n φ st st') (hy : y < n) : BfRel n φ (Bm.visit st y) (Bm.visit st' (φ y)) := by
  unfold Bm.visit
  rw [h.met y hy]
  by_cases hb : bl st.1 y = true
  · rw [if_pos hb, if_pos hb]; exact h
  · rw [if_neg hb, if_neg hb]
    refine ⟨by simp [h.ord], fun z hz => ?_, fun z hz => ?_, by simpa using h.len⟩
    · rcases List.mem_append.1 hz with k | k
      · exact h.lt z k
      · rw [List.mem_singleton] at k; omega
    · show bl (st'.1.set (φ y) true) (φ z) = bl (st.1.set y true) z
      have := hl y hy
      rw [bl_set, bl_set, h.len.1, h.len.2, h.met z hz]
      by_cases e : z = y
      · subst e; rw [if_pos ⟨rfl, by omega⟩, if_pos ⟨rfl, by omega⟩]
      · rw [if_neg (fun k => e (hinj _ _ hz hy k.1)), if_neg (fun k => e k.1)]
theorem nl_map {φ : Nat → Nat} {l : List Nat} {i : Nat} (h : i < l.length) : nl (l.map φ) i = φ (nl l i) := by simp [nl, List.getD, h]
theorem Iso.ord {φ : Nat → Nat} (hn : n ≤ 16) (hb : Perm b n) (hw : Perm w n) (h : Iso n b w b' w' φ) {x : Nat} (hx : x < n) : Bm.ord b' w' (φ x) = (Bm.ord b w x).map φ := by
  have key : ∀ i, BfRel n φ (bfs [b, w] (stA x) i) (bfs [b', w'] (stA (φ x)) i) := by
    intro i
    induction i with
    | zero =>
      refine ⟨rfl, fun y hy => ?_, fun y hy => ?_, by simp [bfs, stA, none16_len]⟩
      · have : y = x := by simpa [bfs, stA] using hy
        omega
      · show bl (none16.set (φ x) true) (φ y) = bl (none16.set x true) y
        have := h.lt x hx
        rw [bl_set, bl_set, none16_len, none16_bl, none16_bl]
        by_cases e : y = x
        · subst e; rw [if_pos ⟨rfl, by omega⟩, if_pos ⟨rfl, by omega⟩]
        · rw [if_neg (fun k => e (h.inj _ _ hy hx k.1)), if_neg (fun k => e k.1)]
    | succ i ih =>
      simp only [bfs]
      generalize bfs [b, w] (stA x) i = st at ih ⊢
      generalize bfs [b', w'] (stA (φ x)) i = st' at ih ⊢
      have hle : st'.2.length = st.2.length := by rw [ih.ord, List.length_map]
      rw [hle]
      by_cases hi : i < st.2.length
      · rw [if_pos hi, if_pos hi]
        have e : nl st'.2 i = φ (nl st.2 i) := by rw [ih.ord, nl_map hi]
        rw [e]
        generalize hz : nl st.2 i = z
        have hz1 : z < n := by rw [← hz]; exact ih.lt _ (nl_mem hi)
        show BfRel n φ (Bm.visit (Bm.visit st (nl b z)) (nl w z)) (Bm.visit (Bm.visit st' (nl b' (φ z))) (nl w' (φ z)))
        rw [h.b z hz1, h.w z hz1]
        exact (ih.visit hn h.lt h.inj (hb.lt hz1)).visit hn h.lt h.inj (hw.lt hz1)
      · rw [if_neg hi, if_neg hi]
        exact ih
  exact (key 16).ord
end

/-! ### The least one -/
abbrev L2 := List Nat × List Nat
def lt2 (x y : L2) : Prop := x.1 < y.1 ∨ (x.1 = y.1 ∧ x.2 < y.2)
instance (x y : L2) : Decidable (lt2 x y) := by unfold lt2; infer_instance
section
variable {b w b' w' : List Nat} {n : Nat}
end
end Go.Bm

/- Mirror images are dessins: the plain law. -/
set_option linter.unusedVariables false
set_option linter.unusedSimpArgs false
namespace Go.Bm
open Go Go.Am

/-! ### Mirror images are dessins -/
section
variable {p b w : List Nat} {n : Nat}
theorem Perm.surj (hp : Perm p n) {y : Nat} (hy : y < n) : ∃ x, x < n ∧ nl p x = y := by
  obtain ⟨c, hc, hyc⟩ := cyc_at hp hy
  have hi := cyc_is hp hc
  obtain ⟨j, hj, rfl⟩ := mem_nl hyc
  by_cases e : j = 0
  · subst e
    exact ⟨_, hi.lt _ (nl_mem (by omega)), hi.last⟩
  · have := hi.step (j - 1) (by omega)
    rw [show j - 1 + 1 = j by omega] at this
    exact ⟨_, hi.lt _ (nl_mem (by omega)), this⟩
theorem back_at (hp : Perm p n) : ∀ {k i : Nat}, k ≤ n → i < k → nl (backK p k) (nl p i) = i
  | 0, _, _, h => by omega
  | k + 1, i, hk, hi => by
    have hn := hp.1
    rw [backK, nl_set, backK_len]
    by_cases e : i = k
    · subst e
      rw [if_pos ⟨rfl, by have := hp.lt (show i < n by omega); omega⟩]
    · rw [if_neg (fun h => e (hp.inj (by omega) (by omega) h.1)), back_at hp (by omega) (by omega)]
theorem back_out (hp : Perm p n) {i : Nat} (hi : n ≤ i) : ∀ {k : Nat}, k ≤ n → nl (backK p k) i = 0
  | 0, _ => by simp only [backK, nl_rep]; split <;> rfl
  | k + 1, hk => by
    have := hp.lt (show k < n by omega)
    rw [backK, nl_set, if_neg (by omega), back_out hp hi (by omega)]
theorem Perm.back (hp : Perm p n) : Perm (backK p n) n := by
  refine ⟨hp.1, fun i _ => ⟨fun h => back_out hp (by omega) (Nat.le_refl _), fun h => ?_⟩⟩
  obtain ⟨x, hx, rfl⟩ := hp.surj (show i < n by omega)
  rw [back_at hp (Nat.le_refl _) hx]
  refine ⟨by omega, fun j hj => ?_⟩
  obtain ⟨y, hy, rfl⟩ := hp.surj (show j < n by omega)
  rw [back_at hp (Nat.le_refl _) hy]
  intro e
  subst e
  omega
end
end Go.Bm

/- Draws: permutations and stars. -/
set_option linter.unusedVariables false
set_option linter.unusedSimpArgs false
namespace Go.Bm
open Go Go.Am

/-- The same, up to k. -/
def idK : Nat → List Nat
  | 0 => z16
  | i + 1 => (idK i).set i i
def tuK (n : Nat) : Nat → List Nat
  | 0 => z16
  | i + 1 => (tuK n i).set i ((i + 1) % n)
theorem z16_nl {i : Nat} : nl z16 i = 0 := by rw [z16, nl_rep]; split <;> rfl
theorem idK_len {k : Nat} : (idK k).length = 16 := by
  induction k with
  | zero => exact z16_len
  | succ k ih => rw [idK, List.length_set, ih]
theorem tuK_len {n k : Nat} : (tuK n k).length = 16 := by
  induction k with
  | zero => exact z16_len
  | succ k ih => rw [tuK, List.length_set, ih]
theorem idK_nl {k i : Nat} (hk : k ≤ 16) : nl (idK k) i = if i < k then i else 0 := by
  induction k with
  | zero => rw [idK, z16_nl, if_neg (by omega)]
  | succ k ih =>
    rw [idK, nl_set, ih (by omega), idK_len]
    by_cases e : i = k
    · subst e; rw [if_pos ⟨rfl, by omega⟩, if_pos (by omega)]
    · rw [if_neg (by omega)]
      by_cases h : i < k
      · rw [if_pos h, if_pos (by omega)]
      · rw [if_neg h, if_neg (by omega)]
theorem tuK_nl {n k i : Nat} (hk : k ≤ 16) : nl (tuK n k) i = if i < k then (i + 1) % n else 0 := by
  induction k with
  | zero => rw [tuK, z16_nl, if_neg (by omega)]
  | succ k ih =>
    rw [tuK, nl_set, ih (by omega), tuK_len]
    by_cases e : i = k
    · subst e; rw [if_pos ⟨rfl, by omega⟩, if_pos (by omega)]
    · rw [if_neg (by omega)]
      by_cases h : i < k
      · rw [if_pos h, if_pos (by omega)]
      · rw [if_neg h, if_neg (by omega)]
theorem idK_by {k : Nat} (hk : k ≤ 16) : By 16 (idK k) := ⟨idK_len, fun i => by rw [idK_nl hk]; split <;> omega⟩
theorem tuK_by {n k : Nat} (hn : 1 ≤ n ∧ n ≤ 16) (hk : k ≤ 16) : By 16 (tuK n k) := ⟨tuK_len, fun i => by
  rw [tuK_nl hk]
  have := Nat.mod_lt (i + 1) (show 0 < n by omega)
  split <;> omega⟩
theorem Perm.of {p : List Nat} {n : Nat} (hn : 1 ≤ n ∧ n ≤ 16) (h0 : ∀ i, n ≤ i → i < 16 → nl p i = 0) (h1 : ∀ i, i < n → nl p i < n) (h2 : ∀ i j, i < n → j < i → nl p j ≠ nl p i) : Perm p n :=
  ⟨by omega, fun i hi => ⟨fun h => h0 i (by omega) hi, fun h => ⟨by have := h1 i (by omega); omega, fun j hj => h2 i j (by omega) hj⟩⟩⟩
theorem Perm.zero {p : List Nat} {n : Nat} (h : Perm p n) {i : Nat} (h1 : n ≤ i) (h2 : i < 16) : nl p i = 0 := (h.2 i h2).1 (by omega)
theorem idK_perm {n : Nat} (hn : 1 ≤ n ∧ n ≤ 16) : Perm (idK n) n := .of hn
  (fun i h1 h2 => by rw [idK_nl hn.2, if_neg (by omega)]) (fun i h => by rw [idK_nl hn.2, if_pos h]; exact h)
  (fun i j h1 h2 => by rw [idK_nl hn.2, idK_nl hn.2, if_pos h1, if_pos (by omega)]; omega)
theorem mod_one {n i : Nat} (h : i < n) : (i + 1) % n = if i + 1 = n then 0 else i + 1 := by
  split
  · rename_i e; rw [e, Nat.mod_self]
  · exact Nat.mod_eq_of_lt (by omega)
theorem tuK_perm {n : Nat} (hn : 1 ≤ n ∧ n ≤ 16) : Perm (tuK n n) n := .of hn
  (fun i h1 h2 => by rw [tuK_nl hn.2, if_neg (by omega)]) (fun i h => by rw [tuK_nl hn.2, if_pos h]; exact Nat.mod_lt _ (by omega))
  (fun i j h1 h2 => by
    rw [tuK_nl hn.2, tuK_nl hn.2, if_pos h1, if_pos (by omega), mod_one h1, mod_one (by omega)]
    split <;> split <;> omega)
theorem Perm.swap {p : List Nat} {n : Nat} (h : Perm p n) (hl : p.length = 16) {i k : Nat} (hi : i < n) (hk : k < n) : Perm ((p.set i (nl p k)).set k (nl p i)) n := by
  have hn := h.1
  have e : ∀ j, nl ((p.set i (nl p k)).set k (nl p i)) j = if j = k then nl p i else if j = i then nl p k else nl p j := fun j => by
    rw [nl_set, nl_set, List.length_set, hl]
    by_cases e1 : j = k
    · rw [if_pos ⟨e1, by omega⟩, if_pos e1]
    · rw [if_neg (by omega), if_neg e1]
      by_cases e2 : j = i
      · rw [if_pos ⟨e2, by omega⟩, if_pos e2]
      · rw [if_neg (by omega), if_neg e2]
  refine .of (by omega) (fun j h1 h2 => ?_) (fun j hj => ?_) (fun j j' hj hj' => ?_)
  · rw [e, if_neg (by omega), if_neg (by omega)]; exact h.zero h1 h2
  · rw [e]; split
    · exact h.lt hi
    · split
      · exact h.lt hk
      · exact h.lt hj
  · rw [e, e]
    intro he
    have key : ∀ a b, a < n → b < n → nl p a = nl p b → a = b := fun a b ha hb hab => h.inj ha hb hab
    split at he <;> split at he <;> (try split at he) <;> (try split at he)
    all_goals first
      | (have := key _ _ (by omega) (by omega) he; omega)
/-- A star with any white permutation. -/
theorem Des.turn {w : List Nat} {n : Nat} (hn : 1 ≤ n ∧ n ≤ 16) (hw : Perm w n) : Des n (tuK n n) w := by
  have hb := tuK_perm hn
  refine ⟨hb, hw, ?_⟩
  have h0 := ord_bf hb hw (x := 0) (by omega)
  have hcl := ord_cl hb hw (x := 0) (by omega)
  have hin : 0 ∈ ord (tuK n n) w 0 := by
    obtain ⟨r, hr⟩ := h0.pre
    rw [ord, hr]
    simp
  have hall : ∀ y, y < n → y ∈ ord (tuK n n) w 0 := by
    intro y
    induction y with
    | zero => exact fun _ => hin
    | succ y ih =>
      intro hy
      have := (hcl y (ih (by omega))).1
      rwa [tuK_nl hn.2, if_pos (by omega), mod_one (by omega), if_neg (by omega)] at this
  have h1 := nodup_le h0.nod h0.lt
  have h2 := List.Nodup.length_le_of_subset (List.nodup_range (n := n)) (l₂ := ord (tuK n n) w 0) fun y hy => hall y (List.mem_range.1 hy)
  rw [List.length_range] at h2
  have e : (Bm.reach (tuK n n) w).2.length = n := Nat.le_antisymm h1 h2
  show ((Bm.reach (tuK n n) w).2.length : Int) = n
  omega
theorem l01Same_spec {x : Bool} {n : Int} {H : BH} {K : Value → BH → Prop} (hn : n ≤ 16) (hK : K (PL (idK n.toNat)) H) : CallX x F_spec_l01Same [I n] H K := by
  have hz := z16_len
  refine callP (by simp only [RH]) ?_
  refine CallX_body Γ_spec_l01Same ?_
  simp only [A_spec_l01Same, T_aiff]
  refine T_rseq fun Kr hKr => ?_
  simp (disch := omega) only [RA, ↓reduceIte, Nat.reduceEqDiff, Nat.reduceBEq, Nat.reduceSub, Nat.reduceAdd, Nat.reduceMul, Nat.reduceLT, Nat.reduceLeDiff, Int.reduceLE, Int.reduceLT, Int.reduceEq, Int.reduceNeg, Int.reduceToNat, Int.reduceMul, Int.reduceAdd, Int.reduceSub, Int.reduceBEq, Int.reduceBNe, reduceCtorEq, RD]
  refine hKr _ _ ?_
  clear hKr Kr
  try simp only [RN, reduceIte]
  try refine T_e rfl ?_
  refine T_rseq fun Kr hKr => ?_
  simp (disch := omega) only [RA, ↓reduceIte, Nat.reduceEqDiff, Nat.reduceBEq, Nat.reduceSub, Nat.reduceAdd, Nat.reduceMul, Nat.reduceLT, Nat.reduceLeDiff, Int.reduceLE, Int.reduceLT, Int.reduceEq, Int.reduceNeg, Int.reduceToNat, Int.reduceMul, Int.reduceAdd, Int.reduceSub, Int.reduceBEq, Int.reduceBNe, reduceCtorEq, RD]
  refine hKr _ _ ?_
  clear hKr Kr
  try simp only [RN, reduceIte]
  try refine T_e rfl ?_
  refine T_rseq fun Kr hKr => ?_
  simp (disch := omega) only [RA, ↓reduceIte, Nat.reduceEqDiff, Nat.reduceBEq, Nat.reduceSub, Nat.reduceAdd, Nat.reduceMul, Nat.reduceLT, Nat.reduceLeDiff, Int.reduceLE, Int.reduceLT, Int.reduceEq, Int.reduceNeg, Int.reduceToNat, Int.reduceMul, Int.reduceAdd, Int.reduceSub, Int.reduceBEq, Int.reduceBNe, reduceCtorEq, RD]
  refine hKr _ _ ?_
  clear hKr Kr
  try simp only [RN, reduceIte]
  try refine T_e rfl ?_
  refine T_wloop (fun m f H' => ∃ k : Nat, k ≤ n.toNat ∧ m = n.toNat - k ∧ f 0 = I n ∧ f 2 = P 0 0 ∧ f 3 = P 1 0 ∧ f 4 = I k ∧ H' = [some (List.replicate 16 (.int .u8 0)), some ((idK k).map N8)]) (n.toNat) ?_ ?_
  · refine ⟨_, _, Gh.refl, 0, by omega, by omega, ?_, ?_, ?_, ?_, rfl⟩
    any_goals (simp (disch := omega) only [RA, ↓reduceIte, Nat.reduceEqDiff, Nat.reduceBEq, Nat.reduceSub, Nat.reduceAdd, Nat.reduceMul, Nat.reduceLT, Nat.reduceLeDiff, Int.reduceLE, Int.reduceLT, Int.reduceEq, Int.reduceNeg, Int.reduceToNat, Int.reduceMul, Int.reduceAdd, Int.reduceSub, Int.reduceBEq, Int.reduceBNe, reduceCtorEq, RD, RE, *] <;> rfl)
  · rintro m f H' R ⟨k, hk, rfl, g0, g2, g3, g4, rfl⟩ hN hX hR hE
    simp only [A_spec_l01Same.l0, T_aiff]
    have hlk := @idK_len k
    refine T_rseq fun Kr hKr => ?_
    simp (disch := omega) only [RA, ↓reduceIte, Nat.reduceEqDiff, Nat.reduceBEq, Nat.reduceSub, Nat.reduceAdd, Nat.reduceMul, Nat.reduceLT, Nat.reduceLeDiff, Int.reduceLE, Int.reduceLT, Int.reduceEq, Int.reduceNeg, Int.reduceToNat, Int.reduceMul, Int.reduceAdd, Int.reduceSub, Int.reduceBEq, Int.reduceBNe, reduceCtorEq, RD, g0, g4]
    refine hKr _ _ ?_
    clear hKr Kr
    try simp only [RN, reduceIte]
    try refine T_e rfl ?_
    refine T_csplit (p := (k : Int) < n) (by simp only [RA, ↓reduceIte, Nat.reduceEqDiff, Nat.reduceBEq, Nat.reduceSub, Nat.reduceAdd, Nat.reduceMul, Nat.reduceLT, Nat.reduceLeDiff, Int.reduceLE, Int.reduceLT, Int.reduceEq, Int.reduceNeg, Int.reduceToNat, Int.reduceMul, Int.reduceAdd, Int.reduceSub, Int.reduceBEq, Int.reduceBNe, reduceCtorEq] <;> rfl) (by (try simp only [RB]) <;> first | done | exact Iff.rfl | omega | simp) (fun hc => ?_) (fun hc => ?_) <;> (try simp only [RN, reduceIte]) <;> (try refine T_e rfl ?_)
    · have hk16 : k < 16 := by omega
      first | refine T_bfree rfl ?_ | refine T_bfree' rfl ?_
      try simp only [RN, reduceIte]
      try refine T_e rfl ?_
      refine T_rseq fun Kr hKr => ?_
      simp (disch := omega) only [RA, ↓reduceIte, Nat.reduceEqDiff, Nat.reduceBEq, Nat.reduceSub, Nat.reduceAdd, Nat.reduceMul, Nat.reduceLT, Nat.reduceLeDiff, Int.reduceLE, Int.reduceLT, Int.reduceEq, Int.reduceNeg, Int.reduceToNat, Int.reduceMul, Int.reduceAdd, Int.reduceSub, Int.reduceBEq, Int.reduceBNe, reduceCtorEq, RD, g3, g4, hlk]
      refine hKr _ _ ?_
      clear hKr Kr
      try simp only [RN, reduceIte]
      try refine T_e rfl ?_
      refine T_reg_k fun Kr hKr => ?_
      simp (disch := omega) only [RA, ↓reduceIte, Nat.reduceEqDiff, Nat.reduceBEq, Nat.reduceSub, Nat.reduceAdd, Nat.reduceMul, Nat.reduceLT, Nat.reduceLeDiff, Int.reduceLE, Int.reduceLT, Int.reduceEq, Int.reduceNeg, Int.reduceToNat, Int.reduceMul, Int.reduceAdd, Int.reduceSub, Int.reduceBEq, Int.reduceBNe, reduceCtorEq, RD, g4]
      refine hKr _ _ ?_
      clear hKr Kr
      refine hN (n.toNat - (k + 1)) _ _ _ _ (by omega) Gh.refl ⟨k + 1, by omega, rfl, ?_, ?_, ?_, ?_, rfl⟩
      any_goals (simp (disch := omega) only [RA, ↓reduceIte, Nat.reduceEqDiff, Nat.reduceBEq, Nat.reduceSub, Nat.reduceAdd, Nat.reduceMul, Nat.reduceLT, Nat.reduceLeDiff, Int.reduceLE, Int.reduceLT, Int.reduceEq, Int.reduceNeg, Int.reduceToNat, Int.reduceMul, Int.reduceAdd, Int.reduceSub, Int.reduceBEq, Int.reduceBNe, reduceCtorEq, RD, RE, *] <;> rfl)
    · refine hX _ _ ?_
      obtain rfl : k = n.toNat := by omega
      refine T_rseq fun Kr hKr => ?_
      simp (disch := omega) only [RA, ↓reduceIte, Nat.reduceEqDiff, Nat.reduceBEq, Nat.reduceSub, Nat.reduceAdd, Nat.reduceMul, Nat.reduceLT, Nat.reduceLeDiff, Int.reduceLE, Int.reduceLT, Int.reduceEq, Int.reduceNeg, Int.reduceToNat, Int.reduceMul, Int.reduceAdd, Int.reduceSub, Int.reduceBEq, Int.reduceBNe, reduceCtorEq, RD, g2, g3, hlk]
      refine hKr _ _ ?_
      clear hKr Kr
      try simp only [RN, reduceIte]
      try refine T_e rfl ?_
      refine bodyQ_ret (by simp (disch := omega) only [RA, ↓reduceIte, Nat.reduceEqDiff, Nat.reduceBEq, Nat.reduceSub, Nat.reduceAdd, Nat.reduceMul, Nat.reduceLT, Nat.reduceLeDiff, Int.reduceLE, Int.reduceLT, Int.reduceEq, Int.reduceNeg, Int.reduceToNat, Int.reduceMul, Int.reduceAdd, Int.reduceSub, Int.reduceBEq, Int.reduceBNe, reduceCtorEq, RD, resAll, resOf, g2, hlk]; rfl) GhV.refl ?_
      simp only [tup]
      exact ⟨NN_agg (by (simp only [RH])), hK⟩
theorem l01Turn_spec {x : Bool} {n : Nat} {H : BH} {K : Value → BH → Prop} (hn : 1 ≤ n ∧ n ≤ 16) (hK : K (PL (tuK n n)) H) : CallX x F_spec_l01Turn [I n] H K := by
  have hz := z16_len
  refine callP (by simp only [RH]) ?_
  refine CallX_body Γ_spec_l01Turn ?_
  simp only [A_spec_l01Turn, T_aiff]
  refine T_rseq fun Kr hKr => ?_
  simp (disch := omega) only [RA, ↓reduceIte, Nat.reduceEqDiff, Nat.reduceBEq, Nat.reduceSub, Nat.reduceAdd, Nat.reduceMul, Nat.reduceLT, Nat.reduceLeDiff, Int.reduceLE, Int.reduceLT, Int.reduceEq, Int.reduceNeg, Int.reduceToNat, Int.reduceMul, Int.reduceAdd, Int.reduceSub, Int.reduceBEq, Int.reduceBNe, reduceCtorEq, RD]
  refine hKr _ _ ?_
  clear hKr Kr
  try simp only [RN, reduceIte]
  try refine T_e rfl ?_
  refine T_rseq fun Kr hKr => ?_
  simp (disch := omega) only [RA, ↓reduceIte, Nat.reduceEqDiff, Nat.reduceBEq, Nat.reduceSub, Nat.reduceAdd, Nat.reduceMul, Nat.reduceLT, Nat.reduceLeDiff, Int.reduceLE, Int.reduceLT, Int.reduceEq, Int.reduceNeg, Int.reduceToNat, Int.reduceMul, Int.reduceAdd, Int.reduceSub, Int.reduceBEq, Int.reduceBNe, reduceCtorEq, RD]
  refine hKr _ _ ?_
  clear hKr Kr
  try simp only [RN, reduceIte]
  try refine T_e rfl ?_
  refine T_rseq fun Kr hKr => ?_
  simp (disch := omega) only [RA, ↓reduceIte, Nat.reduceEqDiff, Nat.reduceBEq, Nat.reduceSub, Nat.reduceAdd, Nat.reduceMul, Nat.reduceLT, Nat.reduceLeDiff, Int.reduceLE, Int.reduceLT, Int.reduceEq, Int.reduceNeg, Int.reduceToNat, Int.reduceMul, Int.reduceAdd, Int.reduceSub, Int.reduceBEq, Int.reduceBNe, reduceCtorEq, RD]
  refine hKr _ _ ?_
  clear hKr Kr
  try simp only [RN, reduceIte]
  try refine T_e rfl ?_
  refine T_wloop (fun m f H' => ∃ k : Nat, k ≤ n ∧ m = n - k ∧ f 0 = I n ∧ f 2 = P 0 0 ∧ f 3 = P 1 0 ∧ f 4 = I k ∧ H' = [some (List.replicate 16 (.int .u8 0)), some ((tuK n k).map N8)]) (n) ?_ ?_
  · refine ⟨_, _, Gh.refl, 0, by omega, by omega, ?_, ?_, ?_, ?_, rfl⟩
    any_goals (simp (disch := omega) only [RA, ↓reduceIte, Nat.reduceEqDiff, Nat.reduceBEq, Nat.reduceSub, Nat.reduceAdd, Nat.reduceMul, Nat.reduceLT, Nat.reduceLeDiff, Int.reduceLE, Int.reduceLT, Int.reduceEq, Int.reduceNeg, Int.reduceToNat, Int.reduceMul, Int.reduceAdd, Int.reduceSub, Int.reduceBEq, Int.reduceBNe, reduceCtorEq, RD, RE, *] <;> rfl)
  · rintro m f H' R ⟨k, hk, rfl, g0, g2, g3, g4, rfl⟩ hN hX hR hE
    simp only [A_spec_l01Turn.l0, T_aiff]
    have hlk := @tuK_len n k
    refine T_rseq fun Kr hKr => ?_
    simp (disch := omega) only [RA, ↓reduceIte, Nat.reduceEqDiff, Nat.reduceBEq, Nat.reduceSub, Nat.reduceAdd, Nat.reduceMul, Nat.reduceLT, Nat.reduceLeDiff, Int.reduceLE, Int.reduceLT, Int.reduceEq, Int.reduceNeg, Int.reduceToNat, Int.reduceMul, Int.reduceAdd, Int.reduceSub, Int.reduceBEq, Int.reduceBNe, reduceCtorEq, RD, g0, g4]
    refine hKr _ _ ?_
    clear hKr Kr
    try simp only [RN, reduceIte]
    try refine T_e rfl ?_
    refine T_csplit (p := k < n) (by simp only [RA, ↓reduceIte, Nat.reduceEqDiff, Nat.reduceBEq, Nat.reduceSub, Nat.reduceAdd, Nat.reduceMul, Nat.reduceLT, Nat.reduceLeDiff, Int.reduceLE, Int.reduceLT, Int.reduceEq, Int.reduceNeg, Int.reduceToNat, Int.reduceMul, Int.reduceAdd, Int.reduceSub, Int.reduceBEq, Int.reduceBNe, reduceCtorEq] <;> rfl) (by (try simp only [RB]) <;> first | done | exact Iff.rfl | omega | simp) (fun hc => ?_) (fun hc => ?_) <;> (try simp only [RN, reduceIte]) <;> (try refine T_e rfl ?_)
    · have hk16 : k < 16 := by omega
      have hn0 : (n : Int) ≠ 0 := by omega
      have hm := Nat.mod_lt (k + 1) (show 0 < n by omega)
      have e1 : ((k : Nat) : Int) + 1 = ((k + 1 : Nat) : Int) := by omega
      have e2 : (((k + 1 : Nat) : Int)).tmod (n : Int) = (((k + 1) % n : Nat) : Int) := Int.ofNat_tmod (k + 1) n
      first | refine T_bfree rfl ?_ | refine T_bfree' rfl ?_
      try simp only [RN, reduceIte]
      try refine T_e rfl ?_
      refine T_rseq fun Kr hKr => ?_
      simp (disch := omega) only [RA, ↓reduceIte, Nat.reduceEqDiff, Nat.reduceBEq, Nat.reduceSub, Nat.reduceAdd, Nat.reduceMul, Nat.reduceLT, Nat.reduceLeDiff, Int.reduceLE, Int.reduceLT, Int.reduceEq, Int.reduceNeg, Int.reduceToNat, Int.reduceMul, Int.reduceAdd, Int.reduceSub, Int.reduceBEq, Int.reduceBNe, reduceCtorEq, RD, g0, g3, g4, hlk, hn0, e1, e2]
      refine hKr _ _ ?_
      clear hKr Kr
      try simp only [RN, reduceIte]
      try refine T_e rfl ?_
      refine T_reg_k fun Kr hKr => ?_
      simp (disch := omega) only [RA, ↓reduceIte, Nat.reduceEqDiff, Nat.reduceBEq, Nat.reduceSub, Nat.reduceAdd, Nat.reduceMul, Nat.reduceLT, Nat.reduceLeDiff, Int.reduceLE, Int.reduceLT, Int.reduceEq, Int.reduceNeg, Int.reduceToNat, Int.reduceMul, Int.reduceAdd, Int.reduceSub, Int.reduceBEq, Int.reduceBNe, reduceCtorEq, RD, g4]
      refine hKr _ _ ?_
      clear hKr Kr
      refine hN (n - (k + 1)) _ _ _ _ (by omega) Gh.refl ⟨k + 1, by omega, rfl, ?_, ?_, ?_, ?_, rfl⟩
      any_goals (simp (disch := omega) only [RA, ↓reduceIte, Nat.reduceEqDiff, Nat.reduceBEq, Nat.reduceSub, Nat.reduceAdd, Nat.reduceMul, Nat.reduceLT, Nat.reduceLeDiff, Int.reduceLE, Int.reduceLT, Int.reduceEq, Int.reduceNeg, Int.reduceToNat, Int.reduceMul, Int.reduceAdd, Int.reduceSub, Int.reduceBEq, Int.reduceBNe, reduceCtorEq, RD, RE, *] <;> rfl)
    · refine hX _ _ ?_
      obtain rfl : k = n := by omega
      refine T_rseq fun Kr hKr => ?_
      simp (disch := omega) only [RA, ↓reduceIte, Nat.reduceEqDiff, Nat.reduceBEq, Nat.reduceSub, Nat.reduceAdd, Nat.reduceMul, Nat.reduceLT, Nat.reduceLeDiff, Int.reduceLE, Int.reduceLT, Int.reduceEq, Int.reduceNeg, Int.reduceToNat, Int.reduceMul, Int.reduceAdd, Int.reduceSub, Int.reduceBEq, Int.reduceBNe, reduceCtorEq, RD, g2, g3, hlk]
      refine hKr _ _ ?_
      clear hKr Kr
      try simp only [RN, reduceIte]
      try refine T_e rfl ?_
      refine bodyQ_ret (by simp (disch := omega) only [RA, ↓reduceIte, Nat.reduceEqDiff, Nat.reduceBEq, Nat.reduceSub, Nat.reduceAdd, Nat.reduceMul, Nat.reduceLT, Nat.reduceLeDiff, Int.reduceLE, Int.reduceLT, Int.reduceEq, Int.reduceNeg, Int.reduceToNat, Int.reduceMul, Int.reduceAdd, Int.reduceSub, Int.reduceBEq, Int.reduceBNe, reduceCtorEq, RD, resAll, resOf, g2, hlk]; rfl) GhV.refl ?_
      simp only [tup]
      exact ⟨NN_agg (by (simp only [RH])), hK⟩
theorem l01Star_spec {x : Bool} {n : Nat} {H : BH} {K : Value → BH → Prop} (hn : 1 ≤ n ∧ n ≤ 16) (hK : K (DV n (tuK n n) (idK n)) H) : CallX x F_spec_l01Star [I n] H K := by
  have h1 := @tuK_len n n
  have h2 := @idK_len n
  have hz := z16_len
  refine callP (by simp only [RH]) ?_
  refine CallX_body Γ_spec_l01Star ?_
  simp only [A_spec_l01Star, T_aiff]
  refine T_rseq fun Kr hKr => ?_
  simp (disch := omega) only [RA, ↓reduceIte, Nat.reduceEqDiff, Nat.reduceBEq, Nat.reduceSub, Nat.reduceAdd, Nat.reduceMul, Nat.reduceLT, Nat.reduceLeDiff, Int.reduceLE, Int.reduceLT, Int.reduceEq, Int.reduceNeg, Int.reduceToNat, Int.reduceMul, Int.reduceAdd, Int.reduceSub, Int.reduceBEq, Int.reduceBNe, reduceCtorEq, RD, RDS]
  refine hKr _ _ ?_
  clear hKr Kr
  try simp only [RN, reduceIte]
  try refine T_e rfl ?_
  refine T_rseq fun Kr hKr => ?_
  simp (disch := omega) only [RA, ↓reduceIte, Nat.reduceEqDiff, Nat.reduceBEq, Nat.reduceSub, Nat.reduceAdd, Nat.reduceMul, Nat.reduceLT, Nat.reduceLeDiff, Int.reduceLE, Int.reduceLT, Int.reduceEq, Int.reduceNeg, Int.reduceToNat, Int.reduceMul, Int.reduceAdd, Int.reduceSub, Int.reduceBEq, Int.reduceBNe, reduceCtorEq, RD, RDS, RDD]
  refine l01Turn_spec hn ?_
  simp (disch := omega) only [RA, ↓reduceIte, Nat.reduceEqDiff, Nat.reduceBEq, Nat.reduceSub, Nat.reduceAdd, Nat.reduceMul, Nat.reduceLT, Nat.reduceLeDiff, Int.reduceLE, Int.reduceLT, Int.reduceEq, Int.reduceNeg, Int.reduceToNat, Int.reduceMul, Int.reduceAdd, Int.reduceSub, Int.reduceBEq, Int.reduceBNe, reduceCtorEq, RD, RDS, RDD]
  refine l01Same_spec (by omega) ?_
  simp (disch := omega) only [RA, ↓reduceIte, Nat.reduceEqDiff, Nat.reduceBEq, Nat.reduceSub, Nat.reduceAdd, Nat.reduceMul, Nat.reduceLT, Nat.reduceLeDiff, Int.reduceLE, Int.reduceLT, Int.reduceEq, Int.reduceNeg, Int.reduceToNat, Int.reduceMul, Int.reduceAdd, Int.reduceSub, Int.reduceBEq, Int.reduceBNe, reduceCtorEq, RD, RDS, RDD]
  refine hKr _ _ ?_
  clear hKr Kr
  try simp only [blkQ, thenQ, loopQ]
  try simp only [RN, reduceIte]
  try refine T_e rfl ?_
  refine bodyQ_ret (by simp (disch := omega) only [RA, ↓reduceIte, Nat.reduceEqDiff, Nat.reduceBEq, Nat.reduceSub, Nat.reduceAdd, Nat.reduceMul, Nat.reduceLT, Nat.reduceLeDiff, Int.reduceLE, Int.reduceLT, Int.reduceEq, Int.reduceNeg, Int.reduceToNat, Int.reduceMul, Int.reduceAdd, Int.reduceSub, Int.reduceBEq, Int.reduceBNe, reduceCtorEq, RD, resAll, resOf, RDS, RDD]; rfl) GhV.refl ?_
  simp only [tup]
  exact ⟨nn_D, hK⟩
section
variable {code : List Nat} {a : Nat} {h : Int}
theorem NNL_SC : NNL (SC code a h) = True := eq_true NN_SC
theorem l01DrawPlaces_one {n : Nat} {K : Value → BH → Prop} (ha : a ≤ code.length) (hl : code.length ≤ 1048576) (hcd : ∀ i, nl code i < 256) (hn : 1 ≤ n ∧ n ≤ 16)
    (hK : ∀ p a' h', By 16 p → Perm p n → a' ≤ code.length → K (PL p) [some (SC code a' h')]) : CallX false F_spec_l01DrawPlaces [P 0 0, I n] [some (SC code a h)] K := by
  have hz := z16_len
  have hil := @idK_len n
  refine CallX_body Γ_spec_l01DrawPlaces ?_
  simp only [A_spec_l01DrawPlaces, T_aiff]
  refine T_rseq fun Kr hKr => ?_
  simp (disch := omega) only [RA, ↓reduceIte, Nat.reduceEqDiff, Nat.reduceBEq, Nat.reduceSub, Nat.reduceAdd, Nat.reduceMul, Nat.reduceLT, Nat.reduceLeDiff, Int.reduceLE, Int.reduceLT, Int.reduceEq, Int.reduceNeg, Int.reduceToNat, Int.reduceMul, Int.reduceAdd, Int.reduceSub, Int.reduceBEq, Int.reduceBNe, reduceCtorEq, RD]
  refine hKr _ _ ?_
  clear hKr Kr
  try simp only [RN, reduceIte]
  try refine T_e rfl ?_
  refine T_rseq fun Kr hKr => ?_
  simp (disch := omega) only [RA, ↓reduceIte, Nat.reduceEqDiff, Nat.reduceBEq, Nat.reduceSub, Nat.reduceAdd, Nat.reduceMul, Nat.reduceLT, Nat.reduceLeDiff, Int.reduceLE, Int.reduceLT, Int.reduceEq, Int.reduceNeg, Int.reduceToNat, Int.reduceMul, Int.reduceAdd, Int.reduceSub, Int.reduceBEq, Int.reduceBNe, reduceCtorEq, RD]
  refine l01Same_spec (by omega) ?_
  simp (disch := omega) only [RA, ↓reduceIte, Nat.reduceEqDiff, Nat.reduceBEq, Nat.reduceSub, Nat.reduceAdd, Nat.reduceMul, Nat.reduceLT, Nat.reduceLeDiff, Int.reduceLE, Int.reduceLT, Int.reduceEq, Int.reduceNeg, Int.reduceToNat, Int.reduceMul, Int.reduceAdd, Int.reduceSub, Int.reduceBEq, Int.reduceBNe, reduceCtorEq, RD]
  refine hKr _ _ ?_
  clear hKr Kr
  try simp only [blkQ, thenQ, loopQ]
  try simp only [RN, reduceIte]
  try refine T_e rfl ?_
  refine T_rseq fun Kr hKr => ?_
  simp (disch := omega) only [RA, ↓reduceIte, Nat.reduceEqDiff, Nat.reduceBEq, Nat.reduceSub, Nat.reduceAdd, Nat.reduceMul, Nat.reduceLT, Nat.reduceLeDiff, Int.reduceLE, Int.reduceLT, Int.reduceEq, Int.reduceNeg, Int.reduceToNat, Int.reduceMul, Int.reduceAdd, Int.reduceSub, Int.reduceBEq, Int.reduceBNe, reduceCtorEq, RD]
  refine l01Next_spec (i := 0) rfl ha hl hcd (by omega) fun v a h hA k2 k3 k4 k5 => ?_
  clear ha
  simp (disch := omega) only [RA, ↓reduceIte, Nat.reduceEqDiff, Nat.reduceBEq, Nat.reduceSub, Nat.reduceAdd, Nat.reduceMul, Nat.reduceLT, Nat.reduceLeDiff, Int.reduceLE, Int.reduceLT, Int.reduceEq, Int.reduceNeg, Int.reduceToNat, Int.reduceMul, Int.reduceAdd, Int.reduceSub, Int.reduceBEq, Int.reduceBNe, reduceCtorEq, RD]
  refine hKr _ _ ?_
  clear hKr Kr
  try simp only [blkQ, thenQ, loopQ]
  try simp only [RN, reduceIte]
  try refine T_e rfl ?_
  have e0 : (n : Int) - 1 = ((n - 1 : Nat) : Int) := by omega
  refine T_csplit (p := v = 0) (by simp only [RA, ↓reduceIte, Nat.reduceEqDiff, Nat.reduceBEq, Nat.reduceSub, Nat.reduceAdd, Nat.reduceMul, Nat.reduceLT, Nat.reduceLeDiff, Int.reduceLE, Int.reduceLT, Int.reduceEq, Int.reduceNeg, Int.reduceToNat, Int.reduceMul, Int.reduceAdd, Int.reduceSub, Int.reduceBEq, Int.reduceBNe, reduceCtorEq] <;> rfl) (by (try simp only [RB]) <;> first | done | exact Iff.rfl | omega | simp) (fun hc => ?_) (fun hc => ?_) <;> (try simp only [RN, reduceIte]) <;> (try refine T_e rfl ?_)
  · refine T_rseq fun Kr hKr => ?_
    simp (disch := omega) only [RA, ↓reduceIte, Nat.reduceEqDiff, Nat.reduceBEq, Nat.reduceSub, Nat.reduceAdd, Nat.reduceMul, Nat.reduceLT, Nat.reduceLeDiff, Int.reduceLE, Int.reduceLT, Int.reduceEq, Int.reduceNeg, Int.reduceToNat, Int.reduceMul, Int.reduceAdd, Int.reduceSub, Int.reduceBEq, Int.reduceBNe, reduceCtorEq, RD]
    refine hKr _ _ ?_
    clear hKr Kr
    try simp only [RN, reduceIte]
    try refine T_e rfl ?_
    refine bodyQ_ret (by simp (disch := omega) only [RA, ↓reduceIte, Nat.reduceEqDiff, Nat.reduceBEq, Nat.reduceSub, Nat.reduceAdd, Nat.reduceMul, Nat.reduceLT, Nat.reduceLeDiff, Int.reduceLE, Int.reduceLT, Int.reduceEq, Int.reduceNeg, Int.reduceToNat, Int.reduceMul, Int.reduceAdd, Int.reduceSub, Int.reduceBEq, Int.reduceBNe, reduceCtorEq, RD, resAll, resOf, hz]; rfl) (GhV.nrm [0] rfl rfl (by simp only [RH, NNL_SC]) (by simp only [tup, RH])) ?_
    simp only [tup]
    exact hK _ _ _ (idK_by hn.2) (idK_perm hn) hA
  · clear hc
    refine T_rseq fun Kr hKr => ?_
    simp (disch := omega) only [RA, ↓reduceIte, Nat.reduceEqDiff, Nat.reduceBEq, Nat.reduceSub, Nat.reduceAdd, Nat.reduceMul, Nat.reduceLT, Nat.reduceLeDiff, Int.reduceLE, Int.reduceLT, Int.reduceEq, Int.reduceNeg, Int.reduceToNat, Int.reduceMul, Int.reduceAdd, Int.reduceSub, Int.reduceBEq, Int.reduceBNe, reduceCtorEq, RD, e0]
    refine hKr _ _ ?_
    clear hKr Kr
    try simp only [RN, reduceIte]
    try refine T_e rfl ?_
    refine T_wloop (fun m f H' => ∃ i a' h' p, i < n ∧ m = i ∧ a' ≤ code.length ∧ By 16 p ∧ Perm p n ∧ f 0 = P 0 0 ∧ f 4 = P 1 0 ∧ f 5 = P 2 0 ∧ f 6 = I i ∧ H' = [some (SC code a' h'), some (List.replicate 16 (.int .u8 0)), some (p.map N8)]) (n - 1) ?_ ?_
    · refine ⟨_, _, Gh.refl, n - 1, a, h, idK n, by omega, rfl, hA, idK_by hn.2, idK_perm hn, ?_, ?_, ?_, ?_, rfl⟩
      any_goals (simp (disch := omega) only [RA, ↓reduceIte, Nat.reduceEqDiff, Nat.reduceBEq, Nat.reduceSub, Nat.reduceAdd, Nat.reduceMul, Nat.reduceLT, Nat.reduceLeDiff, Int.reduceLE, Int.reduceLT, Int.reduceEq, Int.reduceNeg, Int.reduceToNat, Int.reduceMul, Int.reduceAdd, Int.reduceSub, Int.reduceBEq, Int.reduceBNe, reduceCtorEq, RD, RE, *] <;> rfl)
    · clear hA k2 k3 k4 k5 v
      rintro i f H' R ⟨_, a, h, p, hi, rfl, hA, hb, hp, g0, g4, g5, g6, rfl⟩ hN hX hR hE
      simp only [A_spec_l01DrawPlaces.l0, T_aiff]
      have hlp := hb.len
      refine T_rseq fun Kr hKr => ?_
      simp (disch := omega) only [RA, ↓reduceIte, Nat.reduceEqDiff, Nat.reduceBEq, Nat.reduceSub, Nat.reduceAdd, Nat.reduceMul, Nat.reduceLT, Nat.reduceLeDiff, Int.reduceLE, Int.reduceLT, Int.reduceEq, Int.reduceNeg, Int.reduceToNat, Int.reduceMul, Int.reduceAdd, Int.reduceSub, Int.reduceBEq, Int.reduceBNe, reduceCtorEq, RD, g6]
      refine hKr _ _ ?_
      clear hKr Kr
      try simp only [RN, reduceIte]
      try refine T_e rfl ?_
      refine T_csplit (p := 0 < i) (by simp only [RA, ↓reduceIte, Nat.reduceEqDiff, Nat.reduceBEq, Nat.reduceSub, Nat.reduceAdd, Nat.reduceMul, Nat.reduceLT, Nat.reduceLeDiff, Int.reduceLE, Int.reduceLT, Int.reduceEq, Int.reduceNeg, Int.reduceToNat, Int.reduceMul, Int.reduceAdd, Int.reduceSub, Int.reduceBEq, Int.reduceBNe, reduceCtorEq] <;> rfl) (by (try simp only [RB]) <;> first | done | exact Iff.rfl | omega | simp) (fun hc => ?_) (fun hc => ?_) <;> (try simp only [RN, reduceIte]) <;> (try refine T_e rfl ?_)
      · have e1 : ((i : Nat) : Int) + 1 = ((i + 1 : Nat) : Int) := by omega
        have e2 : ((i : Nat) : Int) - 1 = ((i - 1 : Nat) : Int) := by omega
        first | refine T_bfree rfl ?_ | refine T_bfree' rfl ?_
        try simp only [RN, reduceIte]
        try refine T_e rfl ?_
        refine T_rseq fun Kr hKr => ?_
        simp (disch := omega) only [RA, ↓reduceIte, Nat.reduceEqDiff, Nat.reduceBEq, Nat.reduceSub, Nat.reduceAdd, Nat.reduceMul, Nat.reduceLT, Nat.reduceLeDiff, Int.reduceLE, Int.reduceLT, Int.reduceEq, Int.reduceNeg, Int.reduceToNat, Int.reduceMul, Int.reduceAdd, Int.reduceSub, Int.reduceBEq, Int.reduceBNe, reduceCtorEq, RD, g0, g6, e1]
        refine l01Next_spec (i := 0) rfl hA hl hcd (by omega) fun v a h hA k2 k3 k4 k5 => ?_
        have hv := k4 (by omega)
        obtain ⟨k, rfl⟩ : ∃ k : Nat, v = k := ⟨v.toNat, by omega⟩
        have hpi := hb.lt i
        have hpk := hb.lt k
        have hs := hp.swap hlp (i := i) (k := k) hi (by omega)
        have hl2 : (p.set i (nl p k)).length = 16 := by rw [List.length_set, hlp]
        simp (disch := omega) only [RA, ↓reduceIte, Nat.reduceEqDiff, Nat.reduceBEq, Nat.reduceSub, Nat.reduceAdd, Nat.reduceMul, Nat.reduceLT, Nat.reduceLeDiff, Int.reduceLE, Int.reduceLT, Int.reduceEq, Int.reduceNeg, Int.reduceToNat, Int.reduceMul, Int.reduceAdd, Int.reduceSub, Int.reduceBEq, Int.reduceBNe, reduceCtorEq, RD]
        refine hKr _ _ ?_
        clear hKr Kr
        try simp only [blkQ, thenQ, loopQ]
        try simp only [RN, reduceIte]
        try refine T_e rfl ?_
        refine T_rseq fun Kr hKr => ?_
        simp (disch := omega) only [RA, ↓reduceIte, Nat.reduceEqDiff, Nat.reduceBEq, Nat.reduceSub, Nat.reduceAdd, Nat.reduceMul, Nat.reduceLT, Nat.reduceLeDiff, Int.reduceLE, Int.reduceLT, Int.reduceEq, Int.reduceNeg, Int.reduceToNat, Int.reduceMul, Int.reduceAdd, Int.reduceSub, Int.reduceBEq, Int.reduceBNe, reduceCtorEq, RD, g5, g6, hlp]
        refine hKr _ _ ?_
        clear hKr Kr
        try simp only [RN, reduceIte]
        try refine T_e rfl ?_
        refine T_rseq fun Kr hKr => ?_
        simp (disch := omega) only [RA, ↓reduceIte, Nat.reduceEqDiff, Nat.reduceBEq, Nat.reduceSub, Nat.reduceAdd, Nat.reduceMul, Nat.reduceLT, Nat.reduceLeDiff, Int.reduceLE, Int.reduceLT, Int.reduceEq, Int.reduceNeg, Int.reduceToNat, Int.reduceMul, Int.reduceAdd, Int.reduceSub, Int.reduceBEq, Int.reduceBNe, reduceCtorEq, RD, g5, g6, hlp]
        refine hKr _ _ ?_
        clear hKr Kr
        try simp only [RN, reduceIte]
        try refine T_e rfl ?_
        refine T_rseq fun Kr hKr => ?_
        simp (disch := omega) only [RA, ↓reduceIte, Nat.reduceEqDiff, Nat.reduceBEq, Nat.reduceSub, Nat.reduceAdd, Nat.reduceMul, Nat.reduceLT, Nat.reduceLeDiff, Int.reduceLE, Int.reduceLT, Int.reduceEq, Int.reduceNeg, Int.reduceToNat, Int.reduceMul, Int.reduceAdd, Int.reduceSub, Int.reduceBEq, Int.reduceBNe, reduceCtorEq, RD, g5, hl2, hlp]
        refine hKr _ _ ?_
        clear hKr Kr
        try simp only [RN, reduceIte]
        try refine T_e rfl ?_
        refine T_reg_k fun Kr hKr => ?_
        simp (disch := omega) only [RA, ↓reduceIte, Nat.reduceEqDiff, Nat.reduceBEq, Nat.reduceSub, Nat.reduceAdd, Nat.reduceMul, Nat.reduceLT, Nat.reduceLeDiff, Int.reduceLE, Int.reduceLT, Int.reduceEq, Int.reduceNeg, Int.reduceToNat, Int.reduceMul, Int.reduceAdd, Int.reduceSub, Int.reduceBEq, Int.reduceBNe, reduceCtorEq, RD, g6]
        refine hKr _ _ ?_
        clear hKr Kr
        refine hN (i - 1) _ _ _ _ (by omega) Gh.refl ⟨i - 1, a, h, _, by omega, rfl, hA, (hb.set hpk).set hpi, hs, ?_, ?_, ?_, ?_, rfl⟩
        any_goals (simp (disch := omega) only [RA, ↓reduceIte, Nat.reduceEqDiff, Nat.reduceBEq, Nat.reduceSub, Nat.reduceAdd, Nat.reduceMul, Nat.reduceLT, Nat.reduceLeDiff, Int.reduceLE, Int.reduceLT, Int.reduceEq, Int.reduceNeg, Int.reduceToNat, Int.reduceMul, Int.reduceAdd, Int.reduceSub, Int.reduceBEq, Int.reduceBNe, reduceCtorEq, RD, RE, *] <;> rfl)
      · refine hX _ _ ?_
        refine T_rseq fun Kr hKr => ?_
        simp (disch := omega) only [RA, ↓reduceIte, Nat.reduceEqDiff, Nat.reduceBEq, Nat.reduceSub, Nat.reduceAdd, Nat.reduceMul, Nat.reduceLT, Nat.reduceLeDiff, Int.reduceLE, Int.reduceLT, Int.reduceEq, Int.reduceNeg, Int.reduceToNat, Int.reduceMul, Int.reduceAdd, Int.reduceSub, Int.reduceBEq, Int.reduceBNe, reduceCtorEq, RD, g4, g5, hlp]
        refine hKr _ _ ?_
        clear hKr Kr
        try simp only [RN, reduceIte]
        try refine T_e rfl ?_
        refine bodyQ_ret (by simp (disch := omega) only [RA, ↓reduceIte, Nat.reduceEqDiff, Nat.reduceBEq, Nat.reduceSub, Nat.reduceAdd, Nat.reduceMul, Nat.reduceLT, Nat.reduceLeDiff, Int.reduceLE, Int.reduceLT, Int.reduceEq, Int.reduceNeg, Int.reduceToNat, Int.reduceMul, Int.reduceAdd, Int.reduceSub, Int.reduceBEq, Int.reduceBNe, reduceCtorEq, RD, resAll, resOf, g4, hlp]; rfl) (GhV.nrm [0] rfl rfl (by simp only [RH, NNL_SC]) (by simp only [tup, RH])) ?_
        simp only [tup]
        exact hK _ _ _ hb hp hA
theorem l01DrawPlaces_spec {n : Nat} {i : Nat} {H : BH} {K : Value → BH → Prop} (hb : blk H i = some (SC code a h)) (ha : a ≤ code.length) (hl : code.length ≤ 1048576) (hcd : ∀ i, nl code i < 256) (hn : 1 ≤ n ∧ n ≤ 16)
    (hK : ∀ p a' h', By 16 p → Perm p n → a' ≤ code.length → K (PL p) (H.set i (some (SC code a' h')))) : CallX false F_spec_l01DrawPlaces [P i 0, I n] H K := by
  refine call1 hb NN_SC ?_
  have e : ([P i 0, I n] : List Value).map (ren [i]) = [P 0 0, I n] := by simp [ren, ren1, nm]
  rw [e]
  exact l01DrawPlaces_one ha hl hcd hn fun p a' h' k1 k2 k3 => ⟨NN_agg (by (simp only [RH])), HN.cons NN_SC HN.nil, hK p a' h' k1 k2 k3⟩
end
end Go.Bm

/- All types of a number. -/
set_option linter.unusedVariables false
set_option linter.unusedSimpArgs false
namespace Go.Bm
open Go Go.Am

/-- The types of n with numbers of at most m. -/
def tyl : Nat → Nat → Nat → List (List Nat)
  | 0, _, _ => [[]]
  | k + 1, n, m => if n = 0 then [[]] else (List.range (min n m)).flatMap fun i => (tyl k (n - (i + 1)) (i + 1)).map fun r => (i + 1) :: r
/-- .. those whose first number is at most i. -/
def ptl (k n i : Nat) : List (List Nat) := (List.range i).flatMap fun i => (tyl k (n - (i + 1)) (i + 1)).map fun r => (i + 1) :: r
theorem ptl_succ {k n i : Nat} : ptl k n (i + 1) = ptl k n i ++ (tyl k (n - (i + 1)) (i + 1)).map fun r => (i + 1) :: r := by
  simp [ptl, List.range_succ]
theorem ptl_mono {k n i : Nat} : ∀ {j : Nat}, i ≤ j → (ptl k n i).length ≤ (ptl k n j).length
  | 0, h => by
    obtain rfl : i = 0 := by omega
    exact Nat.le_refl _
  | j + 1, h => by
    by_cases e : i = j + 1
    · rw [e]; exact Nat.le_refl _
    · have := ptl_mono (k := k) (n := n) (i := i) (j := j) (by omega)
      rw [ptl_succ, List.length_append]
      omega
theorem tyl_succ {k n m : Nat} (h : n ≠ 0) : tyl (k + 1) n m = ptl k n (min n m) := by
  rw [tyl, if_neg h]
  rfl
theorem tyl_eq : ∀ {k n m : Nat}, n ≤ k → tyl k n m = tyl (k + 1) n m
  | 0, n, m, h => by
    obtain rfl : n = 0 := by omega
    rfl
  | k + 1, n, m, h => by
    by_cases e : n = 0
    · simp [tyl, e]
    · rw [tyl_succ e, tyl_succ e, ptl, ptl]
      congr 1
      funext i
      rw [tyl_eq (k := k) (by omega)]
theorem tyl_16 {k n m : Nat} (h : n ≤ k) (hk : k ≤ 16) : tyl k n m = tyl 16 n m := by
  have key : ∀ d, k + d ≤ 16 → tyl k n m = tyl (k + d) n m := by
    intro d
    induction d with
    | zero => intro _; rfl
    | succ d ih => intro hd; rw [ih (by omega), tyl_eq (k := k + d) (by omega)]; rfl
  have := key (16 - k) (by omega)
  rwa [show k + (16 - k) = 16 by omega] at this
theorem tyl_inner : ∀ {k n m : Nat}, ∀ r ∈ tyl k n m, r.length ≤ n
  | 0, n, m, r, h => by
    rw [tyl, List.mem_singleton] at h
    rw [h]; simp
  | k + 1, n, m, r, h => by
    rw [tyl] at h
    split at h
    · rw [List.mem_singleton] at h
      rw [h]; simp
    · obtain ⟨i, hi, h⟩ := List.mem_flatMap.1 h
      obtain ⟨q, hq, rfl⟩ := List.mem_map.1 h
      have := tyl_inner q hq
      rw [List.mem_range] at hi
      rw [List.length_cons]
      omega
theorem tyl_most {k n m : Nat} (h : n ≤ m) : tyl k n m = tyl k n n := by
  cases k with
  | zero => rfl
  | succ k => rw [tyl, tyl, Nat.min_eq_left h, Nat.min_self]
theorem tyl_len16 : ∀ n, n < 17 → ∀ m, m < 17 → (tyl 16 n m).length ≤ 300 := by decide +kernel
theorem tyl_len {k n m : Nat} (h : n ≤ k) (hk : k ≤ 16) : (tyl k n m).length ≤ 300 := by
  rw [tyl_16 h hk]
  by_cases e : m < 17
  · exact tyl_len16 n (by omega) m e
  · rw [tyl_most (by omega)]
    exact tyl_len16 n (by omega) n (by omega)
end Go.Bm

