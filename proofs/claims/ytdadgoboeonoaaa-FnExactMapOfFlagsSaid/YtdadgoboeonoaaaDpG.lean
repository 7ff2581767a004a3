/- The map of orientable flags. -/
import Derived.Test.YtdadgoboeonoaaaDpF
set_option linter.unusedVariables false
set_option linter.unusedSimpArgs false
namespace Go.Bm
open Go Go.Am

theorem spec_MapOfFlags_spec {x : Bool} {n : Int} {c t s : List Nat} {H : BH} {K : Value → BH → Prop} (hcc : By 32 c) (ht : By 32 t) (hs : By 32 s)
    (hK : K (.tuple ⟨[DV (resMap n c t s).1.1 (resMap n c t s).1.2.1 (resMap n c t s).1.2.2, I (resMap n c t s).2]⟩) H) : CallX x F_spec_MapOfFlags [FV n c t s] H K := by
  have hlc := hcc.len
  have hlt := ht.len
  have hls := hs.len
  have hz := z16_len
  refine callP (by exact .cons nn_F .nil) ?_
  refine CallX_body Γ_spec_MapOfFlags ?_
  simp only [A_spec_MapOfFlags, T_aiff]
  refine T_rseq fun Kr hKr => ?_
  simp (disch := omega) only [RF, RO, RC, ↓reduceIte, Nat.reduceEqDiff, Nat.reduceBEq, Nat.reduceSub, Nat.reduceAdd, Nat.reduceMul, Nat.reduceLT, Nat.reduceLeDiff, Int.reduceLE, Int.reduceLT, Int.reduceEq, Int.reduceNeg, Int.reduceToNat, Int.reduceMul, Int.reduceAdd, Int.reduceSub, Int.reduceBEq, Int.reduceBNe, reduceCtorEq, RD, RFS, RDS]
  refine hKr _ _ ?_
  clear hKr Kr
  try simp only [RN, if_true, if_false, Bool.false_eq_true, if_pos, reduceIte]
  try first | refine T_exit ?_ | refine T_ret ?_ | refine T_skip ?_
  refine T_rseq fun Kr hKr => ?_
  simp (disch := omega) only [RF, RO, RC, ↓reduceIte, Nat.reduceEqDiff, Nat.reduceBEq, Nat.reduceSub, Nat.reduceAdd, Nat.reduceMul, Nat.reduceLT, Nat.reduceLeDiff, Int.reduceLE, Int.reduceLT, Int.reduceEq, Int.reduceNeg, Int.reduceToNat, Int.reduceMul, Int.reduceAdd, Int.reduceSub, Int.reduceBEq, Int.reduceBNe, reduceCtorEq, RD, RFS, RFD]
  refine l07Are_spec hcc ht hs ?_
  simp (disch := omega) only [RF, RO, RC, ↓reduceIte, Nat.reduceEqDiff, Nat.reduceBEq, Nat.reduceSub, Nat.reduceAdd, Nat.reduceMul, Nat.reduceLT, Nat.reduceLeDiff, Int.reduceLE, Int.reduceLT, Int.reduceEq, Int.reduceNeg, Int.reduceToNat, Int.reduceMul, Int.reduceAdd, Int.reduceSub, Int.reduceBEq, Int.reduceBNe, reduceCtorEq, RD]
  refine hKr _ _ ?_
  clear hKr Kr
  try simp only [blkQ, thenQ, loopQ]
  try simp only [RN, if_true, if_false, Bool.false_eq_true, if_pos, reduceIte]
  try first | refine T_exit ?_ | refine T_ret ?_ | refine T_skip ?_
  refine T_csplit (p := ¬ Fl n c t s) (by simp only [RF, RO, RC, ↓reduceIte, Nat.reduceEqDiff, Nat.reduceBEq, Nat.reduceSub, Nat.reduceAdd, Nat.reduceMul, Nat.reduceLT, Nat.reduceLeDiff, Int.reduceLE, Int.reduceLT, Int.reduceEq, Int.reduceNeg, Int.reduceToNat, Int.reduceMul, Int.reduceAdd, Int.reduceSub, Int.reduceBEq, Int.reduceBNe, reduceCtorEq] <;> rfl) (by (try simp only [decide_eq_true_eq, Bool.or_eq_true, Bool.and_eq_true, Bool.not_eq_true', decide_eq_false_iff_not, Bool.not_eq_eq_eq_not, Bool.not_true, Bool.not_false, beq_iff_eq, Bool.false_eq_true]) <;> (first | done | exact Iff.rfl | omega | simp)) (fun hc => ?_) (fun hc => ?_) <;> (try simp only [RN, if_true, if_false, Bool.false_eq_true, if_pos, reduceIte]) <;> (try first | refine T_exit ?_ | refine T_ret ?_ | refine T_skip ?_)
  · refine T_rseq fun Kr hKr => ?_
    simp (disch := omega) only [RF, RO, RC, ↓reduceIte, Nat.reduceEqDiff, Nat.reduceBEq, Nat.reduceSub, Nat.reduceAdd, Nat.reduceMul, Nat.reduceLT, Nat.reduceLeDiff, Int.reduceLE, Int.reduceLT, Int.reduceEq, Int.reduceNeg, Int.reduceToNat, Int.reduceMul, Int.reduceAdd, Int.reduceSub, Int.reduceBEq, Int.reduceBNe, reduceCtorEq, RD, RDS, RDD]
    refine hKr _ _ ?_
    clear hKr Kr
    try simp only [RN, if_true, if_false, Bool.false_eq_true, if_pos, reduceIte]
    try first | refine T_exit ?_ | refine T_ret ?_ | refine T_skip ?_
    refine bodyQ_ret (by simp (disch := omega) only [RF, RO, RC, ↓reduceIte, Nat.reduceEqDiff, Nat.reduceBEq, Nat.reduceSub, Nat.reduceAdd, Nat.reduceMul, Nat.reduceLT, Nat.reduceLeDiff, Int.reduceLE, Int.reduceLT, Int.reduceEq, Int.reduceNeg, Int.reduceToNat, Int.reduceMul, Int.reduceAdd, Int.reduceSub, Int.reduceBEq, Int.reduceBNe, reduceCtorEq, RD, resAll, resOf, RDS, RDD]; rfl) GhV.refl ?_
    simp only [tup]
    rw [resMap, if_pos hc] at hK
    exact ⟨nn_DI, hK⟩
  have hd := Decidable.not_not.1 hc
  clear hc
  have hl32 := hd.all32 hcc ht hs
  have hc32 := hl32 c (by simp)
  have ht32 := hl32 t (by simp)
  have hs32 := hl32 s (by simp)
  obtain ⟨m, rfl, hm1, hm2⟩ := hd.n1
  have hlr := clsR_len hl32
  have h16 := hd.ones hcc ht hs
  rw [resMap, if_neg (by simpa using hd)] at hK
  refine T_rseq fun Kr hKr => ?_
  simp (disch := omega) only [RF, RO, RC, ↓reduceIte, Nat.reduceEqDiff, Nat.reduceBEq, Nat.reduceSub, Nat.reduceAdd, Nat.reduceMul, Nat.reduceLT, Nat.reduceLeDiff, Int.reduceLE, Int.reduceLT, Int.reduceEq, Int.reduceNeg, Int.reduceToNat, Int.reduceMul, Int.reduceAdd, Int.reduceSub, Int.reduceBEq, Int.reduceBNe, reduceCtorEq, RD, RFS, RFD]
  refine l07Class_spec hcc ht hs hl32 ?_
  generalize clsR c t s = r at hlr hK h16
  obtain ⟨cl, qu, ok⟩ := r
  simp only at hlr hK h16
  simp only [Int.toNat_natCast] at hK
  simp (disch := omega) only [RF, RO, RC, ↓reduceIte, Nat.reduceEqDiff, Nat.reduceBEq, Nat.reduceSub, Nat.reduceAdd, Nat.reduceMul, Nat.reduceLT, Nat.reduceLeDiff, Int.reduceLE, Int.reduceLT, Int.reduceEq, Int.reduceNeg, Int.reduceToNat, Int.reduceMul, Int.reduceAdd, Int.reduceSub, Int.reduceBEq, Int.reduceBNe, reduceCtorEq, RD, st_r64]
  refine hKr _ _ ?_
  clear hKr Kr
  try simp only [blkQ, thenQ, loopQ]
  try simp only [RN, if_true, if_false, Bool.false_eq_true, if_pos, reduceIte]
  try first | refine T_exit ?_ | refine T_ret ?_ | refine T_skip ?_
  refine T_rseq fun Kr hKr => ?_
  simp (disch := omega) only [RF, RO, RC, ↓reduceIte, Nat.reduceEqDiff, Nat.reduceBEq, Nat.reduceSub, Nat.reduceAdd, Nat.reduceMul, Nat.reduceLT, Nat.reduceLeDiff, Int.reduceLE, Int.reduceLT, Int.reduceEq, Int.reduceNeg, Int.reduceToNat, Int.reduceMul, Int.reduceAdd, Int.reduceSub, Int.reduceBEq, Int.reduceBNe, reduceCtorEq, RD]
  refine hKr _ _ ?_
  clear hKr Kr
  try simp only [RN, if_true, if_false, Bool.false_eq_true, if_pos, reduceIte]
  try first | refine T_exit ?_ | refine T_ret ?_ | refine T_skip ?_
  refine T_csplit (p := ¬ ok = true) (by simp only [RF, RO, RC, ↓reduceIte, Nat.reduceEqDiff, Nat.reduceBEq, Nat.reduceSub, Nat.reduceAdd, Nat.reduceMul, Nat.reduceLT, Nat.reduceLeDiff, Int.reduceLE, Int.reduceLT, Int.reduceEq, Int.reduceNeg, Int.reduceToNat, Int.reduceMul, Int.reduceAdd, Int.reduceSub, Int.reduceBEq, Int.reduceBNe, reduceCtorEq] <;> rfl) (by (try simp only [decide_eq_true_eq, Bool.or_eq_true, Bool.and_eq_true, Bool.not_eq_true', decide_eq_false_iff_not, Bool.not_eq_eq_eq_not, Bool.not_true, Bool.not_false, beq_iff_eq, Bool.false_eq_true]) <;> (first | done | exact Iff.rfl | omega | simp)) (fun hc => ?_) (fun hc => ?_) <;> (try simp only [RN, if_true, if_false, Bool.false_eq_true, if_pos, reduceIte]) <;> (try first | refine T_exit ?_ | refine T_ret ?_ | refine T_skip ?_)
  · refine T_rseq fun Kr hKr => ?_
    simp (disch := omega) only [RF, RO, RC, ↓reduceIte, Nat.reduceEqDiff, Nat.reduceBEq, Nat.reduceSub, Nat.reduceAdd, Nat.reduceMul, Nat.reduceLT, Nat.reduceLeDiff, Int.reduceLE, Int.reduceLT, Int.reduceEq, Int.reduceNeg, Int.reduceToNat, Int.reduceMul, Int.reduceAdd, Int.reduceSub, Int.reduceBEq, Int.reduceBNe, reduceCtorEq, RD, RDS, RDD]
    refine hKr _ _ ?_
    clear hKr Kr
    try simp only [RN, if_true, if_false, Bool.false_eq_true, if_pos, reduceIte]
    try first | refine T_exit ?_ | refine T_ret ?_ | refine T_skip ?_
    refine bodyQ_ret (by simp (disch := omega) only [RF, RO, RC, ↓reduceIte, Nat.reduceEqDiff, Nat.reduceBEq, Nat.reduceSub, Nat.reduceAdd, Nat.reduceMul, Nat.reduceLT, Nat.reduceLeDiff, Int.reduceLE, Int.reduceLT, Int.reduceEq, Int.reduceNeg, Int.reduceToNat, Int.reduceMul, Int.reduceAdd, Int.reduceSub, Int.reduceBEq, Int.reduceBNe, reduceCtorEq, RD, resAll, resOf, RDS, RDD]; rfl) GhV.refl ?_
    simp only [tup]
    rw [if_pos hc] at hK
    exact ⟨nn_DI, hK⟩
  rw [if_neg hc] at hK
  replace h16 := h16 (by simpa using hc)
  clear hc
  refine T_rseq fun Kr hKr => ?_
  simp (disch := omega) only [RF, RO, RC, ↓reduceIte, Nat.reduceEqDiff, Nat.reduceBEq, Nat.reduceSub, Nat.reduceAdd, Nat.reduceMul, Nat.reduceLT, Nat.reduceLeDiff, Int.reduceLE, Int.reduceLT, Int.reduceEq, Int.reduceNeg, Int.reduceToNat, Int.reduceMul, Int.reduceAdd, Int.reduceSub, Int.reduceBEq, Int.reduceBNe, reduceCtorEq, RD]
  refine hKr _ _ ?_
  clear hKr Kr
  try simp only [RN, if_true, if_false, Bool.false_eq_true, if_pos, reduceIte]
  try first | refine T_exit ?_ | refine T_ret ?_ | refine T_skip ?_
  refine T_rseq fun Kr hKr => ?_
  simp (disch := omega) only [RF, RO, RC, ↓reduceIte, Nat.reduceEqDiff, Nat.reduceBEq, Nat.reduceSub, Nat.reduceAdd, Nat.reduceMul, Nat.reduceLT, Nat.reduceLeDiff, Int.reduceLE, Int.reduceLT, Int.reduceEq, Int.reduceNeg, Int.reduceToNat, Int.reduceMul, Int.reduceAdd, Int.reduceSub, Int.reduceBEq, Int.reduceBNe, reduceCtorEq, RD]
  refine hKr _ _ ?_
  clear hKr Kr
  try simp only [RN, if_true, if_false, Bool.false_eq_true, if_pos, reduceIte]
  try first | refine T_exit ?_ | refine T_ret ?_ | refine T_skip ?_
  refine T_wloop (fun j f H' => ∃ k o nu, k ≤ m ∧ j = m - k ∧ o = ones cl k ∧ nu = numK cl k ∧ f 1 = P 0 0 ∧ f 2 = P 1 0 ∧ f 4 = P 2 0 ∧ f 6 = P 3 0 ∧ f 7 = .int .u8 (o : Int) ∧ f 8 = I k ∧ H' = [some (FC m c t s), some (DC 0 z16 z16), some (cl.map N64), some (nu.map N8)]) (m) ?_ ?_
  · refine ⟨_, _, Gh.refl, 0, 0, List.replicate 32 0, by omega, by omega, rfl, rfl, ?_, ?_, ?_, ?_, ?_, ?_, by simp [RF, RO, RC, ↓reduceIte, Nat.reduceEqDiff, Nat.reduceBEq, Nat.reduceSub, Nat.reduceAdd, Nat.reduceMul, Nat.reduceLT, Nat.reduceLeDiff, Int.reduceLE, Int.reduceLT, Int.reduceEq, Int.reduceNeg, Int.reduceToNat, Int.reduceMul, Int.reduceAdd, Int.reduceSub, Int.reduceBEq, Int.reduceBNe, reduceCtorEq, numK]⟩
    any_goals (simp (disch := omega) only [RF, RO, RC, ↓reduceIte, Nat.reduceEqDiff, Nat.reduceBEq, Nat.reduceSub, Nat.reduceAdd, Nat.reduceMul, Nat.reduceLT, Nat.reduceLeDiff, Int.reduceLE, Int.reduceLT, Int.reduceEq, Int.reduceNeg, Int.reduceToNat, Int.reduceMul, Int.reduceAdd, Int.reduceSub, Int.reduceBEq, Int.reduceBNe, reduceCtorEq, RD, ren_PL, ren_AB, ren_AI, *] <;> rfl)
  · rintro j f H' R ⟨k, o, nu, hk, rfl, hoe, hnue, g1, g2, g4, g6, g7, g8, rfl⟩ hN hX hR hE
    simp only [A_spec_MapOfFlags.l0, T_aiff]
    have hln : nu.length = 32 := by rw [hnue]; exact @numK_len cl k
    have ho : o ≤ k := by rw [hoe]; exact @ones_le cl k
    refine T_rseq fun Kr hKr => ?_
    simp (disch := omega) only [RF, RO, RC, ↓reduceIte, Nat.reduceEqDiff, Nat.reduceBEq, Nat.reduceSub, Nat.reduceAdd, Nat.reduceMul, Nat.reduceLT, Nat.reduceLeDiff, Int.reduceLE, Int.reduceLT, Int.reduceEq, Int.reduceNeg, Int.reduceToNat, Int.reduceMul, Int.reduceAdd, Int.reduceSub, Int.reduceBEq, Int.reduceBNe, reduceCtorEq, RD, g1, g8, RFS]
    refine hKr _ _ ?_
    clear hKr Kr
    try simp only [RN, if_true, if_false, Bool.false_eq_true, if_pos, reduceIte]
    try first | refine T_exit ?_ | refine T_ret ?_ | refine T_skip ?_
    refine T_csplit (p := k < m) (by simp only [RF, RO, RC, ↓reduceIte, Nat.reduceEqDiff, Nat.reduceBEq, Nat.reduceSub, Nat.reduceAdd, Nat.reduceMul, Nat.reduceLT, Nat.reduceLeDiff, Int.reduceLE, Int.reduceLT, Int.reduceEq, Int.reduceNeg, Int.reduceToNat, Int.reduceMul, Int.reduceAdd, Int.reduceSub, Int.reduceBEq, Int.reduceBNe, reduceCtorEq] <;> rfl) (by (try simp only [decide_eq_true_eq, Bool.or_eq_true, Bool.and_eq_true, Bool.not_eq_true', decide_eq_false_iff_not, Bool.not_eq_eq_eq_not, Bool.not_true, Bool.not_false, beq_iff_eq, Bool.false_eq_true]) <;> (first | done | exact Iff.rfl | omega | simp)) (fun hc => ?_) (fun hc => ?_) <;> (try simp only [RN, if_true, if_false, Bool.false_eq_true, if_pos, reduceIte]) <;> (try first | refine T_exit ?_ | refine T_ret ?_ | refine T_skip ?_)
    · have hos := @ones_succ cl k
      have hnext : ∀ f' nu o, f' 1 = P 0 0 → f' 2 = P 1 0 → f' 4 = P 2 0 → f' 6 = P 3 0 → f' 7 = .int .u8 ((o : Nat) : Int) → f' 8 = I k → nu = numK cl (k + 1) → o = ones cl (k + 1) → T 0 A_spec_MapOfFlags.r9 R f' [some (FC m c t s), some (DC 0 z16 z16), some (cl.map N64), some (nu.map N8)] := by
        intro f' nu o g1 g2 g4 g6 g7 g8 hnu hoo
        refine T_reg_k fun Kr hKr => ?_
        simp (disch := omega) only [RF, RO, RC, ↓reduceIte, Nat.reduceEqDiff, Nat.reduceBEq, Nat.reduceSub, Nat.reduceAdd, Nat.reduceMul, Nat.reduceLT, Nat.reduceLeDiff, Int.reduceLE, Int.reduceLT, Int.reduceEq, Int.reduceNeg, Int.reduceToNat, Int.reduceMul, Int.reduceAdd, Int.reduceSub, Int.reduceBEq, Int.reduceBNe, reduceCtorEq, RD, g8]
        refine hKr _ _ ?_
        clear hKr Kr
        refine hN (m - (k + 1)) _ _ _ _ (by omega) Gh.refl ⟨k + 1, o, nu, by omega, rfl, hoo, hnu, ?_, ?_, ?_, ?_, ?_, ?_, rfl⟩
        any_goals (simp (disch := omega) only [RF, RO, RC, ↓reduceIte, Nat.reduceEqDiff, Nat.reduceBEq, Nat.reduceSub, Nat.reduceAdd, Nat.reduceMul, Nat.reduceLT, Nat.reduceLeDiff, Int.reduceLE, Int.reduceLT, Int.reduceEq, Int.reduceNeg, Int.reduceToNat, Int.reduceMul, Int.reduceAdd, Int.reduceSub, Int.reduceBEq, Int.reduceBNe, reduceCtorEq, RD, ren_PL, ren_AB, ren_AI, *] <;> rfl)
      first | refine T_bfree rfl ?_ | refine T_bfree' rfl ?_
      try simp only [RN, if_true, if_false, Bool.false_eq_true, if_pos, reduceIte]
      try first | refine T_exit ?_ | refine T_ret ?_ | refine T_skip ?_
      refine T_rseq fun Kr hKr => ?_
      simp (disch := omega) only [RF, RO, RC, ↓reduceIte, Nat.reduceEqDiff, Nat.reduceBEq, Nat.reduceSub, Nat.reduceAdd, Nat.reduceMul, Nat.reduceLT, Nat.reduceLeDiff, Int.reduceLE, Int.reduceLT, Int.reduceEq, Int.reduceNeg, Int.reduceToNat, Int.reduceMul, Int.reduceAdd, Int.reduceSub, Int.reduceBEq, Int.reduceBNe, reduceCtorEq, RD, g4, g8, getN_64, hlr]
      refine hKr _ _ ?_
      clear hKr Kr
      try simp only [RN, if_true, if_false, Bool.false_eq_true, if_pos, reduceIte]
      try first | refine T_exit ?_ | refine T_ret ?_ | refine T_skip ?_
      refine T_csplit (p := nl cl k = 1) (by simp only [RF, RO, RC, ↓reduceIte, Nat.reduceEqDiff, Nat.reduceBEq, Nat.reduceSub, Nat.reduceAdd, Nat.reduceMul, Nat.reduceLT, Nat.reduceLeDiff, Int.reduceLE, Int.reduceLT, Int.reduceEq, Int.reduceNeg, Int.reduceToNat, Int.reduceMul, Int.reduceAdd, Int.reduceSub, Int.reduceBEq, Int.reduceBNe, reduceCtorEq] <;> rfl) (by (try simp only [decide_eq_true_eq, Bool.or_eq_true, Bool.and_eq_true, Bool.not_eq_true', decide_eq_false_iff_not, Bool.not_eq_eq_eq_not, Bool.not_true, Bool.not_false, beq_iff_eq, Bool.false_eq_true]) <;> (first | done | exact Iff.rfl | omega | simp)) (fun hc => ?_) (fun hc => ?_) <;> (try simp only [RN, if_true, if_false, Bool.false_eq_true, if_pos, reduceIte]) <;> (try first | refine T_exit ?_ | refine T_ret ?_ | refine T_skip ?_)
      · refine T_rseq fun Kr hKr => ?_
        simp (disch := omega) only [RF, RO, RC, ↓reduceIte, Nat.reduceEqDiff, Nat.reduceBEq, Nat.reduceSub, Nat.reduceAdd, Nat.reduceMul, Nat.reduceLT, Nat.reduceLeDiff, Int.reduceLE, Int.reduceLT, Int.reduceEq, Int.reduceNeg, Int.reduceToNat, Int.reduceMul, Int.reduceAdd, Int.reduceSub, Int.reduceBEq, Int.reduceBNe, reduceCtorEq, RD, g6, g7, g8, hln]
        refine hKr _ _ ?_
        clear hKr Kr
        try simp only [RN, if_true, if_false, Bool.false_eq_true, if_pos, reduceIte]
        try first | refine T_exit ?_ | refine T_ret ?_ | refine T_skip ?_
        refine T_rseq fun Kr hKr => ?_
        simp (disch := omega) only [RF, RO, RC, ↓reduceIte, Nat.reduceEqDiff, Nat.reduceBEq, Nat.reduceSub, Nat.reduceAdd, Nat.reduceMul, Nat.reduceLT, Nat.reduceLeDiff, Int.reduceLE, Int.reduceLT, Int.reduceEq, Int.reduceNeg, Int.reduceToNat, Int.reduceMul, Int.reduceAdd, Int.reduceSub, Int.reduceBEq, Int.reduceBNe, reduceCtorEq, RD, g7]
        refine hKr _ _ ?_
        clear hKr Kr
        try simp only [RN, if_true, if_false, Bool.false_eq_true, if_pos, reduceIte]
        try first | refine T_exit ?_ | refine T_ret ?_ | refine T_skip ?_
        refine hnext _ (nu.set k o) (o + 1) ?_ ?_ ?_ ?_ ?_ ?_ (by rw [numK, if_pos hc, hnue, hoe]) (by rw [hos, if_pos hc, hoe])
        any_goals (simp (disch := omega) only [RF, RO, RC, ↓reduceIte, Nat.reduceEqDiff, Nat.reduceBEq, Nat.reduceSub, Nat.reduceAdd, Nat.reduceMul, Nat.reduceLT, Nat.reduceLeDiff, Int.reduceLE, Int.reduceLT, Int.reduceEq, Int.reduceNeg, Int.reduceToNat, Int.reduceMul, Int.reduceAdd, Int.reduceSub, Int.reduceBEq, Int.reduceBNe, reduceCtorEq, RD, ren_PL, ren_AB, ren_AI, *] <;> rfl)
      · try simp only [RN, if_true, if_false, Bool.false_eq_true, if_pos, reduceIte]
        try first | refine T_exit ?_ | refine T_ret ?_ | refine T_skip ?_
        refine hnext _ nu o ?_ ?_ ?_ ?_ ?_ ?_ (by rw [numK, if_neg hc, hnue]) (by rw [hos, if_neg hc, hoe]; rfl)
        any_goals (simp (disch := omega) only [RF, RO, RC, ↓reduceIte, Nat.reduceEqDiff, Nat.reduceBEq, Nat.reduceSub, Nat.reduceAdd, Nat.reduceMul, Nat.reduceLT, Nat.reduceLeDiff, Int.reduceLE, Int.reduceLT, Int.reduceEq, Int.reduceNeg, Int.reduceToNat, Int.reduceMul, Int.reduceAdd, Int.reduceSub, Int.reduceBEq, Int.reduceBNe, reduceCtorEq, RD, ren_PL, ren_AB, ren_AI, *] <;> rfl)
    · refine hX _ _ ?_
      obtain rfl : k = m := by omega
      have hnu : ∀ i, i < k → nl cl i = 1 → nl (numK cl k) i < 16 := fun i hi h1 => by have := numK_at hi hm2 h1; omega
      have hnu2 : ∀ i, nl (numK cl k) i < 256 := fun i => by have := @numK_lt cl k i; omega
      rw [← hnue] at hnu hnu2
      rw [← hoe] at h16
      rw [← hoe, ← hnue] at hK
      clear hoe hnue
      clear hc ho
      refine T_rseq fun Kr hKr => ?_
      simp (disch := omega) only [RF, RO, RC, ↓reduceIte, Nat.reduceEqDiff, Nat.reduceBEq, Nat.reduceSub, Nat.reduceAdd, Nat.reduceMul, Nat.reduceLT, Nat.reduceLeDiff, Int.reduceLE, Int.reduceLT, Int.reduceEq, Int.reduceNeg, Int.reduceToNat, Int.reduceMul, Int.reduceAdd, Int.reduceSub, Int.reduceBEq, Int.reduceBNe, reduceCtorEq, RD, g7, RDS, RDD]
      refine hKr _ _ ?_
      clear hKr Kr
      try simp only [RN, if_true, if_false, Bool.false_eq_true, if_pos, reduceIte]
      try first | refine T_exit ?_ | refine T_ret ?_ | refine T_skip ?_
      refine T_rseq fun Kr hKr => ?_
      simp (disch := omega) only [RF, RO, RC, ↓reduceIte, Nat.reduceEqDiff, Nat.reduceBEq, Nat.reduceSub, Nat.reduceAdd, Nat.reduceMul, Nat.reduceLT, Nat.reduceLeDiff, Int.reduceLE, Int.reduceLT, Int.reduceEq, Int.reduceNeg, Int.reduceToNat, Int.reduceMul, Int.reduceAdd, Int.reduceSub, Int.reduceBEq, Int.reduceBNe, reduceCtorEq, RD]
      refine hKr _ _ ?_
      clear hKr Kr
      try simp only [RN, if_true, if_false, Bool.false_eq_true, if_pos, reduceIte]
      try first | refine T_exit ?_ | refine T_ret ?_ | refine T_skip ?_
      refine T_wloop (fun j f H' => ∃ i b w, i ≤ k ∧ j = k - i ∧ b = mapB cl nu t s i ∧ w = mapB cl nu c s i ∧ f 1 = P 0 0 ∧ f 2 = P 1 0 ∧ f 4 = P 2 0 ∧ f 6 = P 3 0 ∧ f 9 = P 4 0 ∧ f 10 = I i ∧ H' = [some (FC k c t s), some (DC 0 z16 z16), some (cl.map N64), some (nu.map N8), some (DC o b w)]) (k) ?_ ?_
      · refine ⟨_, _, Gh.refl, 0, z16, z16, by omega, by omega, rfl, rfl, ?_, ?_, ?_, ?_, ?_, ?_, rfl⟩
        any_goals (simp (disch := omega) only [RF, RO, RC, ↓reduceIte, Nat.reduceEqDiff, Nat.reduceBEq, Nat.reduceSub, Nat.reduceAdd, Nat.reduceMul, Nat.reduceLT, Nat.reduceLeDiff, Int.reduceLE, Int.reduceLT, Int.reduceEq, Int.reduceNeg, Int.reduceToNat, Int.reduceMul, Int.reduceAdd, Int.reduceSub, Int.reduceBEq, Int.reduceBNe, reduceCtorEq, RD, ren_PL, ren_AB, ren_AI, *] <;> rfl)
      · clear g1 g2 g4 g6 g7 g8
        rintro j f H' R2 ⟨i, b, w, hi, rfl, hb, hw, g1, g2, g4, g6, g9, g10, rfl⟩ hN2 hX2 hR2 hE2
        simp only [A_spec_MapOfFlags.l1, T_aiff]
        have hbl : b.length = 16 := by rw [hb]; exact mapB_len
        have hwl : w.length = 16 := by rw [hw]; exact mapB_len
        refine T_rseq fun Kr hKr => ?_
        simp (disch := omega) only [RF, RO, RC, ↓reduceIte, Nat.reduceEqDiff, Nat.reduceBEq, Nat.reduceSub, Nat.reduceAdd, Nat.reduceMul, Nat.reduceLT, Nat.reduceLeDiff, Int.reduceLE, Int.reduceLT, Int.reduceEq, Int.reduceNeg, Int.reduceToNat, Int.reduceMul, Int.reduceAdd, Int.reduceSub, Int.reduceBEq, Int.reduceBNe, reduceCtorEq, RD, g1, g10, RFS]
        refine hKr _ _ ?_
        clear hKr Kr
        try simp only [RN, if_true, if_false, Bool.false_eq_true, if_pos, reduceIte]
        try first | refine T_exit ?_ | refine T_ret ?_ | refine T_skip ?_
        refine T_csplit (p := i < k) (by simp only [RF, RO, RC, ↓reduceIte, Nat.reduceEqDiff, Nat.reduceBEq, Nat.reduceSub, Nat.reduceAdd, Nat.reduceMul, Nat.reduceLT, Nat.reduceLeDiff, Int.reduceLE, Int.reduceLT, Int.reduceEq, Int.reduceNeg, Int.reduceToNat, Int.reduceMul, Int.reduceAdd, Int.reduceSub, Int.reduceBEq, Int.reduceBNe, reduceCtorEq] <;> rfl) (by (try simp only [decide_eq_true_eq, Bool.or_eq_true, Bool.and_eq_true, Bool.not_eq_true', decide_eq_false_iff_not, Bool.not_eq_eq_eq_not, Bool.not_true, Bool.not_false, beq_iff_eq, Bool.false_eq_true]) <;> (first | done | exact Iff.rfl | omega | simp)) (fun hc => ?_) (fun hc => ?_) <;> (try simp only [RN, if_true, if_false, Bool.false_eq_true, if_pos, reduceIte]) <;> (try first | refine T_exit ?_ | refine T_ret ?_ | refine T_skip ?_)
        · have hnext : ∀ f' b2 w2, f' 1 = P 0 0 → f' 2 = P 1 0 → f' 4 = P 2 0 → f' 6 = P 3 0 → f' 9 = P 4 0 → f' 10 = I i → b2 = mapB cl nu t s (i + 1) → w2 = mapB cl nu c s (i + 1) → T 0 A_spec_MapOfFlags.r16 R2 f' [some (FC k c t s), some (DC 0 z16 z16), some (cl.map N64), some (nu.map N8), some (DC o b2 w2)] := by
            intro f' b2 w2 g1 g2 g4 g6 g9 g10 hb2 hw2
            refine T_reg_k fun Kr hKr => ?_
            simp (disch := omega) only [RF, RO, RC, ↓reduceIte, Nat.reduceEqDiff, Nat.reduceBEq, Nat.reduceSub, Nat.reduceAdd, Nat.reduceMul, Nat.reduceLT, Nat.reduceLeDiff, Int.reduceLE, Int.reduceLT, Int.reduceEq, Int.reduceNeg, Int.reduceToNat, Int.reduceMul, Int.reduceAdd, Int.reduceSub, Int.reduceBEq, Int.reduceBNe, reduceCtorEq, RD, g10]
            refine hKr _ _ ?_
            clear hKr Kr
            refine hN2 (k - (i + 1)) _ _ _ _ (by omega) Gh.refl ⟨i + 1, b2, w2, by omega, rfl, hb2, hw2, ?_, ?_, ?_, ?_, ?_, ?_, rfl⟩
            any_goals (simp (disch := omega) only [RF, RO, RC, ↓reduceIte, Nat.reduceEqDiff, Nat.reduceBEq, Nat.reduceSub, Nat.reduceAdd, Nat.reduceMul, Nat.reduceLT, Nat.reduceLeDiff, Int.reduceLE, Int.reduceLT, Int.reduceEq, Int.reduceNeg, Int.reduceToNat, Int.reduceMul, Int.reduceAdd, Int.reduceSub, Int.reduceBEq, Int.reduceBNe, reduceCtorEq, RD, ren_PL, ren_AB, ren_AI, *] <;> rfl)
          first | refine T_bfree rfl ?_ | refine T_bfree' rfl ?_
          try simp only [RN, if_true, if_false, Bool.false_eq_true, if_pos, reduceIte]
          try first | refine T_exit ?_ | refine T_ret ?_ | refine T_skip ?_
          refine T_rseq fun Kr hKr => ?_
          simp (disch := omega) only [RF, RO, RC, ↓reduceIte, Nat.reduceEqDiff, Nat.reduceBEq, Nat.reduceSub, Nat.reduceAdd, Nat.reduceMul, Nat.reduceLT, Nat.reduceLeDiff, Int.reduceLE, Int.reduceLT, Int.reduceEq, Int.reduceNeg, Int.reduceToNat, Int.reduceMul, Int.reduceAdd, Int.reduceSub, Int.reduceBEq, Int.reduceBNe, reduceCtorEq, RD, g4, g10, getN_64, hlr]
          refine hKr _ _ ?_
          clear hKr Kr
          try simp only [RN, if_true, if_false, Bool.false_eq_true, if_pos, reduceIte]
          try first | refine T_exit ?_ | refine T_ret ?_ | refine T_skip ?_
          refine T_csplit (p := nl cl i = 1) (by simp only [RF, RO, RC, ↓reduceIte, Nat.reduceEqDiff, Nat.reduceBEq, Nat.reduceSub, Nat.reduceAdd, Nat.reduceMul, Nat.reduceLT, Nat.reduceLeDiff, Int.reduceLE, Int.reduceLT, Int.reduceEq, Int.reduceNeg, Int.reduceToNat, Int.reduceMul, Int.reduceAdd, Int.reduceSub, Int.reduceBEq, Int.reduceBNe, reduceCtorEq] <;> rfl) (by (try simp only [decide_eq_true_eq, Bool.or_eq_true, Bool.and_eq_true, Bool.not_eq_true', decide_eq_false_iff_not, Bool.not_eq_eq_eq_not, Bool.not_true, Bool.not_false, beq_iff_eq, Bool.false_eq_true]) <;> (first | done | exact Iff.rfl | omega | simp)) (fun hc => ?_) (fun hc => ?_) <;> (try simp only [RN, if_true, if_false, Bool.false_eq_true, if_pos, reduceIte]) <;> (try first | refine T_exit ?_ | refine T_ret ?_ | refine T_skip ?_)
          · have h1 := hnu i (by assumption) hc
            have h2 := hs32 i
            have h3 := ht32 (nl s i)
            have h4 := hc32 (nl s i)
            have hbs : (b.set (nl nu i) (nl nu (nl t (nl s i)))).length = 16 := by simp [hbl]
            refine T_rseq fun Kr hKr => ?_
            simp (disch := omega) only [RF, RO, RC, ↓reduceIte, Nat.reduceEqDiff, Nat.reduceBEq, Nat.reduceSub, Nat.reduceAdd, Nat.reduceMul, Nat.reduceLT, Nat.reduceLeDiff, Int.reduceLE, Int.reduceLT, Int.reduceEq, Int.reduceNeg, Int.reduceToNat, Int.reduceMul, Int.reduceAdd, Int.reduceSub, Int.reduceBEq, Int.reduceBNe, reduceCtorEq, RD, g1, g6, g9, g10, hln, RFS, RFD, RDS, RDD]
            refine hKr _ _ ?_
            clear hKr Kr
            try simp only [RN, if_true, if_false, Bool.false_eq_true, if_pos, reduceIte]
            try first | refine T_exit ?_ | refine T_ret ?_ | refine T_skip ?_
            refine T_rseq fun Kr hKr => ?_
            simp (disch := omega) only [RF, RO, RC, ↓reduceIte, Nat.reduceEqDiff, Nat.reduceBEq, Nat.reduceSub, Nat.reduceAdd, Nat.reduceMul, Nat.reduceLT, Nat.reduceLeDiff, Int.reduceLE, Int.reduceLT, Int.reduceEq, Int.reduceNeg, Int.reduceToNat, Int.reduceMul, Int.reduceAdd, Int.reduceSub, Int.reduceBEq, Int.reduceBNe, reduceCtorEq, RD, g1, g6, g9, g10, hln, RFS, RFD, RDS, RDD]
            refine hKr _ _ ?_
            clear hKr Kr
            try simp only [RN, if_true, if_false, Bool.false_eq_true, if_pos, reduceIte]
            try first | refine T_exit ?_ | refine T_ret ?_ | refine T_skip ?_
            refine hnext _ (b.set (nl nu i) (nl nu (nl t (nl s i)))) (w.set (nl nu i) (nl nu (nl c (nl s i)))) ?_ ?_ ?_ ?_ ?_ ?_ ?_ ?_
            any_goals (simp (disch := omega) only [RF, RO, RC, ↓reduceIte, Nat.reduceEqDiff, Nat.reduceBEq, Nat.reduceSub, Nat.reduceAdd, Nat.reduceMul, Nat.reduceLT, Nat.reduceLeDiff, Int.reduceLE, Int.reduceLT, Int.reduceEq, Int.reduceNeg, Int.reduceToNat, Int.reduceMul, Int.reduceAdd, Int.reduceSub, Int.reduceBEq, Int.reduceBNe, reduceCtorEq, RD, ren_PL, ren_AB, ren_AI, *] <;> rfl)
            · rw [mapB, if_pos hc, hb]
            · rw [mapB, if_pos hc, hw]
          · try simp only [RN, if_true, if_false, Bool.false_eq_true, if_pos, reduceIte]
            try first | refine T_exit ?_ | refine T_ret ?_ | refine T_skip ?_
            refine hnext _ b w ?_ ?_ ?_ ?_ ?_ ?_ ?_ ?_
            any_goals (simp (disch := omega) only [RF, RO, RC, ↓reduceIte, Nat.reduceEqDiff, Nat.reduceBEq, Nat.reduceSub, Nat.reduceAdd, Nat.reduceMul, Nat.reduceLT, Nat.reduceLeDiff, Int.reduceLE, Int.reduceLT, Int.reduceEq, Int.reduceNeg, Int.reduceToNat, Int.reduceMul, Int.reduceAdd, Int.reduceSub, Int.reduceBEq, Int.reduceBNe, reduceCtorEq, RD, ren_PL, ren_AB, ren_AI, *] <;> rfl)
            · rw [mapB, if_neg hc, hb]
            · rw [mapB, if_neg hc, hw]
        · refine hX2 _ _ ?_
          obtain rfl : i = k := by omega
          refine T_rseq fun Kr hKr => ?_
          simp (disch := omega) only [RF, RO, RC, ↓reduceIte, Nat.reduceEqDiff, Nat.reduceBEq, Nat.reduceSub, Nat.reduceAdd, Nat.reduceMul, Nat.reduceLT, Nat.reduceLeDiff, Int.reduceLE, Int.reduceLT, Int.reduceEq, Int.reduceNeg, Int.reduceToNat, Int.reduceMul, Int.reduceAdd, Int.reduceSub, Int.reduceBEq, Int.reduceBNe, reduceCtorEq, RD, g2, g9, RDS, RDD]
          refine hKr _ _ ?_
          clear hKr Kr
          try simp only [RN, if_true, if_false, Bool.false_eq_true, if_pos, reduceIte]
          try first | refine T_exit ?_ | refine T_ret ?_ | refine T_skip ?_
          refine bodyQ_ret (by simp (disch := omega) only [RF, RO, RC, ↓reduceIte, Nat.reduceEqDiff, Nat.reduceBEq, Nat.reduceSub, Nat.reduceAdd, Nat.reduceMul, Nat.reduceLT, Nat.reduceLeDiff, Int.reduceLE, Int.reduceLT, Int.reduceEq, Int.reduceNeg, Int.reduceToNat, Int.reduceMul, Int.reduceAdd, Int.reduceSub, Int.reduceBEq, Int.reduceBNe, reduceCtorEq, RD, resAll, resOf, g2, RDS, RDD]; rfl) GhV.refl ?_
          simp only [tup]
          rw [← hb, ← hw] at hK
          exact ⟨nn_DI, hK⟩
theorem impl_MapOfFlags_spec {x : Bool} {n : Int} {c t s : List Nat} {H : BH} {K : Value → BH → Prop} (hcc : By 32 c) (ht : By 32 t) (hs : By 32 s)
    (hK : K (.tuple ⟨[DV (resMap n c t s).1.1 (resMap n c t s).1.2.1 (resMap n c t s).1.2.2, I (resMap n c t s).2]⟩) H) : CallX x F_impl_MapOfFlags [FV n c t s] H K := by
  have hlc := hcc.len
  have hlt := ht.len
  have hls := hs.len
  have hz := z16_len
  refine callP (by exact .cons nn_F .nil) ?_
  refine CallX_body Γ_impl_MapOfFlags ?_
  simp only [A_impl_MapOfFlags, T_aiff]
  refine T_rseq fun Kr hKr => ?_
  simp (disch := omega) only [RF, RO, RC, ↓reduceIte, Nat.reduceEqDiff, Nat.reduceBEq, Nat.reduceSub, Nat.reduceAdd, Nat.reduceMul, Nat.reduceLT, Nat.reduceLeDiff, Int.reduceLE, Int.reduceLT, Int.reduceEq, Int.reduceNeg, Int.reduceToNat, Int.reduceMul, Int.reduceAdd, Int.reduceSub, Int.reduceBEq, Int.reduceBNe, reduceCtorEq, RD, RFS, RDS]
  refine hKr _ _ ?_
  clear hKr Kr
  try simp only [RN, if_true, if_false, Bool.false_eq_true, if_pos, reduceIte]
  try first | refine T_exit ?_ | refine T_ret ?_ | refine T_skip ?_
  refine T_rseq fun Kr hKr => ?_
  simp (disch := omega) only [RF, RO, RC, ↓reduceIte, Nat.reduceEqDiff, Nat.reduceBEq, Nat.reduceSub, Nat.reduceAdd, Nat.reduceMul, Nat.reduceLT, Nat.reduceLeDiff, Int.reduceLE, Int.reduceLT, Int.reduceEq, Int.reduceNeg, Int.reduceToNat, Int.reduceMul, Int.reduceAdd, Int.reduceSub, Int.reduceBEq, Int.reduceBNe, reduceCtorEq, RD, RFS, RFD]
  refine impl_AreFlags_spec hcc ht hs ?_
  simp (disch := omega) only [RF, RO, RC, ↓reduceIte, Nat.reduceEqDiff, Nat.reduceBEq, Nat.reduceSub, Nat.reduceAdd, Nat.reduceMul, Nat.reduceLT, Nat.reduceLeDiff, Int.reduceLE, Int.reduceLT, Int.reduceEq, Int.reduceNeg, Int.reduceToNat, Int.reduceMul, Int.reduceAdd, Int.reduceSub, Int.reduceBEq, Int.reduceBNe, reduceCtorEq, RD]
  refine hKr _ _ ?_
  clear hKr Kr
  try simp only [blkQ, thenQ, loopQ]
  try simp only [RN, if_true, if_false, Bool.false_eq_true, if_pos, reduceIte]
  try first | refine T_exit ?_ | refine T_ret ?_ | refine T_skip ?_
  refine T_csplit (p := ¬ Fl n c t s) (by simp only [RF, RO, RC, ↓reduceIte, Nat.reduceEqDiff, Nat.reduceBEq, Nat.reduceSub, Nat.reduceAdd, Nat.reduceMul, Nat.reduceLT, Nat.reduceLeDiff, Int.reduceLE, Int.reduceLT, Int.reduceEq, Int.reduceNeg, Int.reduceToNat, Int.reduceMul, Int.reduceAdd, Int.reduceSub, Int.reduceBEq, Int.reduceBNe, reduceCtorEq] <;> rfl) (by (try simp only [decide_eq_true_eq, Bool.or_eq_true, Bool.and_eq_true, Bool.not_eq_true', decide_eq_false_iff_not, Bool.not_eq_eq_eq_not, Bool.not_true, Bool.not_false, beq_iff_eq, Bool.false_eq_true]) <;> (first | done | exact Iff.rfl | omega | simp)) (fun hc => ?_) (fun hc => ?_) <;> (try simp only [RN, if_true, if_false, Bool.false_eq_true, if_pos, reduceIte]) <;> (try first | refine T_exit ?_ | refine T_ret ?_ | refine T_skip ?_)
  · refine T_rseq fun Kr hKr => ?_
    simp (disch := omega) only [RF, RO, RC, ↓reduceIte, Nat.reduceEqDiff, Nat.reduceBEq, Nat.reduceSub, Nat.reduceAdd, Nat.reduceMul, Nat.reduceLT, Nat.reduceLeDiff, Int.reduceLE, Int.reduceLT, Int.reduceEq, Int.reduceNeg, Int.reduceToNat, Int.reduceMul, Int.reduceAdd, Int.reduceSub, Int.reduceBEq, Int.reduceBNe, reduceCtorEq, RD, RDS, RDD]
    refine hKr _ _ ?_
    clear hKr Kr
    try simp only [RN, if_true, if_false, Bool.false_eq_true, if_pos, reduceIte]
    try first | refine T_exit ?_ | refine T_ret ?_ | refine T_skip ?_
    refine bodyQ_ret (by simp (disch := omega) only [RF, RO, RC, ↓reduceIte, Nat.reduceEqDiff, Nat.reduceBEq, Nat.reduceSub, Nat.reduceAdd, Nat.reduceMul, Nat.reduceLT, Nat.reduceLeDiff, Int.reduceLE, Int.reduceLT, Int.reduceEq, Int.reduceNeg, Int.reduceToNat, Int.reduceMul, Int.reduceAdd, Int.reduceSub, Int.reduceBEq, Int.reduceBNe, reduceCtorEq, RD, resAll, resOf, RDS, RDD]; rfl) GhV.refl ?_
    simp only [tup]
    rw [resMap, if_pos hc] at hK
    exact ⟨nn_DI, hK⟩
  have hd := Decidable.not_not.1 hc
  clear hc
  have hl32 := hd.all32 hcc ht hs
  have hc32 := hl32 c (by simp)
  have ht32 := hl32 t (by simp)
  have hs32 := hl32 s (by simp)
  obtain ⟨m, rfl, hm1, hm2⟩ := hd.n1
  have hlr := clsR_len hl32
  have h16 := hd.ones hcc ht hs
  rw [resMap, if_neg (by simpa using hd)] at hK
  refine T_rseq fun Kr hKr => ?_
  simp (disch := omega) only [RF, RO, RC, ↓reduceIte, Nat.reduceEqDiff, Nat.reduceBEq, Nat.reduceSub, Nat.reduceAdd, Nat.reduceMul, Nat.reduceLT, Nat.reduceLeDiff, Int.reduceLE, Int.reduceLT, Int.reduceEq, Int.reduceNeg, Int.reduceToNat, Int.reduceMul, Int.reduceAdd, Int.reduceSub, Int.reduceBEq, Int.reduceBNe, reduceCtorEq, RD, RFS, RFD]
  refine classesOf_spec hcc ht hs hl32 ?_
  generalize clsR c t s = r at hlr hK h16
  obtain ⟨cl, qu, ok⟩ := r
  simp only at hlr hK h16
  simp only [Int.toNat_natCast] at hK
  simp (disch := omega) only [RF, RO, RC, ↓reduceIte, Nat.reduceEqDiff, Nat.reduceBEq, Nat.reduceSub, Nat.reduceAdd, Nat.reduceMul, Nat.reduceLT, Nat.reduceLeDiff, Int.reduceLE, Int.reduceLT, Int.reduceEq, Int.reduceNeg, Int.reduceToNat, Int.reduceMul, Int.reduceAdd, Int.reduceSub, Int.reduceBEq, Int.reduceBNe, reduceCtorEq, RD]
  refine hKr _ _ ?_
  clear hKr Kr
  try simp only [blkQ, thenQ, loopQ]
  try simp only [RN, if_true, if_false, Bool.false_eq_true, if_pos, reduceIte]
  try first | refine T_exit ?_ | refine T_ret ?_ | refine T_skip ?_
  refine T_rseq fun Kr hKr => ?_
  simp (disch := omega) only [RF, RO, RC, ↓reduceIte, Nat.reduceEqDiff, Nat.reduceBEq, Nat.reduceSub, Nat.reduceAdd, Nat.reduceMul, Nat.reduceLT, Nat.reduceLeDiff, Int.reduceLE, Int.reduceLT, Int.reduceEq, Int.reduceNeg, Int.reduceToNat, Int.reduceMul, Int.reduceAdd, Int.reduceSub, Int.reduceBEq, Int.reduceBNe, reduceCtorEq, RD]
  refine hKr _ _ ?_
  clear hKr Kr
  try simp only [RN, if_true, if_false, Bool.false_eq_true, if_pos, reduceIte]
  try first | refine T_exit ?_ | refine T_ret ?_ | refine T_skip ?_
  refine T_csplit (p := ¬ ok = true) (by simp only [RF, RO, RC, ↓reduceIte, Nat.reduceEqDiff, Nat.reduceBEq, Nat.reduceSub, Nat.reduceAdd, Nat.reduceMul, Nat.reduceLT, Nat.reduceLeDiff, Int.reduceLE, Int.reduceLT, Int.reduceEq, Int.reduceNeg, Int.reduceToNat, Int.reduceMul, Int.reduceAdd, Int.reduceSub, Int.reduceBEq, Int.reduceBNe, reduceCtorEq] <;> rfl) (by (try simp only [decide_eq_true_eq, Bool.or_eq_true, Bool.and_eq_true, Bool.not_eq_true', decide_eq_false_iff_not, Bool.not_eq_eq_eq_not, Bool.not_true, Bool.not_false, beq_iff_eq, Bool.false_eq_true]) <;> (first | done | exact Iff.rfl | omega | simp)) (fun hc => ?_) (fun hc => ?_) <;> (try simp only [RN, if_true, if_false, Bool.false_eq_true, if_pos, reduceIte]) <;> (try first | refine T_exit ?_ | refine T_ret ?_ | refine T_skip ?_)
  · refine T_rseq fun Kr hKr => ?_
    simp (disch := omega) only [RF, RO, RC, ↓reduceIte, Nat.reduceEqDiff, Nat.reduceBEq, Nat.reduceSub, Nat.reduceAdd, Nat.reduceMul, Nat.reduceLT, Nat.reduceLeDiff, Int.reduceLE, Int.reduceLT, Int.reduceEq, Int.reduceNeg, Int.reduceToNat, Int.reduceMul, Int.reduceAdd, Int.reduceSub, Int.reduceBEq, Int.reduceBNe, reduceCtorEq, RD, RDS, RDD]
    refine hKr _ _ ?_
    clear hKr Kr
    try simp only [RN, if_true, if_false, Bool.false_eq_true, if_pos, reduceIte]
    try first | refine T_exit ?_ | refine T_ret ?_ | refine T_skip ?_
    refine bodyQ_ret (by simp (disch := omega) only [RF, RO, RC, ↓reduceIte, Nat.reduceEqDiff, Nat.reduceBEq, Nat.reduceSub, Nat.reduceAdd, Nat.reduceMul, Nat.reduceLT, Nat.reduceLeDiff, Int.reduceLE, Int.reduceLT, Int.reduceEq, Int.reduceNeg, Int.reduceToNat, Int.reduceMul, Int.reduceAdd, Int.reduceSub, Int.reduceBEq, Int.reduceBNe, reduceCtorEq, RD, resAll, resOf, RDS, RDD]; rfl) GhV.refl ?_
    simp only [tup]
    rw [if_pos hc] at hK
    exact ⟨nn_DI, hK⟩
  rw [if_neg hc] at hK
  replace h16 := h16 (by simpa using hc)
  clear hc
  refine T_rseq fun Kr hKr => ?_
  simp (disch := omega) only [RF, RO, RC, ↓reduceIte, Nat.reduceEqDiff, Nat.reduceBEq, Nat.reduceSub, Nat.reduceAdd, Nat.reduceMul, Nat.reduceLT, Nat.reduceLeDiff, Int.reduceLE, Int.reduceLT, Int.reduceEq, Int.reduceNeg, Int.reduceToNat, Int.reduceMul, Int.reduceAdd, Int.reduceSub, Int.reduceBEq, Int.reduceBNe, reduceCtorEq, RD, RDS, RDD]
  refine hKr _ _ ?_
  clear hKr Kr
  try simp only [RN, if_true, if_false, Bool.false_eq_true, if_pos, reduceIte]
  try first | refine T_exit ?_ | refine T_ret ?_ | refine T_skip ?_
  refine T_rseq fun Kr hKr => ?_
  simp (disch := omega) only [RF, RO, RC, ↓reduceIte, Nat.reduceEqDiff, Nat.reduceBEq, Nat.reduceSub, Nat.reduceAdd, Nat.reduceMul, Nat.reduceLT, Nat.reduceLeDiff, Int.reduceLE, Int.reduceLT, Int.reduceEq, Int.reduceNeg, Int.reduceToNat, Int.reduceMul, Int.reduceAdd, Int.reduceSub, Int.reduceBEq, Int.reduceBNe, reduceCtorEq, RD, RFS, RFD]
  refine hKr _ _ ?_
  clear hKr Kr
  try simp only [RN, if_true, if_false, Bool.false_eq_true, if_pos, reduceIte]
  try first | refine T_exit ?_ | refine T_ret ?_ | refine T_skip ?_
  refine T_wloop (fun j f H' => ∃ k, k ≤ m ∧ j = m - k ∧ f 1 = P 0 0 ∧ f 2 = P 1 0 ∧ f 4 = P 2 0 ∧ f 6 = P 3 0 ∧ f 7 = P 4 0 ∧ f 25 = I m ∧ f 26 = I k ∧ H' = [some (FC m c t s), some (DC 0 z16 z16), some (cl.map N8), some ((numK cl k).map N8), some (DC (ones cl k) z16 z16)]) (m) ?_ ?_
  · refine ⟨_, _, Gh.refl, 0, by omega, by omega, ?_, ?_, ?_, ?_, ?_, ?_, ?_, by simp [RF, RO, RC, ↓reduceIte, Nat.reduceEqDiff, Nat.reduceBEq, Nat.reduceSub, Nat.reduceAdd, Nat.reduceMul, Nat.reduceLT, Nat.reduceLeDiff, Int.reduceLE, Int.reduceLT, Int.reduceEq, Int.reduceNeg, Int.reduceToNat, Int.reduceMul, Int.reduceAdd, Int.reduceSub, Int.reduceBEq, Int.reduceBNe, reduceCtorEq, numK, ones]⟩
    any_goals (simp (disch := omega) only [RF, RO, RC, ↓reduceIte, Nat.reduceEqDiff, Nat.reduceBEq, Nat.reduceSub, Nat.reduceAdd, Nat.reduceMul, Nat.reduceLT, Nat.reduceLeDiff, Int.reduceLE, Int.reduceLT, Int.reduceEq, Int.reduceNeg, Int.reduceToNat, Int.reduceMul, Int.reduceAdd, Int.reduceSub, Int.reduceBEq, Int.reduceBNe, reduceCtorEq, RD, ren_PL, ren_AB, ren_AI, *] <;> rfl)
  · rintro j f H' R ⟨k, hk, rfl, g1, g2, g4, g6, g7, g25, g26, rfl⟩ hN hX hR hE
    simp only [A_impl_MapOfFlags.l0, T_aiff]
    have hln := @numK_len cl k
    have ho := @ones_le cl k
    refine T_rseq fun Kr hKr => ?_
    simp (disch := omega) only [RF, RO, RC, ↓reduceIte, Nat.reduceEqDiff, Nat.reduceBEq, Nat.reduceSub, Nat.reduceAdd, Nat.reduceMul, Nat.reduceLT, Nat.reduceLeDiff, Int.reduceLE, Int.reduceLT, Int.reduceEq, Int.reduceNeg, Int.reduceToNat, Int.reduceMul, Int.reduceAdd, Int.reduceSub, Int.reduceBEq, Int.reduceBNe, reduceCtorEq, RD, g25, g26]
    refine hKr _ _ ?_
    clear hKr Kr
    try simp only [RN, if_true, if_false, Bool.false_eq_true, if_pos, reduceIte]
    try first | refine T_exit ?_ | refine T_ret ?_ | refine T_skip ?_
    refine T_csplit (p := k < m) (by simp only [RF, RO, RC, ↓reduceIte, Nat.reduceEqDiff, Nat.reduceBEq, Nat.reduceSub, Nat.reduceAdd, Nat.reduceMul, Nat.reduceLT, Nat.reduceLeDiff, Int.reduceLE, Int.reduceLT, Int.reduceEq, Int.reduceNeg, Int.reduceToNat, Int.reduceMul, Int.reduceAdd, Int.reduceSub, Int.reduceBEq, Int.reduceBNe, reduceCtorEq] <;> rfl) (by (try simp only [decide_eq_true_eq, Bool.or_eq_true, Bool.and_eq_true, Bool.not_eq_true', decide_eq_false_iff_not, Bool.not_eq_eq_eq_not, Bool.not_true, Bool.not_false, beq_iff_eq, Bool.false_eq_true]) <;> (first | done | exact Iff.rfl | omega | simp)) (fun hc => ?_) (fun hc => ?_) <;> (try simp only [RN, if_true, if_false, Bool.false_eq_true, if_pos, reduceIte]) <;> (try first | refine T_exit ?_ | refine T_ret ?_ | refine T_skip ?_)
    · have hos := @ones_succ cl k
      have hnext : ∀ f' nu o, f' 1 = P 0 0 → f' 2 = P 1 0 → f' 4 = P 2 0 → f' 6 = P 3 0 → f' 7 = P 4 0 → f' 25 = I m → f' 26 = I k → nu = numK cl (k + 1) → o = ones cl (k + 1) → T 0 A_impl_MapOfFlags.r13 R f' [some (FC m c t s), some (DC 0 z16 z16), some (cl.map N8), some (nu.map N8), some (DC (o : Nat) z16 z16)] := by
        intro f' nu o g1 g2 g4 g6 g7 g25 g26 hnu hoo
        refine T_reg_k fun Kr hKr => ?_
        simp (disch := omega) only [RF, RO, RC, ↓reduceIte, Nat.reduceEqDiff, Nat.reduceBEq, Nat.reduceSub, Nat.reduceAdd, Nat.reduceMul, Nat.reduceLT, Nat.reduceLeDiff, Int.reduceLE, Int.reduceLT, Int.reduceEq, Int.reduceNeg, Int.reduceToNat, Int.reduceMul, Int.reduceAdd, Int.reduceSub, Int.reduceBEq, Int.reduceBNe, reduceCtorEq, RD, g26]
        refine hKr _ _ ?_
        clear hKr Kr
        refine hN (m - (k + 1)) _ _ _ _ (by omega) Gh.refl ⟨k + 1, by omega, rfl, ?_, ?_, ?_, ?_, ?_, ?_, ?_, by rw [hnu, hoo]⟩
        any_goals (simp (disch := omega) only [RF, RO, RC, ↓reduceIte, Nat.reduceEqDiff, Nat.reduceBEq, Nat.reduceSub, Nat.reduceAdd, Nat.reduceMul, Nat.reduceLT, Nat.reduceLeDiff, Int.reduceLE, Int.reduceLT, Int.reduceEq, Int.reduceNeg, Int.reduceToNat, Int.reduceMul, Int.reduceAdd, Int.reduceSub, Int.reduceBEq, Int.reduceBNe, reduceCtorEq, RD, ren_PL, ren_AB, ren_AI, *] <;> rfl)
      first | refine T_bfree rfl ?_ | refine T_bfree' rfl ?_
      try simp only [RN, if_true, if_false, Bool.false_eq_true, if_pos, reduceIte]
      try first | refine T_exit ?_ | refine T_ret ?_ | refine T_skip ?_
      refine T_rseq fun Kr hKr => ?_
      simp (disch := omega) only [RF, RO, RC, ↓reduceIte, Nat.reduceEqDiff, Nat.reduceBEq, Nat.reduceSub, Nat.reduceAdd, Nat.reduceMul, Nat.reduceLT, Nat.reduceLeDiff, Int.reduceLE, Int.reduceLT, Int.reduceEq, Int.reduceNeg, Int.reduceToNat, Int.reduceMul, Int.reduceAdd, Int.reduceSub, Int.reduceBEq, Int.reduceBNe, reduceCtorEq, RD, g26]
      refine hKr _ _ ?_
      clear hKr Kr
      try simp only [RN, if_true, if_false, Bool.false_eq_true, if_pos, reduceIte]
      try first | refine T_exit ?_ | refine T_ret ?_ | refine T_skip ?_
      refine T_rseq fun Kr hKr => ?_
      simp (disch := omega) only [RF, RO, RC, ↓reduceIte, Nat.reduceEqDiff, Nat.reduceBEq, Nat.reduceSub, Nat.reduceAdd, Nat.reduceMul, Nat.reduceLT, Nat.reduceLeDiff, Int.reduceLE, Int.reduceLT, Int.reduceEq, Int.reduceNeg, Int.reduceToNat, Int.reduceMul, Int.reduceAdd, Int.reduceSub, Int.reduceBEq, Int.reduceBNe, reduceCtorEq, RD, g4, hlr]
      refine hKr _ _ ?_
      clear hKr Kr
      try simp only [RN, if_true, if_false, Bool.false_eq_true, if_pos, reduceIte]
      try first | refine T_exit ?_ | refine T_ret ?_ | refine T_skip ?_
      refine T_csplit (p := nl cl k = 1) (by simp only [RF, RO, RC, ↓reduceIte, Nat.reduceEqDiff, Nat.reduceBEq, Nat.reduceSub, Nat.reduceAdd, Nat.reduceMul, Nat.reduceLT, Nat.reduceLeDiff, Int.reduceLE, Int.reduceLT, Int.reduceEq, Int.reduceNeg, Int.reduceToNat, Int.reduceMul, Int.reduceAdd, Int.reduceSub, Int.reduceBEq, Int.reduceBNe, reduceCtorEq] <;> rfl) (by (try simp only [decide_eq_true_eq, Bool.or_eq_true, Bool.and_eq_true, Bool.not_eq_true', decide_eq_false_iff_not, Bool.not_eq_eq_eq_not, Bool.not_true, Bool.not_false, beq_iff_eq, Bool.false_eq_true]) <;> (first | done | exact Iff.rfl | omega | simp)) (fun hc => ?_) (fun hc => ?_) <;> (try simp only [RN, if_true, if_false, Bool.false_eq_true, if_pos, reduceIte]) <;> (try first | refine T_exit ?_ | refine T_ret ?_ | refine T_skip ?_)
      · refine T_rseq fun Kr hKr => ?_
        simp (disch := omega) only [RF, RO, RC, ↓reduceIte, Nat.reduceEqDiff, Nat.reduceBEq, Nat.reduceSub, Nat.reduceAdd, Nat.reduceMul, Nat.reduceLT, Nat.reduceLeDiff, Int.reduceLE, Int.reduceLT, Int.reduceEq, Int.reduceNeg, Int.reduceToNat, Int.reduceMul, Int.reduceAdd, Int.reduceSub, Int.reduceBEq, Int.reduceBNe, reduceCtorEq, RD, g6, g7, hln, RDS]
        refine hKr _ _ ?_
        clear hKr Kr
        try simp only [RN, if_true, if_false, Bool.false_eq_true, if_pos, reduceIte]
        try first | refine T_exit ?_ | refine T_ret ?_ | refine T_skip ?_
        refine T_rseq fun Kr hKr => ?_
        simp (disch := omega) only [RF, RO, RC, ↓reduceIte, Nat.reduceEqDiff, Nat.reduceBEq, Nat.reduceSub, Nat.reduceAdd, Nat.reduceMul, Nat.reduceLT, Nat.reduceLeDiff, Int.reduceLE, Int.reduceLT, Int.reduceEq, Int.reduceNeg, Int.reduceToNat, Int.reduceMul, Int.reduceAdd, Int.reduceSub, Int.reduceBEq, Int.reduceBNe, reduceCtorEq, RD, g7, RDS]
        refine hKr _ _ ?_
        clear hKr Kr
        try simp only [RN, if_true, if_false, Bool.false_eq_true, if_pos, reduceIte]
        try first | refine T_exit ?_ | refine T_ret ?_ | refine T_skip ?_
        refine hnext _ ((numK cl k).set k (ones cl k)) (ones cl k + 1) ?_ ?_ ?_ ?_ ?_ ?_ ?_ (by rw [numK, if_pos hc]) (by rw [hos, if_pos hc])
        any_goals (simp (disch := omega) only [RF, RO, RC, ↓reduceIte, Nat.reduceEqDiff, Nat.reduceBEq, Nat.reduceSub, Nat.reduceAdd, Nat.reduceMul, Nat.reduceLT, Nat.reduceLeDiff, Int.reduceLE, Int.reduceLT, Int.reduceEq, Int.reduceNeg, Int.reduceToNat, Int.reduceMul, Int.reduceAdd, Int.reduceSub, Int.reduceBEq, Int.reduceBNe, reduceCtorEq, RD, ren_PL, ren_AB, ren_AI, *] <;> rfl)
      · try simp only [RN, if_true, if_false, Bool.false_eq_true, if_pos, reduceIte]
        try first | refine T_exit ?_ | refine T_ret ?_ | refine T_skip ?_
        refine hnext _ (numK cl k) (ones cl k) ?_ ?_ ?_ ?_ ?_ ?_ ?_ (by rw [numK, if_neg hc]) (by rw [hos, if_neg hc]; rfl)
        any_goals (simp (disch := omega) only [RF, RO, RC, ↓reduceIte, Nat.reduceEqDiff, Nat.reduceBEq, Nat.reduceSub, Nat.reduceAdd, Nat.reduceMul, Nat.reduceLT, Nat.reduceLeDiff, Int.reduceLE, Int.reduceLT, Int.reduceEq, Int.reduceNeg, Int.reduceToNat, Int.reduceMul, Int.reduceAdd, Int.reduceSub, Int.reduceBEq, Int.reduceBNe, reduceCtorEq, RD, ren_PL, ren_AB, ren_AI, *] <;> rfl)
    · refine hX _ _ ?_
      obtain rfl : k = m := by omega
      have hnu : ∀ i, i < k → nl cl i = 1 → nl (numK cl k) i < 16 := fun i hi h1 => by have := numK_at hi hm2 h1; omega
      have hnu2 : ∀ i, nl (numK cl k) i < 256 := fun i => by have := @numK_lt cl k i; omega
      generalize ones cl k = o at h16 hK
      generalize numK cl k = nu at hln hnu hnu2 hK
      clear hc ho
      try simp only [RN, if_true, if_false, Bool.false_eq_true, if_pos, reduceIte]
      try first | refine T_exit ?_ | refine T_ret ?_ | refine T_skip ?_
      refine T_rseq fun Kr hKr => ?_
      simp (disch := omega) only [RF, RO, RC, ↓reduceIte, Nat.reduceEqDiff, Nat.reduceBEq, Nat.reduceSub, Nat.reduceAdd, Nat.reduceMul, Nat.reduceLT, Nat.reduceLeDiff, Int.reduceLE, Int.reduceLT, Int.reduceEq, Int.reduceNeg, Int.reduceToNat, Int.reduceMul, Int.reduceAdd, Int.reduceSub, Int.reduceBEq, Int.reduceBNe, reduceCtorEq, RD, g1, RFS, RFD]
      refine hKr _ _ ?_
      clear hKr Kr
      try simp only [RN, if_true, if_false, Bool.false_eq_true, if_pos, reduceIte]
      try first | refine T_exit ?_ | refine T_ret ?_ | refine T_skip ?_
      refine T_wloop (fun j f H' => ∃ i b w, i ≤ k ∧ j = k - i ∧ b = mapB cl nu t s i ∧ w = mapB cl nu c s i ∧ f 1 = P 0 0 ∧ f 2 = P 1 0 ∧ f 4 = P 2 0 ∧ f 6 = P 3 0 ∧ f 7 = P 4 0 ∧ f 44 = I k ∧ f 45 = I i ∧ H' = [some (FC k c t s), some (DC 0 z16 z16), some (cl.map N8), some (nu.map N8), some (DC o b w)]) (k) ?_ ?_
      · refine ⟨_, _, Gh.refl, 0, z16, z16, by omega, by omega, rfl, rfl, ?_, ?_, ?_, ?_, ?_, ?_, ?_, rfl⟩
        any_goals (simp (disch := omega) only [RF, RO, RC, ↓reduceIte, Nat.reduceEqDiff, Nat.reduceBEq, Nat.reduceSub, Nat.reduceAdd, Nat.reduceMul, Nat.reduceLT, Nat.reduceLeDiff, Int.reduceLE, Int.reduceLT, Int.reduceEq, Int.reduceNeg, Int.reduceToNat, Int.reduceMul, Int.reduceAdd, Int.reduceSub, Int.reduceBEq, Int.reduceBNe, reduceCtorEq, RD, ren_PL, ren_AB, ren_AI, *] <;> rfl)
      · clear g1 g2 g4 g6 g7 g25 g26
        rintro j f H' R2 ⟨i, b, w, hi, rfl, hb, hw, g1, g2, g4, g6, g7, g44, g45, rfl⟩ hN2 hX2 hR2 hE2
        simp only [A_impl_MapOfFlags.l1, T_aiff]
        have hbl : b.length = 16 := by rw [hb]; exact mapB_len
        have hwl : w.length = 16 := by rw [hw]; exact mapB_len
        refine T_rseq fun Kr hKr => ?_
        simp (disch := omega) only [RF, RO, RC, ↓reduceIte, Nat.reduceEqDiff, Nat.reduceBEq, Nat.reduceSub, Nat.reduceAdd, Nat.reduceMul, Nat.reduceLT, Nat.reduceLeDiff, Int.reduceLE, Int.reduceLT, Int.reduceEq, Int.reduceNeg, Int.reduceToNat, Int.reduceMul, Int.reduceAdd, Int.reduceSub, Int.reduceBEq, Int.reduceBNe, reduceCtorEq, RD, g44, g45]
        refine hKr _ _ ?_
        clear hKr Kr
        try simp only [RN, if_true, if_false, Bool.false_eq_true, if_pos, reduceIte]
        try first | refine T_exit ?_ | refine T_ret ?_ | refine T_skip ?_
        refine T_csplit (p := i < k) (by simp only [RF, RO, RC, ↓reduceIte, Nat.reduceEqDiff, Nat.reduceBEq, Nat.reduceSub, Nat.reduceAdd, Nat.reduceMul, Nat.reduceLT, Nat.reduceLeDiff, Int.reduceLE, Int.reduceLT, Int.reduceEq, Int.reduceNeg, Int.reduceToNat, Int.reduceMul, Int.reduceAdd, Int.reduceSub, Int.reduceBEq, Int.reduceBNe, reduceCtorEq] <;> rfl) (by (try simp only [decide_eq_true_eq, Bool.or_eq_true, Bool.and_eq_true, Bool.not_eq_true', decide_eq_false_iff_not, Bool.not_eq_eq_eq_not, Bool.not_true, Bool.not_false, beq_iff_eq, Bool.false_eq_true]) <;> (first | done | exact Iff.rfl | omega | simp)) (fun hc => ?_) (fun hc => ?_) <;> (try simp only [RN, if_true, if_false, Bool.false_eq_true, if_pos, reduceIte]) <;> (try first | refine T_exit ?_ | refine T_ret ?_ | refine T_skip ?_)
        · have hnext : ∀ f' b2 w2, f' 1 = P 0 0 → f' 2 = P 1 0 → f' 4 = P 2 0 → f' 6 = P 3 0 → f' 7 = P 4 0 → f' 44 = I k → f' 45 = I i → b2 = mapB cl nu t s (i + 1) → w2 = mapB cl nu c s (i + 1) → T 0 A_impl_MapOfFlags.r20 R2 f' [some (FC k c t s), some (DC 0 z16 z16), some (cl.map N8), some (nu.map N8), some (DC o b2 w2)] := by
            intro f' b2 w2 g1 g2 g4 g6 g7 g44 g45 hb2 hw2
            refine T_reg_k fun Kr hKr => ?_
            simp (disch := omega) only [RF, RO, RC, ↓reduceIte, Nat.reduceEqDiff, Nat.reduceBEq, Nat.reduceSub, Nat.reduceAdd, Nat.reduceMul, Nat.reduceLT, Nat.reduceLeDiff, Int.reduceLE, Int.reduceLT, Int.reduceEq, Int.reduceNeg, Int.reduceToNat, Int.reduceMul, Int.reduceAdd, Int.reduceSub, Int.reduceBEq, Int.reduceBNe, reduceCtorEq, RD, g45]
            refine hKr _ _ ?_
            clear hKr Kr
            refine hN2 (k - (i + 1)) _ _ _ _ (by omega) Gh.refl ⟨i + 1, b2, w2, by omega, rfl, hb2, hw2, ?_, ?_, ?_, ?_, ?_, ?_, ?_, rfl⟩
            any_goals (simp (disch := omega) only [RF, RO, RC, ↓reduceIte, Nat.reduceEqDiff, Nat.reduceBEq, Nat.reduceSub, Nat.reduceAdd, Nat.reduceMul, Nat.reduceLT, Nat.reduceLeDiff, Int.reduceLE, Int.reduceLT, Int.reduceEq, Int.reduceNeg, Int.reduceToNat, Int.reduceMul, Int.reduceAdd, Int.reduceSub, Int.reduceBEq, Int.reduceBNe, reduceCtorEq, RD, ren_PL, ren_AB, ren_AI, *] <;> rfl)
          first | refine T_bfree rfl ?_ | refine T_bfree' rfl ?_
          try simp only [RN, if_true, if_false, Bool.false_eq_true, if_pos, reduceIte]
          try first | refine T_exit ?_ | refine T_ret ?_ | refine T_skip ?_
          refine T_rseq fun Kr hKr => ?_
          simp (disch := omega) only [RF, RO, RC, ↓reduceIte, Nat.reduceEqDiff, Nat.reduceBEq, Nat.reduceSub, Nat.reduceAdd, Nat.reduceMul, Nat.reduceLT, Nat.reduceLeDiff, Int.reduceLE, Int.reduceLT, Int.reduceEq, Int.reduceNeg, Int.reduceToNat, Int.reduceMul, Int.reduceAdd, Int.reduceSub, Int.reduceBEq, Int.reduceBNe, reduceCtorEq, RD, g45]
          refine hKr _ _ ?_
          clear hKr Kr
          try simp only [RN, if_true, if_false, Bool.false_eq_true, if_pos, reduceIte]
          try first | refine T_exit ?_ | refine T_ret ?_ | refine T_skip ?_
          refine T_rseq fun Kr hKr => ?_
          simp (disch := omega) only [RF, RO, RC, ↓reduceIte, Nat.reduceEqDiff, Nat.reduceBEq, Nat.reduceSub, Nat.reduceAdd, Nat.reduceMul, Nat.reduceLT, Nat.reduceLeDiff, Int.reduceLE, Int.reduceLT, Int.reduceEq, Int.reduceNeg, Int.reduceToNat, Int.reduceMul, Int.reduceAdd, Int.reduceSub, Int.reduceBEq, Int.reduceBNe, reduceCtorEq, RD, g4, hlr]
          refine hKr _ _ ?_
          clear hKr Kr
          try simp only [RN, if_true, if_false, Bool.false_eq_true, if_pos, reduceIte]
          try first | refine T_exit ?_ | refine T_ret ?_ | refine T_skip ?_
          refine T_csplit (p := nl cl i = 1) (by simp only [RF, RO, RC, ↓reduceIte, Nat.reduceEqDiff, Nat.reduceBEq, Nat.reduceSub, Nat.reduceAdd, Nat.reduceMul, Nat.reduceLT, Nat.reduceLeDiff, Int.reduceLE, Int.reduceLT, Int.reduceEq, Int.reduceNeg, Int.reduceToNat, Int.reduceMul, Int.reduceAdd, Int.reduceSub, Int.reduceBEq, Int.reduceBNe, reduceCtorEq] <;> rfl) (by (try simp only [decide_eq_true_eq, Bool.or_eq_true, Bool.and_eq_true, Bool.not_eq_true', decide_eq_false_iff_not, Bool.not_eq_eq_eq_not, Bool.not_true, Bool.not_false, beq_iff_eq, Bool.false_eq_true]) <;> (first | done | exact Iff.rfl | omega | simp)) (fun hc => ?_) (fun hc => ?_) <;> (try simp only [RN, if_true, if_false, Bool.false_eq_true, if_pos, reduceIte]) <;> (try first | refine T_exit ?_ | refine T_ret ?_ | refine T_skip ?_)
          · have h1 := hnu i (by assumption) hc
            have h2 := hs32 i
            have h3 := ht32 (nl s i)
            have h4 := hc32 (nl s i)
            have hbs : (b.set (nl nu i) (nl nu (nl t (nl s i)))).length = 16 := by simp [hbl]
            refine T_rseq fun Kr hKr => ?_
            simp (disch := omega) only [RF, RO, RC, ↓reduceIte, Nat.reduceEqDiff, Nat.reduceBEq, Nat.reduceSub, Nat.reduceAdd, Nat.reduceMul, Nat.reduceLT, Nat.reduceLeDiff, Int.reduceLE, Int.reduceLT, Int.reduceEq, Int.reduceNeg, Int.reduceToNat, Int.reduceMul, Int.reduceAdd, Int.reduceSub, Int.reduceBEq, Int.reduceBNe, reduceCtorEq, RD, g1, g6, g7, hln, RFS, RFD, RDS, RDD]
            refine hKr _ _ ?_
            clear hKr Kr
            try simp only [RN, if_true, if_false, Bool.false_eq_true, if_pos, reduceIte]
            try first | refine T_exit ?_ | refine T_ret ?_ | refine T_skip ?_
            refine T_rseq fun Kr hKr => ?_
            simp (disch := omega) only [RF, RO, RC, ↓reduceIte, Nat.reduceEqDiff, Nat.reduceBEq, Nat.reduceSub, Nat.reduceAdd, Nat.reduceMul, Nat.reduceLT, Nat.reduceLeDiff, Int.reduceLE, Int.reduceLT, Int.reduceEq, Int.reduceNeg, Int.reduceToNat, Int.reduceMul, Int.reduceAdd, Int.reduceSub, Int.reduceBEq, Int.reduceBNe, reduceCtorEq, RD, g1, g6, g7, hln, RFS, RFD, RDS, RDD]
            refine hKr _ _ ?_
            clear hKr Kr
            try simp only [RN, if_true, if_false, Bool.false_eq_true, if_pos, reduceIte]
            try first | refine T_exit ?_ | refine T_ret ?_ | refine T_skip ?_
            refine hnext _ (b.set (nl nu i) (nl nu (nl t (nl s i)))) (w.set (nl nu i) (nl nu (nl c (nl s i)))) ?_ ?_ ?_ ?_ ?_ ?_ ?_ ?_ ?_
            any_goals (simp (disch := omega) only [RF, RO, RC, ↓reduceIte, Nat.reduceEqDiff, Nat.reduceBEq, Nat.reduceSub, Nat.reduceAdd, Nat.reduceMul, Nat.reduceLT, Nat.reduceLeDiff, Int.reduceLE, Int.reduceLT, Int.reduceEq, Int.reduceNeg, Int.reduceToNat, Int.reduceMul, Int.reduceAdd, Int.reduceSub, Int.reduceBEq, Int.reduceBNe, reduceCtorEq, RD, ren_PL, ren_AB, ren_AI, *] <;> rfl)
            · rw [mapB, if_pos hc, hb]
            · rw [mapB, if_pos hc, hw]
          · try simp only [RN, if_true, if_false, Bool.false_eq_true, if_pos, reduceIte]
            try first | refine T_exit ?_ | refine T_ret ?_ | refine T_skip ?_
            refine hnext _ b w ?_ ?_ ?_ ?_ ?_ ?_ ?_ ?_ ?_
            any_goals (simp (disch := omega) only [RF, RO, RC, ↓reduceIte, Nat.reduceEqDiff, Nat.reduceBEq, Nat.reduceSub, Nat.reduceAdd, Nat.reduceMul, Nat.reduceLT, Nat.reduceLeDiff, Int.reduceLE, Int.reduceLT, Int.reduceEq, Int.reduceNeg, Int.reduceToNat, Int.reduceMul, Int.reduceAdd, Int.reduceSub, Int.reduceBEq, Int.reduceBNe, reduceCtorEq, RD, ren_PL, ren_AB, ren_AI, *] <;> rfl)
            · rw [mapB, if_neg hc, hb]
            · rw [mapB, if_neg hc, hw]
        · refine hX2 _ _ ?_
          obtain rfl : i = k := by omega
          refine T_rseq fun Kr hKr => ?_
          simp (disch := omega) only [RF, RO, RC, ↓reduceIte, Nat.reduceEqDiff, Nat.reduceBEq, Nat.reduceSub, Nat.reduceAdd, Nat.reduceMul, Nat.reduceLT, Nat.reduceLeDiff, Int.reduceLE, Int.reduceLT, Int.reduceEq, Int.reduceNeg, Int.reduceToNat, Int.reduceMul, Int.reduceAdd, Int.reduceSub, Int.reduceBEq, Int.reduceBNe, reduceCtorEq, RD, g2, g7, RDS, RDD]
          refine hKr _ _ ?_
          clear hKr Kr
          try simp only [RN, if_true, if_false, Bool.false_eq_true, if_pos, reduceIte]
          try first | refine T_exit ?_ | refine T_ret ?_ | refine T_skip ?_
          refine bodyQ_ret (by simp (disch := omega) only [RF, RO, RC, ↓reduceIte, Nat.reduceEqDiff, Nat.reduceBEq, Nat.reduceSub, Nat.reduceAdd, Nat.reduceMul, Nat.reduceLT, Nat.reduceLeDiff, Int.reduceLE, Int.reduceLT, Int.reduceEq, Int.reduceNeg, Int.reduceToNat, Int.reduceMul, Int.reduceAdd, Int.reduceSub, Int.reduceBEq, Int.reduceBNe, reduceCtorEq, RD, resAll, resOf, g2, RDS, RDD]; rfl) GhV.refl ?_
          simp only [tup]
          rw [← hb, ← hw] at hK
          exact ⟨nn_DI, hK⟩
end Go.Bm
