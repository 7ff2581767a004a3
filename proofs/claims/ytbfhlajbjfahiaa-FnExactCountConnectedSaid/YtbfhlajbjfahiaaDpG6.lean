/- DpKc, DpKd -/
import Derived.Test.YtbfhlajbjfahiaaDpG3
import Derived.Test.YtbfhlajbjfahiaaDpG5
/- The reference's search for pairs. -/
set_option linter.unusedVariables false
set_option linter.unusedSimpArgs false
set_option linter.unusedSectionVars false
namespace Go.Bm
open Go Go.Am

section
variable {H : BH} {K : Value → BH → Prop} {x : Bool}
theorem l04Same2_spec {xs ys : List Int} (hl : xs.length < 4611686018427387904) (hl' : ys.length < 4611686018427387904) (hK : K (.bool (decide (xs = ys))) H) : CallX x F_spec_l04Same2 [FI xs, FI ys] H K := by
  refine callP (.cons .fz (.cons .fz .nil)) ?_
  refine CallX_body Γ_spec_l04Same2 ?_
  simp only [A_spec_l04Same2, T_aiff]
  refine T_rseq fun Kr hKr => ?_
  simp (disch := omega) only [RA, ↓reduceIte, Nat.reduceEqDiff, Nat.reduceBEq, Nat.reduceSub, Nat.reduceAdd, Nat.reduceMul, Nat.reduceLT, Nat.reduceLeDiff, Int.reduceLE, Int.reduceLT, Int.reduceEq, Int.reduceNeg, Int.reduceToNat, Int.reduceMul, Int.reduceAdd, Int.reduceSub, Int.reduceBEq, Int.reduceBNe, reduceCtorEq, RD]
  refine hKr _ _ ?_
  clear hKr Kr
  try simp only [RN, reduceIte]
  try refine T_e rfl ?_
  refine T_rseq fun Kr hKr => ?_
  simp (disch := omega) only [RA, ↓reduceIte, Nat.reduceEqDiff, Nat.reduceBEq, Nat.reduceSub, Nat.reduceAdd, Nat.reduceMul, Nat.reduceLT, Nat.reduceLeDiff, Int.reduceLE, Int.reduceLT, Int.reduceEq, Int.reduceNeg, Int.reduceToNat, Int.reduceMul, Int.reduceAdd, Int.reduceSub, Int.reduceBEq, Int.reduceBNe, reduceCtorEq, RD]
  refine hKr _ _ ?_
  clear hKr Kr
  try simp only [RN, reduceIte]
  try refine T_e rfl ?_
  refine T_csplit (p := ¬ xs.length = ys.length) (by simp only [RA, ↓reduceIte, Nat.reduceEqDiff, Nat.reduceBEq, Nat.reduceSub, Nat.reduceAdd, Nat.reduceMul, Nat.reduceLT, Nat.reduceLeDiff, Int.reduceLE, Int.reduceLT, Int.reduceEq, Int.reduceNeg, Int.reduceToNat, Int.reduceMul, Int.reduceAdd, Int.reduceSub, Int.reduceBEq, Int.reduceBNe, reduceCtorEq] <;> rfl) (by (try simp only [RB]) <;> first | done | exact Iff.rfl | omega | simp) (fun hc => ?_) (fun hc => ?_) <;> (try simp only [RN, reduceIte]) <;> (try refine T_e rfl ?_)
  · refine T_rseq fun Kr hKr => ?_
    simp (disch := omega) only [RA, ↓reduceIte, Nat.reduceEqDiff, Nat.reduceBEq, Nat.reduceSub, Nat.reduceAdd, Nat.reduceMul, Nat.reduceLT, Nat.reduceLeDiff, Int.reduceLE, Int.reduceLT, Int.reduceEq, Int.reduceNeg, Int.reduceToNat, Int.reduceMul, Int.reduceAdd, Int.reduceSub, Int.reduceBEq, Int.reduceBNe, reduceCtorEq, RD]
    refine hKr _ _ ?_
    clear hKr Kr
    try simp only [RN, reduceIte]
    try refine T_e rfl ?_
    refine bodyQ_ret (by simp (disch := omega) only [RA, ↓reduceIte, Nat.reduceEqDiff, Nat.reduceBEq, Nat.reduceSub, Nat.reduceAdd, Nat.reduceMul, Nat.reduceLT, Nat.reduceLeDiff, Int.reduceLE, Int.reduceLT, Int.reduceEq, Int.reduceNeg, Int.reduceToNat, Int.reduceMul, Int.reduceAdd, Int.reduceSub, Int.reduceBEq, Int.reduceBNe, reduceCtorEq, RD, resAll, resOf]; rfl) GhV.refl ?_
    simp only [tup]
    rw [show decide (xs = ys) = false by simp; intro e; exact hc (by rw [e])] at hK
    exact ⟨.bool, hK⟩
  have hll := Decidable.not_not.1 hc
  clear hc
  refine T_rseq fun Kr hKr => ?_
  simp (disch := omega) only [RA, ↓reduceIte, Nat.reduceEqDiff, Nat.reduceBEq, Nat.reduceSub, Nat.reduceAdd, Nat.reduceMul, Nat.reduceLT, Nat.reduceLeDiff, Int.reduceLE, Int.reduceLT, Int.reduceEq, Int.reduceNeg, Int.reduceToNat, Int.reduceMul, Int.reduceAdd, Int.reduceSub, Int.reduceBEq, Int.reduceBNe, reduceCtorEq, RD]
  refine hKr _ _ ?_
  clear hKr Kr
  try simp only [RN, reduceIte]
  try refine T_e rfl ?_
  refine T_wloop (fun m f H' => ∃ i, i ≤ xs.length ∧ m = xs.length - i ∧ (∀ j, j < i → el xs j = el ys j) ∧ f 0 = FI xs ∧ f 1 = FI ys ∧ f 5 = I i ∧ H' = []) (xs.length) ?_ ?_
  · refine ⟨_, _, Gh.refl, 0, by omega, by omega, fun j hj => by omega, ?_, ?_, ?_, rfl⟩
    any_goals (simp (disch := omega) only [RA, ↓reduceIte, Nat.reduceEqDiff, Nat.reduceBEq, Nat.reduceSub, Nat.reduceAdd, Nat.reduceMul, Nat.reduceLT, Nat.reduceLeDiff, Int.reduceLE, Int.reduceLT, Int.reduceEq, Int.reduceNeg, Int.reduceToNat, Int.reduceMul, Int.reduceAdd, Int.reduceSub, Int.reduceBEq, Int.reduceBNe, reduceCtorEq, RD, RE, *] <;> rfl)
  · rintro m f H' R ⟨i, hi, rfl, he, g0, g1, g5, rfl⟩ hN hX hR hE
    simp only [A_spec_l04Same2.l0, T_aiff]
    refine T_rseq fun Kr hKr => ?_
    simp (disch := omega) only [RA, ↓reduceIte, Nat.reduceEqDiff, Nat.reduceBEq, Nat.reduceSub, Nat.reduceAdd, Nat.reduceMul, Nat.reduceLT, Nat.reduceLeDiff, Int.reduceLE, Int.reduceLT, Int.reduceEq, Int.reduceNeg, Int.reduceToNat, Int.reduceMul, Int.reduceAdd, Int.reduceSub, Int.reduceBEq, Int.reduceBNe, reduceCtorEq, RD, g0, g5]
    refine hKr _ _ ?_
    clear hKr Kr
    try simp only [RN, reduceIte]
    try refine T_e rfl ?_
    refine T_csplit (p := i < xs.length) (by simp only [RA, ↓reduceIte, Nat.reduceEqDiff, Nat.reduceBEq, Nat.reduceSub, Nat.reduceAdd, Nat.reduceMul, Nat.reduceLT, Nat.reduceLeDiff, Int.reduceLE, Int.reduceLT, Int.reduceEq, Int.reduceNeg, Int.reduceToNat, Int.reduceMul, Int.reduceAdd, Int.reduceSub, Int.reduceBEq, Int.reduceBNe, reduceCtorEq] <;> rfl) (by (try simp only [RB]) <;> first | done | exact Iff.rfl | omega | simp) (fun hc => ?_) (fun hc => ?_) <;> (try simp only [RN, reduceIte]) <;> (try refine T_e rfl ?_)
    · have hil : i < xs.length := by assumption
      have hil' : i < ys.length := by omega
      first | refine T_bfree rfl ?_ | refine T_bfree' rfl ?_
      try simp only [RN, reduceIte]
      try refine T_e rfl ?_
      refine T_rseq fun Kr hKr => ?_
      simp (disch := omega) only [RA, ↓reduceIte, Nat.reduceEqDiff, Nat.reduceBEq, Nat.reduceSub, Nat.reduceAdd, Nat.reduceMul, Nat.reduceLT, Nat.reduceLeDiff, Int.reduceLE, Int.reduceLT, Int.reduceEq, Int.reduceNeg, Int.reduceToNat, Int.reduceMul, Int.reduceAdd, Int.reduceSub, Int.reduceBEq, Int.reduceBNe, reduceCtorEq, RD, g0, g1, g5]
      refine hKr _ _ ?_
      clear hKr Kr
      try simp only [RN, reduceIte]
      try refine T_e rfl ?_
      refine T_csplit (p := ¬ el xs i = el ys i) (by simp only [RA, ↓reduceIte, Nat.reduceEqDiff, Nat.reduceBEq, Nat.reduceSub, Nat.reduceAdd, Nat.reduceMul, Nat.reduceLT, Nat.reduceLeDiff, Int.reduceLE, Int.reduceLT, Int.reduceEq, Int.reduceNeg, Int.reduceToNat, Int.reduceMul, Int.reduceAdd, Int.reduceSub, Int.reduceBEq, Int.reduceBNe, reduceCtorEq] <;> rfl) (by (try simp only [RB]) <;> first | done | exact Iff.rfl | omega | simp) (fun hc => ?_) (fun hc => ?_) <;> (try simp only [RN, reduceIte]) <;> (try refine T_e rfl ?_)
      · refine T_rseq fun Kr hKr => ?_
        simp (disch := omega) only [RA, ↓reduceIte, Nat.reduceEqDiff, Nat.reduceBEq, Nat.reduceSub, Nat.reduceAdd, Nat.reduceMul, Nat.reduceLT, Nat.reduceLeDiff, Int.reduceLE, Int.reduceLT, Int.reduceEq, Int.reduceNeg, Int.reduceToNat, Int.reduceMul, Int.reduceAdd, Int.reduceSub, Int.reduceBEq, Int.reduceBNe, reduceCtorEq, RD]
        refine hKr _ _ ?_
        clear hKr Kr
        try simp only [RN, reduceIte]
        try refine T_e rfl ?_
        refine hR _ _ ?_
        refine bodyQ_ret (by simp (disch := omega) only [RA, ↓reduceIte, Nat.reduceEqDiff, Nat.reduceBEq, Nat.reduceSub, Nat.reduceAdd, Nat.reduceMul, Nat.reduceLT, Nat.reduceLeDiff, Int.reduceLE, Int.reduceLT, Int.reduceEq, Int.reduceNeg, Int.reduceToNat, Int.reduceMul, Int.reduceAdd, Int.reduceSub, Int.reduceBEq, Int.reduceBNe, reduceCtorEq, RD, resAll, resOf]; rfl) GhV.refl ?_
        simp only [tup]
        rw [show decide (xs = ys) = false by simp; intro e; exact hc (by rw [e])] at hK
        exact ⟨.bool, hK⟩
      have hee := Decidable.not_not.1 hc
      refine T_reg_k fun Kr hKr => ?_
      simp (disch := omega) only [RA, ↓reduceIte, Nat.reduceEqDiff, Nat.reduceBEq, Nat.reduceSub, Nat.reduceAdd, Nat.reduceMul, Nat.reduceLT, Nat.reduceLeDiff, Int.reduceLE, Int.reduceLT, Int.reduceEq, Int.reduceNeg, Int.reduceToNat, Int.reduceMul, Int.reduceAdd, Int.reduceSub, Int.reduceBEq, Int.reduceBNe, reduceCtorEq, RD, g5]
      refine hKr _ _ ?_
      clear hKr Kr
      have he' : ∀ j, j < i + 1 → el xs j = el ys j := fun j hj => by
        by_cases e : j = i
        · rw [e]; exact hee
        · exact he j (by omega)
      refine hN (xs.length - (i + 1)) _ _ _ _ (by omega) Gh.refl ⟨i + 1, by omega, rfl, he', ?_, ?_, ?_, rfl⟩
      any_goals (simp (disch := omega) only [RA, ↓reduceIte, Nat.reduceEqDiff, Nat.reduceBEq, Nat.reduceSub, Nat.reduceAdd, Nat.reduceMul, Nat.reduceLT, Nat.reduceLeDiff, Int.reduceLE, Int.reduceLT, Int.reduceEq, Int.reduceNeg, Int.reduceToNat, Int.reduceMul, Int.reduceAdd, Int.reduceSub, Int.reduceBEq, Int.reduceBNe, reduceCtorEq, RD, RE, *] <;> rfl)
    · refine hX _ _ ?_
      have e : xs = ys := by
        apply List.ext_getElem hll
        intro j h1 h2
        have := he j (by omega)
        simpa [el, List.getD, h1, h2] using this
      rw [show decide (xs = ys) = true by simp [e]] at hK
      refine T_rseq fun Kr hKr => ?_
      simp (disch := omega) only [RA, ↓reduceIte, Nat.reduceEqDiff, Nat.reduceBEq, Nat.reduceSub, Nat.reduceAdd, Nat.reduceMul, Nat.reduceLT, Nat.reduceLeDiff, Int.reduceLE, Int.reduceLT, Int.reduceEq, Int.reduceNeg, Int.reduceToNat, Int.reduceMul, Int.reduceAdd, Int.reduceSub, Int.reduceBEq, Int.reduceBNe, reduceCtorEq, RD]
      refine hKr _ _ ?_
      clear hKr Kr
      try simp only [RN, reduceIte]
      try refine T_e rfl ?_
      refine bodyQ_ret (by simp (disch := omega) only [RA, ↓reduceIte, Nat.reduceEqDiff, Nat.reduceBEq, Nat.reduceSub, Nat.reduceAdd, Nat.reduceMul, Nat.reduceLT, Nat.reduceLeDiff, Int.reduceLE, Int.reduceLT, Int.reduceEq, Int.reduceNeg, Int.reduceToNat, Int.reduceMul, Int.reduceAdd, Int.reduceSub, Int.reduceBEq, Int.reduceBNe, reduceCtorEq, RD, resAll, resOf]; rfl) GhV.refl ?_
      simp only [tup]
      exact ⟨.bool, hK⟩
theorem Equal_spec {xs ys : List Int} (hl : xs.length < 4611686018427387904) (hl' : ys.length < 4611686018427387904) (hK : K (.bool (decide (xs = ys))) H) : CallX x F_slices_Equal_int64_int64 [FI xs, FI ys] H K := by
  refine callP (.cons .fz (.cons .fz .nil)) ?_
  refine CallX_body Γ_slices_Equal_int64_int64 ?_
  simp only [A_slices_Equal_int64_int64, T_aiff]
  refine T_rseq fun Kr hKr => ?_
  simp (disch := omega) only [RA, ↓reduceIte, Nat.reduceEqDiff, Nat.reduceBEq, Nat.reduceSub, Nat.reduceAdd, Nat.reduceMul, Nat.reduceLT, Nat.reduceLeDiff, Int.reduceLE, Int.reduceLT, Int.reduceEq, Int.reduceNeg, Int.reduceToNat, Int.reduceMul, Int.reduceAdd, Int.reduceSub, Int.reduceBEq, Int.reduceBNe, reduceCtorEq, RD]
  refine hKr _ _ ?_
  clear hKr Kr
  try simp only [RN, reduceIte]
  try refine T_e rfl ?_
  refine T_rseq fun Kr hKr => ?_
  simp (disch := omega) only [RA, ↓reduceIte, Nat.reduceEqDiff, Nat.reduceBEq, Nat.reduceSub, Nat.reduceAdd, Nat.reduceMul, Nat.reduceLT, Nat.reduceLeDiff, Int.reduceLE, Int.reduceLT, Int.reduceEq, Int.reduceNeg, Int.reduceToNat, Int.reduceMul, Int.reduceAdd, Int.reduceSub, Int.reduceBEq, Int.reduceBNe, reduceCtorEq, RD]
  refine hKr _ _ ?_
  clear hKr Kr
  try simp only [RN, reduceIte]
  try refine T_e rfl ?_
  refine T_csplit (p := ¬ xs.length = ys.length) (by simp only [RA, ↓reduceIte, Nat.reduceEqDiff, Nat.reduceBEq, Nat.reduceSub, Nat.reduceAdd, Nat.reduceMul, Nat.reduceLT, Nat.reduceLeDiff, Int.reduceLE, Int.reduceLT, Int.reduceEq, Int.reduceNeg, Int.reduceToNat, Int.reduceMul, Int.reduceAdd, Int.reduceSub, Int.reduceBEq, Int.reduceBNe, reduceCtorEq] <;> rfl) (by (try simp only [RB]) <;> first | done | exact Iff.rfl | omega | simp) (fun hc => ?_) (fun hc => ?_) <;> (try simp only [RN, reduceIte]) <;> (try refine T_e rfl ?_)
  · refine T_rseq fun Kr hKr => ?_
    simp (disch := omega) only [RA, ↓reduceIte, Nat.reduceEqDiff, Nat.reduceBEq, Nat.reduceSub, Nat.reduceAdd, Nat.reduceMul, Nat.reduceLT, Nat.reduceLeDiff, Int.reduceLE, Int.reduceLT, Int.reduceEq, Int.reduceNeg, Int.reduceToNat, Int.reduceMul, Int.reduceAdd, Int.reduceSub, Int.reduceBEq, Int.reduceBNe, reduceCtorEq, RD]
    refine hKr _ _ ?_
    clear hKr Kr
    try simp only [RN, reduceIte]
    try refine T_e rfl ?_
    refine bodyQ_ret (by simp (disch := omega) only [RA, ↓reduceIte, Nat.reduceEqDiff, Nat.reduceBEq, Nat.reduceSub, Nat.reduceAdd, Nat.reduceMul, Nat.reduceLT, Nat.reduceLeDiff, Int.reduceLE, Int.reduceLT, Int.reduceEq, Int.reduceNeg, Int.reduceToNat, Int.reduceMul, Int.reduceAdd, Int.reduceSub, Int.reduceBEq, Int.reduceBNe, reduceCtorEq, RD, resAll, resOf]; rfl) GhV.refl ?_
    simp only [tup]
    rw [show decide (xs = ys) = false by simp; intro e; exact hc (by rw [e])] at hK
    exact ⟨.bool, hK⟩
  have hll := Decidable.not_not.1 hc
  clear hc
  refine T_rseq fun Kr hKr => ?_
  simp (disch := omega) only [RA, ↓reduceIte, Nat.reduceEqDiff, Nat.reduceBEq, Nat.reduceSub, Nat.reduceAdd, Nat.reduceMul, Nat.reduceLT, Nat.reduceLeDiff, Int.reduceLE, Int.reduceLT, Int.reduceEq, Int.reduceNeg, Int.reduceToNat, Int.reduceMul, Int.reduceAdd, Int.reduceSub, Int.reduceBEq, Int.reduceBNe, reduceCtorEq, RD]
  refine hKr _ _ ?_
  clear hKr Kr
  try simp only [RN, reduceIte]
  try refine T_e rfl ?_
  refine T_wloop (fun m f H' => ∃ i, i ≤ xs.length ∧ m = xs.length - i ∧ (∀ j, j < i → el xs j = el ys j) ∧ f 0 = FI xs ∧ f 1 = FI ys ∧ f 12 = I xs.length ∧ f 13 = I i ∧ H' = []) (xs.length) ?_ ?_
  · refine ⟨_, _, Gh.refl, 0, by omega, by omega, fun j hj => by omega, ?_, ?_, ?_, ?_, rfl⟩
    any_goals (simp (disch := omega) only [RA, ↓reduceIte, Nat.reduceEqDiff, Nat.reduceBEq, Nat.reduceSub, Nat.reduceAdd, Nat.reduceMul, Nat.reduceLT, Nat.reduceLeDiff, Int.reduceLE, Int.reduceLT, Int.reduceEq, Int.reduceNeg, Int.reduceToNat, Int.reduceMul, Int.reduceAdd, Int.reduceSub, Int.reduceBEq, Int.reduceBNe, reduceCtorEq, RD, RE, *] <;> rfl)
  · rintro m f H' R ⟨i, hi, rfl, he, g0, g1, g12, g13, rfl⟩ hN hX hR hE
    simp only [A_slices_Equal_int64_int64.l0, T_aiff]
    refine T_rseq fun Kr hKr => ?_
    simp (disch := omega) only [RA, ↓reduceIte, Nat.reduceEqDiff, Nat.reduceBEq, Nat.reduceSub, Nat.reduceAdd, Nat.reduceMul, Nat.reduceLT, Nat.reduceLeDiff, Int.reduceLE, Int.reduceLT, Int.reduceEq, Int.reduceNeg, Int.reduceToNat, Int.reduceMul, Int.reduceAdd, Int.reduceSub, Int.reduceBEq, Int.reduceBNe, reduceCtorEq, RD, g12, g13]
    refine hKr _ _ ?_
    clear hKr Kr
    try simp only [RN, reduceIte]
    try refine T_e rfl ?_
    refine T_csplit (p := i < xs.length) (by simp only [RA, ↓reduceIte, Nat.reduceEqDiff, Nat.reduceBEq, Nat.reduceSub, Nat.reduceAdd, Nat.reduceMul, Nat.reduceLT, Nat.reduceLeDiff, Int.reduceLE, Int.reduceLT, Int.reduceEq, Int.reduceNeg, Int.reduceToNat, Int.reduceMul, Int.reduceAdd, Int.reduceSub, Int.reduceBEq, Int.reduceBNe, reduceCtorEq] <;> rfl) (by (try simp only [RB]) <;> first | done | exact Iff.rfl | omega | simp) (fun hc => ?_) (fun hc => ?_) <;> (try simp only [RN, reduceIte]) <;> (try refine T_e rfl ?_)
    · have hil : i < xs.length := by assumption
      have hil' : i < ys.length := by omega
      first | refine T_bfree rfl ?_ | refine T_bfree' rfl ?_
      try simp only [RN, reduceIte]
      try refine T_e rfl ?_
      refine T_rseq fun Kr hKr => ?_
      simp (disch := omega) only [RA, ↓reduceIte, Nat.reduceEqDiff, Nat.reduceBEq, Nat.reduceSub, Nat.reduceAdd, Nat.reduceMul, Nat.reduceLT, Nat.reduceLeDiff, Int.reduceLE, Int.reduceLT, Int.reduceEq, Int.reduceNeg, Int.reduceToNat, Int.reduceMul, Int.reduceAdd, Int.reduceSub, Int.reduceBEq, Int.reduceBNe, reduceCtorEq, RD, g13]
      refine hKr _ _ ?_
      clear hKr Kr
      try simp only [RN, reduceIte]
      try refine T_e rfl ?_
      refine T_rseq fun Kr hKr => ?_
      simp (disch := omega) only [RA, ↓reduceIte, Nat.reduceEqDiff, Nat.reduceBEq, Nat.reduceSub, Nat.reduceAdd, Nat.reduceMul, Nat.reduceLT, Nat.reduceLeDiff, Int.reduceLE, Int.reduceLT, Int.reduceEq, Int.reduceNeg, Int.reduceToNat, Int.reduceMul, Int.reduceAdd, Int.reduceSub, Int.reduceBEq, Int.reduceBNe, reduceCtorEq, RD, g0, g1]
      refine hKr _ _ ?_
      clear hKr Kr
      try simp only [RN, reduceIte]
      try refine T_e rfl ?_
      refine T_csplit (p := ¬ el xs i = el ys i) (by simp only [RA, ↓reduceIte, Nat.reduceEqDiff, Nat.reduceBEq, Nat.reduceSub, Nat.reduceAdd, Nat.reduceMul, Nat.reduceLT, Nat.reduceLeDiff, Int.reduceLE, Int.reduceLT, Int.reduceEq, Int.reduceNeg, Int.reduceToNat, Int.reduceMul, Int.reduceAdd, Int.reduceSub, Int.reduceBEq, Int.reduceBNe, reduceCtorEq] <;> rfl) (by (try simp only [RB]) <;> first | done | exact Iff.rfl | omega | simp) (fun hc => ?_) (fun hc => ?_) <;> (try simp only [RN, reduceIte]) <;> (try refine T_e rfl ?_)
      · refine T_rseq fun Kr hKr => ?_
        simp (disch := omega) only [RA, ↓reduceIte, Nat.reduceEqDiff, Nat.reduceBEq, Nat.reduceSub, Nat.reduceAdd, Nat.reduceMul, Nat.reduceLT, Nat.reduceLeDiff, Int.reduceLE, Int.reduceLT, Int.reduceEq, Int.reduceNeg, Int.reduceToNat, Int.reduceMul, Int.reduceAdd, Int.reduceSub, Int.reduceBEq, Int.reduceBNe, reduceCtorEq, RD]
        refine hKr _ _ ?_
        clear hKr Kr
        try simp only [RN, reduceIte]
        try refine T_e rfl ?_
        refine hR _ _ ?_
        refine bodyQ_ret (by simp (disch := omega) only [RA, ↓reduceIte, Nat.reduceEqDiff, Nat.reduceBEq, Nat.reduceSub, Nat.reduceAdd, Nat.reduceMul, Nat.reduceLT, Nat.reduceLeDiff, Int.reduceLE, Int.reduceLT, Int.reduceEq, Int.reduceNeg, Int.reduceToNat, Int.reduceMul, Int.reduceAdd, Int.reduceSub, Int.reduceBEq, Int.reduceBNe, reduceCtorEq, RD, resAll, resOf]; rfl) GhV.refl ?_
        simp only [tup]
        rw [show decide (xs = ys) = false by simp; intro e; exact hc (by rw [e])] at hK
        exact ⟨.bool, hK⟩
      have hee := Decidable.not_not.1 hc
      refine T_reg_k fun Kr hKr => ?_
      simp (disch := omega) only [RA, ↓reduceIte, Nat.reduceEqDiff, Nat.reduceBEq, Nat.reduceSub, Nat.reduceAdd, Nat.reduceMul, Nat.reduceLT, Nat.reduceLeDiff, Int.reduceLE, Int.reduceLT, Int.reduceEq, Int.reduceNeg, Int.reduceToNat, Int.reduceMul, Int.reduceAdd, Int.reduceSub, Int.reduceBEq, Int.reduceBNe, reduceCtorEq, RD, g13]
      refine hKr _ _ ?_
      clear hKr Kr
      have he' : ∀ j, j < i + 1 → el xs j = el ys j := fun j hj => by
        by_cases e : j = i
        · rw [e]; exact hee
        · exact he j (by omega)
      refine hN (xs.length - (i + 1)) _ _ _ _ (by omega) Gh.refl ⟨i + 1, by omega, rfl, he', ?_, ?_, ?_, ?_, rfl⟩
      any_goals (simp (disch := omega) only [RA, ↓reduceIte, Nat.reduceEqDiff, Nat.reduceBEq, Nat.reduceSub, Nat.reduceAdd, Nat.reduceMul, Nat.reduceLT, Nat.reduceLeDiff, Int.reduceLE, Int.reduceLT, Int.reduceEq, Int.reduceNeg, Int.reduceToNat, Int.reduceMul, Int.reduceAdd, Int.reduceSub, Int.reduceBEq, Int.reduceBNe, reduceCtorEq, RD, RE, *] <;> rfl)
    · refine hX _ _ ?_
      have e : xs = ys := by
        apply List.ext_getElem hll
        intro j h1 h2
        have := he j (by omega)
        simpa [el, List.getD, h1, h2] using this
      rw [show decide (xs = ys) = true by simp [e]] at hK
      refine T_rseq fun Kr hKr => ?_
      simp (disch := omega) only [RA, ↓reduceIte, Nat.reduceEqDiff, Nat.reduceBEq, Nat.reduceSub, Nat.reduceAdd, Nat.reduceMul, Nat.reduceLT, Nat.reduceLeDiff, Int.reduceLE, Int.reduceLT, Int.reduceEq, Int.reduceNeg, Int.reduceToNat, Int.reduceMul, Int.reduceAdd, Int.reduceSub, Int.reduceBEq, Int.reduceBNe, reduceCtorEq, RD]
      refine hKr _ _ ?_
      clear hKr Kr
      try simp only [RN, reduceIte]
      try refine T_e rfl ?_
      refine bodyQ_ret (by simp (disch := omega) only [RA, ↓reduceIte, Nat.reduceEqDiff, Nat.reduceBEq, Nat.reduceSub, Nat.reduceAdd, Nat.reduceMul, Nat.reduceLT, Nat.reduceLeDiff, Int.reduceLE, Int.reduceLT, Int.reduceEq, Int.reduceNeg, Int.reduceToNat, Int.reduceMul, Int.reduceAdd, Int.reduceSub, Int.reduceBEq, Int.reduceBNe, reduceCtorEq, RD, resAll, resOf]; rfl) GhV.refl ?_
      simp only [tup]
      exact ⟨.bool, hK⟩
end
/-- What has been found: numbers of pairs and of connected ones. -/
abbrev FC4 (p c : Int) : List Value := [I p, I c, .slice none 0 0, .bool false]
abbrev FV4 (p c : Int) : Value := aggL (FC4 p c)
def prB (t1 t2 : List Int) (black : List Nat) (n : Nat) (w : List Nat) : Bool := decide (toI (typ w n) = t1) && decide (toI (typ (faceP black w n) n) = t2)
def coB (t1 t2 : List Int) (black : List Nat) (n : Nat) (w : List Nat) : Bool := prB t1 t2 black n w && decide (Des n black w)
section
variable {p c p' c' : Int} {H : BH} {b : Nat}
theorem g4_all : getN (some 4) (FC4 p c) 0 = some (FV4 p c) := rfl
theorem g4_0 : getN none (FC4 p c) 0 = some (I p) := rfl
theorem g4_1 : getN none (FC4 p c) 1 = some (I c) := rfl
theorem g4_3 : getN none (FC4 p c) 3 = some (.bool false) := rfl
theorem s4_all : stO (some (FC4 p c)) H b 0 4 (FV4 p' c') = some (undef, H.set b (some (FC4 p' c'))) := (stO_agg (vs := FC4 p' c') (n := 4) rfl rfl (by simp)).trans rfl
theorem s4_0 {y : Int} : stO (some (FC4 p c)) H b 0 1 (.int .i64 y) = some (undef, H.set b (some (FC4 y c))) := by rw [stO_int (by simp)]; rfl
theorem s4_1 {y : Int} : stO (some (FC4 p c)) H b 1 1 (.int .i64 y) = some (undef, H.set b (some (FC4 p y))) := by rw [stO_int (by simp)]; rfl
theorem NNL_4 : NNL (FC4 p c) := .cons .int (.cons .int (.cons .nil (.cons .bool .nil)))
theorem f4_b : fillL (FC4 0 0) [(3, 1, .bool false)] = some (FC4 0 0) := rfl
end
theorem fr0_4 {a b c d e : Value} {l : List Value} : frame0 (a :: b :: c :: d :: e :: l) 4 = e := rfl
theorem fr0_5 {a b c d e g : Value} {l : List Value} : frame0 (a :: b :: c :: d :: e :: g :: l) 5 = g := rfl
theorem R4 : (type_of% @fr0_4) ∧ (type_of% @fr0_5) ∧ (type_of% @g4_all) ∧ (type_of% @g4_0) ∧ (type_of% @g4_1) ∧ (type_of% @g4_3) ∧ (type_of% @s4_all) ∧ (type_of% @s4_0) ∧ (type_of% @s4_1) ∧ (type_of% @f4_b) := ⟨@fr0_4, @fr0_5, @g4_all, @g4_0, @g4_1, @g4_3, @s4_all, @s4_0, @s4_1, @f4_b⟩
section
variable {black : List Nat} {n : Nat} {xss : List (List Int)} {H : BH} {K : Value → BH → Prop} {x : Bool}
theorem l04Meet_spec {p c : Int} {w : List Nat} (hb : By 16 black) (hbp : Perm black n) (hw : By 16 w) (hwp : Perm w n) (h3 : xss.length = 3) (hll : ∀ xs ∈ xss, xs.length ≤ 1048576)
    (hp : 0 ≤ p ∧ p < 1000000000) (hc : 0 ≤ c ∧ c < 1000000000)
    (hK : K (FV4 (p + if prB (at3 xss 1) (at3 xss 2) black n w then 1 else 0) (c + if coB (at3 xss 1) (at3 xss 2) black n w then 1 else 0)) H) :
    CallX x F_spec_l04Meet [FV4 p c, PL black, PL w, I n, FII xss] H K := by
  have hlb := hb.len
  have hlw := hw.len
  have hn := hbp.1
  have hb16 := fun i => hbp.lt16 hlb i
  have hw16 := fun i => hwp.lt16 hlw i
  have hz := z16_len
  have hg : ∀ i, i < 3 → getN none (xss.map FI) i = some (FI (at3 xss i)) := fun i hi => getN_FI (by omega)
  have hg1 := hg 1 (by omega)
  have hg2 := hg 2 (by omega)
  have hm : ∀ i, i < 3 → (at3 xss i).length ≤ 1048576 := fun i hi => hll _ (getD_mem' (by omega))
  have hm1 := hm 1 (by omega)
  have hm2 := hm 2 (by omega)
  have t1 := typ_len16 hwp
  have t2 := typ_len16 (face_perm hbp hwp)
  unfold coB prB at hK
  refine callP (.cons (NN_agg NNL_4) (.cons (NN_agg NNL_F8) (.cons (NN_agg NNL_F8) (.cons .int (.cons .fz .nil))))) ?_
  refine CallX_body Γ_spec_l04Meet ?_
  simp only [A_spec_l04Meet, T_aiff]
  refine T_rseq fun Kr hKr => ?_
  simp (disch := omega) only [RA, ↓reduceIte, Nat.reduceEqDiff, Nat.reduceBEq, Nat.reduceSub, Nat.reduceAdd, Nat.reduceMul, Nat.reduceLT, Nat.reduceLeDiff, Int.reduceLE, Int.reduceLT, Int.reduceEq, Int.reduceNeg, Int.reduceToNat, Int.reduceMul, Int.reduceAdd, Int.reduceSub, Int.reduceBEq, Int.reduceBNe, reduceCtorEq, RD]
  refine hKr _ _ ?_
  clear hKr Kr
  try simp only [RN, reduceIte]
  try refine T_e rfl ?_
  refine T_rseq fun Kr hKr => ?_
  simp (disch := omega) only [RA, ↓reduceIte, Nat.reduceEqDiff, Nat.reduceBEq, Nat.reduceSub, Nat.reduceAdd, Nat.reduceMul, Nat.reduceLT, Nat.reduceLeDiff, Int.reduceLE, Int.reduceLT, Int.reduceEq, Int.reduceNeg, Int.reduceToNat, Int.reduceMul, Int.reduceAdd, Int.reduceSub, Int.reduceBEq, Int.reduceBNe, reduceCtorEq, RD, hlw, R4]
  refine l01Type_spec hw hwp ?_
  simp (disch := omega) only [RA, ↓reduceIte, Nat.reduceEqDiff, Nat.reduceBEq, Nat.reduceSub, Nat.reduceAdd, Nat.reduceMul, Nat.reduceLT, Nat.reduceLeDiff, Int.reduceLE, Int.reduceLT, Int.reduceEq, Int.reduceNeg, Int.reduceToNat, Int.reduceMul, Int.reduceAdd, Int.reduceSub, Int.reduceBEq, Int.reduceBNe, reduceCtorEq, RD, R4, hg1, FN_toI]
  refine l04Same2_spec (xs := toI (typ w n)) (ys := at3 xss 1) (by rw [toI_len]; omega) (by omega) ?_
  simp (disch := omega) only [RA, ↓reduceIte, Nat.reduceEqDiff, Nat.reduceBEq, Nat.reduceSub, Nat.reduceAdd, Nat.reduceMul, Nat.reduceLT, Nat.reduceLeDiff, Int.reduceLE, Int.reduceLT, Int.reduceEq, Int.reduceNeg, Int.reduceToNat, Int.reduceMul, Int.reduceAdd, Int.reduceSub, Int.reduceBEq, Int.reduceBNe, reduceCtorEq, RD]
  refine hKr _ _ ?_
  clear hKr Kr
  try simp only [blkQ, thenQ, loopQ]
  try simp only [RN, reduceIte]
  try refine T_e rfl ?_
  by_cases e1 : toI (typ w n) = at3 xss 1
  · refine T_cseq (t := false) (by simp (disch := omega) only [RA, ↓reduceIte, Nat.reduceEqDiff, Nat.reduceBEq, Nat.reduceSub, Nat.reduceAdd, Nat.reduceMul, Nat.reduceLT, Nat.reduceLeDiff, Int.reduceLE, Int.reduceLT, Int.reduceEq, Int.reduceNeg, Int.reduceToNat, Int.reduceMul, Int.reduceAdd, Int.reduceSub, Int.reduceBEq, Int.reduceBNe, reduceCtorEq, RD, decide_eq_true e1]) ?_
    try simp only [RN, reduceIte]
    try refine T_e rfl ?_
    refine T_rseq fun Kr hKr => ?_
    simp (disch := omega) only [RA, ↓reduceIte, Nat.reduceEqDiff, Nat.reduceBEq, Nat.reduceSub, Nat.reduceAdd, Nat.reduceMul, Nat.reduceLT, Nat.reduceLeDiff, Int.reduceLE, Int.reduceLT, Int.reduceEq, Int.reduceNeg, Int.reduceToNat, Int.reduceMul, Int.reduceAdd, Int.reduceSub, Int.reduceBEq, Int.reduceBNe, reduceCtorEq, RD, RDS, RDD, hlb, hlw]
    refine hKr _ _ ?_
    clear hKr Kr
    try simp only [RN, reduceIte]
    try refine T_e rfl ?_
    refine T_rseq fun Kr hKr => ?_
    simp (disch := omega) only [RA, ↓reduceIte, Nat.reduceEqDiff, Nat.reduceBEq, Nat.reduceSub, Nat.reduceAdd, Nat.reduceMul, Nat.reduceLT, Nat.reduceLeDiff, Int.reduceLE, Int.reduceLT, Int.reduceEq, Int.reduceNeg, Int.reduceToNat, Int.reduceMul, Int.reduceAdd, Int.reduceSub, Int.reduceBEq, Int.reduceBNe, reduceCtorEq, RD, RDS, RDD]
    refine l01Face_spec hb hw (by omega) hb16 hw16 ?_
    simp (disch := omega) only [RA, ↓reduceIte, Nat.reduceEqDiff, Nat.reduceBEq, Nat.reduceSub, Nat.reduceAdd, Nat.reduceMul, Nat.reduceLT, Nat.reduceLeDiff, Int.reduceLE, Int.reduceLT, Int.reduceEq, Int.reduceNeg, Int.reduceToNat, Int.reduceMul, Int.reduceAdd, Int.reduceSub, Int.reduceBEq, Int.reduceBNe, reduceCtorEq, RD]
    refine l01Type_spec (backK_by (by omega)) (face_perm hbp hwp) ?_
    simp (disch := omega) only [RA, ↓reduceIte, Nat.reduceEqDiff, Nat.reduceBEq, Nat.reduceSub, Nat.reduceAdd, Nat.reduceMul, Nat.reduceLT, Nat.reduceLeDiff, Int.reduceLE, Int.reduceLT, Int.reduceEq, Int.reduceNeg, Int.reduceToNat, Int.reduceMul, Int.reduceAdd, Int.reduceSub, Int.reduceBEq, Int.reduceBNe, reduceCtorEq, RD, R4, hg2, FN_toI]
    refine l04Same2_spec (xs := toI (typ (faceP black w n) n)) (ys := at3 xss 2) (by rw [toI_len]; omega) (by omega) ?_
    simp (disch := omega) only [RA, ↓reduceIte, Nat.reduceEqDiff, Nat.reduceBEq, Nat.reduceSub, Nat.reduceAdd, Nat.reduceMul, Nat.reduceLT, Nat.reduceLeDiff, Int.reduceLE, Int.reduceLT, Int.reduceEq, Int.reduceNeg, Int.reduceToNat, Int.reduceMul, Int.reduceAdd, Int.reduceSub, Int.reduceBEq, Int.reduceBNe, reduceCtorEq, RD]
    refine hKr _ _ ?_
    clear hKr Kr
    try simp only [blkQ, thenQ, loopQ]
    try simp only [RN, reduceIte]
    try refine T_e rfl ?_
    by_cases e2 : toI (typ (faceP black w n) n) = at3 xss 2
    · refine T_cseq (t := false) (by simp (disch := omega) only [RA, ↓reduceIte, Nat.reduceEqDiff, Nat.reduceBEq, Nat.reduceSub, Nat.reduceAdd, Nat.reduceMul, Nat.reduceLT, Nat.reduceLeDiff, Int.reduceLE, Int.reduceLT, Int.reduceEq, Int.reduceNeg, Int.reduceToNat, Int.reduceMul, Int.reduceAdd, Int.reduceSub, Int.reduceBEq, Int.reduceBNe, reduceCtorEq, RD, decide_eq_true e2]) ?_
      try simp only [RN, reduceIte]
      try refine T_e rfl ?_
      refine T_rseq fun Kr hKr => ?_
      simp (disch := omega) only [RA, ↓reduceIte, Nat.reduceEqDiff, Nat.reduceBEq, Nat.reduceSub, Nat.reduceAdd, Nat.reduceMul, Nat.reduceLT, Nat.reduceLeDiff, Int.reduceLE, Int.reduceLT, Int.reduceEq, Int.reduceNeg, Int.reduceToNat, Int.reduceMul, Int.reduceAdd, Int.reduceSub, Int.reduceBEq, Int.reduceBNe, reduceCtorEq, RD, R4]
      refine hKr _ _ ?_
      clear hKr Kr
      try simp only [RN, reduceIte]
      try refine T_e rfl ?_
      refine T_rseq fun Kr hKr => ?_
      simp (disch := omega) only [RA, ↓reduceIte, Nat.reduceEqDiff, Nat.reduceBEq, Nat.reduceSub, Nat.reduceAdd, Nat.reduceMul, Nat.reduceLT, Nat.reduceLeDiff, Int.reduceLE, Int.reduceLT, Int.reduceEq, Int.reduceNeg, Int.reduceToNat, Int.reduceMul, Int.reduceAdd, Int.reduceSub, Int.reduceBEq, Int.reduceBNe, reduceCtorEq, RD, RDS, RDD]
      refine l01Is_spec hb hw ?_
      simp (disch := omega) only [RA, ↓reduceIte, Nat.reduceEqDiff, Nat.reduceBEq, Nat.reduceSub, Nat.reduceAdd, Nat.reduceMul, Nat.reduceLT, Nat.reduceLeDiff, Int.reduceLE, Int.reduceLT, Int.reduceEq, Int.reduceNeg, Int.reduceToNat, Int.reduceMul, Int.reduceAdd, Int.reduceSub, Int.reduceBEq, Int.reduceBNe, reduceCtorEq, RD]
      refine hKr _ _ ?_
      clear hKr Kr
      try simp only [blkQ, thenQ, loopQ]
      try simp only [RN, reduceIte]
      try refine T_e rfl ?_
      by_cases e3 : Des n black w
      · rw [decide_eq_true e1, decide_eq_true e2, decide_eq_true e3] at hK
        refine T_cseq (t := false) (by simp (disch := omega) only [RA, ↓reduceIte, Nat.reduceEqDiff, Nat.reduceBEq, Nat.reduceSub, Nat.reduceAdd, Nat.reduceMul, Nat.reduceLT, Nat.reduceLeDiff, Int.reduceLE, Int.reduceLT, Int.reduceEq, Int.reduceNeg, Int.reduceToNat, Int.reduceMul, Int.reduceAdd, Int.reduceSub, Int.reduceBEq, Int.reduceBNe, reduceCtorEq, RD, decide_eq_true e3]) ?_
        try simp only [RN, reduceIte]
        try refine T_e rfl ?_
        refine T_rseq fun Kr hKr => ?_
        simp (disch := omega) only [RA, ↓reduceIte, Nat.reduceEqDiff, Nat.reduceBEq, Nat.reduceSub, Nat.reduceAdd, Nat.reduceMul, Nat.reduceLT, Nat.reduceLeDiff, Int.reduceLE, Int.reduceLT, Int.reduceEq, Int.reduceNeg, Int.reduceToNat, Int.reduceMul, Int.reduceAdd, Int.reduceSub, Int.reduceBEq, Int.reduceBNe, reduceCtorEq, RD, R4]
        refine hKr _ _ ?_
        clear hKr Kr
        try simp only [RN, reduceIte]
        try refine T_e rfl ?_
        refine T_rseq fun Kr hKr => ?_
        simp (disch := omega) only [RA, ↓reduceIte, Nat.reduceEqDiff, Nat.reduceBEq, Nat.reduceSub, Nat.reduceAdd, Nat.reduceMul, Nat.reduceLT, Nat.reduceLeDiff, Int.reduceLE, Int.reduceLT, Int.reduceEq, Int.reduceNeg, Int.reduceToNat, Int.reduceMul, Int.reduceAdd, Int.reduceSub, Int.reduceBEq, Int.reduceBNe, reduceCtorEq, RD, R4]
        refine hKr _ _ ?_
        clear hKr Kr
        try simp only [RN, reduceIte]
        try refine T_e rfl ?_
        refine T_cseq (t := false) (by simp (disch := omega) only [RA, ↓reduceIte, Nat.reduceEqDiff, Nat.reduceBEq, Nat.reduceSub, Nat.reduceAdd, Nat.reduceMul, Nat.reduceLT, Nat.reduceLeDiff, Int.reduceLE, Int.reduceLT, Int.reduceEq, Int.reduceNeg, Int.reduceToNat, Int.reduceMul, Int.reduceAdd, Int.reduceSub, Int.reduceBEq, Int.reduceBNe, reduceCtorEq, RD]) ?_
        try simp only [RN, reduceIte]
        try refine T_e rfl ?_
        refine T_rseq fun Kr hKr => ?_
        simp (disch := omega) only [RA, ↓reduceIte, Nat.reduceEqDiff, Nat.reduceBEq, Nat.reduceSub, Nat.reduceAdd, Nat.reduceMul, Nat.reduceLT, Nat.reduceLeDiff, Int.reduceLE, Int.reduceLT, Int.reduceEq, Int.reduceNeg, Int.reduceToNat, Int.reduceMul, Int.reduceAdd, Int.reduceSub, Int.reduceBEq, Int.reduceBNe, reduceCtorEq, RD, R4]
        refine hKr _ _ ?_
        clear hKr Kr
        try simp only [RN, reduceIte]
        try refine T_e rfl ?_
        refine bodyQ_ret (by simp (disch := omega) only [RA, ↓reduceIte, Nat.reduceEqDiff, Nat.reduceBEq, Nat.reduceSub, Nat.reduceAdd, Nat.reduceMul, Nat.reduceLT, Nat.reduceLeDiff, Int.reduceLE, Int.reduceLT, Int.reduceEq, Int.reduceNeg, Int.reduceToNat, Int.reduceMul, Int.reduceAdd, Int.reduceSub, Int.reduceBEq, Int.reduceBNe, reduceCtorEq, RD, resAll, resOf, R4]; rfl) GhV.refl ?_
        simp only [tup]
        exact ⟨NN_agg NNL_4, hK⟩
      · rw [decide_eq_true e1, decide_eq_true e2, decide_eq_false e3] at hK
        have hK' : K (FV4 (p + 1) c) H := by simpa using hK
        refine T_cseq (t := true) (by simp (disch := omega) only [RA, ↓reduceIte, Nat.reduceEqDiff, Nat.reduceBEq, Nat.reduceSub, Nat.reduceAdd, Nat.reduceMul, Nat.reduceLT, Nat.reduceLeDiff, Int.reduceLE, Int.reduceLT, Int.reduceEq, Int.reduceNeg, Int.reduceToNat, Int.reduceMul, Int.reduceAdd, Int.reduceSub, Int.reduceBEq, Int.reduceBNe, reduceCtorEq, RD, decide_eq_false e3]) ?_
        try simp only [RN, reduceIte]
        try refine T_e rfl ?_
        refine T_rseq fun Kr hKr => ?_
        simp (disch := omega) only [RA, ↓reduceIte, Nat.reduceEqDiff, Nat.reduceBEq, Nat.reduceSub, Nat.reduceAdd, Nat.reduceMul, Nat.reduceLT, Nat.reduceLeDiff, Int.reduceLE, Int.reduceLT, Int.reduceEq, Int.reduceNeg, Int.reduceToNat, Int.reduceMul, Int.reduceAdd, Int.reduceSub, Int.reduceBEq, Int.reduceBNe, reduceCtorEq, RD, R4]
        refine hKr _ _ ?_
        clear hKr Kr
        try simp only [RN, reduceIte]
        try refine T_e rfl ?_
        refine bodyQ_ret (by simp (disch := omega) only [RA, ↓reduceIte, Nat.reduceEqDiff, Nat.reduceBEq, Nat.reduceSub, Nat.reduceAdd, Nat.reduceMul, Nat.reduceLT, Nat.reduceLeDiff, Int.reduceLE, Int.reduceLT, Int.reduceEq, Int.reduceNeg, Int.reduceToNat, Int.reduceMul, Int.reduceAdd, Int.reduceSub, Int.reduceBEq, Int.reduceBNe, reduceCtorEq, RD, resAll, resOf, R4]; rfl) GhV.refl ?_
        simp only [tup]
        exact ⟨NN_agg NNL_4, hK'⟩
    · rw [decide_eq_true e1, decide_eq_false e2] at hK
      have hK' : K (FV4 p c) H := by simpa using hK
      refine T_cseq (t := true) (by simp (disch := omega) only [RA, ↓reduceIte, Nat.reduceEqDiff, Nat.reduceBEq, Nat.reduceSub, Nat.reduceAdd, Nat.reduceMul, Nat.reduceLT, Nat.reduceLeDiff, Int.reduceLE, Int.reduceLT, Int.reduceEq, Int.reduceNeg, Int.reduceToNat, Int.reduceMul, Int.reduceAdd, Int.reduceSub, Int.reduceBEq, Int.reduceBNe, reduceCtorEq, RD, decide_eq_false e2]) ?_
      try simp only [RN, reduceIte]
      try refine T_e rfl ?_
      refine T_rseq fun Kr hKr => ?_
      simp (disch := omega) only [RA, ↓reduceIte, Nat.reduceEqDiff, Nat.reduceBEq, Nat.reduceSub, Nat.reduceAdd, Nat.reduceMul, Nat.reduceLT, Nat.reduceLeDiff, Int.reduceLE, Int.reduceLT, Int.reduceEq, Int.reduceNeg, Int.reduceToNat, Int.reduceMul, Int.reduceAdd, Int.reduceSub, Int.reduceBEq, Int.reduceBNe, reduceCtorEq, RD, R4]
      refine hKr _ _ ?_
      clear hKr Kr
      try simp only [RN, reduceIte]
      try refine T_e rfl ?_
      refine bodyQ_ret (by simp (disch := omega) only [RA, ↓reduceIte, Nat.reduceEqDiff, Nat.reduceBEq, Nat.reduceSub, Nat.reduceAdd, Nat.reduceMul, Nat.reduceLT, Nat.reduceLeDiff, Int.reduceLE, Int.reduceLT, Int.reduceEq, Int.reduceNeg, Int.reduceToNat, Int.reduceMul, Int.reduceAdd, Int.reduceSub, Int.reduceBEq, Int.reduceBNe, reduceCtorEq, RD, resAll, resOf, R4]; rfl) GhV.refl ?_
      simp only [tup]
      exact ⟨NN_agg NNL_4, hK'⟩
  · rw [decide_eq_false e1] at hK
    have hK' : K (FV4 p c) H := by simpa using hK
    refine T_cseq (t := true) (by simp (disch := omega) only [RA, ↓reduceIte, Nat.reduceEqDiff, Nat.reduceBEq, Nat.reduceSub, Nat.reduceAdd, Nat.reduceMul, Nat.reduceLT, Nat.reduceLeDiff, Int.reduceLE, Int.reduceLT, Int.reduceEq, Int.reduceNeg, Int.reduceToNat, Int.reduceMul, Int.reduceAdd, Int.reduceSub, Int.reduceBEq, Int.reduceBNe, reduceCtorEq, RD, decide_eq_false e1]) ?_
    try simp only [RN, reduceIte]
    try refine T_e rfl ?_
    refine T_rseq fun Kr hKr => ?_
    simp (disch := omega) only [RA, ↓reduceIte, Nat.reduceEqDiff, Nat.reduceBEq, Nat.reduceSub, Nat.reduceAdd, Nat.reduceMul, Nat.reduceLT, Nat.reduceLeDiff, Int.reduceLE, Int.reduceLT, Int.reduceEq, Int.reduceNeg, Int.reduceToNat, Int.reduceMul, Int.reduceAdd, Int.reduceSub, Int.reduceBEq, Int.reduceBNe, reduceCtorEq, RD, R4]
    refine hKr _ _ ?_
    clear hKr Kr
    try simp only [RN, reduceIte]
    try refine T_e rfl ?_
    refine bodyQ_ret (by simp (disch := omega) only [RA, ↓reduceIte, Nat.reduceEqDiff, Nat.reduceBEq, Nat.reduceSub, Nat.reduceAdd, Nat.reduceMul, Nat.reduceLT, Nat.reduceLeDiff, Int.reduceLE, Int.reduceLT, Int.reduceEq, Int.reduceNeg, Int.reduceToNat, Int.reduceMul, Int.reduceAdd, Int.reduceSub, Int.reduceBEq, Int.reduceBNe, reduceCtorEq, RD, resAll, resOf, R4]; rfl) GhV.refl ?_
    simp only [tup]
    exact ⟨NN_agg NNL_4, hK'⟩
/-- So many permutations are named. -/
def fcN : Nat → Nat
  | 0 => 1
  | m + 1 => (m + 1) * fcN m
theorem sw_len {n : Nat} : ∀ (m : Nat) {p : List Nat} {k : Nat}, (sw n m p k).length = fcN m
  | 0, p, k => rfl
  | m + 1, p, k => by
    have key : ∀ l : List Nat, (l.flatMap fun d => sw n m (swN p k (k + d)) (k + 1)).length = l.length * fcN m := by
      intro l
      induction l with
      | nil => simp
      | cons d l ih => rw [List.flatMap_cons, List.length_append, ih, sw_len m, List.length_cons, Nat.add_mul]; omega
    rw [sw, key, List.length_range, fcN]
theorem l04Search_spec {t1 t2 : List Int} (hb : By 16 black) (hbp : Perm black n) (h3 : xss.length = 3) (hll : ∀ xs ∈ xss, xs.length ≤ 1048576) (e1 : at3 xss 1 = t1) (e2 : at3 xss 2 = t2) :
    ∀ (m : Nat) {p : List Nat} {k : Nat} {a0 c0 : Nat} {x : Bool} {H : BH} {K : Value → BH → Prop}, PQ n p → k + m = n → a0 + fcN m ≤ 900000000 → c0 + fcN m ≤ 900000000 →
      K (FV4 ((a0 + (sw n m p k).countP (prB t1 t2 black n) : Nat) : Int) ((c0 + (sw n m p k).countP (coB t1 t2 black n) : Nat) : Int)) H →
      CallX x F_spec_l04Search [FV4 (a0 : Int) (c0 : Int), PL black, PL p, I k, I n, FII xss] H K := by
  intro m
  induction m with
  | zero =>
    intro p k a0 c0 x H K hp hk hP hC hK
    obtain rfl : k = n := by omega
    have hwb : By 16 p := ⟨hp.2, fun i => by have := hp.1.lt16 hp.2 i; omega⟩
    have hlw := hwb.len
    have hlb := hb.len
    subst e1; subst e2
    have hK' : K (FV4 ((a0 : Int) + if prB (at3 xss 1) (at3 xss 2) black k p then 1 else 0) ((c0 : Int) + if coB (at3 xss 1) (at3 xss 2) black k p then 1 else 0)) H := by
      simp only [sw, List.countP_singleton] at hK
      by_cases h1 : prB (at3 xss 1) (at3 xss 2) black k p = true <;> by_cases h2 : coB (at3 xss 1) (at3 xss 2) black k p = true <;> simpa [h1, h2] using hK
    simp only [fcN] at hP hC
    refine callP (.cons (NN_agg NNL_4) (.cons (NN_agg NNL_F8) (.cons (NN_agg NNL_F8) (.cons .int (.cons .int (.cons .fz .nil)))))) ?_
    refine CallX_body Γ_spec_l04Search ?_
    simp only [A_spec_l04Search, T_aiff]
    refine T_rseq fun Kr hKr => ?_
    simp (disch := omega) only [RA, ↓reduceIte, Nat.reduceEqDiff, Nat.reduceBEq, Nat.reduceSub, Nat.reduceAdd, Nat.reduceMul, Nat.reduceLT, Nat.reduceLeDiff, Int.reduceLE, Int.reduceLT, Int.reduceEq, Int.reduceNeg, Int.reduceToNat, Int.reduceMul, Int.reduceAdd, Int.reduceSub, Int.reduceBEq, Int.reduceBNe, reduceCtorEq, RD]
    refine hKr _ _ ?_
    clear hKr Kr
    try simp only [RN, reduceIte]
    try refine T_e rfl ?_
    refine T_rseq fun Kr hKr => ?_
    simp (disch := omega) only [RA, ↓reduceIte, Nat.reduceEqDiff, Nat.reduceBEq, Nat.reduceSub, Nat.reduceAdd, Nat.reduceMul, Nat.reduceLT, Nat.reduceLeDiff, Int.reduceLE, Int.reduceLT, Int.reduceEq, Int.reduceNeg, Int.reduceToNat, Int.reduceMul, Int.reduceAdd, Int.reduceSub, Int.reduceBEq, Int.reduceBNe, reduceCtorEq, RD, R4]
    refine hKr _ _ ?_
    clear hKr Kr
    try simp only [RN, reduceIte]
    try refine T_e rfl ?_
    refine T_cseq (t := true) (by simp (disch := omega) only [RA, ↓reduceIte, Nat.reduceEqDiff, Nat.reduceBEq, Nat.reduceSub, Nat.reduceAdd, Nat.reduceMul, Nat.reduceLT, Nat.reduceLeDiff, Int.reduceLE, Int.reduceLT, Int.reduceEq, Int.reduceNeg, Int.reduceToNat, Int.reduceMul, Int.reduceAdd, Int.reduceSub, Int.reduceBEq, Int.reduceBNe, reduceCtorEq, RD]) ?_
    try simp only [RN, reduceIte]
    try refine T_e rfl ?_
    refine T_rseq fun Kr hKr => ?_
    simp (disch := omega) only [RA, ↓reduceIte, Nat.reduceEqDiff, Nat.reduceBEq, Nat.reduceSub, Nat.reduceAdd, Nat.reduceMul, Nat.reduceLT, Nat.reduceLeDiff, Int.reduceLE, Int.reduceLT, Int.reduceEq, Int.reduceNeg, Int.reduceToNat, Int.reduceMul, Int.reduceAdd, Int.reduceSub, Int.reduceBEq, Int.reduceBNe, reduceCtorEq, RD, R4, hlb, hlw]
    refine l04Meet_spec hb hbp hwb hp.1 h3 hll (by omega) (by omega) ?_
    simp (disch := omega) only [RA, ↓reduceIte, Nat.reduceEqDiff, Nat.reduceBEq, Nat.reduceSub, Nat.reduceAdd, Nat.reduceMul, Nat.reduceLT, Nat.reduceLeDiff, Int.reduceLE, Int.reduceLT, Int.reduceEq, Int.reduceNeg, Int.reduceToNat, Int.reduceMul, Int.reduceAdd, Int.reduceSub, Int.reduceBEq, Int.reduceBNe, reduceCtorEq, RD, R4]
    refine hKr _ _ ?_
    clear hKr Kr
    try simp only [blkQ, thenQ, loopQ]
    try simp only [RN, reduceIte]
    try refine T_e rfl ?_
    refine bodyQ_ret (by simp (disch := omega) only [RA, ↓reduceIte, Nat.reduceEqDiff, Nat.reduceBEq, Nat.reduceSub, Nat.reduceAdd, Nat.reduceMul, Nat.reduceLT, Nat.reduceLeDiff, Int.reduceLE, Int.reduceLT, Int.reduceEq, Int.reduceNeg, Int.reduceToNat, Int.reduceMul, Int.reduceAdd, Int.reduceSub, Int.reduceBEq, Int.reduceBNe, reduceCtorEq, RD, resAll, resOf, R4]; rfl) GhV.refl ?_
    simp only [tup]
    exact ⟨NN_agg NNL_4, hK'⟩
  | succ m ih =>
    intro p k a0 c0 x H K hp hk hP hC hK
    have hlp := hp.2
    have hlb := hb.len
    have hn := hp.1.1
    have hwb : By 16 p := ⟨hp.2, fun i => by have := hp.1.lt16 hp.2 i; omega⟩
    have hfc : fcN (m + 1) = (m + 1) * fcN m := rfl
    obtain ⟨g, hg⟩ : ∃ g : Nat → List (List Nat), g = fun d => sw n m (swN p k (k + d)) (k + 1) := ⟨_, rfl⟩
    obtain ⟨A, hA⟩ : ∃ A : Nat → Nat, A = fun d => a0 + ((List.range d).flatMap g).countP (prB t1 t2 black n) := ⟨_, rfl⟩
    obtain ⟨B, hB⟩ : ∃ B : Nat → Nat, B = fun d => c0 + ((List.range d).flatMap g).countP (coB t1 t2 black n) := ⟨_, rfl⟩
    have hAs : ∀ d, A (d + 1) = A d + (g d).countP (prB t1 t2 black n) := fun d => by
      rw [hA]
      simp only [List.range_succ, List.flatMap_append, List.countP_append, List.flatMap_cons, List.flatMap_nil, List.append_nil]
      omega
    have hBs : ∀ d, B (d + 1) = B d + (g d).countP (coB t1 t2 black n) := fun d => by
      rw [hB]
      simp only [List.range_succ, List.flatMap_append, List.countP_append, List.flatMap_cons, List.flatMap_nil, List.append_nil]
      omega
    have hgl : ∀ d, (g d).length = fcN m := fun d => by rw [hg]; exact sw_len m
    have hAb : ∀ d, A d ≤ a0 + d * fcN m ∧ B d ≤ c0 + d * fcN m := by
      intro d
      induction d with
      | zero => rw [hA, hB]; simp
      | succ d ih =>
        have q1 := List.countP_le_length (p := prB t1 t2 black n) (l := g d)
        have q2 := List.countP_le_length (p := coB t1 t2 black n) (l := g d)
        rw [hgl] at q1 q2
        rw [hAs, hBs, Nat.add_mul]
        omega
    have hend : sw n (m + 1) p k = (List.range (m + 1)).flatMap g := by rw [hg]; rfl
    have hA0 : A 0 = a0 := by rw [hA]; rfl
    have hB0 : B 0 = c0 := by rw [hB]; rfl
    have hKe : K (FV4 (A (m + 1) : Nat) (B (m + 1) : Nat)) H := by rw [hA, hB]; rw [hend] at hK; exact hK
    refine callP (.cons (NN_agg NNL_4) (.cons (NN_agg NNL_F8) (.cons (NN_agg NNL_F8) (.cons .int (.cons .int (.cons .fz .nil)))))) ?_
    refine CallX_body Γ_spec_l04Search ?_
    simp only [A_spec_l04Search, T_aiff]
    refine T_rseq fun Kr hKr => ?_
    simp (disch := omega) only [RA, ↓reduceIte, Nat.reduceEqDiff, Nat.reduceBEq, Nat.reduceSub, Nat.reduceAdd, Nat.reduceMul, Nat.reduceLT, Nat.reduceLeDiff, Int.reduceLE, Int.reduceLT, Int.reduceEq, Int.reduceNeg, Int.reduceToNat, Int.reduceMul, Int.reduceAdd, Int.reduceSub, Int.reduceBEq, Int.reduceBNe, reduceCtorEq, RD]
    refine hKr _ _ ?_
    clear hKr Kr
    try simp only [RN, reduceIte]
    try refine T_e rfl ?_
    refine T_rseq fun Kr hKr => ?_
    simp (disch := omega) only [RA, ↓reduceIte, Nat.reduceEqDiff, Nat.reduceBEq, Nat.reduceSub, Nat.reduceAdd, Nat.reduceMul, Nat.reduceLT, Nat.reduceLeDiff, Int.reduceLE, Int.reduceLT, Int.reduceEq, Int.reduceNeg, Int.reduceToNat, Int.reduceMul, Int.reduceAdd, Int.reduceSub, Int.reduceBEq, Int.reduceBNe, reduceCtorEq, RD, R4]
    refine hKr _ _ ?_
    clear hKr Kr
    try simp only [RN, reduceIte]
    try refine T_e rfl ?_
    refine T_cseq (t := false) (by simp (disch := omega) only [RA, ↓reduceIte, Nat.reduceEqDiff, Nat.reduceBEq, Nat.reduceSub, Nat.reduceAdd, Nat.reduceMul, Nat.reduceLT, Nat.reduceLeDiff, Int.reduceLE, Int.reduceLT, Int.reduceEq, Int.reduceNeg, Int.reduceToNat, Int.reduceMul, Int.reduceAdd, Int.reduceSub, Int.reduceBEq, Int.reduceBNe, reduceCtorEq, RD]) ?_
    try simp only [RN, reduceIte]
    try refine T_e rfl ?_
    refine T_rseq fun Kr hKr => ?_
    simp (disch := omega) only [RA, ↓reduceIte, Nat.reduceEqDiff, Nat.reduceBEq, Nat.reduceSub, Nat.reduceAdd, Nat.reduceMul, Nat.reduceLT, Nat.reduceLeDiff, Int.reduceLE, Int.reduceLT, Int.reduceEq, Int.reduceNeg, Int.reduceToNat, Int.reduceMul, Int.reduceAdd, Int.reduceSub, Int.reduceBEq, Int.reduceBNe, reduceCtorEq, RD]
    refine hKr _ _ ?_
    clear hKr Kr
    try simp only [RN, reduceIte]
    try refine T_e rfl ?_
    refine T_wloop (fun mm f H' => ∃ d, d ≤ m + 1 ∧ mm = m + 1 - d ∧ f 3 = I k ∧ f 4 = I n ∧ f 5 = FII xss ∧ f 6 = P 0 0 ∧ f 7 = P 1 0 ∧ f 8 = P 2 0 ∧ f 12 = P 3 0 ∧ f 13 = I ((k + d : Nat) : Int) ∧ H' = [some (FC4 (A d) (B d)), some (black.map N8), some (p.map N8), some (FC4 0 0)]) (m + 1) ?_ ?_
    · refine ⟨_, _, Gh.refl, 0, by omega, by omega, ?_, ?_, ?_, ?_, ?_, ?_, ?_, ?_, by rw [hA0, hB0]⟩
      all_goals (simp (disch := omega) only [RA, ↓reduceIte, Nat.reduceEqDiff, Nat.reduceBEq, Nat.reduceSub, Nat.reduceAdd, Nat.reduceMul, Nat.reduceLT, Nat.reduceLeDiff, Int.reduceLE, Int.reduceLT, Int.reduceEq, Int.reduceNeg, Int.reduceToNat, Int.reduceMul, Int.reduceAdd, Int.reduceSub, Int.reduceBEq, Int.reduceBNe, reduceCtorEq, R4, RD, RE, *] <;> rfl)
    · rintro mm f H' R ⟨d, hd, rfl, g3, g4, g5, g6, g7, g8, g12, g13, rfl⟩ hN hX hR hE
      simp only [A_spec_l04Search.l0, T_aiff]
      refine T_rseq fun Kr hKr => ?_
      simp (disch := omega) only [RA, ↓reduceIte, Nat.reduceEqDiff, Nat.reduceBEq, Nat.reduceSub, Nat.reduceAdd, Nat.reduceMul, Nat.reduceLT, Nat.reduceLeDiff, Int.reduceLE, Int.reduceLT, Int.reduceEq, Int.reduceNeg, Int.reduceToNat, Int.reduceMul, Int.reduceAdd, Int.reduceSub, Int.reduceBEq, Int.reduceBNe, reduceCtorEq, RD, g4, g13]
      refine hKr _ _ ?_
      clear hKr Kr
      try simp only [RN, reduceIte]
      try refine T_e rfl ?_
      refine T_csplit (p := k + d < n) (by simp only [RA, ↓reduceIte, Nat.reduceEqDiff, Nat.reduceBEq, Nat.reduceSub, Nat.reduceAdd, Nat.reduceMul, Nat.reduceLT, Nat.reduceLeDiff, Int.reduceLE, Int.reduceLT, Int.reduceEq, Int.reduceNeg, Int.reduceToNat, Int.reduceMul, Int.reduceAdd, Int.reduceSub, Int.reduceBEq, Int.reduceBNe, reduceCtorEq] <;> rfl) (by (try simp only [RB]) <;> first | done | exact Iff.rfl | omega | simp) (fun hc => ?_) (fun hc => ?_) <;> (try simp only [RN, reduceIte]) <;> (try refine T_e rfl ?_)
      · have hdm : d < m + 1 := by omega
        have hb1 := hAb d
        have hmul : d * fcN m + fcN m ≤ (m + 1) * fcN m := by
          have : (d + 1) * fcN m ≤ (m + 1) * fcN m := Nat.mul_le_mul_right _ (by omega)
          rwa [Nat.add_mul, Nat.one_mul] at this
        have hsq : PQ n (swN p k (k + d)) := swN_pq hp (by omega) (by omega)
        have hsl := hsq.2
        have hsd : swN p k (k + d) = (p.set k (nl p (k + d))).set (k + d) (nl p k) := rfl
        have hl1 : (p.set k (nl p (k + d))).length = 16 := by rw [List.length_set, hlp]
        have hw1 := hwb.lt (k + d)
        have hw2 := hwb.lt k
        have a1 : ((k : Nat) : Int) + 1 = ((k + 1 : Nat) : Int) := by omega
        have a2 : ((k + d : Nat) : Int) + 1 = ((k + (d + 1) : Nat) : Int) := by omega
        rw [hfc] at hP hC
        first | refine T_bfree rfl ?_ | refine T_bfree' rfl ?_
        try simp only [RN, reduceIte]
        try refine T_e rfl ?_
        refine T_rseq fun Kr hKr => ?_
        simp (disch := omega) only [RA, ↓reduceIte, Nat.reduceEqDiff, Nat.reduceBEq, Nat.reduceSub, Nat.reduceAdd, Nat.reduceMul, Nat.reduceLT, Nat.reduceLeDiff, Int.reduceLE, Int.reduceLT, Int.reduceEq, Int.reduceNeg, Int.reduceToNat, Int.reduceMul, Int.reduceAdd, Int.reduceSub, Int.reduceBEq, Int.reduceBNe, reduceCtorEq, RD, g8, hlp]
        refine hKr _ _ ?_
        clear hKr Kr
        try simp only [RN, reduceIte]
        try refine T_e rfl ?_
        refine T_rseq fun Kr hKr => ?_
        simp (disch := omega) only [RA, ↓reduceIte, Nat.reduceEqDiff, Nat.reduceBEq, Nat.reduceSub, Nat.reduceAdd, Nat.reduceMul, Nat.reduceLT, Nat.reduceLeDiff, Int.reduceLE, Int.reduceLT, Int.reduceEq, Int.reduceNeg, Int.reduceToNat, Int.reduceMul, Int.reduceAdd, Int.reduceSub, Int.reduceBEq, Int.reduceBNe, reduceCtorEq, RD, g3, g8, g13, hlp]
        refine hKr _ _ ?_
        clear hKr Kr
        try simp only [RN, reduceIte]
        try refine T_e rfl ?_
        refine T_rseq fun Kr hKr => ?_
        simp (disch := omega) only [RA, ↓reduceIte, Nat.reduceEqDiff, Nat.reduceBEq, Nat.reduceSub, Nat.reduceAdd, Nat.reduceMul, Nat.reduceLT, Nat.reduceLeDiff, Int.reduceLE, Int.reduceLT, Int.reduceEq, Int.reduceNeg, Int.reduceToNat, Int.reduceMul, Int.reduceAdd, Int.reduceSub, Int.reduceBEq, Int.reduceBNe, reduceCtorEq, RD, g3, g8, g13, hlp, hl1]
        refine hKr _ _ ?_
        clear hKr Kr
        try simp only [RN, reduceIte]
        try refine T_e rfl ?_
        rw [← hsd]
        refine T_rseq fun Kr hKr => ?_
        simp (disch := omega) only [RA, ↓reduceIte, Nat.reduceEqDiff, Nat.reduceBEq, Nat.reduceSub, Nat.reduceAdd, Nat.reduceMul, Nat.reduceLT, Nat.reduceLeDiff, Int.reduceLE, Int.reduceLT, Int.reduceEq, Int.reduceNeg, Int.reduceToNat, Int.reduceMul, Int.reduceAdd, Int.reduceSub, Int.reduceBEq, Int.reduceBNe, reduceCtorEq, RD, g3, g4, g5, g6, g7, R4, hlb, hsl, a1]
        refine ih hsq (by omega) (by omega) (by omega) ?_
        have ga : A d + List.countP (prB t1 t2 black n) (sw n m (swN p k (k + d)) (k + 1)) = A (d + 1) := by rw [hAs, hg]
        have gb : B d + List.countP (coB t1 t2 black n) (sw n m (swN p k (k + d)) (k + 1)) = B (d + 1) := by rw [hBs, hg]
        rw [ga, gb]
        simp (disch := omega) only [RA, ↓reduceIte, Nat.reduceEqDiff, Nat.reduceBEq, Nat.reduceSub, Nat.reduceAdd, Nat.reduceMul, Nat.reduceLT, Nat.reduceLeDiff, Int.reduceLE, Int.reduceLT, Int.reduceEq, Int.reduceNeg, Int.reduceToNat, Int.reduceMul, Int.reduceAdd, Int.reduceSub, Int.reduceBEq, Int.reduceBNe, reduceCtorEq, RD, g6, R4]
        refine hKr _ _ ?_
        clear hKr Kr
        try simp only [blkQ, thenQ, loopQ]
        try simp only [RN, reduceIte]
        try refine T_e rfl ?_
        refine T_reg_k fun Kr hKr => ?_
        simp (disch := omega) only [RA, ↓reduceIte, Nat.reduceEqDiff, Nat.reduceBEq, Nat.reduceSub, Nat.reduceAdd, Nat.reduceMul, Nat.reduceLT, Nat.reduceLeDiff, Int.reduceLE, Int.reduceLT, Int.reduceEq, Int.reduceNeg, Int.reduceToNat, Int.reduceMul, Int.reduceAdd, Int.reduceSub, Int.reduceBEq, Int.reduceBNe, reduceCtorEq, RD, g13, a2]
        refine hKr _ _ ?_
        clear hKr Kr
        refine hN (m + 1 - (d + 1)) _ _ _ _ (by omega) (Gh.nrm [0, 1, 2, 3] rfl rfl (by simp only [RH])) ⟨d + 1, by omega, rfl, ?_, ?_, ?_, ?_, ?_, ?_, ?_, ?_, rfl⟩
        any_goals (simp (disch := omega) only [RA, ↓reduceIte, Nat.reduceEqDiff, Nat.reduceBEq, Nat.reduceSub, Nat.reduceAdd, Nat.reduceMul, Nat.reduceLT, Nat.reduceLeDiff, Int.reduceLE, Int.reduceLT, Int.reduceEq, Int.reduceNeg, Int.reduceToNat, Int.reduceMul, Int.reduceAdd, Int.reduceSub, Int.reduceBEq, Int.reduceBNe, reduceCtorEq, RD, RE, *] <;> rfl)
      · refine hX _ _ ?_
        obtain rfl : d = m + 1 := by omega
        refine T_rseq fun Kr hKr => ?_
        simp (disch := omega) only [RA, ↓reduceIte, Nat.reduceEqDiff, Nat.reduceBEq, Nat.reduceSub, Nat.reduceAdd, Nat.reduceMul, Nat.reduceLT, Nat.reduceLeDiff, Int.reduceLE, Int.reduceLT, Int.reduceEq, Int.reduceNeg, Int.reduceToNat, Int.reduceMul, Int.reduceAdd, Int.reduceSub, Int.reduceBEq, Int.reduceBNe, reduceCtorEq, RD, g6, g12, R4]
        refine hKr _ _ ?_
        clear hKr Kr
        try simp only [RN, reduceIte]
        try refine T_e rfl ?_
        refine bodyQ_ret (by simp (disch := omega) only [RA, ↓reduceIte, Nat.reduceEqDiff, Nat.reduceBEq, Nat.reduceSub, Nat.reduceAdd, Nat.reduceMul, Nat.reduceLT, Nat.reduceLeDiff, Int.reduceLE, Int.reduceLT, Int.reduceEq, Int.reduceNeg, Int.reduceToNat, Int.reduceMul, Int.reduceAdd, Int.reduceSub, Int.reduceBEq, Int.reduceBNe, reduceCtorEq, RD, resAll, resOf, g12, R4]; rfl) GhV.refl ?_
        simp only [tup]
        exact ⟨NN_agg NNL_4, hKe⟩
end
end Go.Bm

/- The reference's numbers of pairs. -/
set_option linter.unusedVariables false
set_option linter.unusedSimpArgs false
set_option linter.unusedSectionVars false
namespace Go.Bm
open Go Go.Am

def nP (xss : List (List Int)) : Nat := (sumI (at3 xss 0)).toNat
def prX (con : Bool) (xss : List (List Int)) : List Nat → Bool := if con then coB (at3 xss 1) (at3 xss 2) (std (at3 xss 0)) (nP xss) else prB (at3 xss 1) (at3 xss 2) (std (at3 xss 0)) (nP xss)
def numP (con : Bool) (xss : List (List Int)) : Nat := (sw (nP xss) (nP xss) (idK (nP xss)) 0).countP (prX con xss)
def shareP (xss : List (List Int)) : Int := (facI (nP xss)).tdiv (cenI (at3 xss 0))
def resP (con : Bool) (xss : List (List Int)) : Int × Int := if PassP xss then if nP xss ≤ 8 then ((numP con xss : Int) * shareP xss, 0) else (0, 2) else (0, 1)
theorem fcN_mono {m : Nat} : ∀ {n : Nat}, m ≤ n → fcN m ≤ fcN n
  | 0, h => by
    obtain rfl : m = 0 := by omega
    exact Nat.le_refl _
  | n + 1, h => by
    by_cases e : m = n + 1
    · rw [e]; exact Nat.le_refl _
    · have ih := fcN_mono (m := m) (n := n) (by omega)
      have : 1 * fcN n ≤ (n + 1) * fcN n := Nat.mul_le_mul_right _ (by omega)
      rw [fcN]
      omega
section
variable {xss : List (List Int)} (hp : PassP xss)
include hp
theorem nP_cast : sumI (at3 xss 0) = (nP xss : Int) ∧ 1 ≤ nP xss ∧ nP xss ≤ 16 := by
  have t0 := (hp.2 0 (by omega)).1
  have h1 := t0.pos
  have h2 := t0.2.2
  unfold nP
  omega
theorem std_P : Perm (std (at3 xss 0)) (nP xss) ∧ By 16 (std (at3 xss 0)) := by
  have h := std_pq (hp.2 0 (by omega)).1 (nP_cast hp).1
  exact ⟨h.1, h.2.1⟩
theorem numP_le (h8 : nP xss ≤ 8) (con : Bool) : numP con xss ≤ 40320 := by
  have h1 := List.countP_le_length (p := prX con xss) (l := sw (nP xss) (nP xss) (idK (nP xss)) 0)
  rw [sw_len] at h1
  have h2 := fcN_mono h8
  have h3 : fcN 8 = 40320 := rfl
  unfold numP
  omega
theorem share_le (h8 : nP xss ≤ 8) : 0 ≤ shareP xss ∧ shareP xss ≤ 40320 := by
  have h1 := facI_pos (nP xss)
  have h2 := facI_mono h8
  have h3 : facI 8 = 40320 := rfl
  have h4 := cenI_pos (hp.2 0 (by omega)).1
  unfold shareP
  refine ⟨Int.tdiv_nonneg (by omega) (by omega), ?_⟩
  rw [Int.tdiv_eq_ediv_of_nonneg (by omega)]
  exact Int.le_trans (Int.ediv_le_self _ (by omega)) (by omega)
theorem prod_le (h8 : nP xss ≤ 8) (con : Bool) : 0 ≤ (numP con xss : Int) * shareP xss ∧ (numP con xss : Int) * shareP xss ≤ 1625702400 := by
  have h1 := numP_le hp h8 con
  have h2 := share_le hp h8
  refine ⟨Int.mul_nonneg (by omega) h2.1, ?_⟩
  have : (numP con xss : Int) * shareP xss ≤ 40320 * 40320 := Int.mul_le_mul (by omega) h2.2 h2.1 (by omega)
  omega
end
section
variable {xss : List (List Int)} {H : BH} {K : Value → BH → Prop} {x : Bool}
theorem l04Code_spec (hl : xss.length ≤ 1048576) (hll : ∀ xs ∈ xss, xs.length ≤ 1048576) (hK : K (I (if PassP xss then if nP xss ≤ 8 then 0 else 2 else 1)) H) : CallX x F_spec_l04Code [FII xss] H K := by
  refine callP (.cons .fz .nil) ?_
  refine CallX_body Γ_spec_l04Code ?_
  simp only [A_spec_l04Code, T_aiff]
  refine T_rseq fun Kr hKr => ?_
  simp (disch := omega) only [RA, ↓reduceIte, Nat.reduceEqDiff, Nat.reduceBEq, Nat.reduceSub, Nat.reduceAdd, Nat.reduceMul, Nat.reduceLT, Nat.reduceLeDiff, Int.reduceLE, Int.reduceLT, Int.reduceEq, Int.reduceNeg, Int.reduceToNat, Int.reduceMul, Int.reduceAdd, Int.reduceSub, Int.reduceBEq, Int.reduceBNe, reduceCtorEq, RD]
  refine hKr _ _ ?_
  clear hKr Kr
  try simp only [RN, reduceIte]
  try refine T_e rfl ?_
  first | refine T_bfree rfl ?_ | refine T_bfree' rfl ?_
  try simp only [RN, reduceIte]
  try refine T_e rfl ?_
  refine T_rseq fun Kr hKr => ?_
  simp (disch := omega) only [RA, ↓reduceIte, Nat.reduceEqDiff, Nat.reduceBEq, Nat.reduceSub, Nat.reduceAdd, Nat.reduceMul, Nat.reduceLT, Nat.reduceLeDiff, Int.reduceLE, Int.reduceLT, Int.reduceEq, Int.reduceNeg, Int.reduceToNat, Int.reduceMul, Int.reduceAdd, Int.reduceSub, Int.reduceBEq, Int.reduceBNe, reduceCtorEq, RD]
  refine l04Is_spec hl hll ?_
  simp (disch := omega) only [RA, ↓reduceIte, Nat.reduceEqDiff, Nat.reduceBEq, Nat.reduceSub, Nat.reduceAdd, Nat.reduceMul, Nat.reduceLT, Nat.reduceLeDiff, Int.reduceLE, Int.reduceLT, Int.reduceEq, Int.reduceNeg, Int.reduceToNat, Int.reduceMul, Int.reduceAdd, Int.reduceSub, Int.reduceBEq, Int.reduceBNe, reduceCtorEq, RD]
  refine hKr _ _ ?_
  clear hKr Kr
  try simp only [blkQ, thenQ, loopQ]
  try simp only [RN, reduceIte]
  try refine T_e rfl ?_
  by_cases hp : PassP xss
  · obtain ⟨e1, e2, e3⟩ := nP_cast hp
    have t0 := (hp.2 0 (by omega)).1
    have hg0 : getN none (xss.map FI) 0 = some (FI (at3 xss 0)) := getN_FI (by have := hp.1; omega)
    have h3 := hp.1
    rw [if_pos hp] at hK
    refine T_cseq (t := false) (by simp (disch := omega) only [RA, ↓reduceIte, Nat.reduceEqDiff, Nat.reduceBEq, Nat.reduceSub, Nat.reduceAdd, Nat.reduceMul, Nat.reduceLT, Nat.reduceLeDiff, Int.reduceLE, Int.reduceLT, Int.reduceEq, Int.reduceNeg, Int.reduceToNat, Int.reduceMul, Int.reduceAdd, Int.reduceSub, Int.reduceBEq, Int.reduceBNe, reduceCtorEq, RD, decide_eq_true hp]) ?_
    try simp only [RN, reduceIte]
    try refine T_e rfl ?_
    refine T_rseq fun Kr hKr => ?_
    simp (disch := omega) only [RA, ↓reduceIte, Nat.reduceEqDiff, Nat.reduceBEq, Nat.reduceSub, Nat.reduceAdd, Nat.reduceMul, Nat.reduceLT, Nat.reduceLeDiff, Int.reduceLE, Int.reduceLT, Int.reduceEq, Int.reduceNeg, Int.reduceToNat, Int.reduceMul, Int.reduceAdd, Int.reduceSub, Int.reduceBEq, Int.reduceBNe, reduceCtorEq, RD, hg0]
    refine l04Sum_spec t0.1.2 t0.2.1 ?_
    simp (disch := omega) only [RA, ↓reduceIte, Nat.reduceEqDiff, Nat.reduceBEq, Nat.reduceSub, Nat.reduceAdd, Nat.reduceMul, Nat.reduceLT, Nat.reduceLeDiff, Int.reduceLE, Int.reduceLT, Int.reduceEq, Int.reduceNeg, Int.reduceToNat, Int.reduceMul, Int.reduceAdd, Int.reduceSub, Int.reduceBEq, Int.reduceBNe, reduceCtorEq, RD, e1]
    refine hKr _ _ ?_
    clear hKr Kr
    try simp only [blkQ, thenQ, loopQ]
    try simp only [RN, reduceIte]
    try refine T_e rfl ?_
    by_cases h8 : nP xss ≤ 8
    · rw [if_pos h8] at hK
      have e : decide ((8 : Int) < (nP xss : Int)) = false := decide_eq_false (by omega)
      refine T_cseq (t := false) (by simp (disch := omega) only [RA, ↓reduceIte, Nat.reduceEqDiff, Nat.reduceBEq, Nat.reduceSub, Nat.reduceAdd, Nat.reduceMul, Nat.reduceLT, Nat.reduceLeDiff, Int.reduceLE, Int.reduceLT, Int.reduceEq, Int.reduceNeg, Int.reduceToNat, Int.reduceMul, Int.reduceAdd, Int.reduceSub, Int.reduceBEq, Int.reduceBNe, reduceCtorEq, RD, e]) ?_
      try simp only [RN, reduceIte]
      try refine T_e rfl ?_
      refine T_rseq fun Kr hKr => ?_
      simp (disch := omega) only [RA, ↓reduceIte, Nat.reduceEqDiff, Nat.reduceBEq, Nat.reduceSub, Nat.reduceAdd, Nat.reduceMul, Nat.reduceLT, Nat.reduceLeDiff, Int.reduceLE, Int.reduceLT, Int.reduceEq, Int.reduceNeg, Int.reduceToNat, Int.reduceMul, Int.reduceAdd, Int.reduceSub, Int.reduceBEq, Int.reduceBNe, reduceCtorEq, RD]
      refine hKr _ _ ?_
      clear hKr Kr
      try simp only [RN, reduceIte]
      try refine T_e rfl ?_
      refine bodyQ_ret (by simp (disch := omega) only [RA, ↓reduceIte, Nat.reduceEqDiff, Nat.reduceBEq, Nat.reduceSub, Nat.reduceAdd, Nat.reduceMul, Nat.reduceLT, Nat.reduceLeDiff, Int.reduceLE, Int.reduceLT, Int.reduceEq, Int.reduceNeg, Int.reduceToNat, Int.reduceMul, Int.reduceAdd, Int.reduceSub, Int.reduceBEq, Int.reduceBNe, reduceCtorEq, RD, resAll, resOf]; rfl) GhV.refl ?_
      simp only [tup]
      exact ⟨.int, hK⟩
    · rw [if_neg h8] at hK
      have e : decide ((8 : Int) < (nP xss : Int)) = true := decide_eq_true (by omega)
      refine T_cseq (t := true) (by simp (disch := omega) only [RA, ↓reduceIte, Nat.reduceEqDiff, Nat.reduceBEq, Nat.reduceSub, Nat.reduceAdd, Nat.reduceMul, Nat.reduceLT, Nat.reduceLeDiff, Int.reduceLE, Int.reduceLT, Int.reduceEq, Int.reduceNeg, Int.reduceToNat, Int.reduceMul, Int.reduceAdd, Int.reduceSub, Int.reduceBEq, Int.reduceBNe, reduceCtorEq, RD, e]) ?_
      try simp only [RN, reduceIte]
      try refine T_e rfl ?_
      refine T_rseq fun Kr hKr => ?_
      simp (disch := omega) only [RA, ↓reduceIte, Nat.reduceEqDiff, Nat.reduceBEq, Nat.reduceSub, Nat.reduceAdd, Nat.reduceMul, Nat.reduceLT, Nat.reduceLeDiff, Int.reduceLE, Int.reduceLT, Int.reduceEq, Int.reduceNeg, Int.reduceToNat, Int.reduceMul, Int.reduceAdd, Int.reduceSub, Int.reduceBEq, Int.reduceBNe, reduceCtorEq, RD]
      refine hKr _ _ ?_
      clear hKr Kr
      try simp only [RN, reduceIte]
      try refine T_e rfl ?_
      refine bodyQ_ret (by simp (disch := omega) only [RA, ↓reduceIte, Nat.reduceEqDiff, Nat.reduceBEq, Nat.reduceSub, Nat.reduceAdd, Nat.reduceMul, Nat.reduceLT, Nat.reduceLeDiff, Int.reduceLE, Int.reduceLT, Int.reduceEq, Int.reduceNeg, Int.reduceToNat, Int.reduceMul, Int.reduceAdd, Int.reduceSub, Int.reduceBEq, Int.reduceBNe, reduceCtorEq, RD, resAll, resOf]; rfl) GhV.refl ?_
      simp only [tup]
      exact ⟨.int, hK⟩
  · rw [if_neg hp] at hK
    refine T_cseq (t := true) (by simp (disch := omega) only [RA, ↓reduceIte, Nat.reduceEqDiff, Nat.reduceBEq, Nat.reduceSub, Nat.reduceAdd, Nat.reduceMul, Nat.reduceLT, Nat.reduceLeDiff, Int.reduceLE, Int.reduceLT, Int.reduceEq, Int.reduceNeg, Int.reduceToNat, Int.reduceMul, Int.reduceAdd, Int.reduceSub, Int.reduceBEq, Int.reduceBNe, reduceCtorEq, RD, decide_eq_false hp]) ?_
    try simp only [RN, reduceIte]
    try refine T_e rfl ?_
    refine T_rseq fun Kr hKr => ?_
    simp (disch := omega) only [RA, ↓reduceIte, Nat.reduceEqDiff, Nat.reduceBEq, Nat.reduceSub, Nat.reduceAdd, Nat.reduceMul, Nat.reduceLT, Nat.reduceLeDiff, Int.reduceLE, Int.reduceLT, Int.reduceEq, Int.reduceNeg, Int.reduceToNat, Int.reduceMul, Int.reduceAdd, Int.reduceSub, Int.reduceBEq, Int.reduceBNe, reduceCtorEq, RD]
    refine hKr _ _ ?_
    clear hKr Kr
    try simp only [RN, reduceIte]
    try refine T_e rfl ?_
    refine bodyQ_ret (by simp (disch := omega) only [RA, ↓reduceIte, Nat.reduceEqDiff, Nat.reduceBEq, Nat.reduceSub, Nat.reduceAdd, Nat.reduceMul, Nat.reduceLT, Nat.reduceLeDiff, Int.reduceLE, Int.reduceLT, Int.reduceEq, Int.reduceNeg, Int.reduceToNat, Int.reduceMul, Int.reduceAdd, Int.reduceSub, Int.reduceBEq, Int.reduceBNe, reduceCtorEq, RD, resAll, resOf]; rfl) GhV.refl ?_
    simp only [tup]
    exact ⟨.int, hK⟩
theorem l04Run_spec (hp : PassP xss) (h8 : nP xss ≤ 8) (hll : ∀ xs ∈ xss, xs.length ≤ 1048576) (hK : K (FV4 (numP false xss) (numP true xss)) H) : CallX x F_spec_l04Run [FII xss, .bool false] H K := by
  obtain ⟨e1, e2, e3⟩ := nP_cast hp
  obtain ⟨q1, q2⟩ := std_P hp
  have h3 := hp.1
  have t0 := (hp.2 0 (by omega)).1
  have hg0 : getN none (xss.map FI) 0 = some (FI (at3 xss 0)) := getN_FI (by omega)
  have hlb := q2.len
  have hil := @idK_len (nP xss)
  have hfc : fcN (nP xss) ≤ 40320 := by have := fcN_mono h8; have h : fcN 8 = 40320 := rfl; omega
  refine callP (.cons .fz (.cons .bool .nil)) ?_
  refine CallX_body Γ_spec_l04Run ?_
  simp only [A_spec_l04Run, T_aiff]
  refine T_rseq fun Kr hKr => ?_
  simp (disch := omega) only [RA, ↓reduceIte, Nat.reduceEqDiff, Nat.reduceBEq, Nat.reduceSub, Nat.reduceAdd, Nat.reduceMul, Nat.reduceLT, Nat.reduceLeDiff, Int.reduceLE, Int.reduceLT, Int.reduceEq, Int.reduceNeg, Int.reduceToNat, Int.reduceMul, Int.reduceAdd, Int.reduceSub, Int.reduceBEq, Int.reduceBNe, reduceCtorEq, RD]
  refine hKr _ _ ?_
  clear hKr Kr
  try simp only [RN, reduceIte]
  try refine T_e rfl ?_
  refine T_rseq fun Kr hKr => ?_
  simp (disch := omega) only [RA, ↓reduceIte, Nat.reduceEqDiff, Nat.reduceBEq, Nat.reduceSub, Nat.reduceAdd, Nat.reduceMul, Nat.reduceLT, Nat.reduceLeDiff, Int.reduceLE, Int.reduceLT, Int.reduceEq, Int.reduceNeg, Int.reduceToNat, Int.reduceMul, Int.reduceAdd, Int.reduceSub, Int.reduceBEq, Int.reduceBNe, reduceCtorEq, RD, hg0]
  refine l04Sum_spec t0.1.2 t0.2.1 ?_
  simp (disch := omega) only [RA, ↓reduceIte, Nat.reduceEqDiff, Nat.reduceBEq, Nat.reduceSub, Nat.reduceAdd, Nat.reduceMul, Nat.reduceLT, Nat.reduceLeDiff, Int.reduceLE, Int.reduceLT, Int.reduceEq, Int.reduceNeg, Int.reduceToNat, Int.reduceMul, Int.reduceAdd, Int.reduceSub, Int.reduceBEq, Int.reduceBNe, reduceCtorEq, RD, e1]
  refine hKr _ _ ?_
  clear hKr Kr
  try simp only [blkQ, thenQ, loopQ]
  try simp only [RN, reduceIte]
  try refine T_e rfl ?_
  refine T_rseq fun Kr hKr => ?_
  simp (disch := omega) only [RA, ↓reduceIte, Nat.reduceEqDiff, Nat.reduceBEq, Nat.reduceSub, Nat.reduceAdd, Nat.reduceMul, Nat.reduceLT, Nat.reduceLeDiff, Int.reduceLE, Int.reduceLT, Int.reduceEq, Int.reduceNeg, Int.reduceToNat, Int.reduceMul, Int.reduceAdd, Int.reduceSub, Int.reduceBEq, Int.reduceBNe, reduceCtorEq, RD, R4, hg0]
  refine l04Standard_spec t0 ?_
  simp (disch := omega) only [RA, ↓reduceIte, Nat.reduceEqDiff, Nat.reduceBEq, Nat.reduceSub, Nat.reduceAdd, Nat.reduceMul, Nat.reduceLT, Nat.reduceLeDiff, Int.reduceLE, Int.reduceLT, Int.reduceEq, Int.reduceNeg, Int.reduceToNat, Int.reduceMul, Int.reduceAdd, Int.reduceSub, Int.reduceBEq, Int.reduceBNe, reduceCtorEq, RD]
  refine l01Same_spec (by omega) ?_
  rw [Int.toNat_natCast]
  simp (disch := omega) only [RA, ↓reduceIte, Nat.reduceEqDiff, Nat.reduceBEq, Nat.reduceSub, Nat.reduceAdd, Nat.reduceMul, Nat.reduceLT, Nat.reduceLeDiff, Int.reduceLE, Int.reduceLT, Int.reduceEq, Int.reduceNeg, Int.reduceToNat, Int.reduceMul, Int.reduceAdd, Int.reduceSub, Int.reduceBEq, Int.reduceBNe, reduceCtorEq, RD]
  refine l04Search_spec (a0 := 0) (c0 := 0) (k := 0) q2 q1 h3 hll rfl rfl (nP xss) ⟨idK_perm ⟨e2, e3⟩, hil⟩ (by omega) (by omega) (by omega) ?_
  rw [Nat.zero_add, Nat.zero_add]
  simp (disch := omega) only [RA, ↓reduceIte, Nat.reduceEqDiff, Nat.reduceBEq, Nat.reduceSub, Nat.reduceAdd, Nat.reduceMul, Nat.reduceLT, Nat.reduceLeDiff, Int.reduceLE, Int.reduceLT, Int.reduceEq, Int.reduceNeg, Int.reduceToNat, Int.reduceMul, Int.reduceAdd, Int.reduceSub, Int.reduceBEq, Int.reduceBNe, reduceCtorEq, RD, R4]
  refine hKr _ _ ?_
  clear hKr Kr
  try simp only [blkQ, thenQ, loopQ]
  try simp only [RN, reduceIte]
  try refine T_e rfl ?_
  refine bodyQ_ret (by simp (disch := omega) only [RA, ↓reduceIte, Nat.reduceEqDiff, Nat.reduceBEq, Nat.reduceSub, Nat.reduceAdd, Nat.reduceMul, Nat.reduceLT, Nat.reduceLeDiff, Int.reduceLE, Int.reduceLT, Int.reduceEq, Int.reduceNeg, Int.reduceToNat, Int.reduceMul, Int.reduceAdd, Int.reduceSub, Int.reduceBEq, Int.reduceBNe, reduceCtorEq, RD, resAll, resOf, R4]; rfl) GhV.refl ?_
  simp only [tup]
  exact ⟨NN_agg NNL_4, hK⟩
theorem spec_CountConnected_spec (hl : xss.length ≤ 1048576) (hll : ∀ xs ∈ xss, xs.length ≤ 1048576) (hK : K (.tuple ⟨[I (resP true xss).1, I (resP true xss).2]⟩) H) : CallX x F_spec_CountConnected [FII xss] H K := by
  refine callP (.cons .fz .nil) ?_
  refine CallX_body Γ_spec_CountConnected ?_
  simp only [A_spec_CountConnected, T_aiff]
  refine T_rseq fun Kr hKr => ?_
  simp (disch := omega) only [RA, ↓reduceIte, Nat.reduceEqDiff, Nat.reduceBEq, Nat.reduceSub, Nat.reduceAdd, Nat.reduceMul, Nat.reduceLT, Nat.reduceLeDiff, Int.reduceLE, Int.reduceLT, Int.reduceEq, Int.reduceNeg, Int.reduceToNat, Int.reduceMul, Int.reduceAdd, Int.reduceSub, Int.reduceBEq, Int.reduceBNe, reduceCtorEq, RD]
  refine hKr _ _ ?_
  clear hKr Kr
  try simp only [RN, reduceIte]
  try refine T_e rfl ?_
  refine T_rseq fun Kr hKr => ?_
  simp (disch := omega) only [RA, ↓reduceIte, Nat.reduceEqDiff, Nat.reduceBEq, Nat.reduceSub, Nat.reduceAdd, Nat.reduceMul, Nat.reduceLT, Nat.reduceLeDiff, Int.reduceLE, Int.reduceLT, Int.reduceEq, Int.reduceNeg, Int.reduceToNat, Int.reduceMul, Int.reduceAdd, Int.reduceSub, Int.reduceBEq, Int.reduceBNe, reduceCtorEq, RD]
  refine l04Code_spec hl hll ?_
  simp (disch := omega) only [RA, ↓reduceIte, Nat.reduceEqDiff, Nat.reduceBEq, Nat.reduceSub, Nat.reduceAdd, Nat.reduceMul, Nat.reduceLT, Nat.reduceLeDiff, Int.reduceLE, Int.reduceLT, Int.reduceEq, Int.reduceNeg, Int.reduceToNat, Int.reduceMul, Int.reduceAdd, Int.reduceSub, Int.reduceBEq, Int.reduceBNe, reduceCtorEq, RD]
  refine hKr _ _ ?_
  clear hKr Kr
  try simp only [blkQ, thenQ, loopQ]
  try simp only [RN, reduceIte]
  try refine T_e rfl ?_
  by_cases hp : PassP xss
  · by_cases h8 : nP xss ≤ 8
    · rw [resP, if_pos hp, if_pos h8] at hK
      obtain ⟨e1, e2, e3⟩ := nP_cast hp
      have h3 := hp.1
      have t0 := (hp.2 0 (by omega)).1
      have hg0 : getN none (xss.map FI) 0 = some (FI (at3 xss 0)) := getN_FI (by omega)
      have hcp := cenI_pos t0
      have hc0 : cenI (at3 xss 0) ≠ 0 := by omega
      have hsh : (facI (nP xss)).tdiv (cenI (at3 xss 0)) = shareP xss := rfl
      have hs := share_le hp h8
      have hpr := prod_le hp h8 true
      rw [if_pos hp, if_pos h8]
      refine T_rseq fun Kr hKr => ?_
      simp (disch := omega) only [RA, ↓reduceIte, Nat.reduceEqDiff, Nat.reduceBEq, Nat.reduceSub, Nat.reduceAdd, Nat.reduceMul, Nat.reduceLT, Nat.reduceLeDiff, Int.reduceLE, Int.reduceLT, Int.reduceEq, Int.reduceNeg, Int.reduceToNat, Int.reduceMul, Int.reduceAdd, Int.reduceSub, Int.reduceBEq, Int.reduceBNe, reduceCtorEq, RD]
      refine hKr _ _ ?_
      clear hKr Kr
      try simp only [RN, reduceIte]
      try refine T_e rfl ?_
      refine T_cseq (t := false) (by simp (disch := omega) only [RA, ↓reduceIte, Nat.reduceEqDiff, Nat.reduceBEq, Nat.reduceSub, Nat.reduceAdd, Nat.reduceMul, Nat.reduceLT, Nat.reduceLeDiff, Int.reduceLE, Int.reduceLT, Int.reduceEq, Int.reduceNeg, Int.reduceToNat, Int.reduceMul, Int.reduceAdd, Int.reduceSub, Int.reduceBEq, Int.reduceBNe, reduceCtorEq, RD]) ?_
      try simp only [RN, reduceIte]
      try refine T_e rfl ?_
      refine T_rseq fun Kr hKr => ?_
      simp (disch := omega) only [RA, ↓reduceIte, Nat.reduceEqDiff, Nat.reduceBEq, Nat.reduceSub, Nat.reduceAdd, Nat.reduceMul, Nat.reduceLT, Nat.reduceLeDiff, Int.reduceLE, Int.reduceLT, Int.reduceEq, Int.reduceNeg, Int.reduceToNat, Int.reduceMul, Int.reduceAdd, Int.reduceSub, Int.reduceBEq, Int.reduceBNe, reduceCtorEq, RD, hg0]
      refine l04Sum_spec t0.1.2 t0.2.1 ?_
      simp (disch := omega) only [RA, ↓reduceIte, Nat.reduceEqDiff, Nat.reduceBEq, Nat.reduceSub, Nat.reduceAdd, Nat.reduceMul, Nat.reduceLT, Nat.reduceLeDiff, Int.reduceLE, Int.reduceLT, Int.reduceEq, Int.reduceNeg, Int.reduceToNat, Int.reduceMul, Int.reduceAdd, Int.reduceSub, Int.reduceBEq, Int.reduceBNe, reduceCtorEq, RD, e1]
      refine hKr _ _ ?_
      clear hKr Kr
      try simp only [blkQ, thenQ, loopQ]
      try simp only [RN, reduceIte]
      try refine T_e rfl ?_
      refine T_rseq fun Kr hKr => ?_
      simp (disch := omega) only [RA, ↓reduceIte, Nat.reduceEqDiff, Nat.reduceBEq, Nat.reduceSub, Nat.reduceAdd, Nat.reduceMul, Nat.reduceLT, Nat.reduceLeDiff, Int.reduceLE, Int.reduceLT, Int.reduceEq, Int.reduceNeg, Int.reduceToNat, Int.reduceMul, Int.reduceAdd, Int.reduceSub, Int.reduceBEq, Int.reduceBNe, reduceCtorEq, RD]
      refine l04Run_spec hp h8 hll ?_
      simp (disch := omega) only [RA, ↓reduceIte, Nat.reduceEqDiff, Nat.reduceBEq, Nat.reduceSub, Nat.reduceAdd, Nat.reduceMul, Nat.reduceLT, Nat.reduceLeDiff, Int.reduceLE, Int.reduceLT, Int.reduceEq, Int.reduceNeg, Int.reduceToNat, Int.reduceMul, Int.reduceAdd, Int.reduceSub, Int.reduceBEq, Int.reduceBNe, reduceCtorEq, RD, R4]
      refine l04Factorial_spec e3 ?_
      simp (disch := omega) only [RA, ↓reduceIte, Nat.reduceEqDiff, Nat.reduceBEq, Nat.reduceSub, Nat.reduceAdd, Nat.reduceMul, Nat.reduceLT, Nat.reduceLeDiff, Int.reduceLE, Int.reduceLT, Int.reduceEq, Int.reduceNeg, Int.reduceToNat, Int.reduceMul, Int.reduceAdd, Int.reduceSub, Int.reduceBEq, Int.reduceBNe, reduceCtorEq, RD, hg0]
      refine l04Centraliser_spec t0 ?_
      simp (disch := omega) only [RA, ↓reduceIte, Nat.reduceEqDiff, Nat.reduceBEq, Nat.reduceSub, Nat.reduceAdd, Nat.reduceMul, Nat.reduceLT, Nat.reduceLeDiff, Int.reduceLE, Int.reduceLT, Int.reduceEq, Int.reduceNeg, Int.reduceToNat, Int.reduceMul, Int.reduceAdd, Int.reduceSub, Int.reduceBEq, Int.reduceBNe, reduceCtorEq, RD, hc0, hsh]
      refine hKr _ _ ?_
      clear hKr Kr
      try simp only [blkQ, thenQ, loopQ]
      try simp only [RN, reduceIte]
      try refine T_e rfl ?_
      refine bodyQ_ret (by simp (disch := omega) only [RA, ↓reduceIte, Nat.reduceEqDiff, Nat.reduceBEq, Nat.reduceSub, Nat.reduceAdd, Nat.reduceMul, Nat.reduceLT, Nat.reduceLeDiff, Int.reduceLE, Int.reduceLT, Int.reduceEq, Int.reduceNeg, Int.reduceToNat, Int.reduceMul, Int.reduceAdd, Int.reduceSub, Int.reduceBEq, Int.reduceBNe, reduceCtorEq, RD, resAll, resOf]; rfl) GhV.refl ?_
      simp only [tup]
      exact ⟨nn_I2, hK⟩
    · rw [resP, if_pos hp, if_neg h8] at hK
      rw [if_pos hp, if_neg h8]
      refine T_rseq fun Kr hKr => ?_
      simp (disch := omega) only [RA, ↓reduceIte, Nat.reduceEqDiff, Nat.reduceBEq, Nat.reduceSub, Nat.reduceAdd, Nat.reduceMul, Nat.reduceLT, Nat.reduceLeDiff, Int.reduceLE, Int.reduceLT, Int.reduceEq, Int.reduceNeg, Int.reduceToNat, Int.reduceMul, Int.reduceAdd, Int.reduceSub, Int.reduceBEq, Int.reduceBNe, reduceCtorEq, RD]
      refine hKr _ _ ?_
      clear hKr Kr
      try simp only [RN, reduceIte]
      try refine T_e rfl ?_
      refine T_cseq (t := true) (by simp (disch := omega) only [RA, ↓reduceIte, Nat.reduceEqDiff, Nat.reduceBEq, Nat.reduceSub, Nat.reduceAdd, Nat.reduceMul, Nat.reduceLT, Nat.reduceLeDiff, Int.reduceLE, Int.reduceLT, Int.reduceEq, Int.reduceNeg, Int.reduceToNat, Int.reduceMul, Int.reduceAdd, Int.reduceSub, Int.reduceBEq, Int.reduceBNe, reduceCtorEq, RD]) ?_
      try simp only [RN, reduceIte]
      try refine T_e rfl ?_
      refine T_rseq fun Kr hKr => ?_
      simp (disch := omega) only [RA, ↓reduceIte, Nat.reduceEqDiff, Nat.reduceBEq, Nat.reduceSub, Nat.reduceAdd, Nat.reduceMul, Nat.reduceLT, Nat.reduceLeDiff, Int.reduceLE, Int.reduceLT, Int.reduceEq, Int.reduceNeg, Int.reduceToNat, Int.reduceMul, Int.reduceAdd, Int.reduceSub, Int.reduceBEq, Int.reduceBNe, reduceCtorEq, RD]
      refine hKr _ _ ?_
      clear hKr Kr
      try simp only [RN, reduceIte]
      try refine T_e rfl ?_
      refine bodyQ_ret (by simp (disch := omega) only [RA, ↓reduceIte, Nat.reduceEqDiff, Nat.reduceBEq, Nat.reduceSub, Nat.reduceAdd, Nat.reduceMul, Nat.reduceLT, Nat.reduceLeDiff, Int.reduceLE, Int.reduceLT, Int.reduceEq, Int.reduceNeg, Int.reduceToNat, Int.reduceMul, Int.reduceAdd, Int.reduceSub, Int.reduceBEq, Int.reduceBNe, reduceCtorEq, RD, resAll, resOf]; rfl) GhV.refl ?_
      simp only [tup]
      exact ⟨nn_I2, hK⟩
  · rw [resP, if_neg hp] at hK
    rw [if_neg hp]
    refine T_rseq fun Kr hKr => ?_
    simp (disch := omega) only [RA, ↓reduceIte, Nat.reduceEqDiff, Nat.reduceBEq, Nat.reduceSub, Nat.reduceAdd, Nat.reduceMul, Nat.reduceLT, Nat.reduceLeDiff, Int.reduceLE, Int.reduceLT, Int.reduceEq, Int.reduceNeg, Int.reduceToNat, Int.reduceMul, Int.reduceAdd, Int.reduceSub, Int.reduceBEq, Int.reduceBNe, reduceCtorEq, RD]
    refine hKr _ _ ?_
    clear hKr Kr
    try simp only [RN, reduceIte]
    try refine T_e rfl ?_
    refine T_cseq (t := true) (by simp (disch := omega) only [RA, ↓reduceIte, Nat.reduceEqDiff, Nat.reduceBEq, Nat.reduceSub, Nat.reduceAdd, Nat.reduceMul, Nat.reduceLT, Nat.reduceLeDiff, Int.reduceLE, Int.reduceLT, Int.reduceEq, Int.reduceNeg, Int.reduceToNat, Int.reduceMul, Int.reduceAdd, Int.reduceSub, Int.reduceBEq, Int.reduceBNe, reduceCtorEq, RD]) ?_
    try simp only [RN, reduceIte]
    try refine T_e rfl ?_
    refine T_rseq fun Kr hKr => ?_
    simp (disch := omega) only [RA, ↓reduceIte, Nat.reduceEqDiff, Nat.reduceBEq, Nat.reduceSub, Nat.reduceAdd, Nat.reduceMul, Nat.reduceLT, Nat.reduceLeDiff, Int.reduceLE, Int.reduceLT, Int.reduceEq, Int.reduceNeg, Int.reduceToNat, Int.reduceMul, Int.reduceAdd, Int.reduceSub, Int.reduceBEq, Int.reduceBNe, reduceCtorEq, RD]
    refine hKr _ _ ?_
    clear hKr Kr
    try simp only [RN, reduceIte]
    try refine T_e rfl ?_
    refine bodyQ_ret (by simp (disch := omega) only [RA, ↓reduceIte, Nat.reduceEqDiff, Nat.reduceBEq, Nat.reduceSub, Nat.reduceAdd, Nat.reduceMul, Nat.reduceLT, Nat.reduceLeDiff, Int.reduceLE, Int.reduceLT, Int.reduceEq, Int.reduceNeg, Int.reduceToNat, Int.reduceMul, Int.reduceAdd, Int.reduceSub, Int.reduceBEq, Int.reduceBNe, reduceCtorEq, RD, resAll, resOf]; rfl) GhV.refl ?_
    simp only [tup]
    exact ⟨nn_I2, hK⟩
end
end Go.Bm

