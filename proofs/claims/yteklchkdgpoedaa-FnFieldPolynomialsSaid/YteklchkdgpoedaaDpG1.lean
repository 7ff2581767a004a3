/- DpDl, Sp0, Sp1, Sp2, Sp3 -/
import Derived.Test.YteklchkdgpoedaaAmS
import Derived.Test.YteklchkdgpoedaaDpG0
/- The law of types: what it draws, and its own helpers. -/
set_option linter.unusedVariables false
set_option linter.unusedSimpArgs false
namespace Go.Bm
open Go Go.Am

section
variable {code : List Nat} {H : BH} {K : Value → BH → Prop} {x : Bool}
theorem big_spec (hK : K (.bool (decide (4096 < code.length))) H) : CallX x F_laws_big [FB code] H K := by
  refine callP (.cons .fz .nil) ?_
  refine CallX_body Γ_laws_big ?_
  simp only [A_laws_big, T_aiff]
  refine T_rseq fun Kr hKr => ?_
  simp (disch := omega) only [RA, ↓reduceIte, Nat.reduceEqDiff, Nat.reduceBEq, Nat.reduceSub, Nat.reduceAdd, Nat.reduceMul, Nat.reduceLT, Nat.reduceLeDiff, Int.reduceLE, Int.reduceLT, Int.reduceEq, Int.reduceNeg, Int.reduceToNat, Int.reduceMul, Int.reduceAdd, Int.reduceSub, Int.reduceBEq, Int.reduceBNe, reduceCtorEq, RD]
  refine hKr _ _ ?_
  clear hKr Kr
  try simp only [RN, reduceIte]
  try refine T_e rfl ?_
  refine T_rseq fun Kr hKr => ?_
  simp (disch := omega) only [RA, ↓reduceIte, Nat.reduceEqDiff, Nat.reduceBEq, Nat.reduceSub, Nat.reduceAdd, Nat.reduceMul, Nat.reduceLT, Nat.reduceLeDiff, Int.reduceLE, Int.reduceLT, Int.reduceEq, Int.reduceNeg, Int.reduceToNat, Int.reduceMul, Int.reduceAdd, Int.reduceSub, Int.reduceBEq, Int.reduceBNe, reduceCtorEq, RD]
  refine hKr _ _ ?_
  clear hKr Kr
  try simp only [RN, reduceIte]
  try refine T_e rfl ?_
  refine bodyQ_ret (by simp (disch := omega) only [RA, ↓reduceIte, Nat.reduceEqDiff, Nat.reduceBEq, Nat.reduceSub, Nat.reduceAdd, Nat.reduceMul, Nat.reduceLT, Nat.reduceLeDiff, Int.reduceLE, Int.reduceLT, Int.reduceEq, Int.reduceNeg, Int.reduceToNat, Int.reduceMul, Int.reduceAdd, Int.reduceSub, Int.reduceBEq, Int.reduceBNe, reduceCtorEq, RD, resAll, resOf]; rfl) GhV.refl ?_
  simp only [tup]
  rw [show decide ((4096 : Int) < (code.length : Int)) = decide (4096 < code.length) by rw [decide_eq_decide]; omega]
  exact ⟨.bool, hK⟩
theorem likeInts_spec {xs ys : List Int} (hl : xs.length < 4611686018427387904) (hl' : ys.length < 4611686018427387904) (hK : K (.bool (decide (xs = ys))) H) : CallX x F_laws_likeInts [FI xs, FI ys] H K := by
  refine callP (.cons .fz (.cons .fz .nil)) ?_
  refine CallX_body Γ_laws_likeInts ?_
  simp only [A_laws_likeInts, T_aiff]
  refine T_rseq fun Kr hKr => ?_
  simp (disch := omega) only [RA, ↓reduceIte, Nat.reduceEqDiff, Nat.reduceBEq, Nat.reduceSub, Nat.reduceAdd, Nat.reduceMul, Nat.reduceLT, Nat.reduceLeDiff, Int.reduceLE, Int.reduceLT, Int.reduceEq, Int.reduceNeg, Int.reduceToNat, Int.reduceMul, Int.reduceAdd, Int.reduceSub, Int.reduceBEq, Int.reduceBNe, reduceCtorEq, RD]
  refine hKr _ _ ?_
  clear hKr Kr
  try simp only [RN, reduceIte]
  try refine T_e rfl ?_
  refine T_rseq fun Kr hKr => ?_
  simp (disch := omega) only [RA, ↓reduceIte, Nat.reduceEqDiff, Nat.reduceBEq, Nat.reduceSub, Nat.reduceAdd, Nat.reduceMul, Nat.reduceLT, Nat.reduceLeDiff, Int.reduceLE, Int.reduceLT, Int.reduceEq, Int.reduceNeg, Int.reduceToNat, Int.reduceMul, Int.reduceAdd, Int.reduceSub, Int.reduceBEq, Int.reduceBNe, reduceCtorEq, RD]
  refine hKr _ _ ?_
  clear hKr Kr
  try simp only [RN, reduceIte]
  try refine T_e rfl ?_
  refine T_csplit (p := ¬ xs.length = ys.length) (by simp only [RA, ↓reduceIte, Nat.reduceEqDiff, Nat.reduceBEq, Nat.reduceSub, Nat.reduceAdd, Nat.reduceMul, Nat.reduceLT, Nat.reduceLeDiff, Int.reduceLE, Int.reduceLT, Int.reduceEq, Int.reduceNeg, Int.reduceToNat, Int.reduceMul, Int.reduceAdd, Int.reduceSub, Int.reduceBEq, Int.reduceBNe, reduceCtorEq] <;> rfl) (by (try simp only [RB]) <;> first | done | exact Iff.rfl | omega | simp) (fun hc => ?_) (fun hc => ?_) <;> (try simp only [RN, reduceIte]) <;> (try refine T_e rfl ?_)
  · refine T_rseq fun Kr hKr => ?_
    simp (disch := omega) only [RA, ↓reduceIte, Nat.reduceEqDiff, Nat.reduceBEq, Nat.reduceSub, Nat.reduceAdd, Nat.reduceMul, Nat.reduceLT, Nat.reduceLeDiff, Int.reduceLE, Int.reduceLT, Int.reduceEq, Int.reduceNeg, Int.reduceToNat, Int.reduceMul, Int.reduceAdd, Int.reduceSub, Int.reduceBEq, Int.reduceBNe, reduceCtorEq, RD]
    refine hKr _ _ ?_
    clear hKr Kr
    try simp only [RN, reduceIte]
    try refine T_e rfl ?_
    refine bodyQ_ret (by simp (disch := omega) only [RA, ↓reduceIte, Nat.reduceEqDiff, Nat.reduceBEq, Nat.reduceSub, Nat.reduceAdd, Nat.reduceMul, Nat.reduceLT, Nat.reduceLeDiff, Int.reduceLE, Int.reduceLT, Int.reduceEq, Int.reduceNeg, Int.reduceToNat, Int.reduceMul, Int.reduceAdd, Int.reduceSub, Int.reduceBEq, Int.reduceBNe, reduceCtorEq, RD, resAll, resOf]; rfl) GhV.refl ?_
    simp only [tup]
    rw [show decide (xs = ys) = false by simp; intro e; exact hc (by rw [e])] at hK
    exact ⟨.bool, hK⟩
  have hll := Decidable.not_not.1 hc
  clear hc
  refine T_rseq fun Kr hKr => ?_
  simp (disch := omega) only [RA, ↓reduceIte, Nat.reduceEqDiff, Nat.reduceBEq, Nat.reduceSub, Nat.reduceAdd, Nat.reduceMul, Nat.reduceLT, Nat.reduceLeDiff, Int.reduceLE, Int.reduceLT, Int.reduceEq, Int.reduceNeg, Int.reduceToNat, Int.reduceMul, Int.reduceAdd, Int.reduceSub, Int.reduceBEq, Int.reduceBNe, reduceCtorEq, RD]
  refine hKr _ _ ?_
  clear hKr Kr
  try simp only [RN, reduceIte]
  try refine T_e rfl ?_
  refine T_wloop (fun m f H' => ∃ i, i ≤ xs.length ∧ m = xs.length - i ∧ (∀ j, j < i → el xs j = el ys j) ∧ f 0 = FI xs ∧ f 1 = FI ys ∧ f 5 = I i ∧ H' = []) (xs.length) ?_ ?_
  · refine ⟨_, _, Gh.refl, 0, by omega, by omega, fun j hj => by omega, ?_, ?_, ?_, rfl⟩
    any_goals (simp (disch := omega) only [RA, ↓reduceIte, Nat.reduceEqDiff, Nat.reduceBEq, Nat.reduceSub, Nat.reduceAdd, Nat.reduceMul, Nat.reduceLT, Nat.reduceLeDiff, Int.reduceLE, Int.reduceLT, Int.reduceEq, Int.reduceNeg, Int.reduceToNat, Int.reduceMul, Int.reduceAdd, Int.reduceSub, Int.reduceBEq, Int.reduceBNe, reduceCtorEq, RD, RE, *] <;> rfl)
  · rintro m f H' R ⟨i, hi, rfl, he, g0, g1, g5, rfl⟩ hN hX hR hE
    simp only [A_laws_likeInts.l0, T_aiff]
    refine T_rseq fun Kr hKr => ?_
    simp (disch := omega) only [RA, ↓reduceIte, Nat.reduceEqDiff, Nat.reduceBEq, Nat.reduceSub, Nat.reduceAdd, Nat.reduceMul, Nat.reduceLT, Nat.reduceLeDiff, Int.reduceLE, Int.reduceLT, Int.reduceEq, Int.reduceNeg, Int.reduceToNat, Int.reduceMul, Int.reduceAdd, Int.reduceSub, Int.reduceBEq, Int.reduceBNe, reduceCtorEq, RD, g0, g5]
    refine hKr _ _ ?_
    clear hKr Kr
    try simp only [RN, reduceIte]
    try refine T_e rfl ?_
    refine T_csplit (p := i < xs.length) (by simp only [RA, ↓reduceIte, Nat.reduceEqDiff, Nat.reduceBEq, Nat.reduceSub, Nat.reduceAdd, Nat.reduceMul, Nat.reduceLT, Nat.reduceLeDiff, Int.reduceLE, Int.reduceLT, Int.reduceEq, Int.reduceNeg, Int.reduceToNat, Int.reduceMul, Int.reduceAdd, Int.reduceSub, Int.reduceBEq, Int.reduceBNe, reduceCtorEq] <;> rfl) (by (try simp only [RB]) <;> first | done | exact Iff.rfl | omega | simp) (fun hc => ?_) (fun hc => ?_) <;> (try simp only [RN, reduceIte]) <;> (try refine T_e rfl ?_)
    · have hil : i < xs.length := by assumption
      have hil' : i < ys.length := by omega
      first | refine T_bfree rfl ?_ | refine T_bfree' rfl ?_
      try simp only [RN, reduceIte]
      try refine T_e rfl ?_
      refine T_rseq fun Kr hKr => ?_
      simp (disch := omega) only [RA, ↓reduceIte, Nat.reduceEqDiff, Nat.reduceBEq, Nat.reduceSub, Nat.reduceAdd, Nat.reduceMul, Nat.reduceLT, Nat.reduceLeDiff, Int.reduceLE, Int.reduceLT, Int.reduceEq, Int.reduceNeg, Int.reduceToNat, Int.reduceMul, Int.reduceAdd, Int.reduceSub, Int.reduceBEq, Int.reduceBNe, reduceCtorEq, RD, g0, g1, g5]
      refine hKr _ _ ?_
      clear hKr Kr
      try simp only [RN, reduceIte]
      try refine T_e rfl ?_
      refine T_csplit (p := ¬ el xs i = el ys i) (by simp only [RA, ↓reduceIte, Nat.reduceEqDiff, Nat.reduceBEq, Nat.reduceSub, Nat.reduceAdd, Nat.reduceMul, Nat.reduceLT, Nat.reduceLeDiff, Int.reduceLE, Int.reduceLT, Int.reduceEq, Int.reduceNeg, Int.reduceToNat, Int.reduceMul, Int.reduceAdd, Int.reduceSub, Int.reduceBEq, Int.reduceBNe, reduceCtorEq] <;> rfl) (by (try simp only [RB]) <;> first | done | exact Iff.rfl | omega | simp) (fun hc => ?_) (fun hc => ?_) <;> (try simp only [RN, reduceIte]) <;> (try refine T_e rfl ?_)
      · refine T_rseq fun Kr hKr => ?_
        simp (disch := omega) only [RA, ↓reduceIte, Nat.reduceEqDiff, Nat.reduceBEq, Nat.reduceSub, Nat.reduceAdd, Nat.reduceMul, Nat.reduceLT, Nat.reduceLeDiff, Int.reduceLE, Int.reduceLT, Int.reduceEq, Int.reduceNeg, Int.reduceToNat, Int.reduceMul, Int.reduceAdd, Int.reduceSub, Int.reduceBEq, Int.reduceBNe, reduceCtorEq, RD]
        refine hKr _ _ ?_
        clear hKr Kr
        try simp only [RN, reduceIte]
        try refine T_e rfl ?_
        refine hR _ _ ?_
        refine bodyQ_ret (by simp (disch := omega) only [RA, ↓reduceIte, Nat.reduceEqDiff, Nat.reduceBEq, Nat.reduceSub, Nat.reduceAdd, Nat.reduceMul, Nat.reduceLT, Nat.reduceLeDiff, Int.reduceLE, Int.reduceLT, Int.reduceEq, Int.reduceNeg, Int.reduceToNat, Int.reduceMul, Int.reduceAdd, Int.reduceSub, Int.reduceBEq, Int.reduceBNe, reduceCtorEq, RD, resAll, resOf]; rfl) GhV.refl ?_
        simp only [tup]
        rw [show decide (xs = ys) = false by simp; intro e; exact hc (by rw [e])] at hK
        exact ⟨.bool, hK⟩
      have hee := Decidable.not_not.1 hc
      refine T_reg_k fun Kr hKr => ?_
      simp (disch := omega) only [RA, ↓reduceIte, Nat.reduceEqDiff, Nat.reduceBEq, Nat.reduceSub, Nat.reduceAdd, Nat.reduceMul, Nat.reduceLT, Nat.reduceLeDiff, Int.reduceLE, Int.reduceLT, Int.reduceEq, Int.reduceNeg, Int.reduceToNat, Int.reduceMul, Int.reduceAdd, Int.reduceSub, Int.reduceBEq, Int.reduceBNe, reduceCtorEq, RD, g5]
      refine hKr _ _ ?_
      clear hKr Kr
      have he' : ∀ j, j < i + 1 → el xs j = el ys j := fun j hj => by
        by_cases e : j = i
        · rw [e]; exact hee
        · exact he j (by omega)
      refine hN (xs.length - (i + 1)) _ _ _ _ (by omega) Gh.refl ⟨i + 1, by omega, rfl, he', ?_, ?_, ?_, rfl⟩
      any_goals (simp (disch := omega) only [RA, ↓reduceIte, Nat.reduceEqDiff, Nat.reduceBEq, Nat.reduceSub, Nat.reduceAdd, Nat.reduceMul, Nat.reduceLT, Nat.reduceLeDiff, Int.reduceLE, Int.reduceLT, Int.reduceEq, Int.reduceNeg, Int.reduceToNat, Int.reduceMul, Int.reduceAdd, Int.reduceSub, Int.reduceBEq, Int.reduceBNe, reduceCtorEq, RD, RE, *] <;> rfl)
    · refine hX _ _ ?_
      have e : xs = ys := by
        apply List.ext_getElem hll
        intro j h1 h2
        have := he j (by omega)
        simpa [el, List.getD, h1, h2] using this
      rw [show decide (xs = ys) = true by simp [e]] at hK
      refine T_rseq fun Kr hKr => ?_
      simp (disch := omega) only [RA, ↓reduceIte, Nat.reduceEqDiff, Nat.reduceBEq, Nat.reduceSub, Nat.reduceAdd, Nat.reduceMul, Nat.reduceLT, Nat.reduceLeDiff, Int.reduceLE, Int.reduceLT, Int.reduceEq, Int.reduceNeg, Int.reduceToNat, Int.reduceMul, Int.reduceAdd, Int.reduceSub, Int.reduceBEq, Int.reduceBNe, reduceCtorEq, RD]
      refine hKr _ _ ?_
      clear hKr Kr
      try simp only [RN, reduceIte]
      try refine T_e rfl ?_
      refine bodyQ_ret (by simp (disch := omega) only [RA, ↓reduceIte, Nat.reduceEqDiff, Nat.reduceBEq, Nat.reduceSub, Nat.reduceAdd, Nat.reduceMul, Nat.reduceLT, Nat.reduceLeDiff, Int.reduceLE, Int.reduceLT, Int.reduceEq, Int.reduceNeg, Int.reduceToNat, Int.reduceMul, Int.reduceAdd, Int.reduceSub, Int.reduceBEq, Int.reduceBNe, reduceCtorEq, RD, resAll, resOf]; rfl) GhV.refl ?_
      simp only [tup]
      exact ⟨.bool, hK⟩
variable (hl : code.length ≤ 1048576) (hcd : ∀ i, nl code i < 256)
include hl hcd
end
end Go.Bm

/- The laws' own helpers. -/
set_option linter.unusedVariables false
set_option linter.unusedSimpArgs false
namespace Go.Am
open Go

end Go.Am

/- Polynomials: what they are; values. -/
set_option linter.unusedVariables false
set_option linter.unusedSimpArgs false
namespace Go.Am
open Go

def Poly (xs : List Int) : Prop := (∀ i, i < xs.length → 0 ≤ el xs i ∧ el xs i ≤ 10006) ∧ xs.length ≤ 17 ∧ (xs.length = 0 ∨ el xs (xs.length - 1) ≠ 0)
instance (xs : List Int) : Decidable (Poly xs) := by unfold Poly; infer_instance

theorem l01In_spec {x a b : Int} {H : AHeap} {K : Value → AHeap → Prop} (hK : K (.bool (decide (a ≤ x ∧ x ≤ b))) H) : CallT F_spec_l01In [I x, I a, I b] H K := by
  refine CallT_body Γ_spec_l01In ?_
  simp only [A_spec_l01In, T_aiff]
  refine T_rseq fun Kr hKr => ?_
  simp (disch := omega) only [RF, RO, RC, bodyQ, resAll, resOf, tup, ↓reduceIte, Nat.reduceEqDiff, Nat.reduceSub, Nat.reduceAdd, Nat.reduceMul, Nat.reduceLT, Nat.reduceLeDiff, Int.reduceLE, Int.reduceLT, Int.reduceEq, Int.reduceNeg, Int.reduceToNat, Int.reduceMul, Int.reduceAdd, Int.reduceSub, Int.reduceBEq, Int.reduceBNe, reduceCtorEq, RD]
  refine hKr _ _ ?_
  clear hKr Kr
  try simp only [RN, if_true, if_false, Bool.false_eq_true, if_pos, reduceIte]
  by_cases h : a ≤ x
  · refine T_rseq fun Kr hKr => ?_
    simp (disch := omega) only [RF, RO, RC, bodyQ, resAll, resOf, tup, ↓reduceIte, Nat.reduceEqDiff, Nat.reduceSub, Nat.reduceAdd, Nat.reduceMul, Nat.reduceLT, Nat.reduceLeDiff, Int.reduceLE, Int.reduceLT, Int.reduceEq, Int.reduceNeg, Int.reduceToNat, Int.reduceMul, Int.reduceAdd, Int.reduceSub, Int.reduceBEq, Int.reduceBNe, reduceCtorEq, RD, h]
    refine hKr _ _ ?_
    clear hKr Kr
    try simp only [RN, if_true, if_false, Bool.false_eq_true, if_pos, reduceIte]
    refine ⟨_, rfl, ?_⟩
    simp only [RF, ev_t, ev_c, tup, ↓reduceIte, Nat.reduceEqDiff, h]
    simpa [h] using hK
  · refine T_rseq fun Kr hKr => ?_
    simp (disch := omega) only [RF, RO, RC, bodyQ, resAll, resOf, tup, ↓reduceIte, Nat.reduceEqDiff, Nat.reduceSub, Nat.reduceAdd, Nat.reduceMul, Nat.reduceLT, Nat.reduceLeDiff, Int.reduceLE, Int.reduceLT, Int.reduceEq, Int.reduceNeg, Int.reduceToNat, Int.reduceMul, Int.reduceAdd, Int.reduceSub, Int.reduceBEq, Int.reduceBNe, reduceCtorEq, RD, h]
    refine hKr _ _ ?_
    clear hKr Kr
    try simp only [RN, if_true, if_false, Bool.false_eq_true, if_pos, reduceIte]
    refine ⟨_, rfl, ?_⟩
    simp only [RF, ev_t, ev_c, tup, ↓reduceIte, Nat.reduceEqDiff, h]
    simpa [h] using hK
theorem isNumber_spec {x : Int} {H : AHeap} {K : Value → AHeap → Prop} (hK : K (.bool (decide (0 ≤ x ∧ x ≤ 10006))) H) : CallT F_impl_isNumber [I x] H K := by
  have hd : (x < 10007) ↔ (x ≤ 10006) := by omega
  refine CallT_body Γ_impl_isNumber ?_
  simp only [A_impl_isNumber, T_aiff]
  refine T_rseq fun Kr hKr => ?_
  simp (disch := omega) only [RF, RO, RC, bodyQ, resAll, resOf, tup, ↓reduceIte, Nat.reduceEqDiff, Nat.reduceSub, Nat.reduceAdd, Nat.reduceMul, Nat.reduceLT, Nat.reduceLeDiff, Int.reduceLE, Int.reduceLT, Int.reduceEq, Int.reduceNeg, Int.reduceToNat, Int.reduceMul, Int.reduceAdd, Int.reduceSub, Int.reduceBEq, Int.reduceBNe, reduceCtorEq, RD]
  refine hKr _ _ ?_
  clear hKr Kr
  try simp only [RN, if_true, if_false, Bool.false_eq_true, if_pos, reduceIte]
  by_cases h : 0 ≤ x
  · refine T_rseq fun Kr hKr => ?_
    simp (disch := omega) only [RF, RO, RC, bodyQ, resAll, resOf, tup, ↓reduceIte, Nat.reduceEqDiff, Nat.reduceSub, Nat.reduceAdd, Nat.reduceMul, Nat.reduceLT, Nat.reduceLeDiff, Int.reduceLE, Int.reduceLT, Int.reduceEq, Int.reduceNeg, Int.reduceToNat, Int.reduceMul, Int.reduceAdd, Int.reduceSub, Int.reduceBEq, Int.reduceBNe, reduceCtorEq, RD, h]
    refine hKr _ _ ?_
    clear hKr Kr
    try simp only [RN, if_true, if_false, Bool.false_eq_true, if_pos, reduceIte]
    refine ⟨_, rfl, ?_⟩
    simp only [RF, ev_t, ev_c, tup, ↓reduceIte, Nat.reduceEqDiff, h]
    simpa [h, hd] using hK
  · refine T_rseq fun Kr hKr => ?_
    simp (disch := omega) only [RF, RO, RC, bodyQ, resAll, resOf, tup, ↓reduceIte, Nat.reduceEqDiff, Nat.reduceSub, Nat.reduceAdd, Nat.reduceMul, Nat.reduceLT, Nat.reduceLeDiff, Int.reduceLE, Int.reduceLT, Int.reduceEq, Int.reduceNeg, Int.reduceToNat, Int.reduceMul, Int.reduceAdd, Int.reduceSub, Int.reduceBEq, Int.reduceBNe, reduceCtorEq, RD, h]
    refine hKr _ _ ?_
    clear hKr Kr
    try simp only [RN, if_true, if_false, Bool.false_eq_true, if_pos, reduceIte]
    refine ⟨_, rfl, ?_⟩
    simp only [RF, ev_t, ev_c, tup, ↓reduceIte, Nat.reduceEqDiff, h]
    simpa [h] using hK
theorem l06Is_spec {H : AHeap} {v : Value} {xs : List Int} {K : Value → AHeap → Prop} (hx : IsI H v xs) (hl : xs.length < 2 ^ 62) (hK : K (.bool (decide (Poly xs))) H) : CallT F_spec_l06Is [v] H K := by
  obtain ⟨a, e, rfl⟩ := hx.len
  refine CallT_body Γ_spec_l06Is ?_
  simp only [A_spec_l06Is, T_aiff]
  refine T_rseq fun Kr hKr => ?_
  simp (disch := omega) only [RF, RO, RC, bodyQ, resAll, resOf, tup, ↓reduceIte, Nat.reduceEqDiff, Nat.reduceSub, Nat.reduceAdd, Nat.reduceMul, Nat.reduceLT, Nat.reduceLeDiff, Int.reduceLE, Int.reduceLT, Int.reduceEq, Int.reduceNeg, Int.reduceToNat, Int.reduceMul, Int.reduceAdd, Int.reduceSub, Int.reduceBEq, Int.reduceBNe, reduceCtorEq, RD]
  refine hKr _ _ ?_
  clear hKr Kr
  try simp only [RN, if_true, if_false, Bool.false_eq_true, if_pos, reduceIte]
  refine T_rseq fun Kr hKr => ?_
  simp (disch := omega) only [RF, RO, RC, bodyQ, resAll, resOf, tup, ↓reduceIte, Nat.reduceEqDiff, Nat.reduceSub, Nat.reduceAdd, Nat.reduceMul, Nat.reduceLT, Nat.reduceLeDiff, Int.reduceLE, Int.reduceLT, Int.reduceEq, Int.reduceNeg, Int.reduceToNat, Int.reduceMul, Int.reduceAdd, Int.reduceSub, Int.reduceBEq, Int.reduceBNe, reduceCtorEq, RD]
  refine hKr _ _ ?_
  clear hKr Kr
  try simp only [RN, if_true, if_false, Bool.false_eq_true, if_pos, reduceIte]
  refine T_wloop (fun n f H' => ∃ k, k ≤ xs.length ∧ n = xs.length - k ∧ H' = H ∧ f 0 = .slice a xs.length e ∧ f 3 = I k ∧ ∀ i, i < k → 0 ≤ el xs i ∧ el xs i ≤ 10006) (xs.length) ?_ ?_
  · exact ⟨0, by omega, by omega, rfl, by simp [RF], by simp [RF], by simp⟩
  · rintro n f H' R ⟨k, hk, rfl, rfl, h0, h3, hkk⟩ hN hX hR
    simp only [A_spec_l06Is.l0, T_aiff]
    refine T_rseq fun Kr hKr => ?_
    simp (disch := omega) only [RF, RO, RC, bodyQ, resAll, resOf, tup, ↓reduceIte, Nat.reduceEqDiff, Nat.reduceSub, Nat.reduceAdd, Nat.reduceMul, Nat.reduceLT, Nat.reduceLeDiff, Int.reduceLE, Int.reduceLT, Int.reduceEq, Int.reduceNeg, Int.reduceToNat, Int.reduceMul, Int.reduceAdd, Int.reduceSub, Int.reduceBEq, Int.reduceBNe, reduceCtorEq, RD, h0, h3]
    refine hKr _ _ ?_
    clear hKr Kr
    try simp only [RN, if_true, if_false, Bool.false_eq_true, if_pos, reduceIte]
    by_cases hlt : k < xs.length
    · refine T_cseq (t := true) (by simp (disch := omega) only [RF, RO, RC, bodyQ, resAll, resOf, tup, ↓reduceIte, Nat.reduceEqDiff, Nat.reduceSub, Nat.reduceAdd, Nat.reduceMul, Nat.reduceLT, Nat.reduceLeDiff, Int.reduceLE, Int.reduceLT, Int.reduceEq, Int.reduceNeg, Int.reduceToNat, Int.reduceMul, Int.reduceAdd, Int.reduceSub, Int.reduceBEq, Int.reduceBNe, reduceCtorEq, decT, decF, hlt]) ?_
      try simp only [RN, if_true, if_false, Bool.false_eq_true, if_pos, reduceIte]
      first | refine T_bfree rfl ?_ | refine T_bfree' rfl ?_
      try simp only [RN, if_true, if_false, Bool.false_eq_true, if_pos, reduceIte]
      obtain ⟨b, o, blk, heq, hb, hg, hlen, hel⟩ := hx.pos (by omega)
      cases heq
      refine T_rseq fun Kr hKr => ?_
      simp (disch := omega) only [RF, RO, RC, bodyQ, resAll, resOf, tup, ↓reduceIte, Nat.reduceEqDiff, Nat.reduceSub, Nat.reduceAdd, Nat.reduceMul, Nat.reduceLT, Nat.reduceLeDiff, Int.reduceLE, Int.reduceLT, Int.reduceEq, Int.reduceNeg, Int.reduceToNat, Int.reduceMul, Int.reduceAdd, Int.reduceSub, Int.reduceBEq, Int.reduceBNe, reduceCtorEq, RD, h0, h3, hlt, hg, hel]
      refine l01In_spec ?_
      by_cases hn : 0 ≤ el xs k ∧ el xs k ≤ 10006
      · rw [decide_eq_true hn]
        simp (disch := omega) only [RF, RO, RC, bodyQ, resAll, resOf, tup, ↓reduceIte, Nat.reduceEqDiff, Nat.reduceSub, Nat.reduceAdd, Nat.reduceMul, Nat.reduceLT, Nat.reduceLeDiff, Int.reduceLE, Int.reduceLT, Int.reduceEq, Int.reduceNeg, Int.reduceToNat, Int.reduceMul, Int.reduceAdd, Int.reduceSub, Int.reduceBEq, Int.reduceBNe, reduceCtorEq, RD]
        refine hKr _ _ ?_
        clear hKr Kr
        try simp only [blkQ, thenQ, loopQ]
        try simp only [RN, if_true, if_false, Bool.false_eq_true, if_pos, reduceIte]
        refine T_cseq (t := false) (by simp (disch := omega) only [RF, RO, RC, bodyQ, resAll, resOf, tup, ↓reduceIte, Nat.reduceEqDiff, Nat.reduceSub, Nat.reduceAdd, Nat.reduceMul, Nat.reduceLT, Nat.reduceLeDiff, Int.reduceLE, Int.reduceLT, Int.reduceEq, Int.reduceNeg, Int.reduceToNat, Int.reduceMul, Int.reduceAdd, Int.reduceSub, Int.reduceBEq, Int.reduceBNe, reduceCtorEq, decT, decF]) ?_
        try simp only [RN, if_true, if_false, Bool.false_eq_true, if_pos, reduceIte]
        refine T_reg_k fun Kr hKr => ?_
        simp (disch := omega) only [RF, RO, RC, bodyQ, resAll, resOf, tup, ↓reduceIte, Nat.reduceEqDiff, Nat.reduceSub, Nat.reduceAdd, Nat.reduceMul, Nat.reduceLT, Nat.reduceLeDiff, Int.reduceLE, Int.reduceLT, Int.reduceEq, Int.reduceNeg, Int.reduceToNat, Int.reduceMul, Int.reduceAdd, Int.reduceSub, Int.reduceBEq, Int.reduceBNe, reduceCtorEq, RD, h3]
        refine hKr _ _ ?_
        clear hKr Kr
        refine hN (xs.length - (k + 1)) _ _ (by omega) ⟨k + 1, by omega, rfl, rfl, by simp [RF, h0], by simp [RF, h3], fun i hi => ?_⟩
        by_cases h : i = k
        · subst h; exact hn
        · exact hkk i (by omega)
      · rw [decide_eq_false hn]
        simp (disch := omega) only [RF, RO, RC, bodyQ, resAll, resOf, tup, ↓reduceIte, Nat.reduceEqDiff, Nat.reduceSub, Nat.reduceAdd, Nat.reduceMul, Nat.reduceLT, Nat.reduceLeDiff, Int.reduceLE, Int.reduceLT, Int.reduceEq, Int.reduceNeg, Int.reduceToNat, Int.reduceMul, Int.reduceAdd, Int.reduceSub, Int.reduceBEq, Int.reduceBNe, reduceCtorEq, RD]
        refine hKr _ _ ?_
        clear hKr Kr
        try simp only [blkQ, thenQ, loopQ]
        try simp only [RN, if_true, if_false, Bool.false_eq_true, if_pos, reduceIte]
        refine T_cseq (t := true) (by simp (disch := omega) only [RF, RO, RC, bodyQ, resAll, resOf, tup, ↓reduceIte, Nat.reduceEqDiff, Nat.reduceSub, Nat.reduceAdd, Nat.reduceMul, Nat.reduceLT, Nat.reduceLeDiff, Int.reduceLE, Int.reduceLT, Int.reduceEq, Int.reduceNeg, Int.reduceToNat, Int.reduceMul, Int.reduceAdd, Int.reduceSub, Int.reduceBEq, Int.reduceBNe, reduceCtorEq, decT, decF]) ?_
        try simp only [RN, if_true, if_false, Bool.false_eq_true, if_pos, reduceIte]
        refine T_rseq fun Kr hKr => ?_
        simp (disch := omega) only [RF, RO, RC, bodyQ, resAll, resOf, tup, ↓reduceIte, Nat.reduceEqDiff, Nat.reduceSub, Nat.reduceAdd, Nat.reduceMul, Nat.reduceLT, Nat.reduceLeDiff, Int.reduceLE, Int.reduceLT, Int.reduceEq, Int.reduceNeg, Int.reduceToNat, Int.reduceMul, Int.reduceAdd, Int.reduceSub, Int.reduceBEq, Int.reduceBNe, reduceCtorEq, RD]
        refine hKr _ _ ?_
        clear hKr Kr
        try simp only [RN, if_true, if_false, Bool.false_eq_true, if_pos, reduceIte]
        refine hR _ _ ?_
        refine ⟨_, rfl, ?_⟩
        simp only [RF, ev_t, ev_c, tup, ↓reduceIte, Nat.reduceEqDiff]
        have : ¬ Poly xs := fun h => hn (h.1 k hlt)
        simpa [this] using hK
    · refine T_cseq (t := false) (by simp (disch := omega) only [RF, RO, RC, bodyQ, resAll, resOf, tup, ↓reduceIte, Nat.reduceEqDiff, Nat.reduceSub, Nat.reduceAdd, Nat.reduceMul, Nat.reduceLT, Nat.reduceLeDiff, Int.reduceLE, Int.reduceLT, Int.reduceEq, Int.reduceNeg, Int.reduceToNat, Int.reduceMul, Int.reduceAdd, Int.reduceSub, Int.reduceBEq, Int.reduceBNe, reduceCtorEq, decT, decF, hlt]) ?_
      try simp only [RN, if_true, if_false, Bool.false_eq_true, if_pos, reduceIte]
      refine hX _ _ ?_
      have hall : ∀ i, i < xs.length → 0 ≤ el xs i ∧ el xs i ≤ 10006 := fun i hi => hkk i (by omega)
      by_cases h17 : xs.length ≤ 17
      · by_cases hz : xs.length = 0
        · refine T_rseq fun Kr hKr => ?_
          simp (disch := omega) only [RF, RO, RC, bodyQ, resAll, resOf, tup, ↓reduceIte, Nat.reduceEqDiff, Nat.reduceSub, Nat.reduceAdd, Nat.reduceMul, Nat.reduceLT, Nat.reduceLeDiff, Int.reduceLE, Int.reduceLT, Int.reduceEq, Int.reduceNeg, Int.reduceToNat, Int.reduceMul, Int.reduceAdd, Int.reduceSub, Int.reduceBEq, Int.reduceBNe, reduceCtorEq, RD, h0, h17, hz]
          refine hKr _ _ ?_
          clear hKr Kr
          try simp only [RN, if_true, if_false, Bool.false_eq_true, if_pos, reduceIte]
          refine ⟨_, rfl, ?_⟩
          simp only [RF, ev_t, ev_c, tup, ↓reduceIte, Nat.reduceEqDiff]
          have : Poly xs := ⟨hall, h17, .inl hz⟩
          simpa [this] using hK
        · obtain ⟨b, o, blk, heq, hb, hg, hlen, hel⟩ := hx.pos (by omega)
          cases heq
          have h1 : IntKind.i64.wrap ((xs.length : Int) - 1) = ((xs.length - 1 : Nat) : Int) := by rw [w64 (by omega) (by omega)]; omega
          have h1' : xs.length - 1 < xs.length := by omega
          refine T_rseq fun Kr hKr => ?_
          simp (disch := omega) only [RF, RO, RC, bodyQ, resAll, resOf, tup, ↓reduceIte, Nat.reduceEqDiff, Nat.reduceSub, Nat.reduceAdd, Nat.reduceMul, Nat.reduceLT, Nat.reduceLeDiff, Int.reduceLE, Int.reduceLT, Int.reduceEq, Int.reduceNeg, Int.reduceToNat, Int.reduceMul, Int.reduceAdd, Int.reduceSub, Int.reduceBEq, Int.reduceBNe, reduceCtorEq, RD, h0, h17, hz, h1, h1', hg, hel]
          refine hKr _ _ ?_
          clear hKr Kr
          try simp only [RN, if_true, if_false, Bool.false_eq_true, if_pos, reduceIte]
          refine ⟨_, rfl, ?_⟩
          simp only [RF, ev_t, ev_c, tup, ↓reduceIte, Nat.reduceEqDiff]
          have : Poly xs ↔ el xs (xs.length - 1) ≠ 0 := ⟨fun h => (h.2.2).resolve_left hz, fun h => ⟨hall, h17, .inr h⟩⟩
          by_cases hq : el xs (xs.length - 1) = 0
          · simpa [this, hq] using hK
          · simpa [this, hq] using hK
      · refine T_rseq fun Kr hKr => ?_
        simp (disch := omega) only [RF, RO, RC, bodyQ, resAll, resOf, tup, ↓reduceIte, Nat.reduceEqDiff, Nat.reduceSub, Nat.reduceAdd, Nat.reduceMul, Nat.reduceLT, Nat.reduceLeDiff, Int.reduceLE, Int.reduceLT, Int.reduceEq, Int.reduceNeg, Int.reduceToNat, Int.reduceMul, Int.reduceAdd, Int.reduceSub, Int.reduceBEq, Int.reduceBNe, reduceCtorEq, RD, h0, h17]
        refine hKr _ _ ?_
        clear hKr Kr
        try simp only [RN, if_true, if_false, Bool.false_eq_true, if_pos, reduceIte]
        refine ⟨_, rfl, ?_⟩
        simp only [RF, ev_t, ev_c, tup, ↓reduceIte, Nat.reduceEqDiff]
        have : ¬ Poly xs := fun h => h17 h.2.1
        simpa [this] using hK
theorem IsPolynomial_spec {H : AHeap} {v : Value} {xs : List Int} {K : Value → AHeap → Prop} (hx : IsI H v xs) (hl : xs.length < 2 ^ 62) (hK : K (.bool (decide (Poly xs))) H) : CallT F_spec_IsPolynomial [v] H K := by
  refine CallT_body Γ_spec_IsPolynomial ?_
  simp only [A_spec_IsPolynomial, T_aiff]
  refine T_rseq fun Kr hKr => ?_
  simp (disch := omega) only [RF, RO, RC, bodyQ, resAll, resOf, tup, ↓reduceIte, Nat.reduceEqDiff, Nat.reduceSub, Nat.reduceAdd, Nat.reduceMul, Nat.reduceLT, Nat.reduceLeDiff, Int.reduceLE, Int.reduceLT, Int.reduceEq, Int.reduceNeg, Int.reduceToNat, Int.reduceMul, Int.reduceAdd, Int.reduceSub, Int.reduceBEq, Int.reduceBNe, reduceCtorEq, RD]
  refine hKr _ _ ?_
  clear hKr Kr
  try simp only [RN, if_true, if_false, Bool.false_eq_true, if_pos, reduceIte]
  refine T_rseq fun Kr hKr => ?_
  simp (disch := omega) only [RF, RO, RC, bodyQ, resAll, resOf, tup, ↓reduceIte, Nat.reduceEqDiff, Nat.reduceSub, Nat.reduceAdd, Nat.reduceMul, Nat.reduceLT, Nat.reduceLeDiff, Int.reduceLE, Int.reduceLT, Int.reduceEq, Int.reduceNeg, Int.reduceToNat, Int.reduceMul, Int.reduceAdd, Int.reduceSub, Int.reduceBEq, Int.reduceBNe, reduceCtorEq, RD]
  refine l06Is_spec hx hl ?_
  simp (disch := omega) only [RF, RO, RC, bodyQ, resAll, resOf, tup, ↓reduceIte, Nat.reduceEqDiff, Nat.reduceSub, Nat.reduceAdd, Nat.reduceMul, Nat.reduceLT, Nat.reduceLeDiff, Int.reduceLE, Int.reduceLT, Int.reduceEq, Int.reduceNeg, Int.reduceToNat, Int.reduceMul, Int.reduceAdd, Int.reduceSub, Int.reduceBEq, Int.reduceBNe, reduceCtorEq, RD]
  refine hKr _ _ ?_
  clear hKr Kr
  try simp only [blkQ, thenQ, loopQ]
  try simp only [RN, if_true, if_false, Bool.false_eq_true, if_pos, reduceIte]
  refine ⟨_, rfl, ?_⟩
  simp only [RF, ev_t, ev_c, tup, ↓reduceIte, Nat.reduceEqDiff]
  exact hK
theorem impl_IsPolynomial_spec {H : AHeap} {v : Value} {xs : List Int} {K : Value → AHeap → Prop} (hx : IsI H v xs) (hl : xs.length < 2 ^ 62) (hK : K (.bool (decide (Poly xs))) H) : CallT F_impl_IsPolynomial [v] H K := by
  have hK0 := hK
  obtain ⟨a, e, rfl⟩ := hx.len
  refine CallT_body Γ_impl_IsPolynomial ?_
  simp only [A_impl_IsPolynomial, T_aiff]
  refine T_rseq fun Kr hKr => ?_
  simp (disch := omega) only [RF, RO, RC, bodyQ, resAll, resOf, tup, ↓reduceIte, Nat.reduceEqDiff, Nat.reduceSub, Nat.reduceAdd, Nat.reduceMul, Nat.reduceLT, Nat.reduceLeDiff, Int.reduceLE, Int.reduceLT, Int.reduceEq, Int.reduceNeg, Int.reduceToNat, Int.reduceMul, Int.reduceAdd, Int.reduceSub, Int.reduceBEq, Int.reduceBNe, reduceCtorEq, RD]
  refine hKr _ _ ?_
  clear hKr Kr
  try simp only [RN, if_true, if_false, Bool.false_eq_true, if_pos, reduceIte]
  by_cases h17 : xs.length ≤ 17
  · by_cases hz : 0 < xs.length ∧ el xs (xs.length - 1) = 0
    · have hz0 := hz.1
      obtain ⟨b, o, blk, heq, hb, hg, hlen, hel⟩ := hx.pos (by omega)
      cases heq
      have h1 : IntKind.i64.wrap ((xs.length : Int) - 1) = ((xs.length - 1 : Nat) : Int) := by rw [w64 (by omega) (by omega)]; omega
      have h1' : xs.length - 1 < xs.length := by omega
      refine T_rseq fun Kr hKr => ?_
      simp (disch := omega) only [RF, RO, RC, bodyQ, resAll, resOf, tup, ↓reduceIte, Nat.reduceEqDiff, Nat.reduceSub, Nat.reduceAdd, Nat.reduceMul, Nat.reduceLT, Nat.reduceLeDiff, Int.reduceLE, Int.reduceLT, Int.reduceEq, Int.reduceNeg, Int.reduceToNat, Int.reduceMul, Int.reduceAdd, Int.reduceSub, Int.reduceBEq, Int.reduceBNe, reduceCtorEq, RD, h17, hz0, h1, h1', hg, hel, hz.2]
      refine hKr _ _ ?_
      clear hKr Kr
      try simp only [RN, if_true, if_false, Bool.false_eq_true, if_pos, reduceIte]
      refine T_cseq (t := true) (by simp (disch := omega) only [RF, RO, RC, bodyQ, resAll, resOf, tup, ↓reduceIte, Nat.reduceEqDiff, Nat.reduceSub, Nat.reduceAdd, Nat.reduceMul, Nat.reduceLT, Nat.reduceLeDiff, Int.reduceLE, Int.reduceLT, Int.reduceEq, Int.reduceNeg, Int.reduceToNat, Int.reduceMul, Int.reduceAdd, Int.reduceSub, Int.reduceBEq, Int.reduceBNe, reduceCtorEq, decT, decF]) ?_
      try simp only [RN, if_true, if_false, Bool.false_eq_true, if_pos, reduceIte]
      refine T_rseq fun Kr hKr => ?_
      simp (disch := omega) only [RF, RO, RC, bodyQ, resAll, resOf, tup, ↓reduceIte, Nat.reduceEqDiff, Nat.reduceSub, Nat.reduceAdd, Nat.reduceMul, Nat.reduceLT, Nat.reduceLeDiff, Int.reduceLE, Int.reduceLT, Int.reduceEq, Int.reduceNeg, Int.reduceToNat, Int.reduceMul, Int.reduceAdd, Int.reduceSub, Int.reduceBEq, Int.reduceBNe, reduceCtorEq, RD]
      refine hKr _ _ ?_
      clear hKr Kr
      try simp only [RN, if_true, if_false, Bool.false_eq_true, if_pos, reduceIte]
      refine ⟨_, rfl, ?_⟩
      simp only [RF, ev_t, ev_c, tup, ↓reduceIte, Nat.reduceEqDiff]
      have : ¬ Poly xs := fun h => by rcases h.2.2 with h | h; exact absurd h (by omega); exact h hz.2
      simpa [this] using hK
    · have key : Poly xs ↔ ∀ i, i < xs.length → 0 ≤ el xs i ∧ el xs i ≤ 10006 := ⟨fun h => h.1, fun h => ⟨h, h17, by by_cases hl : xs.length = 0; exact .inl hl; exact .inr fun hq => hz ⟨by omega, hq⟩⟩⟩
      refine T_rseq fun K hK => ?_
      have hgoal : ∀ f' : Fr, f' 0 = .slice a xs.length e → f' 21 = .bool false → K f' H := by
        intro f' h0 h21
        refine hK _ _ ?_
        refine T_cseq (t := false) (by simp [ev, h21]) ?_
        try simp only [RN, if_true, if_false, Bool.false_eq_true, if_pos, reduceIte]
        refine T_rseq fun Kr hKr => ?_
        simp (disch := omega) only [RF, RO, RC, bodyQ, resAll, resOf, tup, ↓reduceIte, Nat.reduceEqDiff, Nat.reduceSub, Nat.reduceAdd, Nat.reduceMul, Nat.reduceLT, Nat.reduceLeDiff, Int.reduceLE, Int.reduceLT, Int.reduceEq, Int.reduceNeg, Int.reduceToNat, Int.reduceMul, Int.reduceAdd, Int.reduceSub, Int.reduceBEq, Int.reduceBNe, reduceCtorEq, RD, h0]
        refine hKr _ _ ?_
        clear hKr Kr
        try simp only [RN, if_true, if_false, Bool.false_eq_true, if_pos, reduceIte]
        refine T_wloop (fun n f H' => ∃ k, k ≤ xs.length ∧ n = xs.length - k ∧ H' = H ∧ f 22 = .slice a xs.length e ∧ f 23 = I xs.length ∧ f 24 = I k ∧ ∀ i, i < k → 0 ≤ el xs i ∧ el xs i ≤ 10006) (xs.length) ?_ ?_
        · exact ⟨0, by omega, by omega, rfl, by simp [RF], by simp [RF], by simp [RF], by simp⟩
        · rintro n f H' R ⟨k, hk, rfl, rfl, h0, h1, h3, hkk⟩ hN hX hR
          simp only [A_impl_IsPolynomial.l0, T_aiff]
          refine T_rseq fun Kr hKr => ?_
          simp (disch := omega) only [RF, RO, RC, bodyQ, resAll, resOf, tup, ↓reduceIte, Nat.reduceEqDiff, Nat.reduceSub, Nat.reduceAdd, Nat.reduceMul, Nat.reduceLT, Nat.reduceLeDiff, Int.reduceLE, Int.reduceLT, Int.reduceEq, Int.reduceNeg, Int.reduceToNat, Int.reduceMul, Int.reduceAdd, Int.reduceSub, Int.reduceBEq, Int.reduceBNe, reduceCtorEq, RD, h1, h3]
          refine hKr _ _ ?_
          clear hKr Kr
          try simp only [RN, if_true, if_false, Bool.false_eq_true, if_pos, reduceIte]
          by_cases hlt : k < xs.length
          · refine T_cseq (t := true) (by simp (disch := omega) only [RF, RO, RC, bodyQ, resAll, resOf, tup, ↓reduceIte, Nat.reduceEqDiff, Nat.reduceSub, Nat.reduceAdd, Nat.reduceMul, Nat.reduceLT, Nat.reduceLeDiff, Int.reduceLE, Int.reduceLT, Int.reduceEq, Int.reduceNeg, Int.reduceToNat, Int.reduceMul, Int.reduceAdd, Int.reduceSub, Int.reduceBEq, Int.reduceBNe, reduceCtorEq, decT, decF, hlt]) ?_
            try simp only [RN, if_true, if_false, Bool.false_eq_true, if_pos, reduceIte]
            first | refine T_bfree rfl ?_ | refine T_bfree' rfl ?_
            try simp only [RN, if_true, if_false, Bool.false_eq_true, if_pos, reduceIte]
            obtain ⟨b, o, blk, heq, hb, hg, hlen, hel⟩ := hx.pos (by omega)
            cases heq
            refine T_rseq fun Kr hKr => ?_
            simp (disch := omega) only [RF, RO, RC, bodyQ, resAll, resOf, tup, ↓reduceIte, Nat.reduceEqDiff, Nat.reduceSub, Nat.reduceAdd, Nat.reduceMul, Nat.reduceLT, Nat.reduceLeDiff, Int.reduceLE, Int.reduceLT, Int.reduceEq, Int.reduceNeg, Int.reduceToNat, Int.reduceMul, Int.reduceAdd, Int.reduceSub, Int.reduceBEq, Int.reduceBNe, reduceCtorEq, RD, h0, h3, hlt, hg, hel]
            refine hKr _ _ ?_
            clear hKr Kr
            try simp only [RN, if_true, if_false, Bool.false_eq_true, if_pos, reduceIte]
            refine T_rseq fun Kr hKr => ?_
            simp (disch := omega) only [RF, RO, RC, bodyQ, resAll, resOf, tup, ↓reduceIte, Nat.reduceEqDiff, Nat.reduceSub, Nat.reduceAdd, Nat.reduceMul, Nat.reduceLT, Nat.reduceLeDiff, Int.reduceLE, Int.reduceLT, Int.reduceEq, Int.reduceNeg, Int.reduceToNat, Int.reduceMul, Int.reduceAdd, Int.reduceSub, Int.reduceBEq, Int.reduceBNe, reduceCtorEq, RD]
            refine isNumber_spec ?_
            by_cases hn : 0 ≤ el xs k ∧ el xs k ≤ 10006
            · rw [decide_eq_true hn]
              simp (disch := omega) only [RF, RO, RC, bodyQ, resAll, resOf, tup, ↓reduceIte, Nat.reduceEqDiff, Nat.reduceSub, Nat.reduceAdd, Nat.reduceMul, Nat.reduceLT, Nat.reduceLeDiff, Int.reduceLE, Int.reduceLT, Int.reduceEq, Int.reduceNeg, Int.reduceToNat, Int.reduceMul, Int.reduceAdd, Int.reduceSub, Int.reduceBEq, Int.reduceBNe, reduceCtorEq, RD]
              refine hKr _ _ ?_
              clear hKr Kr
              try simp only [blkQ, thenQ, loopQ]
              try simp only [RN, if_true, if_false, Bool.false_eq_true, if_pos, reduceIte]
              refine T_cseq (t := false) (by simp (disch := omega) only [RF, RO, RC, bodyQ, resAll, resOf, tup, ↓reduceIte, Nat.reduceEqDiff, Nat.reduceSub, Nat.reduceAdd, Nat.reduceMul, Nat.reduceLT, Nat.reduceLeDiff, Int.reduceLE, Int.reduceLT, Int.reduceEq, Int.reduceNeg, Int.reduceToNat, Int.reduceMul, Int.reduceAdd, Int.reduceSub, Int.reduceBEq, Int.reduceBNe, reduceCtorEq, decT, decF]) ?_
              try simp only [RN, if_true, if_false, Bool.false_eq_true, if_pos, reduceIte]
              refine T_reg_k fun Kr hKr => ?_
              simp (disch := omega) only [RF, RO, RC, bodyQ, resAll, resOf, tup, ↓reduceIte, Nat.reduceEqDiff, Nat.reduceSub, Nat.reduceAdd, Nat.reduceMul, Nat.reduceLT, Nat.reduceLeDiff, Int.reduceLE, Int.reduceLT, Int.reduceEq, Int.reduceNeg, Int.reduceToNat, Int.reduceMul, Int.reduceAdd, Int.reduceSub, Int.reduceBEq, Int.reduceBNe, reduceCtorEq, RD, h3]
              refine hKr _ _ ?_
              clear hKr Kr
              refine hN (xs.length - (k + 1)) _ _ (by omega) ⟨k + 1, by omega, rfl, rfl, by simp [RF, h0], by simp [RF, h1], by simp [RF], fun i hi => ?_⟩
              by_cases h : i = k
              · subst h; exact hn
              · exact hkk i (by omega)
            · rw [decide_eq_false hn]
              simp (disch := omega) only [RF, RO, RC, bodyQ, resAll, resOf, tup, ↓reduceIte, Nat.reduceEqDiff, Nat.reduceSub, Nat.reduceAdd, Nat.reduceMul, Nat.reduceLT, Nat.reduceLeDiff, Int.reduceLE, Int.reduceLT, Int.reduceEq, Int.reduceNeg, Int.reduceToNat, Int.reduceMul, Int.reduceAdd, Int.reduceSub, Int.reduceBEq, Int.reduceBNe, reduceCtorEq, RD]
              refine hKr _ _ ?_
              clear hKr Kr
              try simp only [blkQ, thenQ, loopQ]
              try simp only [RN, if_true, if_false, Bool.false_eq_true, if_pos, reduceIte]
              refine T_cseq (t := true) (by simp (disch := omega) only [RF, RO, RC, bodyQ, resAll, resOf, tup, ↓reduceIte, Nat.reduceEqDiff, Nat.reduceSub, Nat.reduceAdd, Nat.reduceMul, Nat.reduceLT, Nat.reduceLeDiff, Int.reduceLE, Int.reduceLT, Int.reduceEq, Int.reduceNeg, Int.reduceToNat, Int.reduceMul, Int.reduceAdd, Int.reduceSub, Int.reduceBEq, Int.reduceBNe, reduceCtorEq, decT, decF]) ?_
              try simp only [RN, if_true, if_false, Bool.false_eq_true, if_pos, reduceIte]
              refine T_rseq fun Kr hKr => ?_
              simp (disch := omega) only [RF, RO, RC, bodyQ, resAll, resOf, tup, ↓reduceIte, Nat.reduceEqDiff, Nat.reduceSub, Nat.reduceAdd, Nat.reduceMul, Nat.reduceLT, Nat.reduceLeDiff, Int.reduceLE, Int.reduceLT, Int.reduceEq, Int.reduceNeg, Int.reduceToNat, Int.reduceMul, Int.reduceAdd, Int.reduceSub, Int.reduceBEq, Int.reduceBNe, reduceCtorEq, RD]
              refine hKr _ _ ?_
              clear hKr Kr
              try simp only [RN, if_true, if_false, Bool.false_eq_true, if_pos, reduceIte]
              refine hR _ _ ?_
              refine ⟨_, rfl, ?_⟩
              simp only [RF, ev_t, ev_c, tup, ↓reduceIte, Nat.reduceEqDiff]
              have : ¬ Poly xs := fun h => hn (h.1 k hlt)
              simpa [this] using hK0
          · refine T_cseq (t := false) (by simp (disch := omega) only [RF, RO, RC, bodyQ, resAll, resOf, tup, ↓reduceIte, Nat.reduceEqDiff, Nat.reduceSub, Nat.reduceAdd, Nat.reduceMul, Nat.reduceLT, Nat.reduceLeDiff, Int.reduceLE, Int.reduceLT, Int.reduceEq, Int.reduceNeg, Int.reduceToNat, Int.reduceMul, Int.reduceAdd, Int.reduceSub, Int.reduceBEq, Int.reduceBNe, reduceCtorEq, decT, decF, hlt]) ?_
            try simp only [RN, if_true, if_false, Bool.false_eq_true, if_pos, reduceIte]
            refine hX _ _ ?_
            refine T_rseq fun Kr hKr => ?_
            simp (disch := omega) only [RF, RO, RC, bodyQ, resAll, resOf, tup, ↓reduceIte, Nat.reduceEqDiff, Nat.reduceSub, Nat.reduceAdd, Nat.reduceMul, Nat.reduceLT, Nat.reduceLeDiff, Int.reduceLE, Int.reduceLT, Int.reduceEq, Int.reduceNeg, Int.reduceToNat, Int.reduceMul, Int.reduceAdd, Int.reduceSub, Int.reduceBEq, Int.reduceBNe, reduceCtorEq, RD]
            refine hKr _ _ ?_
            clear hKr Kr
            try simp only [RN, if_true, if_false, Bool.false_eq_true, if_pos, reduceIte]
            refine ⟨_, rfl, ?_⟩
            simp only [RF, ev_t, ev_c, tup, ↓reduceIte, Nat.reduceEqDiff]
            have : Poly xs := key.2 fun i hi => hkk i (by omega)
            simpa [this] using hK0
      by_cases hl0 : 0 < xs.length
      · obtain ⟨b, o, blk, heq, hb, hg, hlen, hel⟩ := hx.pos (by omega)
        cases heq
        have h1 : IntKind.i64.wrap ((xs.length : Int) - 1) = ((xs.length - 1 : Nat) : Int) := by rw [w64 (by omega) (by omega)]; omega
        have h1' : xs.length - 1 < xs.length := by omega
        have h2 : el xs (xs.length - 1) ≠ 0 := fun h => hz ⟨hl0, h⟩
        simp (disch := omega) only [RF, RO, RC, bodyQ, resAll, resOf, tup, ↓reduceIte, Nat.reduceEqDiff, Nat.reduceSub, Nat.reduceAdd, Nat.reduceMul, Nat.reduceLT, Nat.reduceLeDiff, Int.reduceLE, Int.reduceLT, Int.reduceEq, Int.reduceNeg, Int.reduceToNat, Int.reduceMul, Int.reduceAdd, Int.reduceSub, Int.reduceBEq, Int.reduceBNe, reduceCtorEq, RD, h17, hl0, h1, h1', hg, hel, h2]
        exact hgoal _ (by simp [RF]) (by simp [RF, h2])
      · simp (disch := omega) only [RF, RO, RC, bodyQ, resAll, resOf, tup, ↓reduceIte, Nat.reduceEqDiff, Nat.reduceSub, Nat.reduceAdd, Nat.reduceMul, Nat.reduceLT, Nat.reduceLeDiff, Int.reduceLE, Int.reduceLT, Int.reduceEq, Int.reduceNeg, Int.reduceToNat, Int.reduceMul, Int.reduceAdd, Int.reduceSub, Int.reduceBEq, Int.reduceBNe, reduceCtorEq, RD, h17, hl0]
        exact hgoal _ (by simp [RF]) (by simp [RF])
  · refine T_rseq fun Kr hKr => ?_
    simp (disch := omega) only [RF, RO, RC, bodyQ, resAll, resOf, tup, ↓reduceIte, Nat.reduceEqDiff, Nat.reduceSub, Nat.reduceAdd, Nat.reduceMul, Nat.reduceLT, Nat.reduceLeDiff, Int.reduceLE, Int.reduceLT, Int.reduceEq, Int.reduceNeg, Int.reduceToNat, Int.reduceMul, Int.reduceAdd, Int.reduceSub, Int.reduceBEq, Int.reduceBNe, reduceCtorEq, RD, h17]
    refine hKr _ _ ?_
    clear hKr Kr
    try simp only [RN, if_true, if_false, Bool.false_eq_true, if_pos, reduceIte]
    refine T_cseq (t := true) (by simp (disch := omega) only [RF, RO, RC, bodyQ, resAll, resOf, tup, ↓reduceIte, Nat.reduceEqDiff, Nat.reduceSub, Nat.reduceAdd, Nat.reduceMul, Nat.reduceLT, Nat.reduceLeDiff, Int.reduceLE, Int.reduceLT, Int.reduceEq, Int.reduceNeg, Int.reduceToNat, Int.reduceMul, Int.reduceAdd, Int.reduceSub, Int.reduceBEq, Int.reduceBNe, reduceCtorEq, decT, decF]) ?_
    try simp only [RN, if_true, if_false, Bool.false_eq_true, if_pos, reduceIte]
    refine T_rseq fun Kr hKr => ?_
    simp (disch := omega) only [RF, RO, RC, bodyQ, resAll, resOf, tup, ↓reduceIte, Nat.reduceEqDiff, Nat.reduceSub, Nat.reduceAdd, Nat.reduceMul, Nat.reduceLT, Nat.reduceLeDiff, Int.reduceLE, Int.reduceLT, Int.reduceEq, Int.reduceNeg, Int.reduceToNat, Int.reduceMul, Int.reduceAdd, Int.reduceSub, Int.reduceBEq, Int.reduceBNe, reduceCtorEq, RD]
    refine hKr _ _ ?_
    clear hKr Kr
    try simp only [RN, if_true, if_false, Bool.false_eq_true, if_pos, reduceIte]
    refine ⟨_, rfl, ?_⟩
    simp only [RF, ev_t, ev_c, tup, ↓reduceIte, Nat.reduceEqDiff]
    have : ¬ Poly xs := fun h => h17 h.2.1
    simpa [this] using hK
end Go.Am

/- Polynomials: remainders, values, stars. -/
set_option linter.unusedVariables false
set_option linter.unusedSimpArgs false
namespace Go.Am
open Go

def md (x : Int) : Int := x % 10007
theorem md_lo (x : Int) : 0 ≤ md x := Int.emod_nonneg _ (by decide)
theorem md_hi (x : Int) : md x ≤ 10006 := by unfold md; omega
theorem tmodp (x : Int) : x.tmod 10007 = if 0 ≤ x then x % 10007 else -((-x) % 10007) := by
  split
  · rename_i h; exact Int.tmod_eq_emod_of_nonneg h
  · rename_i h
    have : x = -(-x) := by omega
    rw [this, Int.neg_tmod, Int.tmod_eq_emod_of_nonneg (by omega), Int.neg_neg]
theorem tmodm {x : Int} (h : 0 ≤ x) : x.tmod 10007 = md x := Int.tmod_eq_emod_of_nonneg h
theorem mulb {a b : Int} (h1 : 0 ≤ a) (h2 : a ≤ 100000) (h3 : 0 ≤ b) (h4 : b ≤ 100000) : 0 ≤ a * b ∧ a * b ≤ 10000000000 :=
  ⟨Int.mul_nonneg h1 h3, by have := Int.mul_le_mul h2 h4 h3 (by omega); omega⟩
theorem mulb' {a b : Int} (h1 : -100000 ≤ a) (h2 : a ≤ 100000) (h3 : 0 ≤ b) (h4 : b ≤ 100000) : -10000000000 ≤ a * b ∧ a * b ≤ 10000000000 := by
  by_cases h : 0 ≤ a
  · have := mulb h h2 h3 h4; omega
  · have := mulb (a := -a) (by omega) (by omega) h3 h4
    rw [Int.neg_mul] at this
    omega
theorem ifz {α : Type} {a b : α} : (if (10007 : Int) = 0 then a else b) = b := rfl

theorem l06Mod_spec {x : Int} {H : AHeap} {K : Value → AHeap → Prop} (h1 : -1000000000000000 ≤ x) (h2 : x ≤ 1000000000000000) (hK : K (I (md x)) H) : CallT F_spec_l06Mod [I x] H K := by
  have ht := tmodp x
  have hb : -10006 ≤ x.tmod 10007 ∧ x.tmod 10007 ≤ 10006 := by
    rw [ht]; split <;> omega
  refine CallT_body Γ_spec_l06Mod ?_
  simp only [A_spec_l06Mod, T_aiff]
  refine T_rseq fun Kr hKr => ?_
  simp (disch := omega) only [RF, RO, RC, bodyQ, resAll, resOf, tup, ↓reduceIte, Nat.reduceEqDiff, Nat.reduceSub, Nat.reduceAdd, Nat.reduceMul, Nat.reduceLT, Nat.reduceLeDiff, Int.reduceLE, Int.reduceLT, Int.reduceEq, Int.reduceNeg, Int.reduceToNat, Int.reduceMul, Int.reduceAdd, Int.reduceSub, Int.reduceBEq, Int.reduceBNe, reduceCtorEq, RD]
  refine hKr _ _ ?_
  clear hKr Kr
  try simp only [RN, if_true, if_false, Bool.false_eq_true, if_pos, reduceIte]
  refine T_rseq fun Kr hKr => ?_
  simp (disch := omega) only [RF, RO, RC, bodyQ, resAll, resOf, tup, ↓reduceIte, Nat.reduceEqDiff, Nat.reduceSub, Nat.reduceAdd, Nat.reduceMul, Nat.reduceLT, Nat.reduceLeDiff, Int.reduceLE, Int.reduceLT, Int.reduceEq, Int.reduceNeg, Int.reduceToNat, Int.reduceMul, Int.reduceAdd, Int.reduceSub, Int.reduceBEq, Int.reduceBNe, reduceCtorEq, RD, ifz]
  refine hKr _ _ ?_
  clear hKr Kr
  try simp only [RN, if_true, if_false, Bool.false_eq_true, if_pos, reduceIte]
  refine ⟨_, rfl, ?_⟩
  simp only [RF, ev_t, ev_c, tup, ↓reduceIte, Nat.reduceEqDiff]
  have : (x.tmod 10007 + 10007).tmod 10007 = md x := by
    rw [tmodm (by omega), ht]
    unfold md
    split <;> omega
  rw [this]
  exact hK

def value (xs : List Int) (x : Int) : Int := xs.foldr (fun a out => md (out * x + a)) 0
theorem value_cons (a : Int) (xs : List Int) (x : Int) : value (a :: xs) x = md (value xs x * x + a) := rfl
theorem value_lo (xs : List Int) (x : Int) : 0 ≤ value xs x := by cases xs with | nil => exact Int.le_refl _ | cons a xs => exact md_lo _
theorem value_hi (xs : List Int) (x : Int) : value xs x ≤ 10006 := by cases xs with | nil => show (0 : Int) ≤ _; omega | cons a xs => exact md_hi _
theorem drop_el {xs : List Int} {k : Nat} (h : k < xs.length) : xs.drop k = el xs k :: xs.drop (k + 1) := by
  rw [List.drop_eq_getElem_cons h]
  simp [el, List.getD, h]

/-- Numbers that no product carries too far. -/
def Fit (xs : List Int) : Prop := ∀ i, i < xs.length → 0 ≤ el xs i ∧ el xs i ≤ 10007
theorem Poly.fit {xs : List Int} (h : Poly xs) : Fit xs := fun i hi => by have := h.1 i hi; omega

theorem l06Value_spec {H : AHeap} {v : Value} {xs : List Int} {x : Int} {K : Value → AHeap → Prop} (hx : IsI H v xs) (hf : Fit xs) (hl : xs.length < 100000) (h1 : 0 ≤ x) (h2 : x ≤ 10007) (hK : K (I (value xs x)) H) : CallT F_spec_l06Value [v, I x] H K := by
  obtain ⟨a, e, rfl⟩ := hx.len
  refine CallT_body Γ_spec_l06Value ?_
  simp only [A_spec_l06Value, T_aiff]
  refine T_rseq fun Kr hKr => ?_
  simp (disch := omega) only [RF, RO, RC, bodyQ, resAll, resOf, tup, ↓reduceIte, Nat.reduceEqDiff, Nat.reduceSub, Nat.reduceAdd, Nat.reduceMul, Nat.reduceLT, Nat.reduceLeDiff, Int.reduceLE, Int.reduceLT, Int.reduceEq, Int.reduceNeg, Int.reduceToNat, Int.reduceMul, Int.reduceAdd, Int.reduceSub, Int.reduceBEq, Int.reduceBNe, reduceCtorEq, RD]
  refine hKr _ _ ?_
  clear hKr Kr
  try simp only [RN, if_true, if_false, Bool.false_eq_true, if_pos, reduceIte]
  refine T_rseq fun Kr hKr => ?_
  simp (disch := omega) only [RF, RO, RC, bodyQ, resAll, resOf, tup, ↓reduceIte, Nat.reduceEqDiff, Nat.reduceSub, Nat.reduceAdd, Nat.reduceMul, Nat.reduceLT, Nat.reduceLeDiff, Int.reduceLE, Int.reduceLT, Int.reduceEq, Int.reduceNeg, Int.reduceToNat, Int.reduceMul, Int.reduceAdd, Int.reduceSub, Int.reduceBEq, Int.reduceBNe, reduceCtorEq, RD]
  refine hKr _ _ ?_
  clear hKr Kr
  try simp only [RN, if_true, if_false, Bool.false_eq_true, if_pos, reduceIte]
  refine T_rseq fun Kr hKr => ?_
  simp (disch := omega) only [RF, RO, RC, bodyQ, resAll, resOf, tup, ↓reduceIte, Nat.reduceEqDiff, Nat.reduceSub, Nat.reduceAdd, Nat.reduceMul, Nat.reduceLT, Nat.reduceLeDiff, Int.reduceLE, Int.reduceLT, Int.reduceEq, Int.reduceNeg, Int.reduceToNat, Int.reduceMul, Int.reduceAdd, Int.reduceSub, Int.reduceBEq, Int.reduceBNe, reduceCtorEq, RD]
  refine hKr _ _ ?_
  clear hKr Kr
  try simp only [RN, if_true, if_false, Bool.false_eq_true, if_pos, reduceIte]
  refine T_wloop (fun n f H' => ∃ k, k ≤ xs.length ∧ n = k ∧ H' = H ∧ f 0 = .slice a xs.length e ∧ f 1 = I x ∧ f 5 = I (value (xs.drop k) x) ∧ f 6 = I ((k : Int) - 1)) (xs.length) ?_ ?_
  · exact ⟨xs.length, by omega, by omega, rfl, by simp [RF], by simp [RF], by simp [RF, value], by simp [RF]⟩
  · rintro n f H' R ⟨k, hk, rfl, rfl, h0, h1', h5, h6⟩ hN hX hR
    simp only [A_spec_l06Value.l0, T_aiff]
    refine T_rseq fun Kr hKr => ?_
    simp (disch := omega) only [RF, RO, RC, bodyQ, resAll, resOf, tup, ↓reduceIte, Nat.reduceEqDiff, Nat.reduceSub, Nat.reduceAdd, Nat.reduceMul, Nat.reduceLT, Nat.reduceLeDiff, Int.reduceLE, Int.reduceLT, Int.reduceEq, Int.reduceNeg, Int.reduceToNat, Int.reduceMul, Int.reduceAdd, Int.reduceSub, Int.reduceBEq, Int.reduceBNe, reduceCtorEq, RD, h0, h6]
    refine hKr _ _ ?_
    clear hKr Kr
    try simp only [RN, if_true, if_false, Bool.false_eq_true, if_pos, reduceIte]
    by_cases hlt : 0 < n
    · refine T_cseq (t := true) (by simp (disch := omega) only [RF, RO, RC, bodyQ, resAll, resOf, tup, ↓reduceIte, Nat.reduceEqDiff, Nat.reduceSub, Nat.reduceAdd, Nat.reduceMul, Nat.reduceLT, Nat.reduceLeDiff, Int.reduceLE, Int.reduceLT, Int.reduceEq, Int.reduceNeg, Int.reduceToNat, Int.reduceMul, Int.reduceAdd, Int.reduceSub, Int.reduceBEq, Int.reduceBNe, reduceCtorEq, decT, decF]) ?_
      try simp only [RN, if_true, if_false, Bool.false_eq_true, if_pos, reduceIte]
      first | refine T_bfree rfl ?_ | refine T_bfree' rfl ?_
      try simp only [RN, if_true, if_false, Bool.false_eq_true, if_pos, reduceIte]
      obtain ⟨b, o, blk, heq, hb, hg, hlen, hel⟩ := hx.pos (by omega)
      cases heq
      have hi : (n : Int) - 1 = ((n - 1 : Nat) : Int) := by omega
      have hn1 : n - 1 < xs.length := by omega
      have hv1 := value_lo (xs.drop n) x
      have hv2 := value_hi (xs.drop n) x
      have hm := mulb hv1 (by omega) h1 (by omega)
      have hfk := hf (n - 1) hn1
      refine T_rseq fun Kr hKr => ?_
      simp (disch := omega) only [RF, RO, RC, bodyQ, resAll, resOf, tup, ↓reduceIte, Nat.reduceEqDiff, Nat.reduceSub, Nat.reduceAdd, Nat.reduceMul, Nat.reduceLT, Nat.reduceLeDiff, Int.reduceLE, Int.reduceLT, Int.reduceEq, Int.reduceNeg, Int.reduceToNat, Int.reduceMul, Int.reduceAdd, Int.reduceSub, Int.reduceBEq, Int.reduceBNe, reduceCtorEq, RD, h0, h1', h5, h6, hi, hn1, hg, hel]
      refine l06Mod_spec (by omega) (by omega) ?_
      simp (disch := omega) only [RF, RO, RC, bodyQ, resAll, resOf, tup, ↓reduceIte, Nat.reduceEqDiff, Nat.reduceSub, Nat.reduceAdd, Nat.reduceMul, Nat.reduceLT, Nat.reduceLeDiff, Int.reduceLE, Int.reduceLT, Int.reduceEq, Int.reduceNeg, Int.reduceToNat, Int.reduceMul, Int.reduceAdd, Int.reduceSub, Int.reduceBEq, Int.reduceBNe, reduceCtorEq, RD]
      refine hKr _ _ ?_
      clear hKr Kr
      try simp only [blkQ, thenQ, loopQ]
      try simp only [RN, if_true, if_false, Bool.false_eq_true, if_pos, reduceIte]
      refine T_reg_k fun Kr hKr => ?_
      simp (disch := omega) only [RF, RO, RC, bodyQ, resAll, resOf, tup, ↓reduceIte, Nat.reduceEqDiff, Nat.reduceSub, Nat.reduceAdd, Nat.reduceMul, Nat.reduceLT, Nat.reduceLeDiff, Int.reduceLE, Int.reduceLT, Int.reduceEq, Int.reduceNeg, Int.reduceToNat, Int.reduceMul, Int.reduceAdd, Int.reduceSub, Int.reduceBEq, Int.reduceBNe, reduceCtorEq, RD, h6]
      refine hKr _ _ ?_
      clear hKr Kr
      refine hN (n - 1) _ _ (by omega) ⟨n - 1, by omega, rfl, rfl, by simp [RF, h0], by simp [RF, h1'], ?_, by simp [RF]; omega⟩
      rw [drop_el hn1, value_cons, Nat.sub_add_cancel (by omega)]
      simp [RF]
    · refine T_cseq (t := false) (by simp (disch := omega) only [RF, RO, RC, bodyQ, resAll, resOf, tup, ↓reduceIte, Nat.reduceEqDiff, Nat.reduceSub, Nat.reduceAdd, Nat.reduceMul, Nat.reduceLT, Nat.reduceLeDiff, Int.reduceLE, Int.reduceLT, Int.reduceEq, Int.reduceNeg, Int.reduceToNat, Int.reduceMul, Int.reduceAdd, Int.reduceSub, Int.reduceBEq, Int.reduceBNe, reduceCtorEq, decT, decF]) ?_
      try simp only [RN, if_true, if_false, Bool.false_eq_true, if_pos, reduceIte]
      refine hX _ _ ?_
      refine T_rseq fun Kr hKr => ?_
      simp (disch := omega) only [RF, RO, RC, bodyQ, resAll, resOf, tup, ↓reduceIte, Nat.reduceEqDiff, Nat.reduceSub, Nat.reduceAdd, Nat.reduceMul, Nat.reduceLT, Nat.reduceLeDiff, Int.reduceLE, Int.reduceLT, Int.reduceEq, Int.reduceNeg, Int.reduceToNat, Int.reduceMul, Int.reduceAdd, Int.reduceSub, Int.reduceBEq, Int.reduceBNe, reduceCtorEq, RD, h5]
      refine hKr _ _ ?_
      clear hKr Kr
      try simp only [RN, if_true, if_false, Bool.false_eq_true, if_pos, reduceIte]
      refine ⟨_, rfl, ?_⟩
      simp only [RF, ev_t, ev_c, tup, ↓reduceIte, Nat.reduceEqDiff]
      have : n = 0 := by omega
      subst this
      exact hK

def valueOf (xs : List Int) (x : Int) : Int × Int := if Poly xs then if 0 ≤ x ∧ x ≤ 10006 then (value xs x, 0) else (0, 2) else (0, 1)
theorem ValueOf_spec {H : AHeap} {v : Value} {xs : List Int} {x : Int} {K : Value → AHeap → Prop} (hx : IsI H v xs) (hl : xs.length < 2 ^ 62)
    (hK : K (.tuple ⟨[I (valueOf xs x).1, I (valueOf xs x).2]⟩) H) : CallT F_spec_ValueOf [v, I x] H K := by
  refine CallT_body Γ_spec_ValueOf ?_
  simp only [A_spec_ValueOf, T_aiff]
  refine T_rseq fun Kr hKr => ?_
  simp (disch := omega) only [RF, RO, RC, bodyQ, resAll, resOf, tup, ↓reduceIte, Nat.reduceEqDiff, Nat.reduceSub, Nat.reduceAdd, Nat.reduceMul, Nat.reduceLT, Nat.reduceLeDiff, Int.reduceLE, Int.reduceLT, Int.reduceEq, Int.reduceNeg, Int.reduceToNat, Int.reduceMul, Int.reduceAdd, Int.reduceSub, Int.reduceBEq, Int.reduceBNe, reduceCtorEq, RD]
  refine hKr _ _ ?_
  clear hKr Kr
  try simp only [RN, if_true, if_false, Bool.false_eq_true, if_pos, reduceIte]
  first | refine T_bfree rfl ?_ | refine T_bfree' rfl ?_
  try simp only [RN, if_true, if_false, Bool.false_eq_true, if_pos, reduceIte]
  refine T_rseq fun Kr hKr => ?_
  simp (disch := omega) only [RF, RO, RC, bodyQ, resAll, resOf, tup, ↓reduceIte, Nat.reduceEqDiff, Nat.reduceSub, Nat.reduceAdd, Nat.reduceMul, Nat.reduceLT, Nat.reduceLeDiff, Int.reduceLE, Int.reduceLT, Int.reduceEq, Int.reduceNeg, Int.reduceToNat, Int.reduceMul, Int.reduceAdd, Int.reduceSub, Int.reduceBEq, Int.reduceBNe, reduceCtorEq, RD]
  refine l06Is_spec hx hl ?_
  by_cases hp : Poly xs
  · rw [decide_eq_true hp]
    simp (disch := omega) only [RF, RO, RC, bodyQ, resAll, resOf, tup, ↓reduceIte, Nat.reduceEqDiff, Nat.reduceSub, Nat.reduceAdd, Nat.reduceMul, Nat.reduceLT, Nat.reduceLeDiff, Int.reduceLE, Int.reduceLT, Int.reduceEq, Int.reduceNeg, Int.reduceToNat, Int.reduceMul, Int.reduceAdd, Int.reduceSub, Int.reduceBEq, Int.reduceBNe, reduceCtorEq, RD]
    refine hKr _ _ ?_
    clear hKr Kr
    try simp only [blkQ, thenQ, loopQ]
    try simp only [RN, if_true, if_false, Bool.false_eq_true, if_pos, reduceIte]
    refine T_cseq (t := false) (by simp (disch := omega) only [RF, RO, RC, bodyQ, resAll, resOf, tup, ↓reduceIte, Nat.reduceEqDiff, Nat.reduceSub, Nat.reduceAdd, Nat.reduceMul, Nat.reduceLT, Nat.reduceLeDiff, Int.reduceLE, Int.reduceLT, Int.reduceEq, Int.reduceNeg, Int.reduceToNat, Int.reduceMul, Int.reduceAdd, Int.reduceSub, Int.reduceBEq, Int.reduceBNe, reduceCtorEq, decT, decF]) ?_
    try simp only [RN, if_true, if_false, Bool.false_eq_true, if_pos, reduceIte]
    refine T_rseq fun Kr hKr => ?_
    simp (disch := omega) only [RF, RO, RC, bodyQ, resAll, resOf, tup, ↓reduceIte, Nat.reduceEqDiff, Nat.reduceSub, Nat.reduceAdd, Nat.reduceMul, Nat.reduceLT, Nat.reduceLeDiff, Int.reduceLE, Int.reduceLT, Int.reduceEq, Int.reduceNeg, Int.reduceToNat, Int.reduceMul, Int.reduceAdd, Int.reduceSub, Int.reduceBEq, Int.reduceBNe, reduceCtorEq, RD]
    refine l01In_spec ?_
    by_cases hn : 0 ≤ x ∧ x ≤ 10006
    · rw [decide_eq_true hn]
      simp (disch := omega) only [RF, RO, RC, bodyQ, resAll, resOf, tup, ↓reduceIte, Nat.reduceEqDiff, Nat.reduceSub, Nat.reduceAdd, Nat.reduceMul, Nat.reduceLT, Nat.reduceLeDiff, Int.reduceLE, Int.reduceLT, Int.reduceEq, Int.reduceNeg, Int.reduceToNat, Int.reduceMul, Int.reduceAdd, Int.reduceSub, Int.reduceBEq, Int.reduceBNe, reduceCtorEq, RD]
      refine hKr _ _ ?_
      clear hKr Kr
      try simp only [blkQ, thenQ, loopQ]
      try simp only [RN, if_true, if_false, Bool.false_eq_true, if_pos, reduceIte]
      refine T_cseq (t := false) (by simp (disch := omega) only [RF, RO, RC, bodyQ, resAll, resOf, tup, ↓reduceIte, Nat.reduceEqDiff, Nat.reduceSub, Nat.reduceAdd, Nat.reduceMul, Nat.reduceLT, Nat.reduceLeDiff, Int.reduceLE, Int.reduceLT, Int.reduceEq, Int.reduceNeg, Int.reduceToNat, Int.reduceMul, Int.reduceAdd, Int.reduceSub, Int.reduceBEq, Int.reduceBNe, reduceCtorEq, decT, decF]) ?_
      try simp only [RN, if_true, if_false, Bool.false_eq_true, if_pos, reduceIte]
      refine T_rseq fun Kr hKr => ?_
      simp (disch := omega) only [RF, RO, RC, bodyQ, resAll, resOf, tup, ↓reduceIte, Nat.reduceEqDiff, Nat.reduceSub, Nat.reduceAdd, Nat.reduceMul, Nat.reduceLT, Nat.reduceLeDiff, Int.reduceLE, Int.reduceLT, Int.reduceEq, Int.reduceNeg, Int.reduceToNat, Int.reduceMul, Int.reduceAdd, Int.reduceSub, Int.reduceBEq, Int.reduceBNe, reduceCtorEq, RD]
      have := hp.2.1
      refine l06Value_spec hx hp.fit (by omega) (by omega) (by omega) ?_
      simp (disch := omega) only [RF, RO, RC, bodyQ, resAll, resOf, tup, ↓reduceIte, Nat.reduceEqDiff, Nat.reduceSub, Nat.reduceAdd, Nat.reduceMul, Nat.reduceLT, Nat.reduceLeDiff, Int.reduceLE, Int.reduceLT, Int.reduceEq, Int.reduceNeg, Int.reduceToNat, Int.reduceMul, Int.reduceAdd, Int.reduceSub, Int.reduceBEq, Int.reduceBNe, reduceCtorEq, RD]
      refine hKr _ _ ?_
      clear hKr Kr
      try simp only [blkQ, thenQ, loopQ]
      try simp only [RN, if_true, if_false, Bool.false_eq_true, if_pos, reduceIte]
      refine ⟨_, rfl, ?_⟩
      simp only [RF, ev_t, ev_c, tup, ↓reduceIte, Nat.reduceEqDiff]
      simpa only [valueOf, hp, hn, if_true, if_false, and_self, List.drop_zero] using hK
    · rw [decide_eq_false hn]
      simp (disch := omega) only [RF, RO, RC, bodyQ, resAll, resOf, tup, ↓reduceIte, Nat.reduceEqDiff, Nat.reduceSub, Nat.reduceAdd, Nat.reduceMul, Nat.reduceLT, Nat.reduceLeDiff, Int.reduceLE, Int.reduceLT, Int.reduceEq, Int.reduceNeg, Int.reduceToNat, Int.reduceMul, Int.reduceAdd, Int.reduceSub, Int.reduceBEq, Int.reduceBNe, reduceCtorEq, RD]
      refine hKr _ _ ?_
      clear hKr Kr
      try simp only [blkQ, thenQ, loopQ]
      try simp only [RN, if_true, if_false, Bool.false_eq_true, if_pos, reduceIte]
      refine T_cseq (t := true) (by simp (disch := omega) only [RF, RO, RC, bodyQ, resAll, resOf, tup, ↓reduceIte, Nat.reduceEqDiff, Nat.reduceSub, Nat.reduceAdd, Nat.reduceMul, Nat.reduceLT, Nat.reduceLeDiff, Int.reduceLE, Int.reduceLT, Int.reduceEq, Int.reduceNeg, Int.reduceToNat, Int.reduceMul, Int.reduceAdd, Int.reduceSub, Int.reduceBEq, Int.reduceBNe, reduceCtorEq, decT, decF]) ?_
      try simp only [RN, if_true, if_false, Bool.false_eq_true, if_pos, reduceIte]
      refine T_rseq fun Kr hKr => ?_
      simp (disch := omega) only [RF, RO, RC, bodyQ, resAll, resOf, tup, ↓reduceIte, Nat.reduceEqDiff, Nat.reduceSub, Nat.reduceAdd, Nat.reduceMul, Nat.reduceLT, Nat.reduceLeDiff, Int.reduceLE, Int.reduceLT, Int.reduceEq, Int.reduceNeg, Int.reduceToNat, Int.reduceMul, Int.reduceAdd, Int.reduceSub, Int.reduceBEq, Int.reduceBNe, reduceCtorEq, RD]
      refine hKr _ _ ?_
      clear hKr Kr
      try simp only [RN, if_true, if_false, Bool.false_eq_true, if_pos, reduceIte]
      refine ⟨_, rfl, ?_⟩
      simp only [RF, ev_t, ev_c, tup, ↓reduceIte, Nat.reduceEqDiff]
      simpa only [valueOf, hp, hn, if_true, if_false, and_self, List.drop_zero] using hK
  · rw [decide_eq_false hp]
    simp (disch := omega) only [RF, RO, RC, bodyQ, resAll, resOf, tup, ↓reduceIte, Nat.reduceEqDiff, Nat.reduceSub, Nat.reduceAdd, Nat.reduceMul, Nat.reduceLT, Nat.reduceLeDiff, Int.reduceLE, Int.reduceLT, Int.reduceEq, Int.reduceNeg, Int.reduceToNat, Int.reduceMul, Int.reduceAdd, Int.reduceSub, Int.reduceBEq, Int.reduceBNe, reduceCtorEq, RD]
    refine hKr _ _ ?_
    clear hKr Kr
    try simp only [blkQ, thenQ, loopQ]
    try simp only [RN, if_true, if_false, Bool.false_eq_true, if_pos, reduceIte]
    refine T_cseq (t := true) (by simp (disch := omega) only [RF, RO, RC, bodyQ, resAll, resOf, tup, ↓reduceIte, Nat.reduceEqDiff, Nat.reduceSub, Nat.reduceAdd, Nat.reduceMul, Nat.reduceLT, Nat.reduceLeDiff, Int.reduceLE, Int.reduceLT, Int.reduceEq, Int.reduceNeg, Int.reduceToNat, Int.reduceMul, Int.reduceAdd, Int.reduceSub, Int.reduceBEq, Int.reduceBNe, reduceCtorEq, decT, decF]) ?_
    try simp only [RN, if_true, if_false, Bool.false_eq_true, if_pos, reduceIte]
    refine T_rseq fun Kr hKr => ?_
    simp (disch := omega) only [RF, RO, RC, bodyQ, resAll, resOf, tup, ↓reduceIte, Nat.reduceEqDiff, Nat.reduceSub, Nat.reduceAdd, Nat.reduceMul, Nat.reduceLT, Nat.reduceLeDiff, Int.reduceLE, Int.reduceLT, Int.reduceEq, Int.reduceNeg, Int.reduceToNat, Int.reduceMul, Int.reduceAdd, Int.reduceSub, Int.reduceBEq, Int.reduceBNe, reduceCtorEq, RD]
    refine hKr _ _ ?_
    clear hKr Kr
    try simp only [RN, if_true, if_false, Bool.false_eq_true, if_pos, reduceIte]
    refine ⟨_, rfl, ?_⟩
    simp only [RF, ev_t, ev_c, tup, ↓reduceIte, Nat.reduceEqDiff]
    simpa only [valueOf, hp, if_false] using hK
theorem impl_ValueOf_spec {H : AHeap} {v : Value} {xs : List Int} {x : Int} {K : Value → AHeap → Prop} (hx : IsI H v xs) (hl : xs.length < 2 ^ 62)
    (hK : K (.tuple ⟨[I (valueOf xs x).1, I (valueOf xs x).2]⟩) H) : CallT F_impl_ValueOf [v, I x] H K := by
  obtain ⟨a, e, rfl⟩ := hx.len
  refine CallT_body Γ_impl_ValueOf ?_
  simp only [A_impl_ValueOf, T_aiff]
  refine T_rseq fun Kr hKr => ?_
  simp (disch := omega) only [RF, RO, RC, bodyQ, resAll, resOf, tup, ↓reduceIte, Nat.reduceEqDiff, Nat.reduceSub, Nat.reduceAdd, Nat.reduceMul, Nat.reduceLT, Nat.reduceLeDiff, Int.reduceLE, Int.reduceLT, Int.reduceEq, Int.reduceNeg, Int.reduceToNat, Int.reduceMul, Int.reduceAdd, Int.reduceSub, Int.reduceBEq, Int.reduceBNe, reduceCtorEq, RD]
  refine hKr _ _ ?_
  clear hKr Kr
  try simp only [RN, if_true, if_false, Bool.false_eq_true, if_pos, reduceIte]
  first | refine T_bfree rfl ?_ | refine T_bfree' rfl ?_
  try simp only [RN, if_true, if_false, Bool.false_eq_true, if_pos, reduceIte]
  refine T_rseq fun Kr hKr => ?_
  simp (disch := omega) only [RF, RO, RC, bodyQ, resAll, resOf, tup, ↓reduceIte, Nat.reduceEqDiff, Nat.reduceSub, Nat.reduceAdd, Nat.reduceMul, Nat.reduceLT, Nat.reduceLeDiff, Int.reduceLE, Int.reduceLT, Int.reduceEq, Int.reduceNeg, Int.reduceToNat, Int.reduceMul, Int.reduceAdd, Int.reduceSub, Int.reduceBEq, Int.reduceBNe, reduceCtorEq, RD]
  refine impl_IsPolynomial_spec hx hl ?_
  by_cases hp : Poly xs
  · rw [decide_eq_true hp]
    simp (disch := omega) only [RF, RO, RC, bodyQ, resAll, resOf, tup, ↓reduceIte, Nat.reduceEqDiff, Nat.reduceSub, Nat.reduceAdd, Nat.reduceMul, Nat.reduceLT, Nat.reduceLeDiff, Int.reduceLE, Int.reduceLT, Int.reduceEq, Int.reduceNeg, Int.reduceToNat, Int.reduceMul, Int.reduceAdd, Int.reduceSub, Int.reduceBEq, Int.reduceBNe, reduceCtorEq, RD]
    refine hKr _ _ ?_
    clear hKr Kr
    try simp only [blkQ, thenQ, loopQ]
    try simp only [RN, if_true, if_false, Bool.false_eq_true, if_pos, reduceIte]
    refine T_cseq (t := false) (by simp (disch := omega) only [RF, RO, RC, bodyQ, resAll, resOf, tup, ↓reduceIte, Nat.reduceEqDiff, Nat.reduceSub, Nat.reduceAdd, Nat.reduceMul, Nat.reduceLT, Nat.reduceLeDiff, Int.reduceLE, Int.reduceLT, Int.reduceEq, Int.reduceNeg, Int.reduceToNat, Int.reduceMul, Int.reduceAdd, Int.reduceSub, Int.reduceBEq, Int.reduceBNe, reduceCtorEq, decT, decF]) ?_
    try simp only [RN, if_true, if_false, Bool.false_eq_true, if_pos, reduceIte]
    refine T_rseq fun Kr hKr => ?_
    simp (disch := omega) only [RF, RO, RC, bodyQ, resAll, resOf, tup, ↓reduceIte, Nat.reduceEqDiff, Nat.reduceSub, Nat.reduceAdd, Nat.reduceMul, Nat.reduceLT, Nat.reduceLeDiff, Int.reduceLE, Int.reduceLT, Int.reduceEq, Int.reduceNeg, Int.reduceToNat, Int.reduceMul, Int.reduceAdd, Int.reduceSub, Int.reduceBEq, Int.reduceBNe, reduceCtorEq, RD]
    refine isNumber_spec ?_
    by_cases hn : 0 ≤ x ∧ x ≤ 10006
    · rw [decide_eq_true hn]
      simp (disch := omega) only [RF, RO, RC, bodyQ, resAll, resOf, tup, ↓reduceIte, Nat.reduceEqDiff, Nat.reduceSub, Nat.reduceAdd, Nat.reduceMul, Nat.reduceLT, Nat.reduceLeDiff, Int.reduceLE, Int.reduceLT, Int.reduceEq, Int.reduceNeg, Int.reduceToNat, Int.reduceMul, Int.reduceAdd, Int.reduceSub, Int.reduceBEq, Int.reduceBNe, reduceCtorEq, RD]
      refine hKr _ _ ?_
      clear hKr Kr
      try simp only [blkQ, thenQ, loopQ]
      try simp only [RN, if_true, if_false, Bool.false_eq_true, if_pos, reduceIte]
      refine T_cseq (t := false) (by simp (disch := omega) only [RF, RO, RC, bodyQ, resAll, resOf, tup, ↓reduceIte, Nat.reduceEqDiff, Nat.reduceSub, Nat.reduceAdd, Nat.reduceMul, Nat.reduceLT, Nat.reduceLeDiff, Int.reduceLE, Int.reduceLT, Int.reduceEq, Int.reduceNeg, Int.reduceToNat, Int.reduceMul, Int.reduceAdd, Int.reduceSub, Int.reduceBEq, Int.reduceBNe, reduceCtorEq, decT, decF]) ?_
      try simp only [RN, if_true, if_false, Bool.false_eq_true, if_pos, reduceIte]
      have hlen17 := hp.2.1
      refine T_rseq fun Kr hKr => ?_
      simp (disch := omega) only [RF, RO, RC, bodyQ, resAll, resOf, tup, ↓reduceIte, Nat.reduceEqDiff, Nat.reduceSub, Nat.reduceAdd, Nat.reduceMul, Nat.reduceLT, Nat.reduceLeDiff, Int.reduceLE, Int.reduceLT, Int.reduceEq, Int.reduceNeg, Int.reduceToNat, Int.reduceMul, Int.reduceAdd, Int.reduceSub, Int.reduceBEq, Int.reduceBNe, reduceCtorEq, RD]
      refine hKr _ _ ?_
      clear hKr Kr
      try simp only [RN, if_true, if_false, Bool.false_eq_true, if_pos, reduceIte]
      refine T_rseq fun Kr hKr => ?_
      simp (disch := omega) only [RF, RO, RC, bodyQ, resAll, resOf, tup, ↓reduceIte, Nat.reduceEqDiff, Nat.reduceSub, Nat.reduceAdd, Nat.reduceMul, Nat.reduceLT, Nat.reduceLeDiff, Int.reduceLE, Int.reduceLT, Int.reduceEq, Int.reduceNeg, Int.reduceToNat, Int.reduceMul, Int.reduceAdd, Int.reduceSub, Int.reduceBEq, Int.reduceBNe, reduceCtorEq, RD]
      refine hKr _ _ ?_
      clear hKr Kr
      try simp only [RN, if_true, if_false, Bool.false_eq_true, if_pos, reduceIte]
      refine T_wloop (fun n f H' => ∃ k, k ≤ xs.length ∧ n = k ∧ H' = H ∧ f 0 = .slice a xs.length e ∧ f 1 = I x ∧ f 6 = I (value (xs.drop k) x) ∧ f 7 = I ((k : Int) - 1)) (xs.length) ?_ ?_
      · exact ⟨xs.length, by omega, by omega, rfl, by simp [RF], by simp [RF], by simp [RF, value], by simp [RF]⟩
      · rintro n f H' R ⟨k, hk, rfl, rfl, h0, h1', h5, h6⟩ hN hX hR
        simp only [A_impl_ValueOf.l0, T_aiff]
        refine T_rseq fun Kr hKr => ?_
        simp (disch := omega) only [RF, RO, RC, bodyQ, resAll, resOf, tup, ↓reduceIte, Nat.reduceEqDiff, Nat.reduceSub, Nat.reduceAdd, Nat.reduceMul, Nat.reduceLT, Nat.reduceLeDiff, Int.reduceLE, Int.reduceLT, Int.reduceEq, Int.reduceNeg, Int.reduceToNat, Int.reduceMul, Int.reduceAdd, Int.reduceSub, Int.reduceBEq, Int.reduceBNe, reduceCtorEq, RD, h0, h6]
        refine hKr _ _ ?_
        clear hKr Kr
        try simp only [RN, if_true, if_false, Bool.false_eq_true, if_pos, reduceIte]
        by_cases hlt : 0 < n
        · refine T_cseq (t := true) (by simp (disch := omega) only [RF, RO, RC, bodyQ, resAll, resOf, tup, ↓reduceIte, Nat.reduceEqDiff, Nat.reduceSub, Nat.reduceAdd, Nat.reduceMul, Nat.reduceLT, Nat.reduceLeDiff, Int.reduceLE, Int.reduceLT, Int.reduceEq, Int.reduceNeg, Int.reduceToNat, Int.reduceMul, Int.reduceAdd, Int.reduceSub, Int.reduceBEq, Int.reduceBNe, reduceCtorEq, decT, decF]) ?_
          try simp only [RN, if_true, if_false, Bool.false_eq_true, if_pos, reduceIte]
          first | refine T_bfree rfl ?_ | refine T_bfree' rfl ?_
          try simp only [RN, if_true, if_false, Bool.false_eq_true, if_pos, reduceIte]
          obtain ⟨b, o, blk, heq, hb, hg, hlen, hel⟩ := hx.pos (by omega)
          cases heq
          have hi : (n : Int) - 1 = ((n - 1 : Nat) : Int) := by omega
          have hn1 : n - 1 < xs.length := by omega
          have hv1 := value_lo (xs.drop n) x
          have hv2 := value_hi (xs.drop n) x
          have hm := mulb hv1 (by omega) hn.1 (by omega)
          have hfk := hp.fit (n - 1) hn1
          refine T_rseq fun Kr hKr => ?_
          simp (disch := omega) only [RF, RO, RC, bodyQ, resAll, resOf, tup, ↓reduceIte, Nat.reduceEqDiff, Nat.reduceSub, Nat.reduceAdd, Nat.reduceMul, Nat.reduceLT, Nat.reduceLeDiff, Int.reduceLE, Int.reduceLT, Int.reduceEq, Int.reduceNeg, Int.reduceToNat, Int.reduceMul, Int.reduceAdd, Int.reduceSub, Int.reduceBEq, Int.reduceBNe, reduceCtorEq, RD, h0, h1', h5, h6, hi, hn1, hg, hel, ifz, tmodm]
          refine hKr _ _ ?_
          clear hKr Kr
          try simp only [RN, if_true, if_false, Bool.false_eq_true, if_pos, reduceIte]
          refine T_reg_k fun Kr hKr => ?_
          simp (disch := omega) only [RF, RO, RC, bodyQ, resAll, resOf, tup, ↓reduceIte, Nat.reduceEqDiff, Nat.reduceSub, Nat.reduceAdd, Nat.reduceMul, Nat.reduceLT, Nat.reduceLeDiff, Int.reduceLE, Int.reduceLT, Int.reduceEq, Int.reduceNeg, Int.reduceToNat, Int.reduceMul, Int.reduceAdd, Int.reduceSub, Int.reduceBEq, Int.reduceBNe, reduceCtorEq, RD, h6]
          refine hKr _ _ ?_
          clear hKr Kr
          refine hN (n - 1) _ _ (by omega) ⟨n - 1, by omega, rfl, rfl, by simp [RF, h0], by simp [RF, h1'], ?_, by simp [RF]; omega⟩
          rw [drop_el hn1, value_cons, Nat.sub_add_cancel (by omega)]
          simp [RF]
        · refine T_cseq (t := false) (by simp (disch := omega) only [RF, RO, RC, bodyQ, resAll, resOf, tup, ↓reduceIte, Nat.reduceEqDiff, Nat.reduceSub, Nat.reduceAdd, Nat.reduceMul, Nat.reduceLT, Nat.reduceLeDiff, Int.reduceLE, Int.reduceLT, Int.reduceEq, Int.reduceNeg, Int.reduceToNat, Int.reduceMul, Int.reduceAdd, Int.reduceSub, Int.reduceBEq, Int.reduceBNe, reduceCtorEq, decT, decF]) ?_
          try simp only [RN, if_true, if_false, Bool.false_eq_true, if_pos, reduceIte]
          refine hX _ _ ?_
          refine T_rseq fun Kr hKr => ?_
          simp (disch := omega) only [RF, RO, RC, bodyQ, resAll, resOf, tup, ↓reduceIte, Nat.reduceEqDiff, Nat.reduceSub, Nat.reduceAdd, Nat.reduceMul, Nat.reduceLT, Nat.reduceLeDiff, Int.reduceLE, Int.reduceLT, Int.reduceEq, Int.reduceNeg, Int.reduceToNat, Int.reduceMul, Int.reduceAdd, Int.reduceSub, Int.reduceBEq, Int.reduceBNe, reduceCtorEq, RD, h5]
          refine hKr _ _ ?_
          clear hKr Kr
          try simp only [RN, if_true, if_false, Bool.false_eq_true, if_pos, reduceIte]
          refine ⟨_, rfl, ?_⟩
          simp only [RF, ev_t, ev_c, tup, ↓reduceIte, Nat.reduceEqDiff]
          have : n = 0 := by omega
          subst this
          simpa only [valueOf, hp, hn, if_true, if_false, and_self, List.drop_zero] using hK
    · rw [decide_eq_false hn]
      simp (disch := omega) only [RF, RO, RC, bodyQ, resAll, resOf, tup, ↓reduceIte, Nat.reduceEqDiff, Nat.reduceSub, Nat.reduceAdd, Nat.reduceMul, Nat.reduceLT, Nat.reduceLeDiff, Int.reduceLE, Int.reduceLT, Int.reduceEq, Int.reduceNeg, Int.reduceToNat, Int.reduceMul, Int.reduceAdd, Int.reduceSub, Int.reduceBEq, Int.reduceBNe, reduceCtorEq, RD]
      refine hKr _ _ ?_
      clear hKr Kr
      try simp only [blkQ, thenQ, loopQ]
      try simp only [RN, if_true, if_false, Bool.false_eq_true, if_pos, reduceIte]
      refine T_cseq (t := true) (by simp (disch := omega) only [RF, RO, RC, bodyQ, resAll, resOf, tup, ↓reduceIte, Nat.reduceEqDiff, Nat.reduceSub, Nat.reduceAdd, Nat.reduceMul, Nat.reduceLT, Nat.reduceLeDiff, Int.reduceLE, Int.reduceLT, Int.reduceEq, Int.reduceNeg, Int.reduceToNat, Int.reduceMul, Int.reduceAdd, Int.reduceSub, Int.reduceBEq, Int.reduceBNe, reduceCtorEq, decT, decF]) ?_
      try simp only [RN, if_true, if_false, Bool.false_eq_true, if_pos, reduceIte]
      refine T_rseq fun Kr hKr => ?_
      simp (disch := omega) only [RF, RO, RC, bodyQ, resAll, resOf, tup, ↓reduceIte, Nat.reduceEqDiff, Nat.reduceSub, Nat.reduceAdd, Nat.reduceMul, Nat.reduceLT, Nat.reduceLeDiff, Int.reduceLE, Int.reduceLT, Int.reduceEq, Int.reduceNeg, Int.reduceToNat, Int.reduceMul, Int.reduceAdd, Int.reduceSub, Int.reduceBEq, Int.reduceBNe, reduceCtorEq, RD]
      refine hKr _ _ ?_
      clear hKr Kr
      try simp only [RN, if_true, if_false, Bool.false_eq_true, if_pos, reduceIte]
      refine ⟨_, rfl, ?_⟩
      simp only [RF, ev_t, ev_c, tup, ↓reduceIte, Nat.reduceEqDiff]
      simpa only [valueOf, hp, hn, if_true, if_false, and_self, List.drop_zero] using hK
  · rw [decide_eq_false hp]
    simp (disch := omega) only [RF, RO, RC, bodyQ, resAll, resOf, tup, ↓reduceIte, Nat.reduceEqDiff, Nat.reduceSub, Nat.reduceAdd, Nat.reduceMul, Nat.reduceLT, Nat.reduceLeDiff, Int.reduceLE, Int.reduceLT, Int.reduceEq, Int.reduceNeg, Int.reduceToNat, Int.reduceMul, Int.reduceAdd, Int.reduceSub, Int.reduceBEq, Int.reduceBNe, reduceCtorEq, RD]
    refine hKr _ _ ?_
    clear hKr Kr
    try simp only [blkQ, thenQ, loopQ]
    try simp only [RN, if_true, if_false, Bool.false_eq_true, if_pos, reduceIte]
    refine T_cseq (t := true) (by simp (disch := omega) only [RF, RO, RC, bodyQ, resAll, resOf, tup, ↓reduceIte, Nat.reduceEqDiff, Nat.reduceSub, Nat.reduceAdd, Nat.reduceMul, Nat.reduceLT, Nat.reduceLeDiff, Int.reduceLE, Int.reduceLT, Int.reduceEq, Int.reduceNeg, Int.reduceToNat, Int.reduceMul, Int.reduceAdd, Int.reduceSub, Int.reduceBEq, Int.reduceBNe, reduceCtorEq, decT, decF]) ?_
    try simp only [RN, if_true, if_false, Bool.false_eq_true, if_pos, reduceIte]
    refine T_rseq fun Kr hKr => ?_
    simp (disch := omega) only [RF, RO, RC, bodyQ, resAll, resOf, tup, ↓reduceIte, Nat.reduceEqDiff, Nat.reduceSub, Nat.reduceAdd, Nat.reduceMul, Nat.reduceLT, Nat.reduceLeDiff, Int.reduceLE, Int.reduceLT, Int.reduceEq, Int.reduceNeg, Int.reduceToNat, Int.reduceMul, Int.reduceAdd, Int.reduceSub, Int.reduceBEq, Int.reduceBNe, reduceCtorEq, RD]
    refine hKr _ _ ?_
    clear hKr Kr
    try simp only [RN, if_true, if_false, Bool.false_eq_true, if_pos, reduceIte]
    refine ⟨_, rfl, ?_⟩
    simp only [RF, ev_t, ev_c, tup, ↓reduceIte, Nat.reduceEqDiff]
    simpa only [valueOf, hp, if_false] using hK
end Go.Am

/- Slices that grow; polynomials cut at their end; slopes; stars. -/
set_option linter.unusedVariables false
set_option linter.unusedSimpArgs false
namespace Go.Am
open Go

theorem IsI.row {H : AHeap} {b o e n : Nat} {xs : List Int} (h : IsI H (S b o n e) xs) (hp : 0 < xs.length) : n = xs.length ∧ e = 1 ∧ b < H.n ∧ H.row b o (n * 1) = some (xs.map I) := by
  obtain ⟨b', o', blk, he, hb, hg, hl, hel⟩ := h.pos hp
  cases he
  refine ⟨rfl, rfl, hb, ?_⟩
  simp only [AHeap.row, hg, Nat.mul_one]
  rw [if_pos hl]
  congr 1
  apply List.ext_getElem?
  intro i
  rw [List.getElem?_take]
  split
  · rename_i hi
    rw [List.getElem?_drop, hel i hi]
    simp [hi, el, List.getD]
  · rename_i hi
    rw [List.getElem?_eq_none (by simp; omega)]
theorem all_I (xs : List Int) : (xs.map I).all (·.oneCell') = true := by
  rw [List.all_eq_true]
  intro v hv
  obtain ⟨n, _, rfl⟩ := List.mem_map.1 hv
  rfl
def newOf (xa : Option Addr) (xl e : Nat) (H : AHeap) : Option (List Value) :=
  match xa with
  | some ⟨b, o, none⟩ => if xl = 0 then some [] else H.row b o (xl * e)
  | none => if xl = 0 then some [] else none
  | _ => none
def putNew (e bytes : Nat) (s : Value) (xl : Nat) (H : AHeap) (new : List Value) : Option (Value × AHeap) :=
  match s with
  | .slice none 0 0 =>
    if xl = 0 then some (s, H)
    else if xl * bytes ≤ 140737488355328 then some (S H.n 0 xl e, H.alloc new) else none
  | .slice (some ⟨b, 0, none⟩) l e' =>
    if e' ≠ e then none else
    (match H.get b with
    | some blk =>
      if blk.rw = true ∧ l * e ≤ blk.cells.length ∧ (l + xl) * bytes ≤ 140737488355328 ∧ new.all (·.oneCell') = true
      then some (S H.n 0 (l + xl) e, (H.kill b).alloc (blk.cells.take (l * e) ++ new)) else none
    | none => none)
  | _ => none
theorem aAppend_eq {e bytes xl xe : Nat} {s : Value} {xa : Option Addr} {H : AHeap} {new : List Value} (h1 : ¬ (xl ≠ 0 ∧ xe ≠ e)) (h2 : newOf xa xl e H = some new) : aAppend e bytes s (.slice xa xl xe) H = putNew e bytes s xl H new := by
  simp only [aAppend, h1, if_false]
  rcases xa with _ | ⟨b, o, _ | sp⟩
  · simp only [newOf] at h2
    simp only [h2]
    rfl
  · simp only [newOf] at h2
    simp only [h2]
    rfl
  · simp [newOf] at h2
theorem appendS {lo hi : Nat} {H : AHeap} {v u : Value} {xs ys : List Int} (hv : OwnI lo hi H v xs) (hu : IsI H u ys) (hx : xs.length < 1000000) (hy : ys.length < 10000000) :
    ∃ v' H', aAppend 1 8 v u H = some (v', H') ∧ OwnI H.n H'.n H' v' (xs ++ ys) ∧ Out lo hi H H' := by
  have hrow : ∃ a e, u = .slice a ys.length e ∧ (ys.length ≠ 0 → e = 1) ∧ newOf a ys.length 1 H = some (ys.map I) := by
    rcases hu with ⟨rfl, rfl⟩ | ⟨b, o, blk, rfl, hb, hg, hl, hel⟩
    · exact ⟨none, 0, rfl, by simp, rfl⟩
    · refine ⟨_, _, rfl, fun _ => rfl, ?_⟩
      by_cases h0 : ys.length = 0
      · have : ys = [] := List.eq_nil_of_length_eq_zero h0
        subst this
        rfl
      · simp only [newOf, h0, if_false]
        exact (IsI.row (.inr ⟨b, o, blk, rfl, hb, hg, hl, hel⟩) (by omega)).2.2.2
  obtain ⟨a, e, rfl, he, hrow⟩ := hrow
  have hcond : ¬ (ys.length ≠ 0 ∧ e ≠ 1) := fun h => h.2 (he h.1)
  rcases hv with ⟨rfl, rfl⟩ | ⟨b, rest, rfl, h1, h2, h3, h4⟩
  · by_cases h0 : ys.length = 0
    · have : ys = [] := List.eq_nil_of_length_eq_zero h0
      subst this
      refine ⟨.slice none 0 0, H, ?_, .nil, .refl⟩
      rw [aAppend_eq hcond hrow]
      rfl
    · refine ⟨S H.n 0 ys.length 1, H.alloc (ys.map I), ?_, .inr ⟨H.n, [], by simp, Nat.le_refl _, Nat.lt_succ_self _, Nat.lt_succ_self _, by rw [get_alloc_same]; simp⟩, ⟨Nat.le_succ _, fun b hb _ => get_alloc_ne _ _ _ (by omega)⟩⟩
      rw [aAppend_eq hcond hrow]
      simp only [putNew, h0, if_false]
      rw [if_pos (by omega)]
  · refine ⟨S H.n 0 (xs.length + ys.length) 1, (H.kill b).alloc (xs.map I ++ ys.map I), ?_, .inr ⟨H.n, [], by simp, Nat.le_refl _, Nat.lt_succ_self _, Nat.lt_succ_self _, ?_⟩, ⟨Nat.le_succ _, fun x hx ho => ?_⟩⟩
    · rw [aAppend_eq hcond hrow]
      simp only [putNew, h4]
      rw [if_neg (by simp), if_pos ⟨trivial, by simp, by omega, all_I ys⟩]
      have : ((xs.map I ++ rest).take (xs.length * 1)) = xs.map I := by rw [Nat.mul_one, List.take_append_of_le_length (by simp), List.take_of_length_le (by simp)]
      rw [this]
    · have := get_alloc_same (H.kill b) (xs.map I ++ ys.map I)
      rw [show (H.kill b).n = H.n from rfl] at this
      rw [this]
      simp
    · rw [get_alloc_ne _ _ _ (by show x ≠ H.n; omega), get_kill_ne _ _ _ (by omega)]
theorem append1 {lo hi : Nat} {H : AHeap} {v : Value} {xs : List Int} (y : Int) (hv : OwnI lo hi H v xs) (hx : xs.length < 1000000) :
    ∃ v' H', aAppend 1 8 v (S H.n 0 1 1) (H.alloc [I y]) = some (v', H') ∧ OwnI H.n H'.n H' v' (xs ++ [y]) ∧ Out lo hi H H' := by
  have hu : IsI (H.alloc [I y]) (S H.n 0 1 1) [y] := .inr ⟨H.n, 0, _, rfl, Nat.lt_succ_self _, get_alloc_same _ _, by simp, fun i hi => by
    have : i = 0 := by simpa using hi
    subst this; rfl⟩
  obtain ⟨v', H', h1, h2, h3⟩ := appendS (hv.ext (Ext.alloc H [I y])) hu hx (by simp)
  exact ⟨v', H', h1, h2.weak (Nat.le_succ _) (Nat.le_refl _), ⟨Nat.le_trans (Nat.le_succ _) h3.n, fun b hb ho => (h3.get b (Nat.lt_succ_of_lt hb) ho).trans (get_alloc_ne _ _ _ (by omega))⟩⟩
theorem own_empty (H : AHeap) : OwnI H.n (H.n + 1) (H.alloc []) (S H.n 0 0 1) [] := .inr ⟨H.n, [], by simp, Nat.le_refl _, Nat.lt_succ_self _, Nat.lt_succ_self _, by rw [get_alloc_same]; rfl⟩

/-- How many are left when zeros at the end are cut off the first n. -/
def tl (xs : List Int) : Nat → Nat
  | 0 => 0
  | n + 1 => if el xs n = 0 then tl xs n else n + 1
def trim (xs : List Int) : List Int := xs.take (tl xs xs.length)
theorem tl_le (xs : List Int) : ∀ n, tl xs n ≤ n
  | 0 => Nat.le_refl _
  | n + 1 => by
    simp only [tl]
    split
    · exact Nat.le_succ_of_le (tl_le xs n)
    · exact Nat.le_refl _
theorem tl_stop {xs : List Int} {n : Nat} (h : n = 0 ∨ el xs (n - 1) ≠ 0) : tl xs n = n := by
  cases n with
  | zero => rfl
  | succ n => simp only [tl]; rw [if_neg (by simpa using h)]
theorem tl_step {xs : List Int} {n : Nat} (h : 0 < n) (hz : el xs (n - 1) = 0) : tl xs n = tl xs (n - 1) := by
  cases n with
  | zero => omega
  | succ n => simp only [tl]; rw [if_pos (by simpa using hz)]; rfl
theorem trim_len (xs : List Int) : (trim xs).length = tl xs xs.length := by
  rw [trim, List.length_take, Nat.min_eq_left (tl_le _ _)]
theorem trim_le (xs : List Int) : (trim xs).length ≤ xs.length := by rw [trim_len]; exact tl_le _ _

theorem l01Own_spec {H : AHeap} {v : Value} {xs : List Int} {K : Value → AHeap → Prop} (hx : IsI H v xs) (hl : xs.length < 100000) (hK : ∀ v' H', Ext H H' → OwnI H.n H'.n H' v' xs → K v' H') : CallT F_spec_l01Own [v] H K := by
  obtain ⟨v', H', ha, ho, hout⟩ := appendS (own_empty H) (hx.ext (Ext.alloc H [])) (by simp) (by omega)
  refine CallT_body Γ_spec_l01Own ?_
  simp only [A_spec_l01Own, T_aiff]
  refine T_rseq fun Kr hKr => ?_
  simp (disch := omega) only [RF, RO, RC, bodyQ, resAll, resOf, tup, ↓reduceIte, Nat.reduceEqDiff, Nat.reduceSub, Nat.reduceAdd, Nat.reduceMul, Nat.reduceLT, Nat.reduceLeDiff, Int.reduceLE, Int.reduceLT, Int.reduceEq, Int.reduceNeg, Int.reduceToNat, Int.reduceMul, Int.reduceAdd, Int.reduceSub, Int.reduceBEq, Int.reduceBNe, reduceCtorEq, RD]
  refine hKr _ _ ?_
  clear hKr Kr
  try simp only [RN, if_true, if_false, Bool.false_eq_true, if_pos, reduceIte]
  refine T_rseq fun Kr hKr => ?_
  simp (disch := omega) only [RF, RO, RC, bodyQ, resAll, resOf, tup, ↓reduceIte, Nat.reduceEqDiff, Nat.reduceSub, Nat.reduceAdd, Nat.reduceMul, Nat.reduceLT, Nat.reduceLeDiff, Int.reduceLE, Int.reduceLT, Int.reduceEq, Int.reduceNeg, Int.reduceToNat, Int.reduceMul, Int.reduceAdd, Int.reduceSub, Int.reduceBEq, Int.reduceBNe, reduceCtorEq, RD, ha]
  refine hKr _ _ ?_
  clear hKr Kr
  try simp only [RN, if_true, if_false, Bool.false_eq_true, if_pos, reduceIte]
  refine ⟨_, rfl, ?_⟩
  simp only [RF, ev_t, ev_c, tup, ↓reduceIte, Nat.reduceEqDiff]
  refine hK _ _ ⟨Nat.le_trans (Nat.le_succ _) hout.n, fun b hb => (hout.get b (Nat.lt_succ_of_lt hb) (.inl hb)).trans (get_alloc_ne _ _ _ (by omega))⟩ ?_
  simpa using ho.weak (Nat.le_succ _) (Nat.le_refl _)

theorem IsI.pre {H : AHeap} {b o e n : Nat} {xs : List Int} (h : IsI H (S b o n e) xs) (he : e = 1) {k : Nat} (hk : k ≤ xs.length) : IsI H (S b o k 1) (xs.take k) ∨ (k = 0 ∧ e = 1) := by
  rcases h with ⟨h, _⟩ | ⟨b', o', blk, heq, hb, hg, hl, hel⟩
  · cases h
  · cases heq
    refine .inl (.inr ⟨b, o, blk, by rw [List.length_take, Nat.min_eq_left hk], hb, hg, by rw [List.length_take]; omega, fun i hi => ?_⟩)
    rw [List.length_take] at hi
    rw [hel i (by omega)]
    simp [el, List.getD, show i < k by omega]

theorem l06Trim_spec {H : AHeap} {v : Value} {xs : List Int} {K : Value → AHeap → Prop} (hx : IsI H v xs) (hl : xs.length < 100000) (hK : ∀ v' H', Ext H H' → OwnI H.n H'.n H' v' (trim xs) → K v' H') : CallT F_spec_l06Trim [v] H K := by
  obtain ⟨a, e, rfl⟩ := hx.len
  refine CallT_body Γ_spec_l06Trim ?_
  simp only [A_spec_l06Trim, T_aiff]
  refine T_rseq fun Kr hKr => ?_
  simp (disch := omega) only [RF, RO, RC, bodyQ, resAll, resOf, tup, ↓reduceIte, Nat.reduceEqDiff, Nat.reduceSub, Nat.reduceAdd, Nat.reduceMul, Nat.reduceLT, Nat.reduceLeDiff, Int.reduceLE, Int.reduceLT, Int.reduceEq, Int.reduceNeg, Int.reduceToNat, Int.reduceMul, Int.reduceAdd, Int.reduceSub, Int.reduceBEq, Int.reduceBNe, reduceCtorEq, RD]
  refine hKr _ _ ?_
  clear hKr Kr
  try simp only [RN, if_true, if_false, Bool.false_eq_true, if_pos, reduceIte]
  refine T_rseq fun Kr hKr => ?_
  simp (disch := omega) only [RF, RO, RC, bodyQ, resAll, resOf, tup, ↓reduceIte, Nat.reduceEqDiff, Nat.reduceSub, Nat.reduceAdd, Nat.reduceMul, Nat.reduceLT, Nat.reduceLeDiff, Int.reduceLE, Int.reduceLT, Int.reduceEq, Int.reduceNeg, Int.reduceToNat, Int.reduceMul, Int.reduceAdd, Int.reduceSub, Int.reduceBEq, Int.reduceBNe, reduceCtorEq, RD]
  refine hKr _ _ ?_
  clear hKr Kr
  try simp only [RN, if_true, if_false, Bool.false_eq_true, if_pos, reduceIte]
  refine T_wloop (fun n f H' => n ≤ xs.length ∧ H' = H ∧ f 0 = .slice a xs.length e ∧ f 3 = I n ∧ tl xs n = tl xs xs.length) (xs.length) ?_ ?_
  · exact ⟨Nat.le_refl _, rfl, by simp [RF], by simp [RF], rfl⟩
  · rintro n f H' R ⟨hk, rfl, h0, h3, ht⟩ hN hX hR
    simp only [A_spec_l06Trim.l0, T_aiff]
    have hexit : ∀ f' : Fr, f' 0 = .slice a xs.length e → f' 3 = I n → (n = 0 ∨ el xs (n - 1) ≠ 0) → T (ACode.seq A_spec_l06Trim.r4 .ret) (bodyQ [ARes.tmp 2] K) f' H' := by
      intro f' h0 h3 hs
      have htn := tl_stop hs
      rw [ht] at htn
      have htrim : trim xs = xs.take n := by rw [trim, htn]
      rcases hx with ⟨heq, rfl⟩ | ⟨b, o, blk, heq, hb, hg, hl', hel⟩
      · cases heq
        obtain rfl : n = 0 := by simpa using hk
        simp only [List.length_nil] at h0
        refine T_rseq fun Kr hKr => ?_
        simp (disch := omega) only [RF, RO, RC, bodyQ, resAll, resOf, tup, ↓reduceIte, Nat.reduceEqDiff, Nat.reduceSub, Nat.reduceAdd, Nat.reduceMul, Nat.reduceLT, Nat.reduceLeDiff, Int.reduceLE, Int.reduceLT, Int.reduceEq, Int.reduceNeg, Int.reduceToNat, Int.reduceMul, Int.reduceAdd, Int.reduceSub, Int.reduceBEq, Int.reduceBNe, reduceCtorEq, RD, h0, h3, List.length_nil]
        refine l01Own_spec (.inl ⟨rfl, rfl⟩) (by simp) fun v' H' he ho => ?_
        simp (disch := omega) only [RF, RO, RC, bodyQ, resAll, resOf, tup, ↓reduceIte, Nat.reduceEqDiff, Nat.reduceSub, Nat.reduceAdd, Nat.reduceMul, Nat.reduceLT, Nat.reduceLeDiff, Int.reduceLE, Int.reduceLT, Int.reduceEq, Int.reduceNeg, Int.reduceToNat, Int.reduceMul, Int.reduceAdd, Int.reduceSub, Int.reduceBEq, Int.reduceBNe, reduceCtorEq, RD]
        refine hKr _ _ ?_
        clear hKr Kr
        try simp only [blkQ, thenQ, loopQ]
        try simp only [RN, if_true, if_false, Bool.false_eq_true, if_pos, reduceIte]
        refine ⟨_, rfl, ?_⟩
        simp only [RF, ev_t, ev_c, tup, ↓reduceIte, Nat.reduceEqDiff]
        exact hK _ _ he (by rw [htrim]; simpa using ho)
      · cases heq
        have hx' : IsI H' (S b o n 1) (xs.take n) := .inr ⟨b, o, blk, by rw [List.length_take, Nat.min_eq_left hk], hb, hg, by rw [List.length_take]; omega, fun i hi => by
          rw [List.length_take] at hi
          rw [hel i (by omega)]
          simp [el, List.getD, show i < n by omega]⟩
        refine T_rseq fun Kr hKr => ?_
        simp (disch := omega) only [RF, RO, RC, bodyQ, resAll, resOf, tup, ↓reduceIte, Nat.reduceEqDiff, Nat.reduceSub, Nat.reduceAdd, Nat.reduceMul, Nat.reduceLT, Nat.reduceLeDiff, Int.reduceLE, Int.reduceLT, Int.reduceEq, Int.reduceNeg, Int.reduceToNat, Int.reduceMul, Int.reduceAdd, Int.reduceSub, Int.reduceBEq, Int.reduceBNe, reduceCtorEq, RD, h0, h3]
        refine l01Own_spec hx' (by rw [List.length_take]; omega) fun v' H' he ho => ?_
        simp (disch := omega) only [RF, RO, RC, bodyQ, resAll, resOf, tup, ↓reduceIte, Nat.reduceEqDiff, Nat.reduceSub, Nat.reduceAdd, Nat.reduceMul, Nat.reduceLT, Nat.reduceLeDiff, Int.reduceLE, Int.reduceLT, Int.reduceEq, Int.reduceNeg, Int.reduceToNat, Int.reduceMul, Int.reduceAdd, Int.reduceSub, Int.reduceBEq, Int.reduceBNe, reduceCtorEq, RD]
        refine hKr _ _ ?_
        clear hKr Kr
        try simp only [blkQ, thenQ, loopQ]
        try simp only [RN, if_true, if_false, Bool.false_eq_true, if_pos, reduceIte]
        refine ⟨_, rfl, ?_⟩
        simp only [RF, ev_t, ev_c, tup, ↓reduceIte, Nat.reduceEqDiff]
        exact hK _ _ he (by rw [htrim]; exact ho)
    by_cases hn : 0 < n
    · obtain ⟨b, o, blk, heq, hb, hg, hlen, hel⟩ := hx.pos (by omega)
      cases heq
      have hi : (n : Int) - 1 = ((n - 1 : Nat) : Int) := by omega
      have hn1 : n - 1 < xs.length := by omega
      by_cases hz : el xs (n - 1) = 0
      · refine T_rseq fun Kr hKr => ?_
        simp (disch := omega) only [RF, RO, RC, bodyQ, resAll, resOf, tup, ↓reduceIte, Nat.reduceEqDiff, Nat.reduceSub, Nat.reduceAdd, Nat.reduceMul, Nat.reduceLT, Nat.reduceLeDiff, Int.reduceLE, Int.reduceLT, Int.reduceEq, Int.reduceNeg, Int.reduceToNat, Int.reduceMul, Int.reduceAdd, Int.reduceSub, Int.reduceBEq, Int.reduceBNe, reduceCtorEq, RD, h0, h3, hi, hn1, hg, hel, hz]
        refine hKr _ _ ?_
        clear hKr Kr
        try simp only [RN, if_true, if_false, Bool.false_eq_true, if_pos, reduceIte]
        refine T_cseq (t := true) (by simp (disch := omega) only [RF, RO, RC, bodyQ, resAll, resOf, tup, ↓reduceIte, Nat.reduceEqDiff, Nat.reduceSub, Nat.reduceAdd, Nat.reduceMul, Nat.reduceLT, Nat.reduceLeDiff, Int.reduceLE, Int.reduceLT, Int.reduceEq, Int.reduceNeg, Int.reduceToNat, Int.reduceMul, Int.reduceAdd, Int.reduceSub, Int.reduceBEq, Int.reduceBNe, reduceCtorEq, decT, decF]) ?_
        try simp only [RN, if_true, if_false, Bool.false_eq_true, if_pos, reduceIte]
        first | refine T_bfree rfl ?_ | refine T_bfree' rfl ?_
        try simp only [RN, if_true, if_false, Bool.false_eq_true, if_pos, reduceIte]
        refine T_reg_k fun Kr hKr => ?_
        simp (disch := omega) only [RF, RO, RC, bodyQ, resAll, resOf, tup, ↓reduceIte, Nat.reduceEqDiff, Nat.reduceSub, Nat.reduceAdd, Nat.reduceMul, Nat.reduceLT, Nat.reduceLeDiff, Int.reduceLE, Int.reduceLT, Int.reduceEq, Int.reduceNeg, Int.reduceToNat, Int.reduceMul, Int.reduceAdd, Int.reduceSub, Int.reduceBEq, Int.reduceBNe, reduceCtorEq, RD, h3, hi]
        refine hKr _ _ ?_
        clear hKr Kr
        refine hN (n - 1) _ _ (by omega) ⟨by omega, rfl, by simp [RF, h0], by simp [RF], by rw [← tl_step hn hz]; exact ht⟩
      · refine T_rseq fun Kr hKr => ?_
        simp (disch := omega) only [RF, RO, RC, bodyQ, resAll, resOf, tup, ↓reduceIte, Nat.reduceEqDiff, Nat.reduceSub, Nat.reduceAdd, Nat.reduceMul, Nat.reduceLT, Nat.reduceLeDiff, Int.reduceLE, Int.reduceLT, Int.reduceEq, Int.reduceNeg, Int.reduceToNat, Int.reduceMul, Int.reduceAdd, Int.reduceSub, Int.reduceBEq, Int.reduceBNe, reduceCtorEq, RD, h0, h3, hi, hn1, hg, hel, hz]
        refine hKr _ _ ?_
        clear hKr Kr
        try simp only [RN, if_true, if_false, Bool.false_eq_true, if_pos, reduceIte]
        refine T_cseq (t := false) (by simp (disch := omega) only [RF, RO, RC, bodyQ, resAll, resOf, tup, ↓reduceIte, Nat.reduceEqDiff, Nat.reduceSub, Nat.reduceAdd, Nat.reduceMul, Nat.reduceLT, Nat.reduceLeDiff, Int.reduceLE, Int.reduceLT, Int.reduceEq, Int.reduceNeg, Int.reduceToNat, Int.reduceMul, Int.reduceAdd, Int.reduceSub, Int.reduceBEq, Int.reduceBNe, reduceCtorEq, decT, decF]) ?_
        try simp only [RN, if_true, if_false, Bool.false_eq_true, if_pos, reduceIte]
        refine hX _ _ (hexit _ (by simp [RF, h0]) (by simp [RF, h3]) (.inr hz))
    · refine T_rseq fun Kr hKr => ?_
      simp (disch := omega) only [RF, RO, RC, bodyQ, resAll, resOf, tup, ↓reduceIte, Nat.reduceEqDiff, Nat.reduceSub, Nat.reduceAdd, Nat.reduceMul, Nat.reduceLT, Nat.reduceLeDiff, Int.reduceLE, Int.reduceLT, Int.reduceEq, Int.reduceNeg, Int.reduceToNat, Int.reduceMul, Int.reduceAdd, Int.reduceSub, Int.reduceBEq, Int.reduceBNe, reduceCtorEq, RD, h0, h3]
      refine hKr _ _ ?_
      clear hKr Kr
      try simp only [RN, if_true, if_false, Bool.false_eq_true, if_pos, reduceIte]
      refine T_cseq (t := false) (by simp (disch := omega) only [RF, RO, RC, bodyQ, resAll, resOf, tup, ↓reduceIte, Nat.reduceEqDiff, Nat.reduceSub, Nat.reduceAdd, Nat.reduceMul, Nat.reduceLT, Nat.reduceLeDiff, Int.reduceLE, Int.reduceLT, Int.reduceEq, Int.reduceNeg, Int.reduceToNat, Int.reduceMul, Int.reduceAdd, Int.reduceSub, Int.reduceBEq, Int.reduceBNe, reduceCtorEq, decT, decF]) ?_
      try simp only [RN, if_true, if_false, Bool.false_eq_true, if_pos, reduceIte]
      refine hX _ _ (hexit _ (by simp [RF, h0]) (by simp [RF, h3]) (.inl (by omega)))

theorem OwnI.pre {lo hi : Nat} {H : AHeap} {b n e : Nat} {xs : List Int} (h : OwnI lo hi H (S b 0 n e) xs) {k : Nat} (hk : k ≤ xs.length) : OwnI lo hi H (S b 0 k 1) (xs.take k) := by
  rcases h with ⟨h, _⟩ | ⟨b', rest, heq, h1, h2, h3, h4⟩
  · cases h
  · cases heq
    refine .inr ⟨b, (xs.drop k).map I ++ rest, by rw [List.length_take, Nat.min_eq_left hk], h1, h2, h3, ?_⟩
    rw [h4, ← List.append_assoc, ← List.map_append, List.take_append_drop]

theorem cut_spec {lo hi : Nat} {H : AHeap} {v : Value} {xs : List Int} {K : Value → AHeap → Prop} (hx : OwnI lo hi H v xs) (hl : xs.length < 100000) (hK : ∀ v', OwnI lo hi H v' (trim xs) → K v' H) : CallT F_impl_cut [v] H K := by
  refine CallT_body Γ_impl_cut ?_
  simp only [A_impl_cut, T_aiff]
  refine T_rseq fun Kr hKr => ?_
  simp (disch := omega) only [RF, RO, RC, bodyQ, resAll, resOf, tup, ↓reduceIte, Nat.reduceEqDiff, Nat.reduceSub, Nat.reduceAdd, Nat.reduceMul, Nat.reduceLT, Nat.reduceLeDiff, Int.reduceLE, Int.reduceLT, Int.reduceEq, Int.reduceNeg, Int.reduceToNat, Int.reduceMul, Int.reduceAdd, Int.reduceSub, Int.reduceBEq, Int.reduceBNe, reduceCtorEq, RD]
  refine hKr _ _ ?_
  clear hKr Kr
  try simp only [RN, if_true, if_false, Bool.false_eq_true, if_pos, reduceIte]
  refine T_wloop (fun n f H' => n ≤ xs.length ∧ H' = H ∧ (∃ u, f 0 = u ∧ OwnI lo hi H u (xs.take n)) ∧ tl xs n = tl xs xs.length) (xs.length) ?_ ?_
  · exact ⟨Nat.le_refl _, rfl, ⟨v, by simp [RF], by simpa using hx⟩, rfl⟩
  · rintro n f H' R ⟨hk, rfl, ⟨u, h0, hu⟩, ht⟩ hN hX hR
    simp only [A_impl_cut.l0, T_aiff]
    obtain ⟨a, e, rfl⟩ := hu.len
    have hlen : (xs.take n).length = n := by rw [List.length_take, Nat.min_eq_left hk]
    rw [hlen] at hu h0
    have hexit : ∀ f' : Fr, f' 0 = .slice a n e → (n = 0 ∨ el xs (n - 1) ≠ 0) → T (ACode.seq A_impl_cut.r3 .ret) (bodyQ [ARes.tmp 2] K) f' H' := by
      intro f' h0 hs
      have htn := tl_stop hs
      rw [ht] at htn
      refine T_rseq fun Kr hKr => ?_
      simp (disch := omega) only [RF, RO, RC, bodyQ, resAll, resOf, tup, ↓reduceIte, Nat.reduceEqDiff, Nat.reduceSub, Nat.reduceAdd, Nat.reduceMul, Nat.reduceLT, Nat.reduceLeDiff, Int.reduceLE, Int.reduceLT, Int.reduceEq, Int.reduceNeg, Int.reduceToNat, Int.reduceMul, Int.reduceAdd, Int.reduceSub, Int.reduceBEq, Int.reduceBNe, reduceCtorEq, RD, h0]
      refine hKr _ _ ?_
      clear hKr Kr
      try simp only [RN, if_true, if_false, Bool.false_eq_true, if_pos, reduceIte]
      refine ⟨_, rfl, ?_⟩
      simp only [RF, ev_t, ev_c, tup, ↓reduceIte, Nat.reduceEqDiff]
      exact hK _ (by rw [trim, htn]; exact hu)
    by_cases hn : 0 < n
    · obtain ⟨b, rest, heq, h1, h2, h3, hg⟩ := hu.pos (by omega)
      rw [hlen] at heq
      cases heq
      have hi : (n : Int) - 1 = ((n - 1 : Nat) : Int) := by omega
      have hn1 : n - 1 < n := by omega
      have hc : (List.map I (List.take n xs) ++ rest)[0 + (n - 1)]? = some (I (el xs (n - 1))) := by
        rw [Nat.zero_add, get_own (by omega)]
        simp [el, List.getD, hn1]
      simp only [Nat.zero_add] at hc
      generalize hcs : List.map I (List.take n xs) ++ rest = cs at hg hc
      by_cases hz : el xs (n - 1) = 0
      · refine T_rseq fun Kr hKr => ?_
        simp (disch := omega) only [RF, RO, RC, bodyQ, resAll, resOf, tup, ↓reduceIte, Nat.reduceEqDiff, Nat.reduceSub, Nat.reduceAdd, Nat.reduceMul, Nat.reduceLT, Nat.reduceLeDiff, Int.reduceLE, Int.reduceLT, Int.reduceEq, Int.reduceNeg, Int.reduceToNat, Int.reduceMul, Int.reduceAdd, Int.reduceSub, Int.reduceBEq, Int.reduceBNe, reduceCtorEq, RD, h0, hi, hn1, hg, hc, hz]
        refine hKr _ _ ?_
        clear hKr Kr
        try simp only [RN, if_true, if_false, Bool.false_eq_true, if_pos, reduceIte]
        refine T_cseq (t := true) (by simp (disch := omega) only [RF, RO, RC, bodyQ, resAll, resOf, tup, ↓reduceIte, Nat.reduceEqDiff, Nat.reduceSub, Nat.reduceAdd, Nat.reduceMul, Nat.reduceLT, Nat.reduceLeDiff, Int.reduceLE, Int.reduceLT, Int.reduceEq, Int.reduceNeg, Int.reduceToNat, Int.reduceMul, Int.reduceAdd, Int.reduceSub, Int.reduceBEq, Int.reduceBNe, reduceCtorEq, decT, decF]) ?_
        try simp only [RN, if_true, if_false, Bool.false_eq_true, if_pos, reduceIte]
        first | refine T_bfree rfl ?_ | refine T_bfree' rfl ?_
        try simp only [RN, if_true, if_false, Bool.false_eq_true, if_pos, reduceIte]
        refine T_reg_k fun Kr hKr => ?_
        simp (disch := omega) only [RF, RO, RC, bodyQ, resAll, resOf, tup, ↓reduceIte, Nat.reduceEqDiff, Nat.reduceSub, Nat.reduceAdd, Nat.reduceMul, Nat.reduceLT, Nat.reduceLeDiff, Int.reduceLE, Int.reduceLT, Int.reduceEq, Int.reduceNeg, Int.reduceToNat, Int.reduceMul, Int.reduceAdd, Int.reduceSub, Int.reduceBEq, Int.reduceBNe, reduceCtorEq, RD, h0, hi]
        refine hKr _ _ ?_
        clear hKr Kr
        have hp := hu.pre (k := n - 1) (by omega)
        rw [List.take_take, Nat.min_eq_left (by omega)] at hp
        refine hN (n - 1) _ _ (by omega) ⟨by omega, rfl, ⟨S b 0 (n - 1) 1, by simp [RF], hp⟩, by rw [← tl_step hn hz]; exact ht⟩
      · refine T_rseq fun Kr hKr => ?_
        simp (disch := omega) only [RF, RO, RC, bodyQ, resAll, resOf, tup, ↓reduceIte, Nat.reduceEqDiff, Nat.reduceSub, Nat.reduceAdd, Nat.reduceMul, Nat.reduceLT, Nat.reduceLeDiff, Int.reduceLE, Int.reduceLT, Int.reduceEq, Int.reduceNeg, Int.reduceToNat, Int.reduceMul, Int.reduceAdd, Int.reduceSub, Int.reduceBEq, Int.reduceBNe, reduceCtorEq, RD, h0, hi, hn1, hg, hc, hz]
        refine hKr _ _ ?_
        clear hKr Kr
        try simp only [RN, if_true, if_false, Bool.false_eq_true, if_pos, reduceIte]
        refine T_cseq (t := false) (by simp (disch := omega) only [RF, RO, RC, bodyQ, resAll, resOf, tup, ↓reduceIte, Nat.reduceEqDiff, Nat.reduceSub, Nat.reduceAdd, Nat.reduceMul, Nat.reduceLT, Nat.reduceLeDiff, Int.reduceLE, Int.reduceLT, Int.reduceEq, Int.reduceNeg, Int.reduceToNat, Int.reduceMul, Int.reduceAdd, Int.reduceSub, Int.reduceBEq, Int.reduceBNe, reduceCtorEq, decT, decF]) ?_
        try simp only [RN, if_true, if_false, Bool.false_eq_true, if_pos, reduceIte]
        refine hX _ _ (hexit _ (by simp [RF, h0]) (.inr hz))
    · refine T_rseq fun Kr hKr => ?_
      simp (disch := omega) only [RF, RO, RC, bodyQ, resAll, resOf, tup, ↓reduceIte, Nat.reduceEqDiff, Nat.reduceSub, Nat.reduceAdd, Nat.reduceMul, Nat.reduceLT, Nat.reduceLeDiff, Int.reduceLE, Int.reduceLT, Int.reduceEq, Int.reduceNeg, Int.reduceToNat, Int.reduceMul, Int.reduceAdd, Int.reduceSub, Int.reduceBEq, Int.reduceBNe, reduceCtorEq, RD, h0]
      refine hKr _ _ ?_
      clear hKr Kr
      try simp only [RN, if_true, if_false, Bool.false_eq_true, if_pos, reduceIte]
      refine T_cseq (t := false) (by simp (disch := omega) only [RF, RO, RC, bodyQ, resAll, resOf, tup, ↓reduceIte, Nat.reduceEqDiff, Nat.reduceSub, Nat.reduceAdd, Nat.reduceMul, Nat.reduceLT, Nat.reduceLeDiff, Int.reduceLE, Int.reduceLT, Int.reduceEq, Int.reduceNeg, Int.reduceToNat, Int.reduceMul, Int.reduceAdd, Int.reduceSub, Int.reduceBEq, Int.reduceBNe, reduceCtorEq, decT, decF]) ?_
      try simp only [RN, if_true, if_false, Bool.false_eq_true, if_pos, reduceIte]
      refine hX _ _ (hexit _ (by simp [RF, h0]) (.inl (by omega)))
end Go.Am

