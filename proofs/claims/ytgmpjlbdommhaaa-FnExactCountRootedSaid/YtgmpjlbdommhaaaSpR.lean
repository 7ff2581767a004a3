/- Types of trees: the program's own test; counts. -/
import Derived.Test.YtgmpjlbdommhaaaSpQ
set_option linter.unusedVariables false
set_option linter.unusedSimpArgs false
namespace Go.Am
open Go

def okTypes (xs ys : List Int) : Prop := Ty xs ∧ Ty ys ∧ sm xs xs.length = sm ys ys.length ∧ 1 ≤ sm xs xs.length ∧ sm xs xs.length ≤ 16
instance (xs ys : List Int) : Decidable (okTypes xs ys) := by unfold okTypes; infer_instance
theorem okTypes_sot {xs ys : List Int} : (0 < sot xs ∧ sot xs ≤ 16 ∧ sot ys = sot xs) ↔ okTypes xs ys := by
  unfold okTypes sot
  by_cases h1 : Ty xs ∧ sm xs xs.length ≤ 16
  · rw [if_pos h1]
    by_cases h2 : Ty ys ∧ sm ys ys.length ≤ 16
    · rw [if_pos h2]
      exact ⟨fun h => ⟨h1.1, h2.1, h.2.2.symm, by omega, h1.2⟩, fun h => ⟨by omega, by omega, h.2.2.1.symm⟩⟩
    · rw [if_neg h2]
      exact ⟨fun h => by omega, fun h => absurd ⟨h.2.1, by omega⟩ h2⟩
  · rw [if_neg h1]
    exact ⟨fun h => by omega, fun h => absurd ⟨h.1, h.2.2.2.2⟩ h1⟩
theorem okTypes_len {xs ys : List Int} (h : okTypes xs ys) : 1 ≤ xs.length ∧ xs.length ≤ 16 ∧ 1 ≤ ys.length ∧ ys.length ≤ 16 := by
  have h1 := sm_lo h.1
  have h2 := sm_lo h.2.1
  obtain ⟨_, _, h3, h4, h5⟩ := h
  have e1 : 1 ≤ xs.length := by
    rcases Nat.eq_zero_or_pos xs.length with e | e
    · rw [e] at h4; simp [sm] at h4
    · exact e
  have e2 : 1 ≤ ys.length := by
    rcases Nat.eq_zero_or_pos ys.length with e | e
    · rw [e] at h3; simp [sm] at h3; omega
    · exact e
  omega
theorem areTypes_spec {H : AHeap} {v u : Value} {xs ys : List Int} {K : Value → AHeap → Prop} (hx : IsI H v xs) (hl : xs.length ≤ 2000000) (hy : IsI H u ys) (hly : ys.length ≤ 2000000) (hK : K (.bool (decide (okTypes xs ys))) H) : CallT F_impl_areTypes [v, u, I 16] H K := by
  have hiff := @okTypes_sot xs ys
  refine CallT_body Γ_impl_areTypes ?_
  simp only [A_impl_areTypes, T_aiff]
  refine T_rseq fun Kr hKr => ?_
  simp (disch := omega) only [RF, RO, RC, bodyQ, resAll, resOf, tup, ↓reduceIte, Nat.reduceEqDiff, Nat.reduceSub, Nat.reduceAdd, Nat.reduceMul, Nat.reduceLT, Nat.reduceLeDiff, Int.reduceLE, Int.reduceLT, Int.reduceEq, Int.reduceNeg, Int.reduceToNat, Int.reduceMul, Int.reduceAdd, Int.reduceSub, Int.reduceBEq, Int.reduceBNe, reduceCtorEq, RD]
  refine hKr _ _ ?_
  clear hKr Kr
  try simp only [RN, if_true, if_false, Bool.false_eq_true, if_pos, reduceIte]
  refine T_rseq fun Kr hKr => ?_
  simp (disch := omega) only [RF, RO, RC, bodyQ, resAll, resOf, tup, ↓reduceIte, Nat.reduceEqDiff, Nat.reduceSub, Nat.reduceAdd, Nat.reduceMul, Nat.reduceLT, Nat.reduceLeDiff, Int.reduceLE, Int.reduceLT, Int.reduceEq, Int.reduceNeg, Int.reduceToNat, Int.reduceMul, Int.reduceAdd, Int.reduceSub, Int.reduceBEq, Int.reduceBNe, reduceCtorEq, RD]
  refine sumOfType_spec hx hl ?_
  simp (disch := omega) only [RF, RO, RC, bodyQ, resAll, resOf, tup, ↓reduceIte, Nat.reduceEqDiff, Nat.reduceSub, Nat.reduceAdd, Nat.reduceMul, Nat.reduceLT, Nat.reduceLeDiff, Int.reduceLE, Int.reduceLT, Int.reduceEq, Int.reduceNeg, Int.reduceToNat, Int.reduceMul, Int.reduceAdd, Int.reduceSub, Int.reduceBEq, Int.reduceBNe, reduceCtorEq, RD]
  refine hKr _ _ ?_
  clear hKr Kr
  try simp only [blkQ, thenQ, loopQ]
  try simp only [RN, if_true, if_false, Bool.false_eq_true, if_pos, reduceIte]
  by_cases h1 : 0 < sot xs
  · by_cases h2 : sot xs ≤ 16
    · refine T_rseq fun Kr hKr => ?_
      simp (disch := omega) only [RF, RO, RC, bodyQ, resAll, resOf, tup, ↓reduceIte, Nat.reduceEqDiff, Nat.reduceSub, Nat.reduceAdd, Nat.reduceMul, Nat.reduceLT, Nat.reduceLeDiff, Int.reduceLE, Int.reduceLT, Int.reduceEq, Int.reduceNeg, Int.reduceToNat, Int.reduceMul, Int.reduceAdd, Int.reduceSub, Int.reduceBEq, Int.reduceBNe, reduceCtorEq, RD]
      refine sumOfType_spec hy hly ?_
      by_cases h3 : sot ys = sot xs
      · simp (disch := omega) only [RF, RO, RC, bodyQ, resAll, resOf, tup, ↓reduceIte, Nat.reduceEqDiff, Nat.reduceSub, Nat.reduceAdd, Nat.reduceMul, Nat.reduceLT, Nat.reduceLeDiff, Int.reduceLE, Int.reduceLT, Int.reduceEq, Int.reduceNeg, Int.reduceToNat, Int.reduceMul, Int.reduceAdd, Int.reduceSub, Int.reduceBEq, Int.reduceBNe, reduceCtorEq, RD, h3]
        refine hKr _ _ ?_
        clear hKr Kr
        try simp only [blkQ, thenQ, loopQ]
        try simp only [RN, if_true, if_false, Bool.false_eq_true, if_pos, reduceIte]
        refine ⟨_, rfl, ?_⟩
        simp only [RF, ev_t, ev_c, tup, ↓reduceIte, Nat.reduceEqDiff]
        have : okTypes xs ys := hiff.1 ⟨h1, h2, h3⟩
        simpa [this] using hK
      · simp (disch := omega) only [RF, RO, RC, bodyQ, resAll, resOf, tup, ↓reduceIte, Nat.reduceEqDiff, Nat.reduceSub, Nat.reduceAdd, Nat.reduceMul, Nat.reduceLT, Nat.reduceLeDiff, Int.reduceLE, Int.reduceLT, Int.reduceEq, Int.reduceNeg, Int.reduceToNat, Int.reduceMul, Int.reduceAdd, Int.reduceSub, Int.reduceBEq, Int.reduceBNe, reduceCtorEq, RD, h3]
        refine hKr _ _ ?_
        clear hKr Kr
        try simp only [blkQ, thenQ, loopQ]
        try simp only [RN, if_true, if_false, Bool.false_eq_true, if_pos, reduceIte]
        refine ⟨_, rfl, ?_⟩
        simp only [RF, ev_t, ev_c, tup, ↓reduceIte, Nat.reduceEqDiff]
        have : ¬ okTypes xs ys := fun h => h3 (hiff.2 h).2.2
        simpa [this] using hK
    · refine T_rseq fun Kr hKr => ?_
      simp (disch := omega) only [RF, RO, RC, bodyQ, resAll, resOf, tup, ↓reduceIte, Nat.reduceEqDiff, Nat.reduceSub, Nat.reduceAdd, Nat.reduceMul, Nat.reduceLT, Nat.reduceLeDiff, Int.reduceLE, Int.reduceLT, Int.reduceEq, Int.reduceNeg, Int.reduceToNat, Int.reduceMul, Int.reduceAdd, Int.reduceSub, Int.reduceBEq, Int.reduceBNe, reduceCtorEq, RD]
      refine hKr _ _ ?_
      clear hKr Kr
      try simp only [RN, if_true, if_false, Bool.false_eq_true, if_pos, reduceIte]
      refine ⟨_, rfl, ?_⟩
      simp only [RF, ev_t, ev_c, tup, ↓reduceIte, Nat.reduceEqDiff]
      have : ¬ okTypes xs ys := fun h => h2 (hiff.2 h).2.1
      simpa [this] using hK
  · refine T_rseq fun Kr hKr => ?_
    simp (disch := omega) only [RF, RO, RC, bodyQ, resAll, resOf, tup, ↓reduceIte, Nat.reduceEqDiff, Nat.reduceSub, Nat.reduceAdd, Nat.reduceMul, Nat.reduceLT, Nat.reduceLeDiff, Int.reduceLE, Int.reduceLT, Int.reduceEq, Int.reduceNeg, Int.reduceToNat, Int.reduceMul, Int.reduceAdd, Int.reduceSub, Int.reduceBEq, Int.reduceBNe, reduceCtorEq, RD]
    refine hKr _ _ ?_
    clear hKr Kr
    try simp only [RN, if_true, if_false, Bool.false_eq_true, if_pos, reduceIte]
    refine ⟨_, rfl, ?_⟩
    simp only [RF, ev_t, ev_c, tup, ↓reduceIte, Nat.reduceEqDiff]
    have : ¬ okTypes xs ys := fun h => h1 (hiff.2 h).1
    simpa [this] using hK
def countN (xs ys : List Int) : Int := sm xs xs.length * fact (xs.length - 1) * fact (ys.length - 1)
def countD (xs ys : List Int) : Int := eqs xs xs.length * eqs ys ys.length
def resCountRooted (xs ys : List Int) : Int × Int :=
  if okTypes xs ys then if (xs.length : Int) + (ys.length : Int) = sm xs xs.length + 1 then ((countN xs ys).tdiv (countD xs ys), 0) else (0, 0) else (0, 2)
theorem fact_two {a b : Nat} (h : a + b ≤ 17) : fact a * fact b ≤ 400000000000000 := by
  have key : ∀ a : Nat, a < 18 → ∀ b : Nat, b < 18 → a + b ≤ 17 → fact a * fact b ≤ 400000000000000 := by decide +kernel
  exact key a (by omega) b (by omega) h
end Go.Am
