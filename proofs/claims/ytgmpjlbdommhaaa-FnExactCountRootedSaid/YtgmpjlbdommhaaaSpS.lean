/- Counts of rooted trees: the program's own. -/
import Derived.Test.YtgmpjlbdommhaaaSpR
set_option linter.unusedVariables false
set_option linter.unusedSimpArgs false
namespace Go.Am
open Go

theorem sot_ok {xs ys : List Int} (h : okTypes xs ys) : sot xs = sm xs xs.length := by
  unfold sot
  rw [if_pos ⟨h.1, h.2.2.2.2⟩]
theorem count_bd {xs ys : List Int} (h : okTypes xs ys) (hpq : (xs.length : Int) + (ys.length : Int) = sm xs xs.length + 1) :
    (0 ≤ sm xs xs.length * fact (xs.length - 1) ∧ sm xs xs.length * fact (xs.length - 1) ≤ 10000000000000000) ∧ (0 ≤ countN xs ys ∧ countN xs ys ≤ 10000000000000000) ∧ (1 ≤ countD xs ys ∧ countD xs ys ≤ 400000000000000) ∧
    (0 ≤ (countN xs ys).tdiv (countD xs ys) ∧ (countN xs ys).tdiv (countD xs ys) ≤ 10000000000000000) := by
  have hl := okTypes_len h
  obtain ⟨_, _, h3, h4, h5⟩ := h
  have f1 := fact_pos (xs.length - 1)
  have f2 := fact_pos (ys.length - 1)
  have f3 := fact_bd (n := xs.length - 1) (by omega)
  have ft := fact_two (a := xs.length - 1) (b := ys.length - 1) (by omega)
  have fq := fact_two (a := xs.length) (b := ys.length) (by omega)
  have e1 := eqs_bd xs xs.length
  have e2 := eqs_bd ys ys.length
  have g1 := fact_pos xs.length
  have a1 : 0 ≤ sm xs xs.length * fact (xs.length - 1) := Int.mul_nonneg (by omega) (by omega)
  have a2 : sm xs xs.length * fact (xs.length - 1) ≤ 16 * 400000000000000 := Int.mul_le_mul h5 f3 (by omega) (by omega)
  have b1 : 0 ≤ fact (xs.length - 1) * fact (ys.length - 1) := Int.mul_nonneg (by omega) (by omega)
  have b2 : countN xs ys = sm xs xs.length * (fact (xs.length - 1) * fact (ys.length - 1)) := by rw [countN, Int.mul_assoc]
  have b3 : 0 ≤ countN xs ys := by rw [b2]; exact Int.mul_nonneg (by omega) b1
  have b4 : countN xs ys ≤ 16 * 400000000000000 := by rw [b2]; exact Int.mul_le_mul h5 ft b1 (by omega)
  have d1 : 1 * 1 ≤ countD xs ys := Int.mul_le_mul e1.1 e2.1 (by omega) (by omega)
  have d2 : countD xs ys ≤ fact xs.length * fact ys.length := Int.mul_le_mul e1.2 e2.2 (by omega) (by omega)
  have q1 : (countN xs ys).tdiv (countD xs ys) = countN xs ys / countD xs ys := Int.tdiv_eq_ediv_of_nonneg b3
  have q2 : 0 ≤ countN xs ys / countD xs ys := Int.ediv_nonneg b3 (by omega)
  have q3 : countN xs ys / countD xs ys ≤ countN xs ys := Int.ediv_le_self _ b3
  refine ⟨⟨a1, by omega⟩, ⟨b3, by omega⟩, ⟨by omega, by omega⟩, ?_⟩
  rw [q1]
  omega
theorem ifz' {α : Type} {a b : α} {D : Int} (h : 1 ≤ D) : (if D = 0 then a else b) = b := if_neg (by omega)
theorem impl_CountRooted_spec {H : AHeap} {v u : Value} {xs ys : List Int} {K : Value → AHeap → Prop} (hx : IsI H v xs) (hl : xs.length ≤ 1048576) (hy : IsI H u ys) (hly : ys.length ≤ 1048576)
    (hK : ∀ H', Ext H H' → K (.tuple ⟨[I (resCountRooted xs ys).1, I (resCountRooted xs ys).2]⟩) H') : CallT F_impl_CountRooted [v, u] H K := by
  obtain ⟨a, e, rfl⟩ := hx.len
  obtain ⟨a', e', rfl⟩ := hy.len
  have hK' := hK H (Ext.refl' H)
  refine CallT_body Γ_impl_CountRooted ?_
  simp only [A_impl_CountRooted, T_aiff]
  refine T_rseq fun Kr hKr => ?_
  simp (disch := omega) only [RF, RO, RC, bodyQ, resAll, resOf, tup, ↓reduceIte, Nat.reduceEqDiff, Nat.reduceSub, Nat.reduceAdd, Nat.reduceMul, Nat.reduceLT, Nat.reduceLeDiff, Int.reduceLE, Int.reduceLT, Int.reduceEq, Int.reduceNeg, Int.reduceToNat, Int.reduceMul, Int.reduceAdd, Int.reduceSub, Int.reduceBEq, Int.reduceBNe, reduceCtorEq, RD]
  refine hKr _ _ ?_
  clear hKr Kr
  try simp only [RN, if_true, if_false, Bool.false_eq_true, if_pos, reduceIte]
  refine T_rseq fun Kr hKr => ?_
  simp (disch := omega) only [RF, RO, RC, bodyQ, resAll, resOf, tup, ↓reduceIte, Nat.reduceEqDiff, Nat.reduceSub, Nat.reduceAdd, Nat.reduceMul, Nat.reduceLT, Nat.reduceLeDiff, Int.reduceLE, Int.reduceLT, Int.reduceEq, Int.reduceNeg, Int.reduceToNat, Int.reduceMul, Int.reduceAdd, Int.reduceSub, Int.reduceBEq, Int.reduceBNe, reduceCtorEq, RD]
  refine areTypes_spec hx (by omega) hy (by omega) ?_
  by_cases hok : okTypes xs ys
  · rw [decide_eq_true hok]
    simp only [resCountRooted, hok, if_true] at hK'
    have hlen := okTypes_len hok
    have hb := hok.2.2.2
    simp (disch := omega) only [RF, RO, RC, bodyQ, resAll, resOf, tup, ↓reduceIte, Nat.reduceEqDiff, Nat.reduceSub, Nat.reduceAdd, Nat.reduceMul, Nat.reduceLT, Nat.reduceLeDiff, Int.reduceLE, Int.reduceLT, Int.reduceEq, Int.reduceNeg, Int.reduceToNat, Int.reduceMul, Int.reduceAdd, Int.reduceSub, Int.reduceBEq, Int.reduceBNe, reduceCtorEq, RD]
    refine hKr _ _ ?_
    clear hKr Kr
    try simp only [blkQ, thenQ, loopQ]
    try simp only [RN, if_true, if_false, Bool.false_eq_true, if_pos, reduceIte]
    refine T_cseq (t := false) (by simp (disch := omega) only [RF, RO, RC, bodyQ, resAll, resOf, tup, ↓reduceIte, Nat.reduceEqDiff, Nat.reduceSub, Nat.reduceAdd, Nat.reduceMul, Nat.reduceLT, Nat.reduceLeDiff, Int.reduceLE, Int.reduceLT, Int.reduceEq, Int.reduceNeg, Int.reduceToNat, Int.reduceMul, Int.reduceAdd, Int.reduceSub, Int.reduceBEq, Int.reduceBNe, reduceCtorEq, decT, decF]) ?_
    try simp only [RN, if_true, if_false, Bool.false_eq_true, if_pos, reduceIte]
    refine T_rseq fun Kr hKr => ?_
    simp (disch := omega) only [RF, RO, RC, bodyQ, resAll, resOf, tup, ↓reduceIte, Nat.reduceEqDiff, Nat.reduceSub, Nat.reduceAdd, Nat.reduceMul, Nat.reduceLT, Nat.reduceLeDiff, Int.reduceLE, Int.reduceLT, Int.reduceEq, Int.reduceNeg, Int.reduceToNat, Int.reduceMul, Int.reduceAdd, Int.reduceSub, Int.reduceBEq, Int.reduceBNe, reduceCtorEq, RD]
    refine sumOfType_spec hx (by omega) ?_
    rw [sot_ok hok]
    simp (disch := omega) only [RF, RO, RC, bodyQ, resAll, resOf, tup, ↓reduceIte, Nat.reduceEqDiff, Nat.reduceSub, Nat.reduceAdd, Nat.reduceMul, Nat.reduceLT, Nat.reduceLeDiff, Int.reduceLE, Int.reduceLT, Int.reduceEq, Int.reduceNeg, Int.reduceToNat, Int.reduceMul, Int.reduceAdd, Int.reduceSub, Int.reduceBEq, Int.reduceBNe, reduceCtorEq, RD]
    refine hKr _ _ ?_
    clear hKr Kr
    try simp only [blkQ, thenQ, loopQ]
    try simp only [RN, if_true, if_false, Bool.false_eq_true, if_pos, reduceIte]
    by_cases hpq : (xs.length : Int) + (ys.length : Int) = sm xs xs.length + 1
    · rw [if_pos hpq] at hK'
      have hc := count_bd hok hpq
      have hp1 : (xs.length : Int) - 1 = ((xs.length - 1 : Nat) : Int) := by omega
      have hq1 : (ys.length : Int) - 1 = ((ys.length - 1 : Nat) : Int) := by omega
      refine T_rseq fun Kr hKr => ?_
      simp (disch := omega) only [RF, RO, RC, bodyQ, resAll, resOf, tup, ↓reduceIte, Nat.reduceEqDiff, Nat.reduceSub, Nat.reduceAdd, Nat.reduceMul, Nat.reduceLT, Nat.reduceLeDiff, Int.reduceLE, Int.reduceLT, Int.reduceEq, Int.reduceNeg, Int.reduceToNat, Int.reduceMul, Int.reduceAdd, Int.reduceSub, Int.reduceBEq, Int.reduceBNe, reduceCtorEq, RD]
      refine hKr _ _ ?_
      clear hKr Kr
      try simp only [RN, if_true, if_false, Bool.false_eq_true, if_pos, reduceIte]
      refine T_cseq (t := false) (by simp (disch := omega) only [RF, RO, RC, bodyQ, resAll, resOf, tup, ↓reduceIte, Nat.reduceEqDiff, Nat.reduceSub, Nat.reduceAdd, Nat.reduceMul, Nat.reduceLT, Nat.reduceLeDiff, Int.reduceLE, Int.reduceLT, Int.reduceEq, Int.reduceNeg, Int.reduceToNat, Int.reduceMul, Int.reduceAdd, Int.reduceSub, Int.reduceBEq, Int.reduceBNe, reduceCtorEq, decT, decF]) ?_
      try simp only [RN, if_true, if_false, Bool.false_eq_true, if_pos, reduceIte]
      refine T_rseq fun Kr hKr => ?_
      simp (disch := omega) only [RF, RO, RC, bodyQ, resAll, resOf, tup, ↓reduceIte, Nat.reduceEqDiff, Nat.reduceSub, Nat.reduceAdd, Nat.reduceMul, Nat.reduceLT, Nat.reduceLeDiff, Int.reduceLE, Int.reduceLT, Int.reduceEq, Int.reduceNeg, Int.reduceToNat, Int.reduceMul, Int.reduceAdd, Int.reduceSub, Int.reduceBEq, Int.reduceBNe, reduceCtorEq, RD, hp1, hq1]
      refine factorial_spec (by omega) ?_
      simp (disch := omega) only [RF, RO, RC, bodyQ, resAll, resOf, tup, ↓reduceIte, Nat.reduceEqDiff, Nat.reduceSub, Nat.reduceAdd, Nat.reduceMul, Nat.reduceLT, Nat.reduceLeDiff, Int.reduceLE, Int.reduceLT, Int.reduceEq, Int.reduceNeg, Int.reduceToNat, Int.reduceMul, Int.reduceAdd, Int.reduceSub, Int.reduceBEq, Int.reduceBNe, reduceCtorEq, RD, hp1, hq1]
      refine factorial_spec (by omega) ?_
      have hN : sm xs xs.length * fact (xs.length - 1) * fact (ys.length - 1) = countN xs ys := rfl
      have hD : eqs xs xs.length * eqs ys ys.length = countD xs ys := rfl
      simp (disch := omega) only [RF, RO, RC, bodyQ, resAll, resOf, tup, ↓reduceIte, Nat.reduceEqDiff, Nat.reduceSub, Nat.reduceAdd, Nat.reduceMul, Nat.reduceLT, Nat.reduceLeDiff, Int.reduceLE, Int.reduceLT, Int.reduceEq, Int.reduceNeg, Int.reduceToNat, Int.reduceMul, Int.reduceAdd, Int.reduceSub, Int.reduceBEq, Int.reduceBNe, reduceCtorEq, RD, hp1, hq1, hN]
      refine repeated_spec hx (by omega) ?_
      simp (disch := omega) only [RF, RO, RC, bodyQ, resAll, resOf, tup, ↓reduceIte, Nat.reduceEqDiff, Nat.reduceSub, Nat.reduceAdd, Nat.reduceMul, Nat.reduceLT, Nat.reduceLeDiff, Int.reduceLE, Int.reduceLT, Int.reduceEq, Int.reduceNeg, Int.reduceToNat, Int.reduceMul, Int.reduceAdd, Int.reduceSub, Int.reduceBEq, Int.reduceBNe, reduceCtorEq, RD, hN]
      refine repeated_spec hy (by omega) ?_
      simp (disch := omega) only [RF, RO, RC, bodyQ, resAll, resOf, tup, ↓reduceIte, Nat.reduceEqDiff, Nat.reduceSub, Nat.reduceAdd, Nat.reduceMul, Nat.reduceLT, Nat.reduceLeDiff, Int.reduceLE, Int.reduceLT, Int.reduceEq, Int.reduceNeg, Int.reduceToNat, Int.reduceMul, Int.reduceAdd, Int.reduceSub, Int.reduceBEq, Int.reduceBNe, reduceCtorEq, RD, hN, hD, ifz']
      refine hKr _ _ ?_
      clear hKr Kr
      try simp only [blkQ, thenQ, loopQ]
      try simp only [RN, if_true, if_false, Bool.false_eq_true, if_pos, reduceIte]
      refine ⟨_, rfl, ?_⟩
      simp only [RF, ev_t, ev_c, tup, ↓reduceIte, Nat.reduceEqDiff]
      exact hK'
    · rw [if_neg hpq] at hK'
      refine T_rseq fun Kr hKr => ?_
      simp (disch := omega) only [RF, RO, RC, bodyQ, resAll, resOf, tup, ↓reduceIte, Nat.reduceEqDiff, Nat.reduceSub, Nat.reduceAdd, Nat.reduceMul, Nat.reduceLT, Nat.reduceLeDiff, Int.reduceLE, Int.reduceLT, Int.reduceEq, Int.reduceNeg, Int.reduceToNat, Int.reduceMul, Int.reduceAdd, Int.reduceSub, Int.reduceBEq, Int.reduceBNe, reduceCtorEq, RD, hpq]
      refine hKr _ _ ?_
      clear hKr Kr
      try simp only [RN, if_true, if_false, Bool.false_eq_true, if_pos, reduceIte]
      refine T_cseq (t := true) (by simp (disch := omega) only [RF, RO, RC, bodyQ, resAll, resOf, tup, ↓reduceIte, Nat.reduceEqDiff, Nat.reduceSub, Nat.reduceAdd, Nat.reduceMul, Nat.reduceLT, Nat.reduceLeDiff, Int.reduceLE, Int.reduceLT, Int.reduceEq, Int.reduceNeg, Int.reduceToNat, Int.reduceMul, Int.reduceAdd, Int.reduceSub, Int.reduceBEq, Int.reduceBNe, reduceCtorEq, decT, decF]) ?_
      try simp only [RN, if_true, if_false, Bool.false_eq_true, if_pos, reduceIte]
      refine T_rseq fun Kr hKr => ?_
      simp (disch := omega) only [RF, RO, RC, bodyQ, resAll, resOf, tup, ↓reduceIte, Nat.reduceEqDiff, Nat.reduceSub, Nat.reduceAdd, Nat.reduceMul, Nat.reduceLT, Nat.reduceLeDiff, Int.reduceLE, Int.reduceLT, Int.reduceEq, Int.reduceNeg, Int.reduceToNat, Int.reduceMul, Int.reduceAdd, Int.reduceSub, Int.reduceBEq, Int.reduceBNe, reduceCtorEq, RD]
      refine hKr _ _ ?_
      clear hKr Kr
      try simp only [RN, if_true, if_false, Bool.false_eq_true, if_pos, reduceIte]
      refine ⟨_, rfl, ?_⟩
      simp only [RF, ev_t, ev_c, tup, ↓reduceIte, Nat.reduceEqDiff]
      exact hK'
  · rw [decide_eq_false hok]
    simp only [resCountRooted, hok, if_false] at hK'
    simp (disch := omega) only [RF, RO, RC, bodyQ, resAll, resOf, tup, ↓reduceIte, Nat.reduceEqDiff, Nat.reduceSub, Nat.reduceAdd, Nat.reduceMul, Nat.reduceLT, Nat.reduceLeDiff, Int.reduceLE, Int.reduceLT, Int.reduceEq, Int.reduceNeg, Int.reduceToNat, Int.reduceMul, Int.reduceAdd, Int.reduceSub, Int.reduceBEq, Int.reduceBNe, reduceCtorEq, RD]
    refine hKr _ _ ?_
    clear hKr Kr
    try simp only [blkQ, thenQ, loopQ]
    try simp only [RN, if_true, if_false, Bool.false_eq_true, if_pos, reduceIte]
    refine T_cseq (t := true) (by simp (disch := omega) only [RF, RO, RC, bodyQ, resAll, resOf, tup, ↓reduceIte, Nat.reduceEqDiff, Nat.reduceSub, Nat.reduceAdd, Nat.reduceMul, Nat.reduceLT, Nat.reduceLeDiff, Int.reduceLE, Int.reduceLT, Int.reduceEq, Int.reduceNeg, Int.reduceToNat, Int.reduceMul, Int.reduceAdd, Int.reduceSub, Int.reduceBEq, Int.reduceBNe, reduceCtorEq, decT, decF]) ?_
    try simp only [RN, if_true, if_false, Bool.false_eq_true, if_pos, reduceIte]
    refine T_rseq fun Kr hKr => ?_
    simp (disch := omega) only [RF, RO, RC, bodyQ, resAll, resOf, tup, ↓reduceIte, Nat.reduceEqDiff, Nat.reduceSub, Nat.reduceAdd, Nat.reduceMul, Nat.reduceLT, Nat.reduceLeDiff, Int.reduceLE, Int.reduceLT, Int.reduceEq, Int.reduceNeg, Int.reduceToNat, Int.reduceMul, Int.reduceAdd, Int.reduceSub, Int.reduceBEq, Int.reduceBNe, reduceCtorEq, RD]
    refine hKr _ _ ?_
    clear hKr Kr
    try simp only [RN, if_true, if_false, Bool.false_eq_true, if_pos, reduceIte]
    refine ⟨_, rfl, ?_⟩
    simp only [RF, ev_t, ev_c, tup, ↓reduceIte, Nat.reduceEqDiff]
    exact hK'
end Go.Am
