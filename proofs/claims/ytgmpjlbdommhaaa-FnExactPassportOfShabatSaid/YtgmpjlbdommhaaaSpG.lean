/- The laws' functions over multiplicities. -/
import Derived.Test.YtgmpjlbdommhaaaSpF
set_option linter.unusedVariables false
set_option linter.unusedSimpArgs false
namespace Go.Am
open Go

theorem el_single (a : Int) : el [a] 0 = a := rfl
theorem pcode_zero {f vs : List Int} (h : pcode f vs = 0) : Poly f ∧ AllNum vs ∧ 2 ≤ f.length := by
  unfold pcode at h
  by_cases h1 : Poly f
  · rw [if_pos h1] at h
    by_cases h2 : AllNum vs ∧ 2 ≤ f.length
    · exact ⟨h1, h2⟩
    · rw [if_neg h2] at h; omega
  · rw [if_neg h1] at h; omega
def resMultiplicitiesOf (xs : List Int) (a : Int) : List Int × Int := if pcode xs [a] = 0 then (mults xs a, 0) else ([], pcode xs [a])
theorem resMultiplicitiesOf_len (xs : List Int) (a : Int) : (resMultiplicitiesOf xs a).1.length < 1000 := by
  unfold resMultiplicitiesOf
  split
  · rename_i h
    have hp := pcode_zero h
    exact mults_len hp.1.red hp.2.2 hp.1.2.1 a
  · simp
def resIsCritical (xs : List Int) (a : Int) : Bool × Int := if pcode xs [a] = 0 then (decide (1 < el (mults xs a) 0), 0) else (false, pcode xs [a])
theorem MultiplicitiesOf_spec {H : AHeap} {v : Value} {xs : List Int} {a : Int} {K : Value → AHeap → Prop} (hx : IsI H v xs) (hl : xs.length < 2 ^ 62) (hb : -9223372036854775808 ≤ a ∧ a < 9223372036854775808)
    (hK : ∀ v' H', Ext H H' → OwnI H.n H'.n H' v' (resMultiplicitiesOf xs a).1 → K (.tuple ⟨[v', I (resMultiplicitiesOf xs a).2]⟩) H') : CallT F_spec_MultiplicitiesOf [v, I a] H K := by
  refine CallT_body Γ_spec_MultiplicitiesOf ?_
  simp only [A_spec_MultiplicitiesOf, T_aiff]
  refine T_rseq fun Kr hKr => ?_
  simp (disch := omega) only [RF, RO, RC, bodyQ, resAll, resOf, tup, ↓reduceIte, Nat.reduceEqDiff, Nat.reduceSub, Nat.reduceAdd, Nat.reduceMul, Nat.reduceLT, Nat.reduceLeDiff, Int.reduceLE, Int.reduceLT, Int.reduceEq, Int.reduceNeg, Int.reduceToNat, Int.reduceMul, Int.reduceAdd, Int.reduceSub, Int.reduceBEq, Int.reduceBNe, reduceCtorEq, RD]
  refine hKr _ _ ?_
  clear hKr Kr
  try simp only [RN, if_true, if_false, Bool.false_eq_true, if_pos, reduceIte]
  refine T_rseq fun Kr hKr => ?_
  simp (disch := omega) only [RF, RO, RC, bodyQ, resAll, resOf, tup, ↓reduceIte, Nat.reduceEqDiff, Nat.reduceSub, Nat.reduceAdd, Nat.reduceMul, Nat.reduceLT, Nat.reduceLeDiff, Int.reduceLE, Int.reduceLT, Int.reduceEq, Int.reduceNeg, Int.reduceToNat, Int.reduceMul, Int.reduceAdd, Int.reduceSub, Int.reduceBEq, Int.reduceBNe, reduceCtorEq, RD]
  refine l06Code_spec (hx.ext (Ext.alloc H [I a])) hl (own_one' H a) (by simp) ?_
  simp (disch := omega) only [RF, RO, RC, bodyQ, resAll, resOf, tup, ↓reduceIte, Nat.reduceEqDiff, Nat.reduceSub, Nat.reduceAdd, Nat.reduceMul, Nat.reduceLT, Nat.reduceLeDiff, Int.reduceLE, Int.reduceLT, Int.reduceEq, Int.reduceNeg, Int.reduceToNat, Int.reduceMul, Int.reduceAdd, Int.reduceSub, Int.reduceBEq, Int.reduceBNe, reduceCtorEq, RD]
  refine hKr _ _ ?_
  clear hKr Kr
  try simp only [blkQ, thenQ, loopQ]
  try simp only [RN, if_true, if_false, Bool.false_eq_true, if_pos, reduceIte]
  by_cases hc : pcode xs [a] = 0
  · simp only [resMultiplicitiesOf, hc, if_true] at hK
    have hp := pcode_zero hc
    have hl17 := hp.1.2.1
    have ha := hp.2.1 0 (by simp)
    rw [el_single] at ha
    refine T_rseq fun Kr hKr => ?_
    simp (disch := omega) only [RF, RO, RC, bodyQ, resAll, resOf, tup, ↓reduceIte, Nat.reduceEqDiff, Nat.reduceSub, Nat.reduceAdd, Nat.reduceMul, Nat.reduceLT, Nat.reduceLeDiff, Int.reduceLE, Int.reduceLT, Int.reduceEq, Int.reduceNeg, Int.reduceToNat, Int.reduceMul, Int.reduceAdd, Int.reduceSub, Int.reduceBEq, Int.reduceBNe, reduceCtorEq, RD, hc]
    refine hKr _ _ ?_
    clear hKr Kr
    try simp only [RN, if_true, if_false, Bool.false_eq_true, if_pos, reduceIte]
    refine T_cseq (t := false) (by simp (disch := omega) only [RF, RO, RC, bodyQ, resAll, resOf, tup, ↓reduceIte, Nat.reduceEqDiff, Nat.reduceSub, Nat.reduceAdd, Nat.reduceMul, Nat.reduceLT, Nat.reduceLeDiff, Int.reduceLE, Int.reduceLT, Int.reduceEq, Int.reduceNeg, Int.reduceToNat, Int.reduceMul, Int.reduceAdd, Int.reduceSub, Int.reduceBEq, Int.reduceBNe, reduceCtorEq, decT, decF, hc]) ?_
    try simp only [RN, if_true, if_false, Bool.false_eq_true, if_pos, reduceIte]
    refine T_rseq fun Kr hKr => ?_
    simp (disch := omega) only [RF, RO, RC, bodyQ, resAll, resOf, tup, ↓reduceIte, Nat.reduceEqDiff, Nat.reduceSub, Nat.reduceAdd, Nat.reduceMul, Nat.reduceLT, Nat.reduceLeDiff, Int.reduceLE, Int.reduceLT, Int.reduceEq, Int.reduceNeg, Int.reduceToNat, Int.reduceMul, Int.reduceAdd, Int.reduceSub, Int.reduceBEq, Int.reduceBNe, reduceCtorEq, RD]
    refine l06Multiplicities_spec (hx.ext (Ext.alloc H [I a])) hp.1.red hp.2.2 hl17 ha.1 ha.2 fun w H2 he2 ho2 => ?_
    simp (disch := omega) only [RF, RO, RC, bodyQ, resAll, resOf, tup, ↓reduceIte, Nat.reduceEqDiff, Nat.reduceSub, Nat.reduceAdd, Nat.reduceMul, Nat.reduceLT, Nat.reduceLeDiff, Int.reduceLE, Int.reduceLT, Int.reduceEq, Int.reduceNeg, Int.reduceToNat, Int.reduceMul, Int.reduceAdd, Int.reduceSub, Int.reduceBEq, Int.reduceBNe, reduceCtorEq, RD]
    refine hKr _ _ ?_
    clear hKr Kr
    try simp only [blkQ, thenQ, loopQ]
    try simp only [RN, if_true, if_false, Bool.false_eq_true, if_pos, reduceIte]
    refine ⟨_, rfl, ?_⟩
    simp only [RF, ev_t, ev_c, tup, ↓reduceIte, Nat.reduceEqDiff]
    exact hK _ _ ((Ext.alloc H [I a]).trans' he2) (ho2.weak (Nat.le_succ _) (Nat.le_refl _))
  · simp only [resMultiplicitiesOf, hc, if_false] at hK
    refine T_rseq fun Kr hKr => ?_
    simp (disch := omega) only [RF, RO, RC, bodyQ, resAll, resOf, tup, ↓reduceIte, Nat.reduceEqDiff, Nat.reduceSub, Nat.reduceAdd, Nat.reduceMul, Nat.reduceLT, Nat.reduceLeDiff, Int.reduceLE, Int.reduceLT, Int.reduceEq, Int.reduceNeg, Int.reduceToNat, Int.reduceMul, Int.reduceAdd, Int.reduceSub, Int.reduceBEq, Int.reduceBNe, reduceCtorEq, RD]
    refine hKr _ _ ?_
    clear hKr Kr
    try simp only [RN, if_true, if_false, Bool.false_eq_true, if_pos, reduceIte]
    refine T_cseq (t := true) (by simp (disch := omega) only [RF, RO, RC, bodyQ, resAll, resOf, tup, ↓reduceIte, Nat.reduceEqDiff, Nat.reduceSub, Nat.reduceAdd, Nat.reduceMul, Nat.reduceLT, Nat.reduceLeDiff, Int.reduceLE, Int.reduceLT, Int.reduceEq, Int.reduceNeg, Int.reduceToNat, Int.reduceMul, Int.reduceAdd, Int.reduceSub, Int.reduceBEq, Int.reduceBNe, reduceCtorEq, decT, decF, hc]) ?_
    try simp only [RN, if_true, if_false, Bool.false_eq_true, if_pos, reduceIte]
    refine T_rseq fun Kr hKr => ?_
    simp (disch := omega) only [RF, RO, RC, bodyQ, resAll, resOf, tup, ↓reduceIte, Nat.reduceEqDiff, Nat.reduceSub, Nat.reduceAdd, Nat.reduceMul, Nat.reduceLT, Nat.reduceLeDiff, Int.reduceLE, Int.reduceLT, Int.reduceEq, Int.reduceNeg, Int.reduceToNat, Int.reduceMul, Int.reduceAdd, Int.reduceSub, Int.reduceBEq, Int.reduceBNe, reduceCtorEq, RD]
    refine hKr _ _ ?_
    clear hKr Kr
    try simp only [RN, if_true, if_false, Bool.false_eq_true, if_pos, reduceIte]
    refine ⟨_, rfl, ?_⟩
    simp only [RF, ev_t, ev_c, tup, ↓reduceIte, Nat.reduceEqDiff]
    exact hK _ _ (Ext.alloc H [I a]) .nil
theorem impl_MultiplicitiesOf_spec {H : AHeap} {v : Value} {xs : List Int} {a : Int} {K : Value → AHeap → Prop} (hx : IsI H v xs) (hl : xs.length < 2 ^ 62) (hb : -9223372036854775808 ≤ a ∧ a < 9223372036854775808)
    (hK : ∀ v' H', Ext H H' → OwnI H.n H'.n H' v' (resMultiplicitiesOf xs a).1 → K (.tuple ⟨[v', I (resMultiplicitiesOf xs a).2]⟩) H') : CallT F_impl_MultiplicitiesOf [v, I a] H K := by
  refine CallT_body Γ_impl_MultiplicitiesOf ?_
  simp only [A_impl_MultiplicitiesOf, T_aiff]
  refine T_rseq fun Kr hKr => ?_
  simp (disch := omega) only [RF, RO, RC, bodyQ, resAll, resOf, tup, ↓reduceIte, Nat.reduceEqDiff, Nat.reduceSub, Nat.reduceAdd, Nat.reduceMul, Nat.reduceLT, Nat.reduceLeDiff, Int.reduceLE, Int.reduceLT, Int.reduceEq, Int.reduceNeg, Int.reduceToNat, Int.reduceMul, Int.reduceAdd, Int.reduceSub, Int.reduceBEq, Int.reduceBNe, reduceCtorEq, RD]
  refine hKr _ _ ?_
  clear hKr Kr
  try simp only [RN, if_true, if_false, Bool.false_eq_true, if_pos, reduceIte]
  refine T_rseq fun Kr hKr => ?_
  simp (disch := omega) only [RF, RO, RC, bodyQ, resAll, resOf, tup, ↓reduceIte, Nat.reduceEqDiff, Nat.reduceSub, Nat.reduceAdd, Nat.reduceMul, Nat.reduceLT, Nat.reduceLeDiff, Int.reduceLE, Int.reduceLT, Int.reduceEq, Int.reduceNeg, Int.reduceToNat, Int.reduceMul, Int.reduceAdd, Int.reduceSub, Int.reduceBEq, Int.reduceBNe, reduceCtorEq, RD]
  refine polynomialCode_spec (hx.ext (Ext.alloc H [I a])) hl (own_one' H a) (by simp) ?_
  simp (disch := omega) only [RF, RO, RC, bodyQ, resAll, resOf, tup, ↓reduceIte, Nat.reduceEqDiff, Nat.reduceSub, Nat.reduceAdd, Nat.reduceMul, Nat.reduceLT, Nat.reduceLeDiff, Int.reduceLE, Int.reduceLT, Int.reduceEq, Int.reduceNeg, Int.reduceToNat, Int.reduceMul, Int.reduceAdd, Int.reduceSub, Int.reduceBEq, Int.reduceBNe, reduceCtorEq, RD]
  refine hKr _ _ ?_
  clear hKr Kr
  try simp only [blkQ, thenQ, loopQ]
  try simp only [RN, if_true, if_false, Bool.false_eq_true, if_pos, reduceIte]
  by_cases hc : pcode xs [a] = 0
  · simp only [resMultiplicitiesOf, hc, if_true] at hK
    have hp := pcode_zero hc
    have hl17 := hp.1.2.1
    have ha := hp.2.1 0 (by simp)
    rw [el_single] at ha
    refine T_rseq fun Kr hKr => ?_
    simp (disch := omega) only [RF, RO, RC, bodyQ, resAll, resOf, tup, ↓reduceIte, Nat.reduceEqDiff, Nat.reduceSub, Nat.reduceAdd, Nat.reduceMul, Nat.reduceLT, Nat.reduceLeDiff, Int.reduceLE, Int.reduceLT, Int.reduceEq, Int.reduceNeg, Int.reduceToNat, Int.reduceMul, Int.reduceAdd, Int.reduceSub, Int.reduceBEq, Int.reduceBNe, reduceCtorEq, RD, hc]
    refine hKr _ _ ?_
    clear hKr Kr
    try simp only [RN, if_true, if_false, Bool.false_eq_true, if_pos, reduceIte]
    refine T_cseq (t := false) (by simp (disch := omega) only [RF, RO, RC, bodyQ, resAll, resOf, tup, ↓reduceIte, Nat.reduceEqDiff, Nat.reduceSub, Nat.reduceAdd, Nat.reduceMul, Nat.reduceLT, Nat.reduceLeDiff, Int.reduceLE, Int.reduceLT, Int.reduceEq, Int.reduceNeg, Int.reduceToNat, Int.reduceMul, Int.reduceAdd, Int.reduceSub, Int.reduceBEq, Int.reduceBNe, reduceCtorEq, decT, decF, hc]) ?_
    try simp only [RN, if_true, if_false, Bool.false_eq_true, if_pos, reduceIte]
    refine T_rseq fun Kr hKr => ?_
    simp (disch := omega) only [RF, RO, RC, bodyQ, resAll, resOf, tup, ↓reduceIte, Nat.reduceEqDiff, Nat.reduceSub, Nat.reduceAdd, Nat.reduceMul, Nat.reduceLT, Nat.reduceLeDiff, Int.reduceLE, Int.reduceLT, Int.reduceEq, Int.reduceNeg, Int.reduceToNat, Int.reduceMul, Int.reduceAdd, Int.reduceSub, Int.reduceBEq, Int.reduceBNe, reduceCtorEq, RD]
    refine multiplicities_spec (hx.ext (Ext.alloc H [I a])) hp.1.red hp.2.2 hl17 ha.1 ha.2 fun w H2 he2 ho2 => ?_
    simp (disch := omega) only [RF, RO, RC, bodyQ, resAll, resOf, tup, ↓reduceIte, Nat.reduceEqDiff, Nat.reduceSub, Nat.reduceAdd, Nat.reduceMul, Nat.reduceLT, Nat.reduceLeDiff, Int.reduceLE, Int.reduceLT, Int.reduceEq, Int.reduceNeg, Int.reduceToNat, Int.reduceMul, Int.reduceAdd, Int.reduceSub, Int.reduceBEq, Int.reduceBNe, reduceCtorEq, RD]
    refine hKr _ _ ?_
    clear hKr Kr
    try simp only [blkQ, thenQ, loopQ]
    try simp only [RN, if_true, if_false, Bool.false_eq_true, if_pos, reduceIte]
    refine ⟨_, rfl, ?_⟩
    simp only [RF, ev_t, ev_c, tup, ↓reduceIte, Nat.reduceEqDiff]
    exact hK _ _ ((Ext.alloc H [I a]).trans' he2) (ho2.weak (Nat.le_succ _) (Nat.le_refl _))
  · simp only [resMultiplicitiesOf, hc, if_false] at hK
    refine T_rseq fun Kr hKr => ?_
    simp (disch := omega) only [RF, RO, RC, bodyQ, resAll, resOf, tup, ↓reduceIte, Nat.reduceEqDiff, Nat.reduceSub, Nat.reduceAdd, Nat.reduceMul, Nat.reduceLT, Nat.reduceLeDiff, Int.reduceLE, Int.reduceLT, Int.reduceEq, Int.reduceNeg, Int.reduceToNat, Int.reduceMul, Int.reduceAdd, Int.reduceSub, Int.reduceBEq, Int.reduceBNe, reduceCtorEq, RD]
    refine hKr _ _ ?_
    clear hKr Kr
    try simp only [RN, if_true, if_false, Bool.false_eq_true, if_pos, reduceIte]
    refine T_cseq (t := true) (by simp (disch := omega) only [RF, RO, RC, bodyQ, resAll, resOf, tup, ↓reduceIte, Nat.reduceEqDiff, Nat.reduceSub, Nat.reduceAdd, Nat.reduceMul, Nat.reduceLT, Nat.reduceLeDiff, Int.reduceLE, Int.reduceLT, Int.reduceEq, Int.reduceNeg, Int.reduceToNat, Int.reduceMul, Int.reduceAdd, Int.reduceSub, Int.reduceBEq, Int.reduceBNe, reduceCtorEq, decT, decF, hc]) ?_
    try simp only [RN, if_true, if_false, Bool.false_eq_true, if_pos, reduceIte]
    refine T_rseq fun Kr hKr => ?_
    simp (disch := omega) only [RF, RO, RC, bodyQ, resAll, resOf, tup, ↓reduceIte, Nat.reduceEqDiff, Nat.reduceSub, Nat.reduceAdd, Nat.reduceMul, Nat.reduceLT, Nat.reduceLeDiff, Int.reduceLE, Int.reduceLT, Int.reduceEq, Int.reduceNeg, Int.reduceToNat, Int.reduceMul, Int.reduceAdd, Int.reduceSub, Int.reduceBEq, Int.reduceBNe, reduceCtorEq, RD]
    refine hKr _ _ ?_
    clear hKr Kr
    try simp only [RN, if_true, if_false, Bool.false_eq_true, if_pos, reduceIte]
    refine ⟨_, rfl, ?_⟩
    simp only [RF, ev_t, ev_c, tup, ↓reduceIte, Nat.reduceEqDiff]
    exact hK _ _ (Ext.alloc H [I a]) .nil
theorem IsCritical_spec {H : AHeap} {v : Value} {xs : List Int} {a : Int} {K : Value → AHeap → Prop} (hx : IsI H v xs) (hl : xs.length < 2 ^ 62) (hb : -9223372036854775808 ≤ a ∧ a < 9223372036854775808)
    (hK : ∀ H', Ext H H' → K (.tuple ⟨[.bool (resIsCritical xs a).1, I (resIsCritical xs a).2]⟩) H') : CallT F_spec_IsCritical [v, I a] H K := by
  refine CallT_body Γ_spec_IsCritical ?_
  simp only [A_spec_IsCritical, T_aiff]
  refine T_rseq fun Kr hKr => ?_
  simp (disch := omega) only [RF, RO, RC, bodyQ, resAll, resOf, tup, ↓reduceIte, Nat.reduceEqDiff, Nat.reduceSub, Nat.reduceAdd, Nat.reduceMul, Nat.reduceLT, Nat.reduceLeDiff, Int.reduceLE, Int.reduceLT, Int.reduceEq, Int.reduceNeg, Int.reduceToNat, Int.reduceMul, Int.reduceAdd, Int.reduceSub, Int.reduceBEq, Int.reduceBNe, reduceCtorEq, RD]
  refine hKr _ _ ?_
  clear hKr Kr
  try simp only [RN, if_true, if_false, Bool.false_eq_true, if_pos, reduceIte]
  refine T_rseq fun Kr hKr => ?_
  simp (disch := omega) only [RF, RO, RC, bodyQ, resAll, resOf, tup, ↓reduceIte, Nat.reduceEqDiff, Nat.reduceSub, Nat.reduceAdd, Nat.reduceMul, Nat.reduceLT, Nat.reduceLeDiff, Int.reduceLE, Int.reduceLT, Int.reduceEq, Int.reduceNeg, Int.reduceToNat, Int.reduceMul, Int.reduceAdd, Int.reduceSub, Int.reduceBEq, Int.reduceBNe, reduceCtorEq, RD]
  refine l06Code_spec (hx.ext (Ext.alloc H [I a])) hl (own_one' H a) (by simp) ?_
  simp (disch := omega) only [RF, RO, RC, bodyQ, resAll, resOf, tup, ↓reduceIte, Nat.reduceEqDiff, Nat.reduceSub, Nat.reduceAdd, Nat.reduceMul, Nat.reduceLT, Nat.reduceLeDiff, Int.reduceLE, Int.reduceLT, Int.reduceEq, Int.reduceNeg, Int.reduceToNat, Int.reduceMul, Int.reduceAdd, Int.reduceSub, Int.reduceBEq, Int.reduceBNe, reduceCtorEq, RD]
  refine hKr _ _ ?_
  clear hKr Kr
  try simp only [blkQ, thenQ, loopQ]
  try simp only [RN, if_true, if_false, Bool.false_eq_true, if_pos, reduceIte]
  by_cases hc : pcode xs [a] = 0
  · simp only [resIsCritical, hc, if_true] at hK
    have hp := pcode_zero hc
    have hl17 := hp.1.2.1
    have ha := hp.2.1 0 (by simp)
    rw [el_single] at ha
    have hmp := mults_pos hp.1.red hp.2.2 hl17 a
    refine T_rseq fun Kr hKr => ?_
    simp (disch := omega) only [RF, RO, RC, bodyQ, resAll, resOf, tup, ↓reduceIte, Nat.reduceEqDiff, Nat.reduceSub, Nat.reduceAdd, Nat.reduceMul, Nat.reduceLT, Nat.reduceLeDiff, Int.reduceLE, Int.reduceLT, Int.reduceEq, Int.reduceNeg, Int.reduceToNat, Int.reduceMul, Int.reduceAdd, Int.reduceSub, Int.reduceBEq, Int.reduceBNe, reduceCtorEq, RD, hc]
    refine hKr _ _ ?_
    clear hKr Kr
    try simp only [RN, if_true, if_false, Bool.false_eq_true, if_pos, reduceIte]
    refine T_cseq (t := false) (by simp (disch := omega) only [RF, RO, RC, bodyQ, resAll, resOf, tup, ↓reduceIte, Nat.reduceEqDiff, Nat.reduceSub, Nat.reduceAdd, Nat.reduceMul, Nat.reduceLT, Nat.reduceLeDiff, Int.reduceLE, Int.reduceLT, Int.reduceEq, Int.reduceNeg, Int.reduceToNat, Int.reduceMul, Int.reduceAdd, Int.reduceSub, Int.reduceBEq, Int.reduceBNe, reduceCtorEq, decT, decF, hc]) ?_
    try simp only [RN, if_true, if_false, Bool.false_eq_true, if_pos, reduceIte]
    refine T_rseq fun Kr hKr => ?_
    simp (disch := omega) only [RF, RO, RC, bodyQ, resAll, resOf, tup, ↓reduceIte, Nat.reduceEqDiff, Nat.reduceSub, Nat.reduceAdd, Nat.reduceMul, Nat.reduceLT, Nat.reduceLeDiff, Int.reduceLE, Int.reduceLT, Int.reduceEq, Int.reduceNeg, Int.reduceToNat, Int.reduceMul, Int.reduceAdd, Int.reduceSub, Int.reduceBEq, Int.reduceBNe, reduceCtorEq, RD]
    refine l06Multiplicities_spec (hx.ext (Ext.alloc H [I a])) hp.1.red hp.2.2 hl17 ha.1 ha.2 fun w H2 he2 ho2 => ?_
    obtain ⟨b, rest, rfl, hb1, hb2, hb3, hg⟩ := ho2.pos hmp
    simp (disch := omega) only [RF, RO, RC, bodyQ, resAll, resOf, tup, ↓reduceIte, Nat.reduceEqDiff, Nat.reduceSub, Nat.reduceAdd, Nat.reduceMul, Nat.reduceLT, Nat.reduceLeDiff, Int.reduceLE, Int.reduceLT, Int.reduceEq, Int.reduceNeg, Int.reduceToNat, Int.reduceMul, Int.reduceAdd, Int.reduceSub, Int.reduceBEq, Int.reduceBNe, reduceCtorEq, RD, hg]
    refine hKr _ _ ?_
    clear hKr Kr
    try simp only [blkQ, thenQ, loopQ]
    try simp only [RN, if_true, if_false, Bool.false_eq_true, if_pos, reduceIte]
    refine ⟨_, rfl, ?_⟩
    simp only [RF, ev_t, ev_c, tup, ↓reduceIte, Nat.reduceEqDiff]
    exact hK _ ((Ext.alloc H [I a]).trans' he2)
  · simp only [resIsCritical, hc, if_false] at hK
    refine T_rseq fun Kr hKr => ?_
    simp (disch := omega) only [RF, RO, RC, bodyQ, resAll, resOf, tup, ↓reduceIte, Nat.reduceEqDiff, Nat.reduceSub, Nat.reduceAdd, Nat.reduceMul, Nat.reduceLT, Nat.reduceLeDiff, Int.reduceLE, Int.reduceLT, Int.reduceEq, Int.reduceNeg, Int.reduceToNat, Int.reduceMul, Int.reduceAdd, Int.reduceSub, Int.reduceBEq, Int.reduceBNe, reduceCtorEq, RD]
    refine hKr _ _ ?_
    clear hKr Kr
    try simp only [RN, if_true, if_false, Bool.false_eq_true, if_pos, reduceIte]
    refine T_cseq (t := true) (by simp (disch := omega) only [RF, RO, RC, bodyQ, resAll, resOf, tup, ↓reduceIte, Nat.reduceEqDiff, Nat.reduceSub, Nat.reduceAdd, Nat.reduceMul, Nat.reduceLT, Nat.reduceLeDiff, Int.reduceLE, Int.reduceLT, Int.reduceEq, Int.reduceNeg, Int.reduceToNat, Int.reduceMul, Int.reduceAdd, Int.reduceSub, Int.reduceBEq, Int.reduceBNe, reduceCtorEq, decT, decF, hc]) ?_
    try simp only [RN, if_true, if_false, Bool.false_eq_true, if_pos, reduceIte]
    refine T_rseq fun Kr hKr => ?_
    simp (disch := omega) only [RF, RO, RC, bodyQ, resAll, resOf, tup, ↓reduceIte, Nat.reduceEqDiff, Nat.reduceSub, Nat.reduceAdd, Nat.reduceMul, Nat.reduceLT, Nat.reduceLeDiff, Int.reduceLE, Int.reduceLT, Int.reduceEq, Int.reduceNeg, Int.reduceToNat, Int.reduceMul, Int.reduceAdd, Int.reduceSub, Int.reduceBEq, Int.reduceBNe, reduceCtorEq, RD]
    refine hKr _ _ ?_
    clear hKr Kr
    try simp only [RN, if_true, if_false, Bool.false_eq_true, if_pos, reduceIte]
    refine ⟨_, rfl, ?_⟩
    simp only [RF, ev_t, ev_c, tup, ↓reduceIte, Nat.reduceEqDiff]
    exact hK _ (Ext.alloc H [I a])
theorem impl_IsCritical_spec {H : AHeap} {v : Value} {xs : List Int} {a : Int} {K : Value → AHeap → Prop} (hx : IsI H v xs) (hl : xs.length < 2 ^ 62) (hb : -9223372036854775808 ≤ a ∧ a < 9223372036854775808)
    (hK : ∀ H', Ext H H' → K (.tuple ⟨[.bool (resIsCritical xs a).1, I (resIsCritical xs a).2]⟩) H') : CallT F_impl_IsCritical [v, I a] H K := by
  refine CallT_body Γ_impl_IsCritical ?_
  simp only [A_impl_IsCritical, T_aiff]
  refine T_rseq fun Kr hKr => ?_
  simp (disch := omega) only [RF, RO, RC, bodyQ, resAll, resOf, tup, ↓reduceIte, Nat.reduceEqDiff, Nat.reduceSub, Nat.reduceAdd, Nat.reduceMul, Nat.reduceLT, Nat.reduceLeDiff, Int.reduceLE, Int.reduceLT, Int.reduceEq, Int.reduceNeg, Int.reduceToNat, Int.reduceMul, Int.reduceAdd, Int.reduceSub, Int.reduceBEq, Int.reduceBNe, reduceCtorEq, RD]
  refine hKr _ _ ?_
  clear hKr Kr
  try simp only [RN, if_true, if_false, Bool.false_eq_true, if_pos, reduceIte]
  refine T_rseq fun Kr hKr => ?_
  simp (disch := omega) only [RF, RO, RC, bodyQ, resAll, resOf, tup, ↓reduceIte, Nat.reduceEqDiff, Nat.reduceSub, Nat.reduceAdd, Nat.reduceMul, Nat.reduceLT, Nat.reduceLeDiff, Int.reduceLE, Int.reduceLT, Int.reduceEq, Int.reduceNeg, Int.reduceToNat, Int.reduceMul, Int.reduceAdd, Int.reduceSub, Int.reduceBEq, Int.reduceBNe, reduceCtorEq, RD]
  refine polynomialCode_spec (hx.ext (Ext.alloc H [I a])) hl (own_one' H a) (by simp) ?_
  simp (disch := omega) only [RF, RO, RC, bodyQ, resAll, resOf, tup, ↓reduceIte, Nat.reduceEqDiff, Nat.reduceSub, Nat.reduceAdd, Nat.reduceMul, Nat.reduceLT, Nat.reduceLeDiff, Int.reduceLE, Int.reduceLT, Int.reduceEq, Int.reduceNeg, Int.reduceToNat, Int.reduceMul, Int.reduceAdd, Int.reduceSub, Int.reduceBEq, Int.reduceBNe, reduceCtorEq, RD]
  refine hKr _ _ ?_
  clear hKr Kr
  try simp only [blkQ, thenQ, loopQ]
  try simp only [RN, if_true, if_false, Bool.false_eq_true, if_pos, reduceIte]
  by_cases hc : pcode xs [a] = 0
  · simp only [resIsCritical, hc, if_true] at hK
    have hp := pcode_zero hc
    have hl17 := hp.1.2.1
    have ha := hp.2.1 0 (by simp)
    rw [el_single] at ha
    have hmp := mults_pos hp.1.red hp.2.2 hl17 a
    refine T_rseq fun Kr hKr => ?_
    simp (disch := omega) only [RF, RO, RC, bodyQ, resAll, resOf, tup, ↓reduceIte, Nat.reduceEqDiff, Nat.reduceSub, Nat.reduceAdd, Nat.reduceMul, Nat.reduceLT, Nat.reduceLeDiff, Int.reduceLE, Int.reduceLT, Int.reduceEq, Int.reduceNeg, Int.reduceToNat, Int.reduceMul, Int.reduceAdd, Int.reduceSub, Int.reduceBEq, Int.reduceBNe, reduceCtorEq, RD, hc]
    refine hKr _ _ ?_
    clear hKr Kr
    try simp only [RN, if_true, if_false, Bool.false_eq_true, if_pos, reduceIte]
    refine T_cseq (t := false) (by simp (disch := omega) only [RF, RO, RC, bodyQ, resAll, resOf, tup, ↓reduceIte, Nat.reduceEqDiff, Nat.reduceSub, Nat.reduceAdd, Nat.reduceMul, Nat.reduceLT, Nat.reduceLeDiff, Int.reduceLE, Int.reduceLT, Int.reduceEq, Int.reduceNeg, Int.reduceToNat, Int.reduceMul, Int.reduceAdd, Int.reduceSub, Int.reduceBEq, Int.reduceBNe, reduceCtorEq, decT, decF, hc]) ?_
    try simp only [RN, if_true, if_false, Bool.false_eq_true, if_pos, reduceIte]
    refine T_rseq fun Kr hKr => ?_
    simp (disch := omega) only [RF, RO, RC, bodyQ, resAll, resOf, tup, ↓reduceIte, Nat.reduceEqDiff, Nat.reduceSub, Nat.reduceAdd, Nat.reduceMul, Nat.reduceLT, Nat.reduceLeDiff, Int.reduceLE, Int.reduceLT, Int.reduceEq, Int.reduceNeg, Int.reduceToNat, Int.reduceMul, Int.reduceAdd, Int.reduceSub, Int.reduceBEq, Int.reduceBNe, reduceCtorEq, RD]
    refine multiplicities_spec (hx.ext (Ext.alloc H [I a])) hp.1.red hp.2.2 hl17 ha.1 ha.2 fun w H2 he2 ho2 => ?_
    obtain ⟨b, rest, rfl, hb1, hb2, hb3, hg⟩ := ho2.pos hmp
    simp (disch := omega) only [RF, RO, RC, bodyQ, resAll, resOf, tup, ↓reduceIte, Nat.reduceEqDiff, Nat.reduceSub, Nat.reduceAdd, Nat.reduceMul, Nat.reduceLT, Nat.reduceLeDiff, Int.reduceLE, Int.reduceLT, Int.reduceEq, Int.reduceNeg, Int.reduceToNat, Int.reduceMul, Int.reduceAdd, Int.reduceSub, Int.reduceBEq, Int.reduceBNe, reduceCtorEq, RD, hg]
    refine hKr _ _ ?_
    clear hKr Kr
    try simp only [blkQ, thenQ, loopQ]
    try simp only [RN, if_true, if_false, Bool.false_eq_true, if_pos, reduceIte]
    refine ⟨_, rfl, ?_⟩
    simp only [RF, ev_t, ev_c, tup, ↓reduceIte, Nat.reduceEqDiff]
    exact hK _ ((Ext.alloc H [I a]).trans' he2)
  · simp only [resIsCritical, hc, if_false] at hK
    refine T_rseq fun Kr hKr => ?_
    simp (disch := omega) only [RF, RO, RC, bodyQ, resAll, resOf, tup, ↓reduceIte, Nat.reduceEqDiff, Nat.reduceSub, Nat.reduceAdd, Nat.reduceMul, Nat.reduceLT, Nat.reduceLeDiff, Int.reduceLE, Int.reduceLT, Int.reduceEq, Int.reduceNeg, Int.reduceToNat, Int.reduceMul, Int.reduceAdd, Int.reduceSub, Int.reduceBEq, Int.reduceBNe, reduceCtorEq, RD]
    refine hKr _ _ ?_
    clear hKr Kr
    try simp only [RN, if_true, if_false, Bool.false_eq_true, if_pos, reduceIte]
    refine T_cseq (t := true) (by simp (disch := omega) only [RF, RO, RC, bodyQ, resAll, resOf, tup, ↓reduceIte, Nat.reduceEqDiff, Nat.reduceSub, Nat.reduceAdd, Nat.reduceMul, Nat.reduceLT, Nat.reduceLeDiff, Int.reduceLE, Int.reduceLT, Int.reduceEq, Int.reduceNeg, Int.reduceToNat, Int.reduceMul, Int.reduceAdd, Int.reduceSub, Int.reduceBEq, Int.reduceBNe, reduceCtorEq, decT, decF, hc]) ?_
    try simp only [RN, if_true, if_false, Bool.false_eq_true, if_pos, reduceIte]
    refine T_rseq fun Kr hKr => ?_
    simp (disch := omega) only [RF, RO, RC, bodyQ, resAll, resOf, tup, ↓reduceIte, Nat.reduceEqDiff, Nat.reduceSub, Nat.reduceAdd, Nat.reduceMul, Nat.reduceLT, Nat.reduceLeDiff, Int.reduceLE, Int.reduceLT, Int.reduceEq, Int.reduceNeg, Int.reduceToNat, Int.reduceMul, Int.reduceAdd, Int.reduceSub, Int.reduceBEq, Int.reduceBNe, reduceCtorEq, RD]
    refine hKr _ _ ?_
    clear hKr Kr
    try simp only [RN, if_true, if_false, Bool.false_eq_true, if_pos, reduceIte]
    refine ⟨_, rfl, ?_⟩
    simp only [RF, ev_t, ev_c, tup, ↓reduceIte, Nat.reduceEqDiff]
    exact hK _ (Ext.alloc H [I a])
end Go.Am
