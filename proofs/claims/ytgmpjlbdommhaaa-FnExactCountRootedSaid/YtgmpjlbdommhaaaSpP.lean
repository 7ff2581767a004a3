/- Types of trees: how often numbers are repeated; sums. -/
import Derived.Test.YtgmpjlbdommhaaaSpO
set_option linter.unusedVariables false
set_option linter.unusedSimpArgs false
namespace Go.Am
open Go

/-- How many equal numbers end at a place. -/
def rn (xs : List Int) : Nat → Nat
  | 0 => 1
  | i + 1 => if el xs (i + 1) = el xs i then rn xs i + 1 else 1
theorem rn_bd (xs : List Int) : ∀ i, 1 ≤ rn xs i ∧ rn xs i ≤ i + 1
  | 0 => by simp [rn]
  | i + 1 => by
    have := rn_bd xs i
    simp only [rn]
    split <;> omega
def eqs (xs : List Int) : Nat → Int
  | 0 => 1
  | i + 1 => eqs xs i * (rn xs i : Int)
theorem eqs_bd (xs : List Int) : ∀ n, 1 ≤ eqs xs n ∧ eqs xs n ≤ fact n
  | 0 => by simp [eqs, fact]
  | n + 1 => by
    have ih := eqs_bd xs n
    have hr := rn_bd xs n
    have h1 := Int.mul_le_mul ih.1 (show (1 : Int) ≤ (rn xs n : Int) by omega) (by omega) (by omega)
    have h2 := Int.mul_le_mul ih.2 (show (rn xs n : Int) ≤ (n : Int) + 1 by omega) (by omega) (by have := fact_pos n; omega)
    show 1 ≤ eqs xs n * _ ∧ eqs xs n * _ ≤ fact n * ((n : Int) + 1)
    omega
theorem l05Equal_spec {H : AHeap} {v : Value} {xs : List Int} {K : Value → AHeap → Prop} (hx : IsI H v xs) (hl : xs.length ≤ 16) (hK : K (I (eqs xs xs.length)) H) : CallT F_spec_l05Equal [v] H K := by
  obtain ⟨a, e, rfl⟩ := hx.len
  refine CallT_body Γ_spec_l05Equal ?_
  simp only [A_spec_l05Equal, T_aiff]
  refine T_rseq fun Kr hKr => ?_
  simp (disch := omega) only [RF, RO, RC, bodyQ, resAll, resOf, tup, ↓reduceIte, Nat.reduceEqDiff, Nat.reduceSub, Nat.reduceAdd, Nat.reduceMul, Nat.reduceLT, Nat.reduceLeDiff, Int.reduceLE, Int.reduceLT, Int.reduceEq, Int.reduceNeg, Int.reduceToNat, Int.reduceMul, Int.reduceAdd, Int.reduceSub, Int.reduceBEq, Int.reduceBNe, reduceCtorEq, RD]
  refine hKr _ _ ?_
  clear hKr Kr
  try simp only [RN, if_true, if_false, Bool.false_eq_true, if_pos, reduceIte]
  refine T_rseq fun Kr hKr => ?_
  simp (disch := omega) only [RF, RO, RC, bodyQ, resAll, resOf, tup, ↓reduceIte, Nat.reduceEqDiff, Nat.reduceSub, Nat.reduceAdd, Nat.reduceMul, Nat.reduceLT, Nat.reduceLeDiff, Int.reduceLE, Int.reduceLT, Int.reduceEq, Int.reduceNeg, Int.reduceToNat, Int.reduceMul, Int.reduceAdd, Int.reduceSub, Int.reduceBEq, Int.reduceBNe, reduceCtorEq, RD]
  refine hKr _ _ ?_
  clear hKr Kr
  try simp only [RN, if_true, if_false, Bool.false_eq_true, if_pos, reduceIte]
  refine T_rseq fun Kr hKr => ?_
  simp (disch := omega) only [RF, RO, RC, bodyQ, resAll, resOf, tup, ↓reduceIte, Nat.reduceEqDiff, Nat.reduceSub, Nat.reduceAdd, Nat.reduceMul, Nat.reduceLT, Nat.reduceLeDiff, Int.reduceLE, Int.reduceLT, Int.reduceEq, Int.reduceNeg, Int.reduceToNat, Int.reduceMul, Int.reduceAdd, Int.reduceSub, Int.reduceBEq, Int.reduceBNe, reduceCtorEq, RD]
  refine hKr _ _ ?_
  clear hKr Kr
  try simp only [RN, if_true, if_false, Bool.false_eq_true, if_pos, reduceIte]
  refine T_wloop (fun n f H' => ∃ k, k ≤ xs.length ∧ n = xs.length - k ∧ H' = H ∧ f 0 = .slice a xs.length e ∧ f 3 = I (eqs xs k) ∧ f 4 = I (if k = 0 then 0 else (rn xs (k - 1) : Int)) ∧ f 5 = I k) (xs.length) ?_ ?_
  · exact ⟨0, by omega, by omega, rfl, by simp [RF], by simp [RF, eqs], by simp [RF], by simp [RF]⟩
  · rintro n f H' R ⟨k, hk, rfl, rfl, h0, h3, h4, h5⟩ hN hX hR
    simp only [A_spec_l05Equal.l0, T_aiff]
    refine T_rseq fun Kr hKr => ?_
    simp (disch := omega) only [RF, RO, RC, bodyQ, resAll, resOf, tup, ↓reduceIte, Nat.reduceEqDiff, Nat.reduceSub, Nat.reduceAdd, Nat.reduceMul, Nat.reduceLT, Nat.reduceLeDiff, Int.reduceLE, Int.reduceLT, Int.reduceEq, Int.reduceNeg, Int.reduceToNat, Int.reduceMul, Int.reduceAdd, Int.reduceSub, Int.reduceBEq, Int.reduceBNe, reduceCtorEq, RD, h0, h5]
    refine hKr _ _ ?_
    clear hKr Kr
    try simp only [RN, if_true, if_false, Bool.false_eq_true, if_pos, reduceIte]
    by_cases hlt : k < xs.length
    · refine T_cseq (t := true) (by simp (disch := omega) only [RF, RO, RC, bodyQ, resAll, resOf, tup, ↓reduceIte, Nat.reduceEqDiff, Nat.reduceSub, Nat.reduceAdd, Nat.reduceMul, Nat.reduceLT, Nat.reduceLeDiff, Int.reduceLE, Int.reduceLT, Int.reduceEq, Int.reduceNeg, Int.reduceToNat, Int.reduceMul, Int.reduceAdd, Int.reduceSub, Int.reduceBEq, Int.reduceBNe, reduceCtorEq, decT, decF]) ?_
      try simp only [RN, if_true, if_false, Bool.false_eq_true, if_pos, reduceIte]
      first | refine T_bfree rfl ?_ | refine T_bfree' rfl ?_
      try simp only [RN, if_true, if_false, Bool.false_eq_true, if_pos, reduceIte]
      obtain ⟨b, o, blk, heq, hb, hg, hlen, hel⟩ := hx.pos (by omega)
      cases heq
      have hfin : ∀ (f' : Fr), f' 0 = S b o xs.length 1 → f' 3 = I (eqs xs k) → f' 4 = I ((rn xs k : Int) - 1) → f' 5 = I k → T (ACode.seq A_spec_l05Equal.r7 (.seq A_spec_l05Equal.r8 A_spec_l05Equal.r4)) R f' H' := by
        intro f' h0 h3 h4 h5
        have hr := rn_bd xs k
        have hb1 := eqs_bd xs (k + 1)
        have hb2 := fact_bd (n := k + 1) (by omega)
        have hee : eqs xs k * (rn xs k : Int) = eqs xs (k + 1) := rfl
        have hr1 : (rn xs k : Int) - 1 + 1 = (rn xs k : Int) := by omega
        refine T_rseq fun Kr hKr => ?_
        simp (disch := omega) only [RF, RO, RC, bodyQ, resAll, resOf, tup, ↓reduceIte, Nat.reduceEqDiff, Nat.reduceSub, Nat.reduceAdd, Nat.reduceMul, Nat.reduceLT, Nat.reduceLeDiff, Int.reduceLE, Int.reduceLT, Int.reduceEq, Int.reduceNeg, Int.reduceToNat, Int.reduceMul, Int.reduceAdd, Int.reduceSub, Int.reduceBEq, Int.reduceBNe, reduceCtorEq, RD, h4, hr1]
        refine hKr _ _ ?_
        clear hKr Kr
        try simp only [RN, if_true, if_false, Bool.false_eq_true, if_pos, reduceIte]
        refine T_rseq fun Kr hKr => ?_
        simp (disch := omega) only [RF, RO, RC, bodyQ, resAll, resOf, tup, ↓reduceIte, Nat.reduceEqDiff, Nat.reduceSub, Nat.reduceAdd, Nat.reduceMul, Nat.reduceLT, Nat.reduceLeDiff, Int.reduceLE, Int.reduceLT, Int.reduceEq, Int.reduceNeg, Int.reduceToNat, Int.reduceMul, Int.reduceAdd, Int.reduceSub, Int.reduceBEq, Int.reduceBNe, reduceCtorEq, RD, h3, hee]
        refine hKr _ _ ?_
        clear hKr Kr
        try simp only [RN, if_true, if_false, Bool.false_eq_true, if_pos, reduceIte]
        refine T_reg_k fun Kr hKr => ?_
        simp (disch := omega) only [RF, RO, RC, bodyQ, resAll, resOf, tup, ↓reduceIte, Nat.reduceEqDiff, Nat.reduceSub, Nat.reduceAdd, Nat.reduceMul, Nat.reduceLT, Nat.reduceLeDiff, Int.reduceLE, Int.reduceLT, Int.reduceEq, Int.reduceNeg, Int.reduceToNat, Int.reduceMul, Int.reduceAdd, Int.reduceSub, Int.reduceBEq, Int.reduceBNe, reduceCtorEq, RD, h5]
        refine hKr _ _ ?_
        clear hKr Kr
        exact hN (xs.length - (k + 1)) _ _ (by omega) ⟨k + 1, by omega, rfl, rfl, by simp [RF, h0], by simp [RF], by simp [RF], by simp [RF]⟩
      by_cases hk0 : k = 0
      · subst hk0
        refine T_rseq fun Kr hKr => ?_
        simp (disch := omega) only [RF, RO, RC, bodyQ, resAll, resOf, tup, ↓reduceIte, Nat.reduceEqDiff, Nat.reduceSub, Nat.reduceAdd, Nat.reduceMul, Nat.reduceLT, Nat.reduceLeDiff, Int.reduceLE, Int.reduceLT, Int.reduceEq, Int.reduceNeg, Int.reduceToNat, Int.reduceMul, Int.reduceAdd, Int.reduceSub, Int.reduceBEq, Int.reduceBNe, reduceCtorEq, RD, h5]
        refine hKr _ _ ?_
        clear hKr Kr
        try simp only [RN, if_true, if_false, Bool.false_eq_true, if_pos, reduceIte]
        refine T_cseq (t := false) (by simp (disch := omega) only [RF, RO, RC, bodyQ, resAll, resOf, tup, ↓reduceIte, Nat.reduceEqDiff, Nat.reduceSub, Nat.reduceAdd, Nat.reduceMul, Nat.reduceLT, Nat.reduceLeDiff, Int.reduceLE, Int.reduceLT, Int.reduceEq, Int.reduceNeg, Int.reduceToNat, Int.reduceMul, Int.reduceAdd, Int.reduceSub, Int.reduceBEq, Int.reduceBNe, reduceCtorEq, decT, decF]) ?_
        try simp only [RN, if_true, if_false, Bool.false_eq_true, if_pos, reduceIte]
        exact hfin _ (by simp [RF, h0]) (by simp [RF, h3]) (by simp [RF, h4, rn]) (by simp [RF, h5])
      · obtain ⟨j, rfl⟩ : ∃ j, k = j + 1 := ⟨k - 1, by omega⟩
        have hj : ((j + 1 : Nat) : Int) - 1 = (j : Int) := by omega
        have hjl : j < xs.length := by omega
        have hr := rn_bd xs j
        simp only [Nat.add_sub_cancel, if_neg hk0] at h4
        refine T_rseq fun Kr hKr => ?_
        simp (disch := omega) only [RF, RO, RC, bodyQ, resAll, resOf, tup, ↓reduceIte, Nat.reduceEqDiff, Nat.reduceSub, Nat.reduceAdd, Nat.reduceMul, Nat.reduceLT, Nat.reduceLeDiff, Int.reduceLE, Int.reduceLT, Int.reduceEq, Int.reduceNeg, Int.reduceToNat, Int.reduceMul, Int.reduceAdd, Int.reduceSub, Int.reduceBEq, Int.reduceBNe, reduceCtorEq, RD, h0, h5, hj, hjl, hg, hel]
        refine hKr _ _ ?_
        clear hKr Kr
        try simp only [RN, if_true, if_false, Bool.false_eq_true, if_pos, reduceIte]
        by_cases hq : el xs (j + 1) = el xs j
        · refine T_cseq (t := false) (by simp (disch := omega) only [RF, RO, RC, bodyQ, resAll, resOf, tup, ↓reduceIte, Nat.reduceEqDiff, Nat.reduceSub, Nat.reduceAdd, Nat.reduceMul, Nat.reduceLT, Nat.reduceLeDiff, Int.reduceLE, Int.reduceLT, Int.reduceEq, Int.reduceNeg, Int.reduceToNat, Int.reduceMul, Int.reduceAdd, Int.reduceSub, Int.reduceBEq, Int.reduceBNe, reduceCtorEq, decT, decF, hq]) ?_
          try simp only [RN, if_true, if_false, Bool.false_eq_true, if_pos, reduceIte]
          exact hfin _ (by simp [RF, h0]) (by simp [RF, h3]) (by simp [RF, h4, rn, hq]) (by simp [RF, h5])
        · refine T_cseq (t := true) (by simp (disch := omega) only [RF, RO, RC, bodyQ, resAll, resOf, tup, ↓reduceIte, Nat.reduceEqDiff, Nat.reduceSub, Nat.reduceAdd, Nat.reduceMul, Nat.reduceLT, Nat.reduceLeDiff, Int.reduceLE, Int.reduceLT, Int.reduceEq, Int.reduceNeg, Int.reduceToNat, Int.reduceMul, Int.reduceAdd, Int.reduceSub, Int.reduceBEq, Int.reduceBNe, reduceCtorEq, decT, decF, hq]) ?_
          try simp only [RN, if_true, if_false, Bool.false_eq_true, if_pos, reduceIte]
          refine T_rseq fun Kr hKr => ?_
          simp (disch := omega) only [RF, RO, RC, bodyQ, resAll, resOf, tup, ↓reduceIte, Nat.reduceEqDiff, Nat.reduceSub, Nat.reduceAdd, Nat.reduceMul, Nat.reduceLT, Nat.reduceLeDiff, Int.reduceLE, Int.reduceLT, Int.reduceEq, Int.reduceNeg, Int.reduceToNat, Int.reduceMul, Int.reduceAdd, Int.reduceSub, Int.reduceBEq, Int.reduceBNe, reduceCtorEq, RD]
          refine hKr _ _ ?_
          clear hKr Kr
          try simp only [RN, if_true, if_false, Bool.false_eq_true, if_pos, reduceIte]
          exact hfin _ (by simp [RF, h0]) (by simp [RF, h3]) (by simp [RF, rn, hq]) (by simp [RF, h5])
    · refine T_cseq (t := false) (by simp (disch := omega) only [RF, RO, RC, bodyQ, resAll, resOf, tup, ↓reduceIte, Nat.reduceEqDiff, Nat.reduceSub, Nat.reduceAdd, Nat.reduceMul, Nat.reduceLT, Nat.reduceLeDiff, Int.reduceLE, Int.reduceLT, Int.reduceEq, Int.reduceNeg, Int.reduceToNat, Int.reduceMul, Int.reduceAdd, Int.reduceSub, Int.reduceBEq, Int.reduceBNe, reduceCtorEq, decT, decF]) ?_
      try simp only [RN, if_true, if_false, Bool.false_eq_true, if_pos, reduceIte]
      refine hX _ _ ?_
      refine T_rseq fun Kr hKr => ?_
      simp (disch := omega) only [RF, RO, RC, bodyQ, resAll, resOf, tup, ↓reduceIte, Nat.reduceEqDiff, Nat.reduceSub, Nat.reduceAdd, Nat.reduceMul, Nat.reduceLT, Nat.reduceLeDiff, Int.reduceLE, Int.reduceLT, Int.reduceEq, Int.reduceNeg, Int.reduceToNat, Int.reduceMul, Int.reduceAdd, Int.reduceSub, Int.reduceBEq, Int.reduceBNe, reduceCtorEq, RD, h3]
      refine hKr _ _ ?_
      clear hKr Kr
      try simp only [RN, if_true, if_false, Bool.false_eq_true, if_pos, reduceIte]
      refine ⟨_, rfl, ?_⟩
      simp only [RF, ev_t, ev_c, tup, ↓reduceIte, Nat.reduceEqDiff]
      have : k = xs.length := by omega
      subst this
      exact hK
theorem repeated_spec {H : AHeap} {v : Value} {xs : List Int} {K : Value → AHeap → Prop} (hx : IsI H v xs) (hl : xs.length ≤ 16) (hK : K (I (eqs xs xs.length)) H) : CallT F_impl_repeated [v] H K := by
  obtain ⟨a, e, rfl⟩ := hx.len
  refine CallT_body Γ_impl_repeated ?_
  simp only [A_impl_repeated, T_aiff]
  refine T_rseq fun Kr hKr => ?_
  simp (disch := omega) only [RF, RO, RC, bodyQ, resAll, resOf, tup, ↓reduceIte, Nat.reduceEqDiff, Nat.reduceSub, Nat.reduceAdd, Nat.reduceMul, Nat.reduceLT, Nat.reduceLeDiff, Int.reduceLE, Int.reduceLT, Int.reduceEq, Int.reduceNeg, Int.reduceToNat, Int.reduceMul, Int.reduceAdd, Int.reduceSub, Int.reduceBEq, Int.reduceBNe, reduceCtorEq, RD]
  refine hKr _ _ ?_
  clear hKr Kr
  try simp only [RN, if_true, if_false, Bool.false_eq_true, if_pos, reduceIte]
  refine T_rseq fun Kr hKr => ?_
  simp (disch := omega) only [RF, RO, RC, bodyQ, resAll, resOf, tup, ↓reduceIte, Nat.reduceEqDiff, Nat.reduceSub, Nat.reduceAdd, Nat.reduceMul, Nat.reduceLT, Nat.reduceLeDiff, Int.reduceLE, Int.reduceLT, Int.reduceEq, Int.reduceNeg, Int.reduceToNat, Int.reduceMul, Int.reduceAdd, Int.reduceSub, Int.reduceBEq, Int.reduceBNe, reduceCtorEq, RD]
  refine hKr _ _ ?_
  clear hKr Kr
  try simp only [RN, if_true, if_false, Bool.false_eq_true, if_pos, reduceIte]
  refine T_rseq fun Kr hKr => ?_
  simp (disch := omega) only [RF, RO, RC, bodyQ, resAll, resOf, tup, ↓reduceIte, Nat.reduceEqDiff, Nat.reduceSub, Nat.reduceAdd, Nat.reduceMul, Nat.reduceLT, Nat.reduceLeDiff, Int.reduceLE, Int.reduceLT, Int.reduceEq, Int.reduceNeg, Int.reduceToNat, Int.reduceMul, Int.reduceAdd, Int.reduceSub, Int.reduceBEq, Int.reduceBNe, reduceCtorEq, RD]
  refine hKr _ _ ?_
  clear hKr Kr
  try simp only [RN, if_true, if_false, Bool.false_eq_true, if_pos, reduceIte]
  refine T_wloop (fun n f H' => ∃ k, k ≤ xs.length ∧ n = xs.length - k ∧ H' = H ∧ f 0 = .slice a xs.length e ∧ f 7 = .slice a xs.length e ∧ f 8 = I xs.length ∧ f 3 = I (eqs xs k) ∧ f 4 = I (if k = 0 then 0 else (rn xs (k - 1) : Int)) ∧ f 9 = I k) (xs.length) ?_ ?_
  · exact ⟨0, by omega, by omega, rfl, by simp [RF], by simp [RF], by simp [RF], by simp [RF, eqs], by simp [RF], by simp [RF]⟩
  · rintro n f H' R ⟨k, hk, rfl, rfl, h0, h7, h8, h3, h4, h9⟩ hN hX hR
    simp only [A_impl_repeated.l0, T_aiff]
    refine T_rseq fun Kr hKr => ?_
    simp (disch := omega) only [RF, RO, RC, bodyQ, resAll, resOf, tup, ↓reduceIte, Nat.reduceEqDiff, Nat.reduceSub, Nat.reduceAdd, Nat.reduceMul, Nat.reduceLT, Nat.reduceLeDiff, Int.reduceLE, Int.reduceLT, Int.reduceEq, Int.reduceNeg, Int.reduceToNat, Int.reduceMul, Int.reduceAdd, Int.reduceSub, Int.reduceBEq, Int.reduceBNe, reduceCtorEq, RD, h8, h9]
    refine hKr _ _ ?_
    clear hKr Kr
    try simp only [RN, if_true, if_false, Bool.false_eq_true, if_pos, reduceIte]
    by_cases hlt : k < xs.length
    · refine T_cseq (t := true) (by simp (disch := omega) only [RF, RO, RC, bodyQ, resAll, resOf, tup, ↓reduceIte, Nat.reduceEqDiff, Nat.reduceSub, Nat.reduceAdd, Nat.reduceMul, Nat.reduceLT, Nat.reduceLeDiff, Int.reduceLE, Int.reduceLT, Int.reduceEq, Int.reduceNeg, Int.reduceToNat, Int.reduceMul, Int.reduceAdd, Int.reduceSub, Int.reduceBEq, Int.reduceBNe, reduceCtorEq, decT, decF]) ?_
      try simp only [RN, if_true, if_false, Bool.false_eq_true, if_pos, reduceIte]
      first | refine T_bfree rfl ?_ | refine T_bfree' rfl ?_
      try simp only [RN, if_true, if_false, Bool.false_eq_true, if_pos, reduceIte]
      obtain ⟨b, o, blk, heq, hb, hg, hlen, hel⟩ := hx.pos (by omega)
      cases heq
      refine T_rseq fun Kr hKr => ?_
      simp (disch := omega) only [RF, RO, RC, bodyQ, resAll, resOf, tup, ↓reduceIte, Nat.reduceEqDiff, Nat.reduceSub, Nat.reduceAdd, Nat.reduceMul, Nat.reduceLT, Nat.reduceLeDiff, Int.reduceLE, Int.reduceLT, Int.reduceEq, Int.reduceNeg, Int.reduceToNat, Int.reduceMul, Int.reduceAdd, Int.reduceSub, Int.reduceBEq, Int.reduceBNe, reduceCtorEq, RD, h7, h9, hlt, hg, hel]
      refine hKr _ _ ?_
      clear hKr Kr
      try simp only [RN, if_true, if_false, Bool.false_eq_true, if_pos, reduceIte]
      have hfin : ∀ (f' : Fr), f' 0 = S b o xs.length 1 → f' 7 = S b o xs.length 1 → f' 8 = I xs.length → f' 3 = I (eqs xs k) → f' 4 = I (rn xs k : Int) → f' 9 = I k → T (ACode.seq A_impl_repeated.r8 A_impl_repeated.r9) R f' H' := by
        intro f' h0 h7 h8 h3 h4 h9
        have hb1 := eqs_bd xs (k + 1)
        have hb2 := fact_bd (n := k + 1) (by omega)
        have hee : eqs xs k * (rn xs k : Int) = eqs xs (k + 1) := rfl
        refine T_rseq fun Kr hKr => ?_
        simp (disch := omega) only [RF, RO, RC, bodyQ, resAll, resOf, tup, ↓reduceIte, Nat.reduceEqDiff, Nat.reduceSub, Nat.reduceAdd, Nat.reduceMul, Nat.reduceLT, Nat.reduceLeDiff, Int.reduceLE, Int.reduceLT, Int.reduceEq, Int.reduceNeg, Int.reduceToNat, Int.reduceMul, Int.reduceAdd, Int.reduceSub, Int.reduceBEq, Int.reduceBNe, reduceCtorEq, RD, h3, h4, hee]
        refine hKr _ _ ?_
        clear hKr Kr
        try simp only [RN, if_true, if_false, Bool.false_eq_true, if_pos, reduceIte]
        refine T_reg_k fun Kr hKr => ?_
        simp (disch := omega) only [RF, RO, RC, bodyQ, resAll, resOf, tup, ↓reduceIte, Nat.reduceEqDiff, Nat.reduceSub, Nat.reduceAdd, Nat.reduceMul, Nat.reduceLT, Nat.reduceLeDiff, Int.reduceLE, Int.reduceLT, Int.reduceEq, Int.reduceNeg, Int.reduceToNat, Int.reduceMul, Int.reduceAdd, Int.reduceSub, Int.reduceBEq, Int.reduceBNe, reduceCtorEq, RD, h9]
        refine hKr _ _ ?_
        clear hKr Kr
        exact hN (xs.length - (k + 1)) _ _ (by omega) ⟨k + 1, by omega, rfl, rfl, by simp [RF, h0], by simp [RF, h7], by simp [RF, h8], by simp [RF], by simp [RF, h4], by simp [RF]⟩
      by_cases hk0 : k = 0
      · subst hk0
        refine T_rseq fun Kr hKr => ?_
        simp (disch := omega) only [RF, RO, RC, bodyQ, resAll, resOf, tup, ↓reduceIte, Nat.reduceEqDiff, Nat.reduceSub, Nat.reduceAdd, Nat.reduceMul, Nat.reduceLT, Nat.reduceLeDiff, Int.reduceLE, Int.reduceLT, Int.reduceEq, Int.reduceNeg, Int.reduceToNat, Int.reduceMul, Int.reduceAdd, Int.reduceSub, Int.reduceBEq, Int.reduceBNe, reduceCtorEq, RD]
        refine hKr _ _ ?_
        clear hKr Kr
        try simp only [RN, if_true, if_false, Bool.false_eq_true, if_pos, reduceIte]
        refine T_cseq (t := false) (by simp (disch := omega) only [RF, RO, RC, bodyQ, resAll, resOf, tup, ↓reduceIte, Nat.reduceEqDiff, Nat.reduceSub, Nat.reduceAdd, Nat.reduceMul, Nat.reduceLT, Nat.reduceLeDiff, Int.reduceLE, Int.reduceLT, Int.reduceEq, Int.reduceNeg, Int.reduceToNat, Int.reduceMul, Int.reduceAdd, Int.reduceSub, Int.reduceBEq, Int.reduceBNe, reduceCtorEq, decT, decF]) ?_
        try simp only [RN, if_true, if_false, Bool.false_eq_true, if_pos, reduceIte]
        refine T_rseq fun Kr hKr => ?_
        simp (disch := omega) only [RF, RO, RC, bodyQ, resAll, resOf, tup, ↓reduceIte, Nat.reduceEqDiff, Nat.reduceSub, Nat.reduceAdd, Nat.reduceMul, Nat.reduceLT, Nat.reduceLeDiff, Int.reduceLE, Int.reduceLT, Int.reduceEq, Int.reduceNeg, Int.reduceToNat, Int.reduceMul, Int.reduceAdd, Int.reduceSub, Int.reduceBEq, Int.reduceBNe, reduceCtorEq, RD]
        refine hKr _ _ ?_
        clear hKr Kr
        try simp only [RN, if_true, if_false, Bool.false_eq_true, if_pos, reduceIte]
        exact hfin _ (by simp [RF, h0]) (by simp [RF, h7]) (by simp [RF, h8]) (by simp [RF, h3]) (by simp [RF, rn]) (by simp [RF, h9])
      · obtain ⟨j, rfl⟩ : ∃ j, k = j + 1 := ⟨k - 1, by omega⟩
        have hj : ((j + 1 : Nat) : Int) - 1 = (j : Int) := by omega
        have hjl : j < xs.length := by omega
        have hr := rn_bd xs j
        simp only [Nat.add_sub_cancel, if_neg hk0] at h4
        refine T_rseq fun Kr hKr => ?_
        simp (disch := omega) only [RF, RO, RC, bodyQ, resAll, resOf, tup, ↓reduceIte, Nat.reduceEqDiff, Nat.reduceSub, Nat.reduceAdd, Nat.reduceMul, Nat.reduceLT, Nat.reduceLeDiff, Int.reduceLE, Int.reduceLT, Int.reduceEq, Int.reduceNeg, Int.reduceToNat, Int.reduceMul, Int.reduceAdd, Int.reduceSub, Int.reduceBEq, Int.reduceBNe, reduceCtorEq, RD, h0, hj, hjl, hg, hel]
        refine hKr _ _ ?_
        clear hKr Kr
        try simp only [RN, if_true, if_false, Bool.false_eq_true, if_pos, reduceIte]
        by_cases hq : el xs (j + 1) = el xs j
        · refine T_cseq (t := true) (by simp (disch := omega) only [RF, RO, RC, bodyQ, resAll, resOf, tup, ↓reduceIte, Nat.reduceEqDiff, Nat.reduceSub, Nat.reduceAdd, Nat.reduceMul, Nat.reduceLT, Nat.reduceLeDiff, Int.reduceLE, Int.reduceLT, Int.reduceEq, Int.reduceNeg, Int.reduceToNat, Int.reduceMul, Int.reduceAdd, Int.reduceSub, Int.reduceBEq, Int.reduceBNe, reduceCtorEq, decT, decF, hq]) ?_
          try simp only [RN, if_true, if_false, Bool.false_eq_true, if_pos, reduceIte]
          refine T_rseq fun Kr hKr => ?_
          simp (disch := omega) only [RF, RO, RC, bodyQ, resAll, resOf, tup, ↓reduceIte, Nat.reduceEqDiff, Nat.reduceSub, Nat.reduceAdd, Nat.reduceMul, Nat.reduceLT, Nat.reduceLeDiff, Int.reduceLE, Int.reduceLT, Int.reduceEq, Int.reduceNeg, Int.reduceToNat, Int.reduceMul, Int.reduceAdd, Int.reduceSub, Int.reduceBEq, Int.reduceBNe, reduceCtorEq, RD, h4]
          refine hKr _ _ ?_
          clear hKr Kr
          try simp only [RN, if_true, if_false, Bool.false_eq_true, if_pos, reduceIte]
          exact hfin _ (by simp [RF, h0]) (by simp [RF, h7]) (by simp [RF, h8]) (by simp [RF, h3]) (by simp [RF, rn, hq]) (by simp [RF, h9])
        · refine T_cseq (t := false) (by simp (disch := omega) only [RF, RO, RC, bodyQ, resAll, resOf, tup, ↓reduceIte, Nat.reduceEqDiff, Nat.reduceSub, Nat.reduceAdd, Nat.reduceMul, Nat.reduceLT, Nat.reduceLeDiff, Int.reduceLE, Int.reduceLT, Int.reduceEq, Int.reduceNeg, Int.reduceToNat, Int.reduceMul, Int.reduceAdd, Int.reduceSub, Int.reduceBEq, Int.reduceBNe, reduceCtorEq, decT, decF, hq]) ?_
          try simp only [RN, if_true, if_false, Bool.false_eq_true, if_pos, reduceIte]
          refine T_rseq fun Kr hKr => ?_
          simp (disch := omega) only [RF, RO, RC, bodyQ, resAll, resOf, tup, ↓reduceIte, Nat.reduceEqDiff, Nat.reduceSub, Nat.reduceAdd, Nat.reduceMul, Nat.reduceLT, Nat.reduceLeDiff, Int.reduceLE, Int.reduceLT, Int.reduceEq, Int.reduceNeg, Int.reduceToNat, Int.reduceMul, Int.reduceAdd, Int.reduceSub, Int.reduceBEq, Int.reduceBNe, reduceCtorEq, RD]
          refine hKr _ _ ?_
          clear hKr Kr
          try simp only [RN, if_true, if_false, Bool.false_eq_true, if_pos, reduceIte]
          exact hfin _ (by simp [RF, h0]) (by simp [RF, h7]) (by simp [RF, h8]) (by simp [RF, h3]) (by simp [RF, rn, hq]) (by simp [RF, h9])
    · refine T_cseq (t := false) (by simp (disch := omega) only [RF, RO, RC, bodyQ, resAll, resOf, tup, ↓reduceIte, Nat.reduceEqDiff, Nat.reduceSub, Nat.reduceAdd, Nat.reduceMul, Nat.reduceLT, Nat.reduceLeDiff, Int.reduceLE, Int.reduceLT, Int.reduceEq, Int.reduceNeg, Int.reduceToNat, Int.reduceMul, Int.reduceAdd, Int.reduceSub, Int.reduceBEq, Int.reduceBNe, reduceCtorEq, decT, decF]) ?_
      try simp only [RN, if_true, if_false, Bool.false_eq_true, if_pos, reduceIte]
      refine hX _ _ ?_
      refine T_rseq fun Kr hKr => ?_
      simp (disch := omega) only [RF, RO, RC, bodyQ, resAll, resOf, tup, ↓reduceIte, Nat.reduceEqDiff, Nat.reduceSub, Nat.reduceAdd, Nat.reduceMul, Nat.reduceLT, Nat.reduceLeDiff, Int.reduceLE, Int.reduceLT, Int.reduceEq, Int.reduceNeg, Int.reduceToNat, Int.reduceMul, Int.reduceAdd, Int.reduceSub, Int.reduceBEq, Int.reduceBNe, reduceCtorEq, RD, h3]
      refine hKr _ _ ?_
      clear hKr Kr
      try simp only [RN, if_true, if_false, Bool.false_eq_true, if_pos, reduceIte]
      refine ⟨_, rfl, ?_⟩
      simp only [RF, ev_t, ev_c, tup, ↓reduceIte, Nat.reduceEqDiff]
      have : k = xs.length := by omega
      subst this
      exact hK
end Go.Am
