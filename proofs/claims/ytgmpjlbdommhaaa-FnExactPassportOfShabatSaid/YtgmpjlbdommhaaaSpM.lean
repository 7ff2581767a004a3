/- Rows of slices: marks. -/
import Derived.Test.YtgmpjlbdommhaaaSpL
set_option linter.unusedVariables false
set_option linter.unusedSimpArgs false
namespace Go.Am
open Go

/-- So many numbers lie in the first rows. -/
def tot (xss : List (List Int)) : Nat → Nat
  | 0 => 0
  | i + 1 => tot xss i + (rowAt xss i).length
theorem tot_mono (xss : List (List Int)) : ∀ n i, i ≤ n → tot xss i ≤ tot xss n
  | 0, i, h => by have : i = 0 := by omega
                  subst this; exact Nat.le_refl _
  | n + 1, i, h => by
    by_cases e : i = n + 1
    · subst e; exact Nat.le_refl _
    · exact Nat.le_trans (tot_mono xss n i (by omega)) (Nat.le_add_right _ _)
theorem tot_row (xss : List (List Int)) {i n : Nat} (h : i < n) : tot xss i + (rowAt xss i).length ≤ tot xss n := tot_mono xss n (i + 1) h
def marksSS (k0 : Int) (xss : List (List Int)) : List (List Int) := (List.range xss.length).map fun i => marks (k0 + tot xss i) (rowAt xss i).length
theorem marksSS_len (k0 : Int) (xss : List (List Int)) : (marksSS k0 xss).length = xss.length := by simp [marksSS]
theorem marksSS_at (k0 : Int) {xss : List (List Int)} {i : Nat} (h : i < xss.length) : rowAt (marksSS k0 xss) i = marks (k0 + tot xss i) (rowAt xss i).length := by
  simp [rowAt, marksSS, List.getD, h]
theorem tot_congr {xss yss : List (List Int)} : ∀ n, (∀ i, i < n → (rowAt xss i).length = (rowAt yss i).length) → tot xss n = tot yss n
  | 0, _ => rfl
  | n + 1, h => by
    simp only [tot]
    rw [tot_congr n fun i hi => h i (by omega), h n (by omega)]
theorem marksSS_tot (k0 : Int) (xss : List (List Int)) : ∀ n, n ≤ xss.length → tot (marksSS k0 xss) n = tot xss n := fun n hn =>
  tot_congr n fun i hi => by rw [marksSS_at k0 (by omega), marks_len]

theorem markInt64SS_spec {lo hi : Nat} {H : AHeap} {v : Value} {xss : List (List Int)} {k0 : Int} {K : Value → AHeap → Prop} (hx : OwnSS lo hi H v xss) (hl : xss.length < 1000000) (ht : tot xss xss.length < 2 ^ 60) (hk0 : 0 ≤ k0) (hk1 : k0 < 2 ^ 60)
    (hK : ∀ H', Out lo hi H H' → H'.n = H.n → OwnSS lo hi H' v (marksSS k0 xss) → K (I (k0 + tot xss xss.length)) H') : CallT F_laws_markInt64SS [v, I k0] H K := by
  rcases hx with ⟨rfl, rfl⟩ | ⟨b, vs, rest, r, rfl, h1, h2, h3, hg, h5, h6, h7, h8, hrow⟩
  · refine CallT_body Γ_laws_markInt64SS ?_
    simp only [A_laws_markInt64SS, T_aiff]
    refine T_rseq fun Kr hKr => ?_
    simp (disch := omega) only [RF, RO, RC, bodyQ, resAll, resOf, tup, ↓reduceIte, Nat.reduceEqDiff, Nat.reduceSub, Nat.reduceAdd, Nat.reduceMul, Nat.reduceLT, Nat.reduceLeDiff, Int.reduceLE, Int.reduceLT, Int.reduceEq, Int.reduceNeg, Int.reduceToNat, Int.reduceMul, Int.reduceAdd, Int.reduceSub, Int.reduceBEq, Int.reduceBNe, reduceCtorEq, RD]
    refine hKr _ _ ?_
    clear hKr Kr
    try simp only [RN, if_true, if_false, Bool.false_eq_true, if_pos, reduceIte]
    refine T_rseq fun Kr hKr => ?_
    simp (disch := omega) only [RF, RO, RC, bodyQ, resAll, resOf, tup, ↓reduceIte, Nat.reduceEqDiff, Nat.reduceSub, Nat.reduceAdd, Nat.reduceMul, Nat.reduceLT, Nat.reduceLeDiff, Int.reduceLE, Int.reduceLT, Int.reduceEq, Int.reduceNeg, Int.reduceToNat, Int.reduceMul, Int.reduceAdd, Int.reduceSub, Int.reduceBEq, Int.reduceBNe, reduceCtorEq, RD]
    refine hKr _ _ ?_
    clear hKr Kr
    try simp only [RN, if_true, if_false, Bool.false_eq_true, if_pos, reduceIte]
    refine T_wloop (fun n f H' => H' = H ∧ f 0 = .slice none 0 0 ∧ f 1 = I k0 ∧ f 5 = I 0) (0) ?_ ?_
    · exact ⟨rfl, by simp [RF], by simp [RF], by simp [RF]⟩
    · rintro n f H' R ⟨rfl, h0, h1, h5⟩ hN hX hR
      simp only [A_laws_markInt64SS.l0, T_aiff]
      refine T_rseq fun Kr hKr => ?_
      simp (disch := omega) only [RF, RO, RC, bodyQ, resAll, resOf, tup, ↓reduceIte, Nat.reduceEqDiff, Nat.reduceSub, Nat.reduceAdd, Nat.reduceMul, Nat.reduceLT, Nat.reduceLeDiff, Int.reduceLE, Int.reduceLT, Int.reduceEq, Int.reduceNeg, Int.reduceToNat, Int.reduceMul, Int.reduceAdd, Int.reduceSub, Int.reduceBEq, Int.reduceBNe, reduceCtorEq, RD, h0, h5]
      refine hKr _ _ ?_
      clear hKr Kr
      try simp only [RN, if_true, if_false, Bool.false_eq_true, if_pos, reduceIte]
      refine T_cseq (t := false) (by simp (disch := omega) only [RF, RO, RC, bodyQ, resAll, resOf, tup, ↓reduceIte, Nat.reduceEqDiff, Nat.reduceSub, Nat.reduceAdd, Nat.reduceMul, Nat.reduceLT, Nat.reduceLeDiff, Int.reduceLE, Int.reduceLT, Int.reduceEq, Int.reduceNeg, Int.reduceToNat, Int.reduceMul, Int.reduceAdd, Int.reduceSub, Int.reduceBEq, Int.reduceBNe, reduceCtorEq, decT, decF]) ?_
      try simp only [RN, if_true, if_false, Bool.false_eq_true, if_pos, reduceIte]
      refine hX _ _ ?_
      refine T_rseq fun Kr hKr => ?_
      simp (disch := omega) only [RF, RO, RC, bodyQ, resAll, resOf, tup, ↓reduceIte, Nat.reduceEqDiff, Nat.reduceSub, Nat.reduceAdd, Nat.reduceMul, Nat.reduceLT, Nat.reduceLeDiff, Int.reduceLE, Int.reduceLT, Int.reduceEq, Int.reduceNeg, Int.reduceToNat, Int.reduceMul, Int.reduceAdd, Int.reduceSub, Int.reduceBEq, Int.reduceBNe, reduceCtorEq, RD, h1]
      refine hKr _ _ ?_
      clear hKr Kr
      try simp only [RN, if_true, if_false, Bool.false_eq_true, if_pos, reduceIte]
      refine ⟨_, rfl, ?_⟩
      simp only [RF, ev_t, ev_c, tup, ↓reduceIte, Nat.reduceEqDiff]
      have := hK H' .refl rfl .nil
      simpa [tot] using this
  · refine CallT_body Γ_laws_markInt64SS ?_
    simp only [A_laws_markInt64SS, T_aiff]
    refine T_rseq fun Kr hKr => ?_
    simp (disch := omega) only [RF, RO, RC, bodyQ, resAll, resOf, tup, ↓reduceIte, Nat.reduceEqDiff, Nat.reduceSub, Nat.reduceAdd, Nat.reduceMul, Nat.reduceLT, Nat.reduceLeDiff, Int.reduceLE, Int.reduceLT, Int.reduceEq, Int.reduceNeg, Int.reduceToNat, Int.reduceMul, Int.reduceAdd, Int.reduceSub, Int.reduceBEq, Int.reduceBNe, reduceCtorEq, RD]
    refine hKr _ _ ?_
    clear hKr Kr
    try simp only [RN, if_true, if_false, Bool.false_eq_true, if_pos, reduceIte]
    refine T_rseq fun Kr hKr => ?_
    simp (disch := omega) only [RF, RO, RC, bodyQ, resAll, resOf, tup, ↓reduceIte, Nat.reduceEqDiff, Nat.reduceSub, Nat.reduceAdd, Nat.reduceMul, Nat.reduceLT, Nat.reduceLeDiff, Int.reduceLE, Int.reduceLT, Int.reduceEq, Int.reduceNeg, Int.reduceToNat, Int.reduceMul, Int.reduceAdd, Int.reduceSub, Int.reduceBEq, Int.reduceBNe, reduceCtorEq, RD]
    refine hKr _ _ ?_
    clear hKr Kr
    try simp only [RN, if_true, if_false, Bool.false_eq_true, if_pos, reduceIte]
    refine T_wloop (fun n f H' => ∃ k, k ≤ xss.length ∧ n = xss.length - k ∧ Out lo hi H H' ∧ H'.n = H.n ∧ f 0 = S b 0 xss.length 1 ∧ f 1 = I (k0 + (tot xss k : Nat)) ∧ f 5 = I k ∧ H'.get b = some ⟨vs ++ rest, true⟩ ∧ (∀ i, i < xss.length → OwnI (r i) (r (i + 1)) H' (valAt vs i) (if i < k then marks (k0 + tot xss i) (rowAt xss i).length else rowAt xss i))) (xss.length) ?_ ?_
    · exact ⟨0, by omega, by omega, .refl, rfl, by simp [RF], by simp [RF, tot], by simp [RF], hg, fun i hi => by rw [if_neg (by omega)]; exact (hrow i hi).2⟩
    · rintro n f H' R ⟨k, hk, rfl, hout, hn, h0, h1', h5', hg', hrows⟩ hN hX hR
      simp only [A_laws_markInt64SS.l0, T_aiff]
      refine T_rseq fun Kr hKr => ?_
      simp (disch := omega) only [RF, RO, RC, bodyQ, resAll, resOf, tup, ↓reduceIte, Nat.reduceEqDiff, Nat.reduceSub, Nat.reduceAdd, Nat.reduceMul, Nat.reduceLT, Nat.reduceLeDiff, Int.reduceLE, Int.reduceLT, Int.reduceEq, Int.reduceNeg, Int.reduceToNat, Int.reduceMul, Int.reduceAdd, Int.reduceSub, Int.reduceBEq, Int.reduceBNe, reduceCtorEq, RD, h0, h5']
      refine hKr _ _ ?_
      clear hKr Kr
      try simp only [RN, if_true, if_false, Bool.false_eq_true, if_pos, reduceIte]
      by_cases hlt : k < xss.length
      · refine T_cseq (t := true) (by simp (disch := omega) only [RF, RO, RC, bodyQ, resAll, resOf, tup, ↓reduceIte, Nat.reduceEqDiff, Nat.reduceSub, Nat.reduceAdd, Nat.reduceMul, Nat.reduceLT, Nat.reduceLeDiff, Int.reduceLE, Int.reduceLT, Int.reduceEq, Int.reduceNeg, Int.reduceToNat, Int.reduceMul, Int.reduceAdd, Int.reduceSub, Int.reduceBEq, Int.reduceBNe, reduceCtorEq, decT, decF, hlt]) ?_
        try simp only [RN, if_true, if_false, Bool.false_eq_true, if_pos, reduceIte]
        first | refine T_bfree rfl ?_ | refine T_bfree' rfl ?_
        try simp only [RN, if_true, if_false, Bool.false_eq_true, if_pos, reduceIte]
        have hg1 : (vs ++ rest)[k]? = some (valAt vs k) := getAt (by omega)
        have hrk := hrows k hlt
        rw [if_neg (by omega)] at hrk
        have htk := tot_row xss hlt
        refine T_rseq fun Kr hKr => ?_
        simp (disch := omega) only [RF, RO, RC, bodyQ, resAll, resOf, tup, ↓reduceIte, Nat.reduceEqDiff, Nat.reduceSub, Nat.reduceAdd, Nat.reduceMul, Nat.reduceLT, Nat.reduceLeDiff, Int.reduceLE, Int.reduceLT, Int.reduceEq, Int.reduceNeg, Int.reduceToNat, Int.reduceMul, Int.reduceAdd, Int.reduceSub, Int.reduceBEq, Int.reduceBNe, reduceCtorEq, RD, h0, h1', h5', hlt, hg', hg1]
        refine markInt64S_spec hrk (by omega) (by omega) (by omega) fun H2 hm2 hn2 ho2 => ?_
        simp (disch := omega) only [RF, RO, RC, bodyQ, resAll, resOf, tup, ↓reduceIte, Nat.reduceEqDiff, Nat.reduceSub, Nat.reduceAdd, Nat.reduceMul, Nat.reduceLT, Nat.reduceLeDiff, Int.reduceLE, Int.reduceLT, Int.reduceEq, Int.reduceNeg, Int.reduceToNat, Int.reduceMul, Int.reduceAdd, Int.reduceSub, Int.reduceBEq, Int.reduceBNe, reduceCtorEq, RD]
        refine hKr _ _ ?_
        clear hKr Kr
        try simp only [blkQ, thenQ, loopQ]
        try simp only [RN, if_true, if_false, Bool.false_eq_true, if_pos, reduceIte]
        refine T_reg_k fun Kr hKr => ?_
        simp (disch := omega) only [RF, RO, RC, bodyQ, resAll, resOf, tup, ↓reduceIte, Nat.reduceEqDiff, Nat.reduceSub, Nat.reduceAdd, Nat.reduceMul, Nat.reduceLT, Nat.reduceLeDiff, Int.reduceLE, Int.reduceLT, Int.reduceEq, Int.reduceNeg, Int.reduceToNat, Int.reduceMul, Int.reduceAdd, Int.reduceSub, Int.reduceBEq, Int.reduceBNe, reduceCtorEq, RD, h5']
        refine hKr _ _ ?_
        clear hKr Kr
        have m1 := mono_r (fun i hi => (hrow i hi).1) k 0 (by omega) (by omega)
        have m2 := mono_r (fun i hi => (hrow i hi).1) xss.length (k + 1) (by omega) (Nat.le_refl _)
        refine hN (xss.length - (k + 1)) _ _ (by omega) ⟨k + 1, by omega, rfl, ⟨Nat.le_trans hout.n hm2.n, fun x hx ho => ?_⟩, by omega, by simp [RF, h0], by simp [RF, tot]; omega, by simp [RF], ?_, fun i hi => ?_⟩
        · rw [hm2.get x (Nat.lt_of_lt_of_le hx hout.n) (by omega)]; exact hout.get x hx ho
        · rw [hm2.get b (by omega) (by omega)]; exact hg'
        · by_cases e : i = k
          · subst e
            rw [if_pos (by omega)]
            exact ho2
          · have hri := (hrows i hi).out hm2 (by
              by_cases e2 : i < k
              · exact .inl (mono_r (fun i hi => (hrow i hi).1) k (i + 1) (by omega) (by omega))
              · exact .inr (mono_r (fun i hi => (hrow i hi).1) i (k + 1) (by omega) (by omega)))
            by_cases e2 : i < k
            · rw [if_pos (by omega)]; rw [if_pos e2] at hri; exact hri
            · rw [if_neg (by omega)]; rw [if_neg e2] at hri; exact hri
      · refine T_cseq (t := false) (by simp (disch := omega) only [RF, RO, RC, bodyQ, resAll, resOf, tup, ↓reduceIte, Nat.reduceEqDiff, Nat.reduceSub, Nat.reduceAdd, Nat.reduceMul, Nat.reduceLT, Nat.reduceLeDiff, Int.reduceLE, Int.reduceLT, Int.reduceEq, Int.reduceNeg, Int.reduceToNat, Int.reduceMul, Int.reduceAdd, Int.reduceSub, Int.reduceBEq, Int.reduceBNe, reduceCtorEq, decT, decF, hlt]) ?_
        try simp only [RN, if_true, if_false, Bool.false_eq_true, if_pos, reduceIte]
        refine hX _ _ ?_
        refine T_rseq fun Kr hKr => ?_
        simp (disch := omega) only [RF, RO, RC, bodyQ, resAll, resOf, tup, ↓reduceIte, Nat.reduceEqDiff, Nat.reduceSub, Nat.reduceAdd, Nat.reduceMul, Nat.reduceLT, Nat.reduceLeDiff, Int.reduceLE, Int.reduceLT, Int.reduceEq, Int.reduceNeg, Int.reduceToNat, Int.reduceMul, Int.reduceAdd, Int.reduceSub, Int.reduceBEq, Int.reduceBNe, reduceCtorEq, RD, h1']
        refine hKr _ _ ?_
        clear hKr Kr
        try simp only [RN, if_true, if_false, Bool.false_eq_true, if_pos, reduceIte]
        refine ⟨_, rfl, ?_⟩
        simp only [RF, ev_t, ev_c, tup, ↓reduceIte, Nat.reduceEqDiff]
        have : k = xss.length := by omega
        subst this
        refine hK _ hout hn (.inr ⟨b, vs, rest, r, by rw [marksSS_len], h1, h2, by omega, hg', by rw [marksSS_len]; exact h5, by rw [marksSS_len]; exact h6, h7, by rw [marksSS_len]; exact h8, fun i hi => ?_⟩)
        rw [marksSS_len] at hi
        have := hrows i hi
        rw [if_pos hi] at this
        rw [marksSS_at k0 hi]
        exact ⟨(hrow i hi).1, this⟩

theorem heldInt64SS_spec {lo hi : Nat} {H : AHeap} {v : Value} {xss : List (List Int)} {k0 : Int} {K : Value → AHeap → Prop} (hx : OwnSS lo hi H v (marksSS k0 xss)) (hl : xss.length < 1000000) (ht : tot xss xss.length < 2 ^ 60) (hk0 : 0 ≤ k0) (hk1 : k0 < 2 ^ 60)
    (hK : K (I (k0 + tot xss xss.length)) H) : CallT F_laws_heldInt64SS [v, I k0] H K := by
  obtain ⟨a, e, rfl⟩ := hx.len
  rw [marksSS_len] at hx ⊢
  refine CallT_body Γ_laws_heldInt64SS ?_
  simp only [A_laws_heldInt64SS, T_aiff]
  refine T_rseq fun Kr hKr => ?_
  simp (disch := omega) only [RF, RO, RC, bodyQ, resAll, resOf, tup, ↓reduceIte, Nat.reduceEqDiff, Nat.reduceSub, Nat.reduceAdd, Nat.reduceMul, Nat.reduceLT, Nat.reduceLeDiff, Int.reduceLE, Int.reduceLT, Int.reduceEq, Int.reduceNeg, Int.reduceToNat, Int.reduceMul, Int.reduceAdd, Int.reduceSub, Int.reduceBEq, Int.reduceBNe, reduceCtorEq, RD]
  refine hKr _ _ ?_
  clear hKr Kr
  try simp only [RN, if_true, if_false, Bool.false_eq_true, if_pos, reduceIte]
  refine T_rseq fun Kr hKr => ?_
  simp (disch := omega) only [RF, RO, RC, bodyQ, resAll, resOf, tup, ↓reduceIte, Nat.reduceEqDiff, Nat.reduceSub, Nat.reduceAdd, Nat.reduceMul, Nat.reduceLT, Nat.reduceLeDiff, Int.reduceLE, Int.reduceLT, Int.reduceEq, Int.reduceNeg, Int.reduceToNat, Int.reduceMul, Int.reduceAdd, Int.reduceSub, Int.reduceBEq, Int.reduceBNe, reduceCtorEq, RD]
  refine hKr _ _ ?_
  clear hKr Kr
  try simp only [RN, if_true, if_false, Bool.false_eq_true, if_pos, reduceIte]
  refine T_wloop (fun n f H' => ∃ k, k ≤ xss.length ∧ n = xss.length - k ∧ H' = H ∧ f 0 = .slice a xss.length e ∧ f 1 = I (k0 + (tot xss k : Nat)) ∧ f 5 = I k) (xss.length) ?_ ?_
  · exact ⟨0, by omega, by omega, rfl, by simp [RF], by simp [RF, tot], by simp [RF]⟩
  · rintro n f H' R ⟨k, hk, rfl, rfl, h0, h1', h5'⟩ hN hX hR
    simp only [A_laws_heldInt64SS.l0, T_aiff]
    refine T_rseq fun Kr hKr => ?_
    simp (disch := omega) only [RF, RO, RC, bodyQ, resAll, resOf, tup, ↓reduceIte, Nat.reduceEqDiff, Nat.reduceSub, Nat.reduceAdd, Nat.reduceMul, Nat.reduceLT, Nat.reduceLeDiff, Int.reduceLE, Int.reduceLT, Int.reduceEq, Int.reduceNeg, Int.reduceToNat, Int.reduceMul, Int.reduceAdd, Int.reduceSub, Int.reduceBEq, Int.reduceBNe, reduceCtorEq, RD, h0, h5']
    refine hKr _ _ ?_
    clear hKr Kr
    try simp only [RN, if_true, if_false, Bool.false_eq_true, if_pos, reduceIte]
    by_cases hlt : k < xss.length
    · refine T_cseq (t := true) (by simp (disch := omega) only [RF, RO, RC, bodyQ, resAll, resOf, tup, ↓reduceIte, Nat.reduceEqDiff, Nat.reduceSub, Nat.reduceAdd, Nat.reduceMul, Nat.reduceLT, Nat.reduceLeDiff, Int.reduceLE, Int.reduceLT, Int.reduceEq, Int.reduceNeg, Int.reduceToNat, Int.reduceMul, Int.reduceAdd, Int.reduceSub, Int.reduceBEq, Int.reduceBNe, reduceCtorEq, decT, decF, hlt]) ?_
      try simp only [RN, if_true, if_false, Bool.false_eq_true, if_pos, reduceIte]
      first | refine T_bfree rfl ?_ | refine T_bfree' rfl ?_
      try simp only [RN, if_true, if_false, Bool.false_eq_true, if_pos, reduceIte]
      obtain ⟨b, vs, rest, r, heq, _, _, _, hg, hvl, _, _, _, hrow⟩ := hx.pos (by rw [marksSS_len]; omega)
      rw [marksSS_len] at heq hvl
      cases heq
      have hg1 : (vs ++ rest)[k]? = some (valAt vs k) := getAt (by omega)
      have hrk := (hrow k (by rw [marksSS_len]; exact hlt)).2
      rw [marksSS_at k0 hlt] at hrk
      have htk := tot_row xss hlt
      refine T_rseq fun Kr hKr => ?_
      simp (disch := omega) only [RF, RO, RC, bodyQ, resAll, resOf, tup, ↓reduceIte, Nat.reduceEqDiff, Nat.reduceSub, Nat.reduceAdd, Nat.reduceMul, Nat.reduceLT, Nat.reduceLeDiff, Int.reduceLE, Int.reduceLT, Int.reduceEq, Int.reduceNeg, Int.reduceToNat, Int.reduceMul, Int.reduceAdd, Int.reduceSub, Int.reduceBEq, Int.reduceBNe, reduceCtorEq, RD, h0, h1', h5', hlt, hg, hg1]
      refine heldInt64S_spec hrk.is (by rw [marks_len]; omega) (by omega) (by omega) (fun i hi => el_marks (by rw [marks_len] at hi; exact hi)) ?_
      rw [marks_len]
      simp (disch := omega) only [RF, RO, RC, bodyQ, resAll, resOf, tup, ↓reduceIte, Nat.reduceEqDiff, Nat.reduceSub, Nat.reduceAdd, Nat.reduceMul, Nat.reduceLT, Nat.reduceLeDiff, Int.reduceLE, Int.reduceLT, Int.reduceEq, Int.reduceNeg, Int.reduceToNat, Int.reduceMul, Int.reduceAdd, Int.reduceSub, Int.reduceBEq, Int.reduceBNe, reduceCtorEq, RD]
      refine hKr _ _ ?_
      clear hKr Kr
      try simp only [blkQ, thenQ, loopQ]
      try simp only [RN, if_true, if_false, Bool.false_eq_true, if_pos, reduceIte]
      refine T_rseq fun Kr hKr => ?_
      simp (disch := omega) only [RF, RO, RC, bodyQ, resAll, resOf, tup, ↓reduceIte, Nat.reduceEqDiff, Nat.reduceSub, Nat.reduceAdd, Nat.reduceMul, Nat.reduceLT, Nat.reduceLeDiff, Int.reduceLE, Int.reduceLT, Int.reduceEq, Int.reduceNeg, Int.reduceToNat, Int.reduceMul, Int.reduceAdd, Int.reduceSub, Int.reduceBEq, Int.reduceBNe, reduceCtorEq, RD]
      refine hKr _ _ ?_
      clear hKr Kr
      try simp only [RN, if_true, if_false, Bool.false_eq_true, if_pos, reduceIte]
      refine T_cseq (t := false) (by simp (disch := omega) only [RF, RO, RC, bodyQ, resAll, resOf, tup, ↓reduceIte, Nat.reduceEqDiff, Nat.reduceSub, Nat.reduceAdd, Nat.reduceMul, Nat.reduceLT, Nat.reduceLeDiff, Int.reduceLE, Int.reduceLT, Int.reduceEq, Int.reduceNeg, Int.reduceToNat, Int.reduceMul, Int.reduceAdd, Int.reduceSub, Int.reduceBEq, Int.reduceBNe, reduceCtorEq, decT, decF]) ?_
      try simp only [RN, if_true, if_false, Bool.false_eq_true, if_pos, reduceIte]
      refine T_reg_k fun Kr hKr => ?_
      simp (disch := omega) only [RF, RO, RC, bodyQ, resAll, resOf, tup, ↓reduceIte, Nat.reduceEqDiff, Nat.reduceSub, Nat.reduceAdd, Nat.reduceMul, Nat.reduceLT, Nat.reduceLeDiff, Int.reduceLE, Int.reduceLT, Int.reduceEq, Int.reduceNeg, Int.reduceToNat, Int.reduceMul, Int.reduceAdd, Int.reduceSub, Int.reduceBEq, Int.reduceBNe, reduceCtorEq, RD, h5']
      refine hKr _ _ ?_
      clear hKr Kr
      refine hN (xss.length - (k + 1)) _ _ (by omega) ⟨k + 1, by omega, rfl, rfl, by simp [RF, h0], by simp [RF, tot]; omega, by simp [RF]⟩
    · refine T_cseq (t := false) (by simp (disch := omega) only [RF, RO, RC, bodyQ, resAll, resOf, tup, ↓reduceIte, Nat.reduceEqDiff, Nat.reduceSub, Nat.reduceAdd, Nat.reduceMul, Nat.reduceLT, Nat.reduceLeDiff, Int.reduceLE, Int.reduceLT, Int.reduceEq, Int.reduceNeg, Int.reduceToNat, Int.reduceMul, Int.reduceAdd, Int.reduceSub, Int.reduceBEq, Int.reduceBNe, reduceCtorEq, decT, decF, hlt]) ?_
      try simp only [RN, if_true, if_false, Bool.false_eq_true, if_pos, reduceIte]
      refine hX _ _ ?_
      refine T_rseq fun Kr hKr => ?_
      simp (disch := omega) only [RF, RO, RC, bodyQ, resAll, resOf, tup, ↓reduceIte, Nat.reduceEqDiff, Nat.reduceSub, Nat.reduceAdd, Nat.reduceMul, Nat.reduceLT, Nat.reduceLeDiff, Int.reduceLE, Int.reduceLT, Int.reduceEq, Int.reduceNeg, Int.reduceToNat, Int.reduceMul, Int.reduceAdd, Int.reduceSub, Int.reduceBEq, Int.reduceBNe, reduceCtorEq, RD, h1']
      refine hKr _ _ ?_
      clear hKr Kr
      try simp only [RN, if_true, if_false, Bool.false_eq_true, if_pos, reduceIte]
      refine ⟨_, rfl, ?_⟩
      simp only [RF, ev_t, ev_c, tup, ↓reduceIte, Nat.reduceEqDiff]
      have : k = xss.length := by omega
      subst this
      exact hK
end Go.Am
