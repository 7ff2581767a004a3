/- Forks, the program's own. -/
import Derived.Test.YtgmpjlbdommhaaaSpJ
set_option linter.unusedVariables false
set_option linter.unusedSimpArgs false
namespace Go.Am
open Go
theorem impl_ForkPolynomial_spec {H : AHeap} {a b : Int} {K : Value → AHeap → Prop} (hb1 : -9223372036854775808 ≤ a ∧ a < 9223372036854775808) (hb2 : -9223372036854775808 ≤ b ∧ b < 9223372036854775808)
    (hK : ∀ v' H', Ext H H' → OwnI H.n H'.n H' v' (resForkPolynomial a b).1 → K (.tuple ⟨[v', I (resForkPolynomial a b).2]⟩) H') : CallT F_impl_ForkPolynomial [I a, I b] H K := by
  refine CallT_body Γ_impl_ForkPolynomial ?_
  simp only [A_impl_ForkPolynomial, T_aiff]
  refine T_rseq fun Kr hKr => ?_
  simp (disch := omega) only [RF, RO, RC, bodyQ, resAll, resOf, tup, ↓reduceIte, Nat.reduceEqDiff, Nat.reduceSub, Nat.reduceAdd, Nat.reduceMul, Nat.reduceLT, Nat.reduceLeDiff, Int.reduceLE, Int.reduceLT, Int.reduceEq, Int.reduceNeg, Int.reduceToNat, Int.reduceMul, Int.reduceAdd, Int.reduceSub, Int.reduceBEq, Int.reduceBNe, reduceCtorEq, RD]
  refine hKr _ _ ?_
  clear hKr Kr
  try simp only [RN, if_true, if_false, Bool.false_eq_true, if_pos, reduceIte]
  by_cases hok : okFork a b
  · simp only [resForkPolynomial, hok, if_true] at hK
    unfold okFork at hok
    obtain ⟨m, rfl⟩ := Int.eq_ofNat_of_zero_le (show 0 ≤ a by omega)
    obtain ⟨n, rfl⟩ := Int.eq_ofNat_of_zero_le (show 0 ≤ b by omega)
    refine T_rseq fun Kr hKr => ?_
    simp (disch := omega) only [RF, RO, RC, bodyQ, resAll, resOf, tup, ↓reduceIte, Nat.reduceEqDiff, Nat.reduceSub, Nat.reduceAdd, Nat.reduceMul, Nat.reduceLT, Nat.reduceLeDiff, Int.reduceLE, Int.reduceLT, Int.reduceEq, Int.reduceNeg, Int.reduceToNat, Int.reduceMul, Int.reduceAdd, Int.reduceSub, Int.reduceBEq, Int.reduceBNe, reduceCtorEq, RD]
    refine hKr _ _ ?_
    clear hKr Kr
    try simp only [RN, if_true, if_false, Bool.false_eq_true, if_pos, reduceIte]
    refine T_cseq (t := false) (by simp (disch := omega) only [RF, RO, RC, bodyQ, resAll, resOf, tup, ↓reduceIte, Nat.reduceEqDiff, Nat.reduceSub, Nat.reduceAdd, Nat.reduceMul, Nat.reduceLT, Nat.reduceLeDiff, Int.reduceLE, Int.reduceLT, Int.reduceEq, Int.reduceNeg, Int.reduceToNat, Int.reduceMul, Int.reduceAdd, Int.reduceSub, Int.reduceBEq, Int.reduceBNe, reduceCtorEq, decT, decF]) ?_
    try simp only [RN, if_true, if_false, Bool.false_eq_true, if_pos, reduceIte]
    refine T_rseq fun Kr hKr => ?_
    simp (disch := omega) only [RF, RO, RC, bodyQ, resAll, resOf, tup, ↓reduceIte, Nat.reduceEqDiff, Nat.reduceSub, Nat.reduceAdd, Nat.reduceMul, Nat.reduceLT, Nat.reduceLeDiff, Int.reduceLE, Int.reduceLT, Int.reduceEq, Int.reduceNeg, Int.reduceToNat, Int.reduceMul, Int.reduceAdd, Int.reduceSub, Int.reduceBEq, Int.reduceBNe, reduceCtorEq, RD]
    refine hKr _ _ ?_
    clear hKr Kr
    try simp only [RN, if_true, if_false, Bool.false_eq_true, if_pos, reduceIte]
    refine T_rseq fun Kr hKr => ?_
    simp (disch := omega) only [RF, RO, RC, bodyQ, resAll, resOf, tup, ↓reduceIte, Nat.reduceEqDiff, Nat.reduceSub, Nat.reduceAdd, Nat.reduceMul, Nat.reduceLT, Nat.reduceLeDiff, Int.reduceLE, Int.reduceLT, Int.reduceEq, Int.reduceNeg, Int.reduceToNat, Int.reduceMul, Int.reduceAdd, Int.reduceSub, Int.reduceBEq, Int.reduceBNe, reduceCtorEq, RD]
    refine hKr _ _ ?_
    clear hKr Kr
    try simp only [RN, if_true, if_false, Bool.false_eq_true, if_pos, reduceIte]
    refine T_wloop (fun l f H' => ∃ w k, k ≤ m ∧ l = m - k ∧ Ext H H' ∧ f 0 = I m ∧ f 1 = I n ∧ f 29 = I m ∧ f 6 = w ∧ f 30 = I k ∧ OwnI H.n H'.n H' w (mulBy [0, 1] [1] k)) (m) ?_ ?_
    · exact ⟨S H.n 0 1 1, 0, by omega, by omega, Ext.alloc _ _, by simp [RF], by simp [RF], by simp [RF], by simp [RF], by simp [RF], own_one H 1⟩
    · rintro l f H' R ⟨w, k, hk, rfl, he, h0, h1, h29, h5, h6, ho⟩ hN hX hR
      simp only [A_impl_ForkPolynomial.l0, T_aiff]
      have hl := mulBy_len (q := [0, 1]) (o := [1]) rfl k
      have hr := mulBy_red (q := [0, 1]) red_1 k
      simp only [List.length_cons, List.length_nil] at hl
      refine T_rseq fun Kr hKr => ?_
      simp (disch := omega) only [RF, RO, RC, bodyQ, resAll, resOf, tup, ↓reduceIte, Nat.reduceEqDiff, Nat.reduceSub, Nat.reduceAdd, Nat.reduceMul, Nat.reduceLT, Nat.reduceLeDiff, Int.reduceLE, Int.reduceLT, Int.reduceEq, Int.reduceNeg, Int.reduceToNat, Int.reduceMul, Int.reduceAdd, Int.reduceSub, Int.reduceBEq, Int.reduceBNe, reduceCtorEq, RD, h29, h6]
      refine hKr _ _ ?_
      clear hKr Kr
      try simp only [RN, if_true, if_false, Bool.false_eq_true, if_pos, reduceIte]
      by_cases hlt : k < m
      · refine T_cseq (t := true) (by simp (disch := omega) only [RF, RO, RC, bodyQ, resAll, resOf, tup, ↓reduceIte, Nat.reduceEqDiff, Nat.reduceSub, Nat.reduceAdd, Nat.reduceMul, Nat.reduceLT, Nat.reduceLeDiff, Int.reduceLE, Int.reduceLT, Int.reduceEq, Int.reduceNeg, Int.reduceToNat, Int.reduceMul, Int.reduceAdd, Int.reduceSub, Int.reduceBEq, Int.reduceBNe, reduceCtorEq, decT, decF]) ?_
        try simp only [RN, if_true, if_false, Bool.false_eq_true, if_pos, reduceIte]
        first | refine T_bfree rfl ?_ | refine T_bfree' rfl ?_
        try simp only [RN, if_true, if_false, Bool.false_eq_true, if_pos, reduceIte]
        refine T_rseq fun Kr hKr => ?_
        simp (disch := omega) only [RF, RO, RC, bodyQ, resAll, resOf, tup, ↓reduceIte, Nat.reduceEqDiff, Nat.reduceSub, Nat.reduceAdd, Nat.reduceMul, Nat.reduceLT, Nat.reduceLeDiff, Int.reduceLE, Int.reduceLT, Int.reduceEq, Int.reduceNeg, Int.reduceToNat, Int.reduceMul, Int.reduceAdd, Int.reduceSub, Int.reduceBEq, Int.reduceBNe, reduceCtorEq, RD, h5]
        refine times_spec (ho.ext (Ext.alloc H' _)).is hr.fit (by omega) (own_two H' 0 1).is (fit_two _ _ (by omega) (by omega)) (by simp) fun q H2 he2 ho2 => ?_
        simp (disch := omega) only [RF, RO, RC, bodyQ, resAll, resOf, tup, ↓reduceIte, Nat.reduceEqDiff, Nat.reduceSub, Nat.reduceAdd, Nat.reduceMul, Nat.reduceLT, Nat.reduceLeDiff, Int.reduceLE, Int.reduceLT, Int.reduceEq, Int.reduceNeg, Int.reduceToNat, Int.reduceMul, Int.reduceAdd, Int.reduceSub, Int.reduceBEq, Int.reduceBNe, reduceCtorEq, RD]
        refine hKr _ _ ?_
        clear hKr Kr
        try simp only [blkQ, thenQ, loopQ]
        try simp only [RN, if_true, if_false, Bool.false_eq_true, if_pos, reduceIte]
        refine T_reg_k fun Kr hKr => ?_
        simp (disch := omega) only [RF, RO, RC, bodyQ, resAll, resOf, tup, ↓reduceIte, Nat.reduceEqDiff, Nat.reduceSub, Nat.reduceAdd, Nat.reduceMul, Nat.reduceLT, Nat.reduceLeDiff, Int.reduceLE, Int.reduceLT, Int.reduceEq, Int.reduceNeg, Int.reduceToNat, Int.reduceMul, Int.reduceAdd, Int.reduceSub, Int.reduceBEq, Int.reduceBNe, reduceCtorEq, RD, h6]
        refine hKr _ _ ?_
        clear hKr Kr
        exact hN (m - (k + 1)) _ _ (by omega) ⟨q, k + 1, by omega, rfl, he.trans' ((Ext.alloc H' _).trans' he2), by simp [RF, h0], by simp [RF, h1], by simp [RF, h29], by simp [RF], by simp [RF], ho2.weak (Nat.le_trans he.n (Nat.le_succ _)) (Nat.le_refl _)⟩
      · refine T_cseq (t := false) (by simp (disch := omega) only [RF, RO, RC, bodyQ, resAll, resOf, tup, ↓reduceIte, Nat.reduceEqDiff, Nat.reduceSub, Nat.reduceAdd, Nat.reduceMul, Nat.reduceLT, Nat.reduceLeDiff, Int.reduceLE, Int.reduceLT, Int.reduceEq, Int.reduceNeg, Int.reduceToNat, Int.reduceMul, Int.reduceAdd, Int.reduceSub, Int.reduceBEq, Int.reduceBNe, reduceCtorEq, decT, decF]) ?_
        try simp only [RN, if_true, if_false, Bool.false_eq_true, if_pos, reduceIte]
        refine hX _ _ ?_
        try simp only [RN, if_true, if_false, Bool.false_eq_true, if_pos, reduceIte]
        have hkk : k = m := by omega
        subst hkk
        rw [monom_is k (by omega)] at ho
        have hml : (monom 1 k).length = k + 1 := by simp [monom]
        refine T_rseq fun Kr hKr => ?_
        simp (disch := omega) only [RF, RO, RC, bodyQ, resAll, resOf, tup, ↓reduceIte, Nat.reduceEqDiff, Nat.reduceSub, Nat.reduceAdd, Nat.reduceMul, Nat.reduceLT, Nat.reduceLeDiff, Int.reduceLE, Int.reduceLT, Int.reduceEq, Int.reduceNeg, Int.reduceToNat, Int.reduceMul, Int.reduceAdd, Int.reduceSub, Int.reduceBEq, Int.reduceBNe, reduceCtorEq, RD, h1]
        refine hKr _ _ ?_
        clear hKr Kr
        try simp only [RN, if_true, if_false, Bool.false_eq_true, if_pos, reduceIte]
        refine T_wloop (fun l f H' => ∃ w j, j ≤ n ∧ l = n - j ∧ Ext H H' ∧ f 0 = I k ∧ f 1 = I n ∧ f 36 = I n ∧ f 6 = w ∧ f 37 = I j ∧ OwnI H.n H'.n H' w (mulBy [1, 10006] (monom 1 k) j)) (n) ?_ ?_
        · exact ⟨w, 0, by omega, by omega, he, by simp [RF, h0], by simp [RF, h1], by simp [RF], by simp [RF, h5], by simp [RF], ho⟩
        · clear ho he h0 h1 h29 h5 h6 hl hr hN hX hR w
          rintro l f H' R2 ⟨w, j, hj, rfl, he, h0, h1, h36, h5, h6, ho⟩ hN hX hR
          simp only [A_impl_ForkPolynomial.l1, T_aiff]
          have hl := mulBy_len (q := [1, 10006]) (o := monom 1 k) rfl j
          have hr := mulBy_red (q := [1, 10006]) (monom_red k) j
          refine T_rseq fun Kr hKr => ?_
          simp (disch := omega) only [RF, RO, RC, bodyQ, resAll, resOf, tup, ↓reduceIte, Nat.reduceEqDiff, Nat.reduceSub, Nat.reduceAdd, Nat.reduceMul, Nat.reduceLT, Nat.reduceLeDiff, Int.reduceLE, Int.reduceLT, Int.reduceEq, Int.reduceNeg, Int.reduceToNat, Int.reduceMul, Int.reduceAdd, Int.reduceSub, Int.reduceBEq, Int.reduceBNe, reduceCtorEq, RD, h36, h6]
          refine hKr _ _ ?_
          clear hKr Kr
          try simp only [RN, if_true, if_false, Bool.false_eq_true, if_pos, reduceIte]
          by_cases hlt : j < n
          · refine T_cseq (t := true) (by simp (disch := omega) only [RF, RO, RC, bodyQ, resAll, resOf, tup, ↓reduceIte, Nat.reduceEqDiff, Nat.reduceSub, Nat.reduceAdd, Nat.reduceMul, Nat.reduceLT, Nat.reduceLeDiff, Int.reduceLE, Int.reduceLT, Int.reduceEq, Int.reduceNeg, Int.reduceToNat, Int.reduceMul, Int.reduceAdd, Int.reduceSub, Int.reduceBEq, Int.reduceBNe, reduceCtorEq, decT, decF]) ?_
            try simp only [RN, if_true, if_false, Bool.false_eq_true, if_pos, reduceIte]
            first | refine T_bfree rfl ?_ | refine T_bfree' rfl ?_
            try simp only [RN, if_true, if_false, Bool.false_eq_true, if_pos, reduceIte]
            refine T_rseq fun Kr hKr => ?_
            simp (disch := omega) only [RF, RO, RC, bodyQ, resAll, resOf, tup, ↓reduceIte, Nat.reduceEqDiff, Nat.reduceSub, Nat.reduceAdd, Nat.reduceMul, Nat.reduceLT, Nat.reduceLeDiff, Int.reduceLE, Int.reduceLT, Int.reduceEq, Int.reduceNeg, Int.reduceToNat, Int.reduceMul, Int.reduceAdd, Int.reduceSub, Int.reduceBEq, Int.reduceBNe, reduceCtorEq, RD, h5]
            refine times_spec (ho.ext (Ext.alloc H' _)).is hr.fit (by omega) (own_two H' 1 10006).is (fit_two _ _ (by omega) (by omega)) (by simp) fun q H2 he2 ho2 => ?_
            simp (disch := omega) only [RF, RO, RC, bodyQ, resAll, resOf, tup, ↓reduceIte, Nat.reduceEqDiff, Nat.reduceSub, Nat.reduceAdd, Nat.reduceMul, Nat.reduceLT, Nat.reduceLeDiff, Int.reduceLE, Int.reduceLT, Int.reduceEq, Int.reduceNeg, Int.reduceToNat, Int.reduceMul, Int.reduceAdd, Int.reduceSub, Int.reduceBEq, Int.reduceBNe, reduceCtorEq, RD]
            refine hKr _ _ ?_
            clear hKr Kr
            try simp only [blkQ, thenQ, loopQ]
            try simp only [RN, if_true, if_false, Bool.false_eq_true, if_pos, reduceIte]
            refine T_reg_k fun Kr hKr => ?_
            simp (disch := omega) only [RF, RO, RC, bodyQ, resAll, resOf, tup, ↓reduceIte, Nat.reduceEqDiff, Nat.reduceSub, Nat.reduceAdd, Nat.reduceMul, Nat.reduceLT, Nat.reduceLeDiff, Int.reduceLE, Int.reduceLT, Int.reduceEq, Int.reduceNeg, Int.reduceToNat, Int.reduceMul, Int.reduceAdd, Int.reduceSub, Int.reduceBEq, Int.reduceBNe, reduceCtorEq, RD, h6]
            refine hKr _ _ ?_
            clear hKr Kr
            exact hN (n - (j + 1)) _ _ (by omega) ⟨q, j + 1, by omega, rfl, he.trans' ((Ext.alloc H' _).trans' he2), by simp [RF, h0], by simp [RF, h1], by simp [RF, h36], by simp [RF], by simp [RF], ho2.weak (Nat.le_trans he.n (Nat.le_succ _)) (Nat.le_refl _)⟩
          · refine T_cseq (t := false) (by simp (disch := omega) only [RF, RO, RC, bodyQ, resAll, resOf, tup, ↓reduceIte, Nat.reduceEqDiff, Nat.reduceSub, Nat.reduceAdd, Nat.reduceMul, Nat.reduceLT, Nat.reduceLeDiff, Int.reduceLE, Int.reduceLT, Int.reduceEq, Int.reduceNeg, Int.reduceToNat, Int.reduceMul, Int.reduceAdd, Int.reduceSub, Int.reduceBEq, Int.reduceBNe, reduceCtorEq, decT, decF]) ?_
            try simp only [RN, if_true, if_false, Bool.false_eq_true, if_pos, reduceIte]
            refine hX _ _ ?_
            have hjj : j = n := by omega
            subst hjj
            have hs : (k : Int) + (j : Int) = ((k + j : Nat) : Int) := by omega
            have p1 := pw_bd ((k + j : Nat) : Int) (k + j)
            have p2 := pw_bd (k : Int) k
            have p3 := pw_bd (j : Int) j
            have q1 := mulb p2.1 (by omega) p3.1 (by omega)
            have m1 := md_lo (pw k k * pw j j)
            have m2 := md_hi (pw k k * pw j j)
            have i1 := inv_bd (md (pw k k * pw j j))
            have q2 := mulb p1.1 (by omega) i1.1 (by omega)
            refine T_rseq fun Kr hKr => ?_
            simp (disch := omega) only [RF, RO, RC, bodyQ, resAll, resOf, tup, ↓reduceIte, Nat.reduceEqDiff, Nat.reduceSub, Nat.reduceAdd, Nat.reduceMul, Nat.reduceLT, Nat.reduceLeDiff, Int.reduceLE, Int.reduceLT, Int.reduceEq, Int.reduceNeg, Int.reduceToNat, Int.reduceMul, Int.reduceAdd, Int.reduceSub, Int.reduceBEq, Int.reduceBNe, reduceCtorEq, RD, h0, h1, hs]
            refine power_spec (by omega) (by omega) (by omega) ?_
            simp (disch := omega) only [RF, RO, RC, bodyQ, resAll, resOf, tup, ↓reduceIte, Nat.reduceEqDiff, Nat.reduceSub, Nat.reduceAdd, Nat.reduceMul, Nat.reduceLT, Nat.reduceLeDiff, Int.reduceLE, Int.reduceLT, Int.reduceEq, Int.reduceNeg, Int.reduceToNat, Int.reduceMul, Int.reduceAdd, Int.reduceSub, Int.reduceBEq, Int.reduceBNe, reduceCtorEq, RD, h0, h1, hs]
            refine power_spec (by omega) (by omega) (by omega) ?_
            simp (disch := omega) only [RF, RO, RC, bodyQ, resAll, resOf, tup, ↓reduceIte, Nat.reduceEqDiff, Nat.reduceSub, Nat.reduceAdd, Nat.reduceMul, Nat.reduceLT, Nat.reduceLeDiff, Int.reduceLE, Int.reduceLT, Int.reduceEq, Int.reduceNeg, Int.reduceToNat, Int.reduceMul, Int.reduceAdd, Int.reduceSub, Int.reduceBEq, Int.reduceBNe, reduceCtorEq, RD, h0, h1, hs]
            refine power_spec (by omega) (by omega) (by omega) ?_
            simp (disch := omega) only [RF, RO, RC, bodyQ, resAll, resOf, tup, ↓reduceIte, Nat.reduceEqDiff, Nat.reduceSub, Nat.reduceAdd, Nat.reduceMul, Nat.reduceLT, Nat.reduceLeDiff, Int.reduceLE, Int.reduceLT, Int.reduceEq, Int.reduceNeg, Int.reduceToNat, Int.reduceMul, Int.reduceAdd, Int.reduceSub, Int.reduceBEq, Int.reduceBNe, reduceCtorEq, RD, h0, h1, hs, tmodm]
            refine inverse_spec m1 (by omega) ?_
            simp (disch := omega) only [RF, RO, RC, bodyQ, resAll, resOf, tup, ↓reduceIte, Nat.reduceEqDiff, Nat.reduceSub, Nat.reduceAdd, Nat.reduceMul, Nat.reduceLT, Nat.reduceLeDiff, Int.reduceLE, Int.reduceLT, Int.reduceEq, Int.reduceNeg, Int.reduceToNat, Int.reduceMul, Int.reduceAdd, Int.reduceSub, Int.reduceBEq, Int.reduceBNe, reduceCtorEq, RD, h0, h1, hs, tmodm]
            refine hKr _ _ ?_
            clear hKr Kr
            try simp only [blkQ, thenQ, loopQ]
            try simp only [RN, if_true, if_false, Bool.false_eq_true, if_pos, reduceIte]
            have hsc : md (pw ((k + j : Nat) : Int) (k + j) * inv (md (pw k k * pw j j))) = scale k j := by
              rw [scale, hs]
            rw [hsc]
            have hsc1 : 0 ≤ scale k j := md_lo _
            have hsc2 : scale k j ≤ 10006 := md_hi _
            refine T_rseq fun Kr hKr => ?_
            simp (disch := omega) only [RF, RO, RC, bodyQ, resAll, resOf, tup, ↓reduceIte, Nat.reduceEqDiff, Nat.reduceSub, Nat.reduceAdd, Nat.reduceMul, Nat.reduceLT, Nat.reduceLeDiff, Int.reduceLE, Int.reduceLT, Int.reduceEq, Int.reduceNeg, Int.reduceToNat, Int.reduceMul, Int.reduceAdd, Int.reduceSub, Int.reduceBEq, Int.reduceBNe, reduceCtorEq, RD, h5]
            refine times_spec (ho.ext (Ext.alloc H' _)).is hr.fit (by omega) (own_one' H' (scale k j)) (fit_one _ (by omega)) (by simp) fun z H2 he2 ho2 => ?_
            simp (disch := omega) only [RF, RO, RC, bodyQ, resAll, resOf, tup, ↓reduceIte, Nat.reduceEqDiff, Nat.reduceSub, Nat.reduceAdd, Nat.reduceMul, Nat.reduceLT, Nat.reduceLeDiff, Int.reduceLE, Int.reduceLT, Int.reduceEq, Int.reduceNeg, Int.reduceToNat, Int.reduceMul, Int.reduceAdd, Int.reduceSub, Int.reduceBEq, Int.reduceBNe, reduceCtorEq, RD]
            refine hKr _ _ ?_
            clear hKr Kr
            try simp only [blkQ, thenQ, loopQ]
            try simp only [RN, if_true, if_false, Bool.false_eq_true, if_pos, reduceIte]
            refine ⟨_, rfl, ?_⟩
            simp only [RF, ev_t, ev_c, tup, ↓reduceIte, Nat.reduceEqDiff]
            exact hK _ _ (he.trans' ((Ext.alloc H' _).trans' he2)) (ho2.weak (Nat.le_trans he.n (Nat.le_succ _)) (Nat.le_refl _))
  · simp only [resForkPolynomial, hok, if_false] at hK
    unfold okFork at hok
    by_cases h1 : a < 1
    · refine T_rseq fun Kr hKr => ?_
      simp (disch := omega) only [RF, RO, RC, bodyQ, resAll, resOf, tup, ↓reduceIte, Nat.reduceEqDiff, Nat.reduceSub, Nat.reduceAdd, Nat.reduceMul, Nat.reduceLT, Nat.reduceLeDiff, Int.reduceLE, Int.reduceLT, Int.reduceEq, Int.reduceNeg, Int.reduceToNat, Int.reduceMul, Int.reduceAdd, Int.reduceSub, Int.reduceBEq, Int.reduceBNe, reduceCtorEq, RD]
      refine hKr _ _ ?_
      clear hKr Kr
      try simp only [RN, if_true, if_false, Bool.false_eq_true, if_pos, reduceIte]
      refine T_cseq (t := true) (by simp (disch := omega) only [RF, RO, RC, bodyQ, resAll, resOf, tup, ↓reduceIte, Nat.reduceEqDiff, Nat.reduceSub, Nat.reduceAdd, Nat.reduceMul, Nat.reduceLT, Nat.reduceLeDiff, Int.reduceLE, Int.reduceLT, Int.reduceEq, Int.reduceNeg, Int.reduceToNat, Int.reduceMul, Int.reduceAdd, Int.reduceSub, Int.reduceBEq, Int.reduceBNe, reduceCtorEq, decT, decF]) ?_
      try simp only [RN, if_true, if_false, Bool.false_eq_true, if_pos, reduceIte]
      refine T_rseq fun Kr hKr => ?_
      simp (disch := omega) only [RF, RO, RC, bodyQ, resAll, resOf, tup, ↓reduceIte, Nat.reduceEqDiff, Nat.reduceSub, Nat.reduceAdd, Nat.reduceMul, Nat.reduceLT, Nat.reduceLeDiff, Int.reduceLE, Int.reduceLT, Int.reduceEq, Int.reduceNeg, Int.reduceToNat, Int.reduceMul, Int.reduceAdd, Int.reduceSub, Int.reduceBEq, Int.reduceBNe, reduceCtorEq, RD]
      refine hKr _ _ ?_
      clear hKr Kr
      try simp only [RN, if_true, if_false, Bool.false_eq_true, if_pos, reduceIte]
      refine ⟨_, rfl, ?_⟩
      simp only [RF, ev_t, ev_c, tup, ↓reduceIte, Nat.reduceEqDiff]
      exact hK _ _ (Ext.refl' _) .nil
    · by_cases h2 : b < 1
      · refine T_rseq fun Kr hKr => ?_
        simp (disch := omega) only [RF, RO, RC, bodyQ, resAll, resOf, tup, ↓reduceIte, Nat.reduceEqDiff, Nat.reduceSub, Nat.reduceAdd, Nat.reduceMul, Nat.reduceLT, Nat.reduceLeDiff, Int.reduceLE, Int.reduceLT, Int.reduceEq, Int.reduceNeg, Int.reduceToNat, Int.reduceMul, Int.reduceAdd, Int.reduceSub, Int.reduceBEq, Int.reduceBNe, reduceCtorEq, RD]
        refine hKr _ _ ?_
        clear hKr Kr
        try simp only [RN, if_true, if_false, Bool.false_eq_true, if_pos, reduceIte]
        refine T_cseq (t := true) (by simp (disch := omega) only [RF, RO, RC, bodyQ, resAll, resOf, tup, ↓reduceIte, Nat.reduceEqDiff, Nat.reduceSub, Nat.reduceAdd, Nat.reduceMul, Nat.reduceLT, Nat.reduceLeDiff, Int.reduceLE, Int.reduceLT, Int.reduceEq, Int.reduceNeg, Int.reduceToNat, Int.reduceMul, Int.reduceAdd, Int.reduceSub, Int.reduceBEq, Int.reduceBNe, reduceCtorEq, decT, decF]) ?_
        try simp only [RN, if_true, if_false, Bool.false_eq_true, if_pos, reduceIte]
        refine T_rseq fun Kr hKr => ?_
        simp (disch := omega) only [RF, RO, RC, bodyQ, resAll, resOf, tup, ↓reduceIte, Nat.reduceEqDiff, Nat.reduceSub, Nat.reduceAdd, Nat.reduceMul, Nat.reduceLT, Nat.reduceLeDiff, Int.reduceLE, Int.reduceLT, Int.reduceEq, Int.reduceNeg, Int.reduceToNat, Int.reduceMul, Int.reduceAdd, Int.reduceSub, Int.reduceBEq, Int.reduceBNe, reduceCtorEq, RD]
        refine hKr _ _ ?_
        clear hKr Kr
        try simp only [RN, if_true, if_false, Bool.false_eq_true, if_pos, reduceIte]
        refine ⟨_, rfl, ?_⟩
        simp only [RF, ev_t, ev_c, tup, ↓reduceIte, Nat.reduceEqDiff]
        exact hK _ _ (Ext.refl' _) .nil
      · by_cases h3 : 16 < a
        · refine T_rseq fun Kr hKr => ?_
          simp (disch := omega) only [RF, RO, RC, bodyQ, resAll, resOf, tup, ↓reduceIte, Nat.reduceEqDiff, Nat.reduceSub, Nat.reduceAdd, Nat.reduceMul, Nat.reduceLT, Nat.reduceLeDiff, Int.reduceLE, Int.reduceLT, Int.reduceEq, Int.reduceNeg, Int.reduceToNat, Int.reduceMul, Int.reduceAdd, Int.reduceSub, Int.reduceBEq, Int.reduceBNe, reduceCtorEq, RD]
          refine hKr _ _ ?_
          clear hKr Kr
          try simp only [RN, if_true, if_false, Bool.false_eq_true, if_pos, reduceIte]
          refine T_cseq (t := true) (by simp (disch := omega) only [RF, RO, RC, bodyQ, resAll, resOf, tup, ↓reduceIte, Nat.reduceEqDiff, Nat.reduceSub, Nat.reduceAdd, Nat.reduceMul, Nat.reduceLT, Nat.reduceLeDiff, Int.reduceLE, Int.reduceLT, Int.reduceEq, Int.reduceNeg, Int.reduceToNat, Int.reduceMul, Int.reduceAdd, Int.reduceSub, Int.reduceBEq, Int.reduceBNe, reduceCtorEq, decT, decF]) ?_
          try simp only [RN, if_true, if_false, Bool.false_eq_true, if_pos, reduceIte]
          refine T_rseq fun Kr hKr => ?_
          simp (disch := omega) only [RF, RO, RC, bodyQ, resAll, resOf, tup, ↓reduceIte, Nat.reduceEqDiff, Nat.reduceSub, Nat.reduceAdd, Nat.reduceMul, Nat.reduceLT, Nat.reduceLeDiff, Int.reduceLE, Int.reduceLT, Int.reduceEq, Int.reduceNeg, Int.reduceToNat, Int.reduceMul, Int.reduceAdd, Int.reduceSub, Int.reduceBEq, Int.reduceBNe, reduceCtorEq, RD]
          refine hKr _ _ ?_
          clear hKr Kr
          try simp only [RN, if_true, if_false, Bool.false_eq_true, if_pos, reduceIte]
          refine ⟨_, rfl, ?_⟩
          simp only [RF, ev_t, ev_c, tup, ↓reduceIte, Nat.reduceEqDiff]
          exact hK _ _ (Ext.refl' _) .nil
        · by_cases h4 : 16 < b
          · refine T_rseq fun Kr hKr => ?_
            simp (disch := omega) only [RF, RO, RC, bodyQ, resAll, resOf, tup, ↓reduceIte, Nat.reduceEqDiff, Nat.reduceSub, Nat.reduceAdd, Nat.reduceMul, Nat.reduceLT, Nat.reduceLeDiff, Int.reduceLE, Int.reduceLT, Int.reduceEq, Int.reduceNeg, Int.reduceToNat, Int.reduceMul, Int.reduceAdd, Int.reduceSub, Int.reduceBEq, Int.reduceBNe, reduceCtorEq, RD]
            refine hKr _ _ ?_
            clear hKr Kr
            try simp only [RN, if_true, if_false, Bool.false_eq_true, if_pos, reduceIte]
            refine T_cseq (t := true) (by simp (disch := omega) only [RF, RO, RC, bodyQ, resAll, resOf, tup, ↓reduceIte, Nat.reduceEqDiff, Nat.reduceSub, Nat.reduceAdd, Nat.reduceMul, Nat.reduceLT, Nat.reduceLeDiff, Int.reduceLE, Int.reduceLT, Int.reduceEq, Int.reduceNeg, Int.reduceToNat, Int.reduceMul, Int.reduceAdd, Int.reduceSub, Int.reduceBEq, Int.reduceBNe, reduceCtorEq, decT, decF]) ?_
            try simp only [RN, if_true, if_false, Bool.false_eq_true, if_pos, reduceIte]
            refine T_rseq fun Kr hKr => ?_
            simp (disch := omega) only [RF, RO, RC, bodyQ, resAll, resOf, tup, ↓reduceIte, Nat.reduceEqDiff, Nat.reduceSub, Nat.reduceAdd, Nat.reduceMul, Nat.reduceLT, Nat.reduceLeDiff, Int.reduceLE, Int.reduceLT, Int.reduceEq, Int.reduceNeg, Int.reduceToNat, Int.reduceMul, Int.reduceAdd, Int.reduceSub, Int.reduceBEq, Int.reduceBNe, reduceCtorEq, RD]
            refine hKr _ _ ?_
            clear hKr Kr
            try simp only [RN, if_true, if_false, Bool.false_eq_true, if_pos, reduceIte]
            refine ⟨_, rfl, ?_⟩
            simp only [RF, ev_t, ev_c, tup, ↓reduceIte, Nat.reduceEqDiff]
            exact hK _ _ (Ext.refl' _) .nil
          · refine T_rseq fun Kr hKr => ?_
            simp (disch := omega) only [RF, RO, RC, bodyQ, resAll, resOf, tup, ↓reduceIte, Nat.reduceEqDiff, Nat.reduceSub, Nat.reduceAdd, Nat.reduceMul, Nat.reduceLT, Nat.reduceLeDiff, Int.reduceLE, Int.reduceLT, Int.reduceEq, Int.reduceNeg, Int.reduceToNat, Int.reduceMul, Int.reduceAdd, Int.reduceSub, Int.reduceBEq, Int.reduceBNe, reduceCtorEq, RD]
            refine hKr _ _ ?_
            clear hKr Kr
            try simp only [RN, if_true, if_false, Bool.false_eq_true, if_pos, reduceIte]
            refine T_cseq (t := true) (by simp (disch := omega) only [RF, RO, RC, bodyQ, resAll, resOf, tup, ↓reduceIte, Nat.reduceEqDiff, Nat.reduceSub, Nat.reduceAdd, Nat.reduceMul, Nat.reduceLT, Nat.reduceLeDiff, Int.reduceLE, Int.reduceLT, Int.reduceEq, Int.reduceNeg, Int.reduceToNat, Int.reduceMul, Int.reduceAdd, Int.reduceSub, Int.reduceBEq, Int.reduceBNe, reduceCtorEq, decT, decF]) ?_
            try simp only [RN, if_true, if_false, Bool.false_eq_true, if_pos, reduceIte]
            refine T_rseq fun Kr hKr => ?_
            simp (disch := omega) only [RF, RO, RC, bodyQ, resAll, resOf, tup, ↓reduceIte, Nat.reduceEqDiff, Nat.reduceSub, Nat.reduceAdd, Nat.reduceMul, Nat.reduceLT, Nat.reduceLeDiff, Int.reduceLE, Int.reduceLT, Int.reduceEq, Int.reduceNeg, Int.reduceToNat, Int.reduceMul, Int.reduceAdd, Int.reduceSub, Int.reduceBEq, Int.reduceBNe, reduceCtorEq, RD]
            refine hKr _ _ ?_
            clear hKr Kr
            try simp only [RN, if_true, if_false, Bool.false_eq_true, if_pos, reduceIte]
            refine ⟨_, rfl, ?_⟩
            simp only [RF, ev_t, ev_c, tup, ↓reduceIte, Nat.reduceEqDiff]
            exact hK _ _ (Ext.refl' _) .nil
end Go.Am
