/- Multiplicities, walked. -/
import Derived.Test.YtgmpjlbdommhaaaSpD
set_option linter.unusedVariables false
set_option linter.unusedSimpArgs false
namespace Go.Am
open Go

theorem own_one' (H : AHeap) (a : Int) : IsI (H.alloc [I a]) (S H.n 0 1 1) [a] := (own_one H a).is
theorem rep_succ (i : Nat) (k : Int) (l : List Int) : l ++ List.replicate (i + 1) k = (l ++ List.replicate i k) ++ [k] := by rw [List.replicate_succ', List.append_assoc]

theorem l06Multiplicities_spec {H : AHeap} {v : Value} {xs : List Int} {x : Int} {K : Value → AHeap → Prop} (hx : IsI H v xs) (hrx : Red xs) (h2 : 2 ≤ xs.length) (hl : xs.length ≤ 17) (hx1 : 0 ≤ x) (hx2 : x ≤ 10006)
    (hK : ∀ v' H', Ext H H' → OwnI H.n H'.n H' v' (mults xs x) → K v' H') : CallT F_spec_l06Multiplicities [v, I x] H K := by
  have hsl := shiftBy_len hrx h2 x
  have hsr : Red (shiftBy xs x) := red_padd _ _ _
  have hcb := counts_bd _ (shiftBy xs x) (Nat.le_refl _) hsr (by omega)
  generalize hC : counts (shiftBy xs x) = C at hcb
  have hmul : mults xs x = expand C C.length := by rw [mults, hC]
  refine CallT_body Γ_spec_l06Multiplicities ?_
  simp only [A_spec_l06Multiplicities, T_aiff]
  refine T_rseq fun Kr hKr => ?_
  simp (disch := omega) only [RF, RO, RC, bodyQ, resAll, resOf, tup, ↓reduceIte, Nat.reduceEqDiff, Nat.reduceSub, Nat.reduceAdd, Nat.reduceMul, Nat.reduceLT, Nat.reduceLeDiff, Int.reduceLE, Int.reduceLT, Int.reduceEq, Int.reduceNeg, Int.reduceToNat, Int.reduceMul, Int.reduceAdd, Int.reduceSub, Int.reduceBEq, Int.reduceBNe, reduceCtorEq, RD]
  refine hKr _ _ ?_
  clear hKr Kr
  try simp only [RN, if_true, if_false, Bool.false_eq_true, if_pos, reduceIte]
  refine T_rseq fun Kr hKr => ?_
  simp (disch := omega) only [RF, RO, RC, bodyQ, resAll, resOf, tup, ↓reduceIte, Nat.reduceEqDiff, Nat.reduceSub, Nat.reduceAdd, Nat.reduceMul, Nat.reduceLT, Nat.reduceLeDiff, Int.reduceLE, Int.reduceLT, Int.reduceEq, Int.reduceNeg, Int.reduceToNat, Int.reduceMul, Int.reduceAdd, Int.reduceSub, Int.reduceBEq, Int.reduceBNe, reduceCtorEq, RD]
  refine l06Trim_spec (own_one' H x) (by simp) fun p H1 he1 ho1 => ?_
  simp (disch := omega) only [RF, RO, RC, bodyQ, resAll, resOf, tup, ↓reduceIte, Nat.reduceEqDiff, Nat.reduceSub, Nat.reduceAdd, Nat.reduceMul, Nat.reduceLT, Nat.reduceLeDiff, Int.reduceLE, Int.reduceLT, Int.reduceEq, Int.reduceNeg, Int.reduceToNat, Int.reduceMul, Int.reduceAdd, Int.reduceSub, Int.reduceBEq, Int.reduceBNe, reduceCtorEq, RD]
  have hE1 := (Ext.alloc H [I x]).trans' he1
  have htl := trim_le [x]
  simp only [List.length_cons, List.length_nil] at htl
  refine l06Add_spec (hx.ext hE1) hrx.fit (by omega) ho1.is (fun i hi => by rw [el_trim]; exact fit_one x (by omega) i (by simp; omega)) (by omega) (by omega) (by omega) fun q H2 he2 ho2 => ?_
  simp (disch := omega) only [RF, RO, RC, bodyQ, resAll, resOf, tup, ↓reduceIte, Nat.reduceEqDiff, Nat.reduceSub, Nat.reduceAdd, Nat.reduceMul, Nat.reduceLT, Nat.reduceLeDiff, Int.reduceLE, Int.reduceLT, Int.reduceEq, Int.reduceNeg, Int.reduceToNat, Int.reduceMul, Int.reduceAdd, Int.reduceSub, Int.reduceBEq, Int.reduceBNe, reduceCtorEq, RD]
  refine hKr _ _ ?_
  clear hKr Kr
  try simp only [blkQ, thenQ, loopQ]
  try simp only [RN, if_true, if_false, Bool.false_eq_true, if_pos, reduceIte]
  have hE2 := hE1.trans' he2
  have ho3 := (ho2.weak (Nat.le_trans (Nat.le_succ H.n) he1.n) (Nat.le_refl _)).ext (Ext.alloc H2 [])
  refine T_wloop (fun n f H' => ∃ u c now cs lo, n = now.length ∧ Ext H H' ∧ f 5 = u ∧ f 6 = c ∧ OwnI H.n lo H' u now ∧ OwnI lo H'.n H' c cs ∧ H.n ≤ lo ∧ lo ≤ H'.n ∧ Red now ∧ now.length ≤ 17 ∧ cs ++ counts now = C) (xs.length) ?_ ?_
  · exact ⟨q, S H2.n 0 0 1, shiftBy xs x, [], H2.n, hsl.symm, hE2.trans' (Ext.alloc _ _), by simp [RF], by simp [RF], ho3, own_empty H2, hE2.n, Nat.le_succ _, hsr, by omega, by simpa using hC⟩
  · clear ho1 ho2 ho3 hE1 he1 he2 hE2
    rintro n f H' R ⟨u, c, now, cs, lo, rfl, he, h5, h6, hnow, hcs, hlo, hlo2, hred, hnl, hcnt⟩ hN hX hR
    simp only [A_spec_l06Multiplicities.l0, T_aiff]
    obtain ⟨ua, ue, rfl⟩ := hnow.len
    refine T_rseq fun Kr hKr => ?_
    simp (disch := omega) only [RF, RO, RC, bodyQ, resAll, resOf, tup, ↓reduceIte, Nat.reduceEqDiff, Nat.reduceSub, Nat.reduceAdd, Nat.reduceMul, Nat.reduceLT, Nat.reduceLeDiff, Int.reduceLE, Int.reduceLT, Int.reduceEq, Int.reduceNeg, Int.reduceToNat, Int.reduceMul, Int.reduceAdd, Int.reduceSub, Int.reduceBEq, Int.reduceBNe, reduceCtorEq, RD, h5]
    refine hKr _ _ ?_
    clear hKr Kr
    try simp only [RN, if_true, if_false, Bool.false_eq_true, if_pos, reduceIte]
    by_cases hgt : 1 < now.length
    · refine T_cseq (t := true) (by simp (disch := omega) only [RF, RO, RC, bodyQ, resAll, resOf, tup, ↓reduceIte, Nat.reduceEqDiff, Nat.reduceSub, Nat.reduceAdd, Nat.reduceMul, Nat.reduceLT, Nat.reduceLeDiff, Int.reduceLE, Int.reduceLT, Int.reduceEq, Int.reduceNeg, Int.reduceToNat, Int.reduceMul, Int.reduceAdd, Int.reduceSub, Int.reduceBEq, Int.reduceBNe, reduceCtorEq, decT, decF]) ?_
      try simp only [RN, if_true, if_false, Bool.false_eq_true, if_pos, reduceIte]
      first | refine T_bfree rfl ?_ | refine T_bfree' rfl ?_
      try simp only [RN, if_true, if_false, Bool.false_eq_true, if_pos, reduceIte]
      have hcl := common_slope hred (by omega) hnl
      have hsp := slope_pos hred (by omega) hnl
      have hsle := slope_len now
      refine T_rseq fun Kr hKr => ?_
      simp (disch := omega) only [RF, RO, RC, bodyQ, resAll, resOf, tup, ↓reduceIte, Nat.reduceEqDiff, Nat.reduceSub, Nat.reduceAdd, Nat.reduceMul, Nat.reduceLT, Nat.reduceLeDiff, Int.reduceLE, Int.reduceLT, Int.reduceEq, Int.reduceNeg, Int.reduceToNat, Int.reduceMul, Int.reduceAdd, Int.reduceSub, Int.reduceBEq, Int.reduceBNe, reduceCtorEq, RD, h5]
      refine l06Slope_spec hnow.is hred.fit (by omega) fun p H1 he1 ho1 => ?_
      simp (disch := omega) only [RF, RO, RC, bodyQ, resAll, resOf, tup, ↓reduceIte, Nat.reduceEqDiff, Nat.reduceSub, Nat.reduceAdd, Nat.reduceMul, Nat.reduceLT, Nat.reduceLeDiff, Int.reduceLE, Int.reduceLT, Int.reduceEq, Int.reduceNeg, Int.reduceToNat, Int.reduceMul, Int.reduceAdd, Int.reduceSub, Int.reduceBEq, Int.reduceBNe, reduceCtorEq, RD, h5]
      refine l06Common_spec (hnow.ext he1).is hred (by omega) ho1.is (red_slope now) (by omega) (.inl (by omega)) fun g H2 he2 ho2 => ?_
      simp (disch := omega) only [RF, RO, RC, bodyQ, resAll, resOf, tup, ↓reduceIte, Nat.reduceEqDiff, Nat.reduceSub, Nat.reduceAdd, Nat.reduceMul, Nat.reduceLT, Nat.reduceLeDiff, Int.reduceLE, Int.reduceLT, Int.reduceEq, Int.reduceNeg, Int.reduceToNat, Int.reduceMul, Int.reduceAdd, Int.reduceSub, Int.reduceBEq, Int.reduceBNe, reduceCtorEq, RD]
      refine hKr _ _ ?_
      clear hKr Kr
      try simp only [blkQ, thenQ, loopQ]
      try simp only [RN, if_true, if_false, Bool.false_eq_true, if_pos, reduceIte]
      have hE := he1.trans' he2
      obtain ⟨ga, ge, rfl⟩ := ho2.len
      have hcl2 : cs.length ≤ C.length := by rw [← hcnt, List.length_append]; omega
      obtain ⟨c', H3, ha, hoc, hout⟩ := append1 ((now.length : Int) - ((common now (slope now)).length : Int)) (hcs.ext hE) (by omega)
      refine T_rseq fun Kr hKr => ?_
      simp (disch := omega) only [RF, RO, RC, bodyQ, resAll, resOf, tup, ↓reduceIte, Nat.reduceEqDiff, Nat.reduceSub, Nat.reduceAdd, Nat.reduceMul, Nat.reduceLT, Nat.reduceLeDiff, Int.reduceLE, Int.reduceLT, Int.reduceEq, Int.reduceNeg, Int.reduceToNat, Int.reduceMul, Int.reduceAdd, Int.reduceSub, Int.reduceBEq, Int.reduceBNe, reduceCtorEq, RD, h5, h6, ha]
      refine hKr _ _ ?_
      clear hKr Kr
      try simp only [RN, if_true, if_false, Bool.false_eq_true, if_pos, reduceIte]
      refine T_reg_k fun Kr hKr => ?_
      simp (disch := omega) only [RF, RO, RC, bodyQ, resAll, resOf, tup, ↓reduceIte, Nat.reduceEqDiff, Nat.reduceSub, Nat.reduceAdd, Nat.reduceMul, Nat.reduceLT, Nat.reduceLeDiff, Int.reduceLE, Int.reduceLT, Int.reduceEq, Int.reduceNeg, Int.reduceToNat, Int.reduceMul, Int.reduceAdd, Int.reduceSub, Int.reduceBEq, Int.reduceBNe, reduceCtorEq, RD]
      refine hKr _ _ ?_
      clear hKr Kr
      refine hN _ _ _ hcl.2.2 ⟨.slice ga (common now (slope now)).length ge, c', common now (slope now), cs ++ [(now.length : Int) - ((common now (slope now)).length : Int)], H2.n, rfl, (he.trans' hE).out hout hlo, by simp [RF], by simp [RF], ?_, hoc, Nat.le_trans he.n hE.n, hout.n, hcl.1, by omega, ?_⟩
      · exact (ho2.out hout (.inr he1.n)).weak (Nat.le_trans he.n he1.n) (Nat.le_refl _)
      · rw [← hcnt, counts_step hred (by omega) hnl, List.append_assoc]; rfl
    · refine T_cseq (t := false) (by simp (disch := omega) only [RF, RO, RC, bodyQ, resAll, resOf, tup, ↓reduceIte, Nat.reduceEqDiff, Nat.reduceSub, Nat.reduceAdd, Nat.reduceMul, Nat.reduceLT, Nat.reduceLeDiff, Int.reduceLE, Int.reduceLT, Int.reduceEq, Int.reduceNeg, Int.reduceToNat, Int.reduceMul, Int.reduceAdd, Int.reduceSub, Int.reduceBEq, Int.reduceBNe, reduceCtorEq, decT, decF]) ?_
      try simp only [RN, if_true, if_false, Bool.false_eq_true, if_pos, reduceIte]
      refine hX _ _ ?_
      rw [counts_end (by omega), List.append_nil] at hcnt
      subst hcnt
      obtain ⟨ca, ce, rfl⟩ := hcs.len
      refine T_rseq fun Kr hKr => ?_
      simp (disch := omega) only [RF, RO, RC, bodyQ, resAll, resOf, tup, ↓reduceIte, Nat.reduceEqDiff, Nat.reduceSub, Nat.reduceAdd, Nat.reduceMul, Nat.reduceLT, Nat.reduceLeDiff, Int.reduceLE, Int.reduceLT, Int.reduceEq, Int.reduceNeg, Int.reduceToNat, Int.reduceMul, Int.reduceAdd, Int.reduceSub, Int.reduceBEq, Int.reduceBNe, reduceCtorEq, RD]
      refine hKr _ _ ?_
      clear hKr Kr
      try simp only [RN, if_true, if_false, Bool.false_eq_true, if_pos, reduceIte]
      refine T_rseq fun Kr hKr => ?_
      simp (disch := omega) only [RF, RO, RC, bodyQ, resAll, resOf, tup, ↓reduceIte, Nat.reduceEqDiff, Nat.reduceSub, Nat.reduceAdd, Nat.reduceMul, Nat.reduceLT, Nat.reduceLeDiff, Int.reduceLE, Int.reduceLT, Int.reduceEq, Int.reduceNeg, Int.reduceToNat, Int.reduceMul, Int.reduceAdd, Int.reduceSub, Int.reduceBEq, Int.reduceBNe, reduceCtorEq, RD, h6]
      refine hKr _ _ ?_
      clear hKr Kr
      try simp only [RN, if_true, if_false, Bool.false_eq_true, if_pos, reduceIte]
      refine T_wloop (fun n f H2 => ∃ w j lo2, j ≤ cs.length ∧ n = cs.length - j ∧ Ext H H2 ∧ f 6 = .slice ca cs.length ce ∧ f 8 = w ∧ f 9 = I ((cs.length - j : Nat) : Int) ∧ OwnI H.n lo2 H2 (.slice ca cs.length ce) cs ∧ OwnI lo2 H2.n H2 w (expand cs j) ∧ H.n ≤ lo2 ∧ lo2 ≤ H2.n) (cs.length) ?_ ?_
      · refine ⟨S H'.n 0 0 1, 0, H'.n, by omega, by omega, he.alloc' _, by simp [RF, h6], by simp [RF], by simp [RF], ?_, own_empty H', he.n, Nat.le_succ _⟩
        exact (hcs.weak hlo (Nat.le_refl _)).ext (Ext.alloc _ _)
      · clear hnow hcs h5 h6 he hN hX hR
        rintro n f H2 R2 ⟨w, j, lo2, hj, rfl, he, h6, h8, h9, hcs, hw, hlo3, hlo4⟩ hN hX hR
        simp only [A_spec_l06Multiplicities.l2, T_aiff]
        refine T_rseq fun Kr hKr => ?_
        simp (disch := omega) only [RF, RO, RC, bodyQ, resAll, resOf, tup, ↓reduceIte, Nat.reduceEqDiff, Nat.reduceSub, Nat.reduceAdd, Nat.reduceMul, Nat.reduceLT, Nat.reduceLeDiff, Int.reduceLE, Int.reduceLT, Int.reduceEq, Int.reduceNeg, Int.reduceToNat, Int.reduceMul, Int.reduceAdd, Int.reduceSub, Int.reduceBEq, Int.reduceBNe, reduceCtorEq, RD, h9]
        refine hKr _ _ ?_
        clear hKr Kr
        try simp only [RN, if_true, if_false, Bool.false_eq_true, if_pos, reduceIte]
        by_cases hjl : j < cs.length
        · refine T_cseq (t := true) (by simp (disch := omega) only [RF, RO, RC, bodyQ, resAll, resOf, tup, ↓reduceIte, Nat.reduceEqDiff, Nat.reduceSub, Nat.reduceAdd, Nat.reduceMul, Nat.reduceLT, Nat.reduceLeDiff, Int.reduceLE, Int.reduceLT, Int.reduceEq, Int.reduceNeg, Int.reduceToNat, Int.reduceMul, Int.reduceAdd, Int.reduceSub, Int.reduceBEq, Int.reduceBNe, reduceCtorEq, decT, decF]) ?_
          try simp only [RN, if_true, if_false, Bool.false_eq_true, if_pos, reduceIte]
          first | refine T_bfree rfl ?_ | refine T_bfree' rfl ?_
          try simp only [RN, if_true, if_false, Bool.false_eq_true, if_pos, reduceIte]
          obtain ⟨cb, crest, heq, hc1, hc2, hc3, hgc⟩ := hcs.pos (by omega)
          cases heq
          have hk1 : ((cs.length - j : Nat) : Int) - 1 = ((cs.length - 1 - j : Nat) : Int) := by omega
          have hkl : cs.length - 1 - j < cs.length := by omega
          have hb1 := hcb.2.2 (cs.length - 1 - j) hkl
          have hb2 : 0 ≤ el cs (cs.length - j) ∧ el cs (cs.length - j) ≤ 17 := by
            by_cases hh : cs.length - j < cs.length
            · have := hcb.2.2 _ hh; omega
            · rw [el_out (by omega)]; omega
          have hex := expand_len hcb.2.2 j hj
          have hmid : ∀ (f' : Fr), f' 6 = S cb 0 cs.length 1 → f' 8 = w → f' 9 = I ((cs.length - j : Nat) : Int) → f' 10 = I (el cs (cs.length - j)) → T (.seq A_spec_l06Multiplicities.r13 (.seq (.block 4 (.loop A_spec_l06Multiplicities.l1)) A_spec_l06Multiplicities.r9)) R2 f' H2 := by
            intro f' h6 h8 h9 h10
            refine T_rseq fun Kr hKr => ?_
            simp (disch := omega) only [RF, RO, RC, bodyQ, resAll, resOf, tup, ↓reduceIte, Nat.reduceEqDiff, Nat.reduceSub, Nat.reduceAdd, Nat.reduceMul, Nat.reduceLT, Nat.reduceLeDiff, Int.reduceLE, Int.reduceLT, Int.reduceEq, Int.reduceNeg, Int.reduceToNat, Int.reduceMul, Int.reduceAdd, Int.reduceSub, Int.reduceBEq, Int.reduceBNe, reduceCtorEq, RD, h6, h9, h10, hk1, hkl, hgc]
            refine hKr _ _ ?_
            clear hKr Kr
            try simp only [RN, if_true, if_false, Bool.false_eq_true, if_pos, reduceIte]
            generalize hd : el cs (cs.length - 1 - j) - el cs (cs.length - j) = d
            refine T_wloop (fun n f H3 => ∃ w i lo2, i ≤ d.toNat ∧ n = d.toNat - i ∧ Ext H H3 ∧ f 6 = S cb 0 cs.length 1 ∧ f 8 = w ∧ f 9 = I ((cs.length - j : Nat) : Int) ∧ f 11 = I (d - i) ∧ OwnI H.n lo2 H3 (S cb 0 cs.length 1) cs ∧ OwnI lo2 H3.n H3 w (expand cs j ++ List.replicate i ((cs.length - j : Nat) : Int)) ∧ H.n ≤ lo2 ∧ lo2 ≤ H3.n) (d.toNat) ?_ ?_
            · exact ⟨w, 0, lo2, by omega, by omega, he, by simp [RF, h6], by simp [RF, h8], by simp [RF, h9], by simp [RF], hcs, by simpa using hw, hlo3, hlo4⟩
            · clear hcs hw h6 h8 h9 h10 he hgc hc2 hc3 hlo3 hlo4
              rintro n f H3 R3 ⟨w, i, lo2, hi, rfl, he, h6, h8, h9, h11, hcs, hw, hlo3, hlo4⟩ hN3 hX3 hR3
              simp only [A_spec_l06Multiplicities.l1, T_aiff]
              refine T_rseq fun Kr hKr => ?_
              simp (disch := omega) only [RF, RO, RC, bodyQ, resAll, resOf, tup, ↓reduceIte, Nat.reduceEqDiff, Nat.reduceSub, Nat.reduceAdd, Nat.reduceMul, Nat.reduceLT, Nat.reduceLeDiff, Int.reduceLE, Int.reduceLT, Int.reduceEq, Int.reduceNeg, Int.reduceToNat, Int.reduceMul, Int.reduceAdd, Int.reduceSub, Int.reduceBEq, Int.reduceBNe, reduceCtorEq, RD, h11]
              refine hKr _ _ ?_
              clear hKr Kr
              try simp only [RN, if_true, if_false, Bool.false_eq_true, if_pos, reduceIte]
              by_cases hid : i < d.toNat
              · refine T_cseq (t := true) (by simp (disch := omega) only [RF, RO, RC, bodyQ, resAll, resOf, tup, ↓reduceIte, Nat.reduceEqDiff, Nat.reduceSub, Nat.reduceAdd, Nat.reduceMul, Nat.reduceLT, Nat.reduceLeDiff, Int.reduceLE, Int.reduceLT, Int.reduceEq, Int.reduceNeg, Int.reduceToNat, Int.reduceMul, Int.reduceAdd, Int.reduceSub, Int.reduceBEq, Int.reduceBNe, reduceCtorEq, decT, decF]) ?_
                try simp only [RN, if_true, if_false, Bool.false_eq_true, if_pos, reduceIte]
                first | refine T_bfree rfl ?_ | refine T_bfree' rfl ?_
                try simp only [RN, if_true, if_false, Bool.false_eq_true, if_pos, reduceIte]
                obtain ⟨w', H4, ha, how, hout⟩ := append1 ((cs.length - j : Nat) : Int) hw (by simp; omega)
                refine T_rseq fun Kr hKr => ?_
                simp (disch := omega) only [RF, RO, RC, bodyQ, resAll, resOf, tup, ↓reduceIte, Nat.reduceEqDiff, Nat.reduceSub, Nat.reduceAdd, Nat.reduceMul, Nat.reduceLT, Nat.reduceLeDiff, Int.reduceLE, Int.reduceLT, Int.reduceEq, Int.reduceNeg, Int.reduceToNat, Int.reduceMul, Int.reduceAdd, Int.reduceSub, Int.reduceBEq, Int.reduceBNe, reduceCtorEq, RD, h8, h9, ha]
                refine hKr _ _ ?_
                clear hKr Kr
                try simp only [RN, if_true, if_false, Bool.false_eq_true, if_pos, reduceIte]
                refine T_reg_k fun Kr hKr => ?_
                simp (disch := omega) only [RF, RO, RC, bodyQ, resAll, resOf, tup, ↓reduceIte, Nat.reduceEqDiff, Nat.reduceSub, Nat.reduceAdd, Nat.reduceMul, Nat.reduceLT, Nat.reduceLeDiff, Int.reduceLE, Int.reduceLT, Int.reduceEq, Int.reduceNeg, Int.reduceToNat, Int.reduceMul, Int.reduceAdd, Int.reduceSub, Int.reduceBEq, Int.reduceBNe, reduceCtorEq, RD, h11]
                refine hKr _ _ ?_
                clear hKr Kr
                refine hN3 (d.toNat - (i + 1)) _ _ (by omega) ⟨w', i + 1, H3.n, by omega, rfl, he.out hout hlo3, by simp [RF, h6], by simp [RF], by simp [RF, h9], by simp [RF]; omega, ?_, by rw [rep_succ]; exact how, he.n, hout.n⟩
                exact (hcs.out hout (.inl (Nat.le_refl _))).weak (Nat.le_refl _) hlo4
              · refine T_cseq (t := false) (by simp (disch := omega) only [RF, RO, RC, bodyQ, resAll, resOf, tup, ↓reduceIte, Nat.reduceEqDiff, Nat.reduceSub, Nat.reduceAdd, Nat.reduceMul, Nat.reduceLT, Nat.reduceLeDiff, Int.reduceLE, Int.reduceLT, Int.reduceEq, Int.reduceNeg, Int.reduceToNat, Int.reduceMul, Int.reduceAdd, Int.reduceSub, Int.reduceBEq, Int.reduceBNe, reduceCtorEq, decT, decF]) ?_
                try simp only [RN, if_true, if_false, Bool.false_eq_true, if_pos, reduceIte]
                refine hX3 _ _ ?_
                have hii : i = d.toNat := by omega
                subst hii
                refine T_reg_k fun Kr hKr => ?_
                simp (disch := omega) only [RF, RO, RC, bodyQ, resAll, resOf, tup, ↓reduceIte, Nat.reduceEqDiff, Nat.reduceSub, Nat.reduceAdd, Nat.reduceMul, Nat.reduceLT, Nat.reduceLeDiff, Int.reduceLE, Int.reduceLT, Int.reduceEq, Int.reduceNeg, Int.reduceToNat, Int.reduceMul, Int.reduceAdd, Int.reduceSub, Int.reduceBEq, Int.reduceBNe, reduceCtorEq, RD, h9]
                refine hKr _ _ ?_
                clear hKr Kr
                refine hN (cs.length - (j + 1)) _ _ (by omega) ⟨w, j + 1, lo2, by omega, rfl, he, by simp [RF, h6], by simp [RF, h8], ?_, hcs, ?_, hlo3, hlo4⟩
                · simp [RF]; omega
                · rw [← hd] at hw; exact hw
          refine T_rseq fun Kr hKr => ?_
          simp (disch := omega) only [RF, RO, RC, bodyQ, resAll, resOf, tup, ↓reduceIte, Nat.reduceEqDiff, Nat.reduceSub, Nat.reduceAdd, Nat.reduceMul, Nat.reduceLT, Nat.reduceLeDiff, Int.reduceLE, Int.reduceLT, Int.reduceEq, Int.reduceNeg, Int.reduceToNat, Int.reduceMul, Int.reduceAdd, Int.reduceSub, Int.reduceBEq, Int.reduceBNe, reduceCtorEq, RD]
          refine hKr _ _ ?_
          clear hKr Kr
          try simp only [RN, if_true, if_false, Bool.false_eq_true, if_pos, reduceIte]
          refine T_rseq fun Kr hKr => ?_
          simp (disch := omega) only [RF, RO, RC, bodyQ, resAll, resOf, tup, ↓reduceIte, Nat.reduceEqDiff, Nat.reduceSub, Nat.reduceAdd, Nat.reduceMul, Nat.reduceLT, Nat.reduceLeDiff, Int.reduceLE, Int.reduceLT, Int.reduceEq, Int.reduceNeg, Int.reduceToNat, Int.reduceMul, Int.reduceAdd, Int.reduceSub, Int.reduceBEq, Int.reduceBNe, reduceCtorEq, RD, h6, h9]
          refine hKr _ _ ?_
          clear hKr Kr
          try simp only [RN, if_true, if_false, Bool.false_eq_true, if_pos, reduceIte]
          by_cases hlt : cs.length - j < cs.length
          · refine T_cseq (t := true) (by simp (disch := omega) only [RF, RO, RC, bodyQ, resAll, resOf, tup, ↓reduceIte, Nat.reduceEqDiff, Nat.reduceSub, Nat.reduceAdd, Nat.reduceMul, Nat.reduceLT, Nat.reduceLeDiff, Int.reduceLE, Int.reduceLT, Int.reduceEq, Int.reduceNeg, Int.reduceToNat, Int.reduceMul, Int.reduceAdd, Int.reduceSub, Int.reduceBEq, Int.reduceBNe, reduceCtorEq, decT, decF]) ?_
            try simp only [RN, if_true, if_false, Bool.false_eq_true, if_pos, reduceIte]
            refine T_rseq fun Kr hKr => ?_
            simp (disch := omega) only [RF, RO, RC, bodyQ, resAll, resOf, tup, ↓reduceIte, Nat.reduceEqDiff, Nat.reduceSub, Nat.reduceAdd, Nat.reduceMul, Nat.reduceLT, Nat.reduceLeDiff, Int.reduceLE, Int.reduceLT, Int.reduceEq, Int.reduceNeg, Int.reduceToNat, Int.reduceMul, Int.reduceAdd, Int.reduceSub, Int.reduceBEq, Int.reduceBNe, reduceCtorEq, RD, h6, h9, hgc]
            refine hKr _ _ ?_
            clear hKr Kr
            try simp only [RN, if_true, if_false, Bool.false_eq_true, if_pos, reduceIte]
            exact hmid _ (by simp [RF, h6]) (by simp [RF, h8]) (by simp [RF, h9]) (by simp [RF])
          · refine T_cseq (t := false) (by simp (disch := omega) only [RF, RO, RC, bodyQ, resAll, resOf, tup, ↓reduceIte, Nat.reduceEqDiff, Nat.reduceSub, Nat.reduceAdd, Nat.reduceMul, Nat.reduceLT, Nat.reduceLeDiff, Int.reduceLE, Int.reduceLT, Int.reduceEq, Int.reduceNeg, Int.reduceToNat, Int.reduceMul, Int.reduceAdd, Int.reduceSub, Int.reduceBEq, Int.reduceBNe, reduceCtorEq, decT, decF]) ?_
            try simp only [RN, if_true, if_false, Bool.false_eq_true, if_pos, reduceIte]
            exact hmid _ (by simp [RF, h6]) (by simp [RF, h8]) (by simp [RF, h9]) (by simp [RF]; rw [el_out (by omega)])
        · refine T_cseq (t := false) (by simp (disch := omega) only [RF, RO, RC, bodyQ, resAll, resOf, tup, ↓reduceIte, Nat.reduceEqDiff, Nat.reduceSub, Nat.reduceAdd, Nat.reduceMul, Nat.reduceLT, Nat.reduceLeDiff, Int.reduceLE, Int.reduceLT, Int.reduceEq, Int.reduceNeg, Int.reduceToNat, Int.reduceMul, Int.reduceAdd, Int.reduceSub, Int.reduceBEq, Int.reduceBNe, reduceCtorEq, decT, decF]) ?_
          try simp only [RN, if_true, if_false, Bool.false_eq_true, if_pos, reduceIte]
          refine hX _ _ ?_
          have hjj : j = cs.length := by omega
          subst hjj
          refine T_rseq fun Kr hKr => ?_
          simp (disch := omega) only [RF, RO, RC, bodyQ, resAll, resOf, tup, ↓reduceIte, Nat.reduceEqDiff, Nat.reduceSub, Nat.reduceAdd, Nat.reduceMul, Nat.reduceLT, Nat.reduceLeDiff, Int.reduceLE, Int.reduceLT, Int.reduceEq, Int.reduceNeg, Int.reduceToNat, Int.reduceMul, Int.reduceAdd, Int.reduceSub, Int.reduceBEq, Int.reduceBNe, reduceCtorEq, RD, h8]
          refine hKr _ _ ?_
          clear hKr Kr
          try simp only [RN, if_true, if_false, Bool.false_eq_true, if_pos, reduceIte]
          refine ⟨_, rfl, ?_⟩
          simp only [RF, ev_t, ev_c, tup, ↓reduceIte, Nat.reduceEqDiff]
          refine hK _ _ he ?_
          rw [hmul]
          exact hw.weak hlo3 (Nat.le_refl _)
end Go.Am
