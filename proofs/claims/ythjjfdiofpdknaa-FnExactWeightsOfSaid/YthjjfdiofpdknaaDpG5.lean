/- DpTn -/
import Derived.Test.YthjjfdiofpdknaaDpG3
import Derived.Test.YthjjfdiofpdknaaDpG4
/- Weights of trees: the program's walk. -/
set_option linter.unusedVariables false
set_option linter.unusedSimpArgs false
namespace Go.Bm
open Go Go.Am

section
variable {n : Nat} {b w : List Nat}
/-- The walk behind the checks. -/
theorem impl_WeightsOf_run {n : Int} {bl wh : List Int} (hb : By 16 b) (hw : By 16 w) (hbl : bl.length ≤ 1048576) (hwl : wh.length ≤ 1048576) :
    CallX false F_impl_WeightsOf [DV n b w, Fz bl.length 1 (bl.map I), Fz wh.length 1 (wh.map I)] [] fun v H1 => WRes (resW n b w bl wh) v H1 := by
  have hlb := hb.len
  have hlw := hw.len
  refine CallX_body Γ_impl_WeightsOf ?_
  simp only [A_impl_WeightsOf, T_aiff]
  refine T_rseq fun Kr hKr => ?_
  simp (disch := omega) only [RA, ↓reduceIte, Nat.reduceEqDiff, Nat.reduceBEq, Nat.reduceSub, Nat.reduceAdd, Nat.reduceMul, Nat.reduceLT, Nat.reduceLeDiff, Int.reduceLE, Int.reduceLT, Int.reduceEq, Int.reduceNeg, Int.reduceToNat, Int.reduceMul, Int.reduceAdd, Int.reduceSub, Int.reduceBEq, Int.reduceBNe, reduceCtorEq, RD, RDS]
  refine hKr _ _ ?_
  clear hKr Kr
  try simp only [RN, reduceIte]
  try refine T_e rfl ?_
  refine T_rseq fun Kr hKr => ?_
  simp (disch := omega) only [RA, ↓reduceIte, Nat.reduceEqDiff, Nat.reduceBEq, Nat.reduceSub, Nat.reduceAdd, Nat.reduceMul, Nat.reduceLT, Nat.reduceLeDiff, Int.reduceLE, Int.reduceLT, Int.reduceEq, Int.reduceNeg, Int.reduceToNat, Int.reduceMul, Int.reduceAdd, Int.reduceSub, Int.reduceBEq, Int.reduceBNe, reduceCtorEq, RD, RDS, RDD]
  refine IsDessin_spec hb hw ?_
  simp (disch := omega) only [RA, ↓reduceIte, Nat.reduceEqDiff, Nat.reduceBEq, Nat.reduceSub, Nat.reduceAdd, Nat.reduceMul, Nat.reduceLT, Nat.reduceLeDiff, Int.reduceLE, Int.reduceLT, Int.reduceEq, Int.reduceNeg, Int.reduceToNat, Int.reduceMul, Int.reduceAdd, Int.reduceSub, Int.reduceBEq, Int.reduceBNe, reduceCtorEq, RD]
  refine hKr _ _ ?_
  clear hKr Kr
  try simp only [blkQ, thenQ, loopQ]
  try simp only [RN, reduceIte]
  try refine T_e rfl ?_
  refine T_csplit (p := ¬ Des n b w) (by simp only [RA, ↓reduceIte, Nat.reduceEqDiff, Nat.reduceBEq, Nat.reduceSub, Nat.reduceAdd, Nat.reduceMul, Nat.reduceLT, Nat.reduceLeDiff, Int.reduceLE, Int.reduceLT, Int.reduceEq, Int.reduceNeg, Int.reduceToNat, Int.reduceMul, Int.reduceAdd, Int.reduceSub, Int.reduceBEq, Int.reduceBNe, reduceCtorEq] <;> rfl) (by (try simp only [RB]) <;> first | done | exact Iff.rfl | omega | simp) (fun hc => ?_) (fun hc => ?_) <;> (try simp only [RN, reduceIte]) <;> (try refine T_e rfl ?_)
  · refine T_rseq fun Kr hKr => ?_
    simp (disch := omega) only [RA, ↓reduceIte, Nat.reduceEqDiff, Nat.reduceBEq, Nat.reduceSub, Nat.reduceAdd, Nat.reduceMul, Nat.reduceLT, Nat.reduceLeDiff, Int.reduceLE, Int.reduceLT, Int.reduceEq, Int.reduceNeg, Int.reduceToNat, Int.reduceMul, Int.reduceAdd, Int.reduceSub, Int.reduceBEq, Int.reduceBNe, reduceCtorEq, RD]
    refine hKr _ _ ?_
    clear hKr Kr
    try simp only [RN, reduceIte]
    try refine T_e rfl ?_
    refine bodyQ_ret (by simp (disch := omega) only [RA, ↓reduceIte, Nat.reduceEqDiff, Nat.reduceBEq, Nat.reduceSub, Nat.reduceAdd, Nat.reduceMul, Nat.reduceLT, Nat.reduceLeDiff, Int.reduceLE, Int.reduceLT, Int.reduceEq, Int.reduceNeg, Int.reduceToNat, Int.reduceMul, Int.reduceAdd, Int.reduceSub, Int.reduceBEq, Int.reduceBNe, reduceCtorEq, RD, resAll, resOf]; rfl) GhV.refl ?_
    simp only [tup]
    rw [resW_1 hc]
    rfl
  · have hd : Des n b w := Decidable.not_not.1 hc
    obtain ⟨m, rfl, hm1, hm2⟩ := hd.n0
    have hcb := (verts_le hd)
    by_cases e1 : bl.length = (cyc b m).length
    · by_cases e2 : wh.length = (cyc w m).length
      · refine T_rseq fun Kr hKr => ?_
        simp (disch := omega) only [RA, ↓reduceIte, Nat.reduceEqDiff, Nat.reduceBEq, Nat.reduceSub, Nat.reduceAdd, Nat.reduceMul, Nat.reduceLT, Nat.reduceLeDiff, Int.reduceLE, Int.reduceLT, Int.reduceEq, Int.reduceNeg, Int.reduceToNat, Int.reduceMul, Int.reduceAdd, Int.reduceSub, Int.reduceBEq, Int.reduceBNe, reduceCtorEq, RD, RDS, RDD]
        refine cycles_spec hb hd.1 ?_
        simp (disch := omega) only [RA, ↓reduceIte, Nat.reduceEqDiff, Nat.reduceBEq, Nat.reduceSub, Nat.reduceAdd, Nat.reduceMul, Nat.reduceLT, Nat.reduceLeDiff, Int.reduceLE, Int.reduceLT, Int.reduceEq, Int.reduceNeg, Int.reduceToNat, Int.reduceMul, Int.reduceAdd, Int.reduceSub, Int.reduceBEq, Int.reduceBNe, reduceCtorEq, RD, RDS, RDD]
        refine cycles_spec hw hd.2.1 ?_
        simp (disch := omega) only [RA, ↓reduceIte, Nat.reduceEqDiff, Nat.reduceBEq, Nat.reduceSub, Nat.reduceAdd, Nat.reduceMul, Nat.reduceLT, Nat.reduceLeDiff, Int.reduceLE, Int.reduceLT, Int.reduceEq, Int.reduceNeg, Int.reduceToNat, Int.reduceMul, Int.reduceAdd, Int.reduceSub, Int.reduceBEq, Int.reduceBNe, reduceCtorEq, RD]
        refine hKr _ _ ?_
        clear hKr Kr
        try simp only [blkQ, thenQ, loopQ]
        try simp only [RN, reduceIte]
        try refine T_e rfl ?_
        refine T_cseq (t := false) (by simp (disch := omega) only [RA, ↓reduceIte, Nat.reduceEqDiff, Nat.reduceBEq, Nat.reduceSub, Nat.reduceAdd, Nat.reduceMul, Nat.reduceLT, Nat.reduceLeDiff, Int.reduceLE, Int.reduceLT, Int.reduceEq, Int.reduceNeg, Int.reduceToNat, Int.reduceMul, Int.reduceAdd, Int.reduceSub, Int.reduceBEq, Int.reduceBNe, reduceCtorEq, RD]) ?_
        try simp only [RN, reduceIte]
        try refine T_e rfl ?_
        have hsm : (bl ++ wh).length = bl.length + wh.length := List.length_append
        have hsv : bl.length + wh.length = (verts b w m).length := by rw [e1, e2, verts, List.length_append]
        refine T_rseq fun Kr hKr => ?_
        simp (disch := omega) only [RA, ↓reduceIte, Nat.reduceEqDiff, Nat.reduceBEq, Nat.reduceSub, Nat.reduceAdd, Nat.reduceMul, Nat.reduceLT, Nat.reduceLeDiff, Int.reduceLE, Int.reduceLT, Int.reduceEq, Int.reduceNeg, Int.reduceToNat, Int.reduceMul, Int.reduceAdd, Int.reduceSub, Int.reduceBEq, Int.reduceBNe, reduceCtorEq, RD]
        refine Clone_spec (by omega) (by omega) ?_
        simp (disch := omega) only [RA, ↓reduceIte, Nat.reduceEqDiff, Nat.reduceBEq, Nat.reduceSub, Nat.reduceAdd, Nat.reduceMul, Nat.reduceLT, Nat.reduceLeDiff, Int.reduceLE, Int.reduceLT, Int.reduceEq, Int.reduceNeg, Int.reduceToNat, Int.reduceMul, Int.reduceAdd, Int.reduceSub, Int.reduceBEq, Int.reduceBNe, reduceCtorEq, RD, bApp_z, appz_I]
        refine hKr _ _ ?_
        clear hKr Kr
        try simp only [blkQ, thenQ, loopQ]
        try simp only [RN, reduceIte]
        try refine T_e rfl ?_
        rw [← hsm]
        have hsv2 : (bl ++ wh).length = (verts b w m).length := by omega
        have hok : WOk m b w bl wh ↔ ∀ i, i < (bl ++ wh).length → 1 ≤ el (bl ++ wh) i ∧ el (bl ++ wh) i ≤ 1000000000 := by
          refine ⟨fun h i hi => h.all.2 i (by omega), fun h => ⟨⟨e1, e2⟩, fun i hi => ?_, fun i hi => ?_⟩⟩
          · have := h i (by omega)
            rw [at_app, if_pos hi] at this
            exact this
          · have := h (bl.length + i) (by omega)
            rw [at_app, if_neg (by omega), Nat.add_sub_cancel_left] at this
            exact this
        generalize hsd : bl ++ wh = s at hsm hsv2 hok ⊢
        refine T_rseq fun Kr hKr => ?_
        simp (disch := omega) only [RA, ↓reduceIte, Nat.reduceEqDiff, Nat.reduceBEq, Nat.reduceSub, Nat.reduceAdd, Nat.reduceMul, Nat.reduceLT, Nat.reduceLeDiff, Int.reduceLE, Int.reduceLT, Int.reduceEq, Int.reduceNeg, Int.reduceToNat, Int.reduceMul, Int.reduceAdd, Int.reduceSub, Int.reduceBEq, Int.reduceBNe, reduceCtorEq, RD]
        refine hKr _ _ ?_
        clear hKr Kr
        try simp only [RN, reduceIte]
        try refine T_e rfl ?_
        refine T_wloop (fun d f H' => ∃ i, i ≤ s.length ∧ d = s.length - i ∧ (∀ j, j < i → 1 ≤ el s j ∧ el s j ≤ 1000000000) ∧ f 3 = P 0 0 ∧ f 8 = S 1 0 s.length 1 ∧ f 51 = S 1 0 s.length 1 ∧ f 52 = I (s.length : Nat) ∧ f 53 = I i ∧ H' = [some (DC m b w), some (s.map I)]) (s.length) ?_ ?_
        · refine ⟨_, _, (Gh.nrm [0, 2] rfl rfl (by simp only [RH, NN_D, RV])), 0, by omega, by omega, fun j hj => by omega, ?_, ?_, ?_, ?_, ?_, ?_⟩
          any_goals (simp (disch := omega) only [RA, ↓reduceIte, Nat.reduceEqDiff, Nat.reduceBEq, Nat.reduceSub, Nat.reduceAdd, Nat.reduceMul, Nat.reduceLT, Nat.reduceLeDiff, Int.reduceLE, Int.reduceLT, Int.reduceEq, Int.reduceNeg, Int.reduceToNat, Int.reduceMul, Int.reduceAdd, Int.reduceSub, Int.reduceBEq, Int.reduceBNe, reduceCtorEq, RD, RE, *] <;> rfl)
          all_goals simp [blk]
        · rintro d f H' R ⟨i, hi, rfl, hall, g3, g8, g51, g52, g53, rfl⟩ hN hX hR hE
          simp only [A_impl_WeightsOf.l0, T_aiff]
          refine T_rseq fun Kr hKr => ?_
          simp (disch := omega) only [RA, ↓reduceIte, Nat.reduceEqDiff, Nat.reduceBEq, Nat.reduceSub, Nat.reduceAdd, Nat.reduceMul, Nat.reduceLT, Nat.reduceLeDiff, Int.reduceLE, Int.reduceLT, Int.reduceEq, Int.reduceNeg, Int.reduceToNat, Int.reduceMul, Int.reduceAdd, Int.reduceSub, Int.reduceBEq, Int.reduceBNe, reduceCtorEq, RD, g52, g53]
          refine hKr _ _ ?_
          clear hKr Kr
          try simp only [RN, reduceIte]
          try refine T_e rfl ?_
          refine T_csplit (p := i < s.length) (by simp only [RA, ↓reduceIte, Nat.reduceEqDiff, Nat.reduceBEq, Nat.reduceSub, Nat.reduceAdd, Nat.reduceMul, Nat.reduceLT, Nat.reduceLeDiff, Int.reduceLE, Int.reduceLT, Int.reduceEq, Int.reduceNeg, Int.reduceToNat, Int.reduceMul, Int.reduceAdd, Int.reduceSub, Int.reduceBEq, Int.reduceBNe, reduceCtorEq] <;> rfl) (by (try simp only [RB]) <;> first | done | exact Iff.rfl | omega | simp) (fun hc => ?_) (fun hc => ?_) <;> (try simp only [RN, reduceIte]) <;> (try refine T_e rfl ?_)
          · have his : i < s.length := by assumption
            first | refine T_bfree rfl ?_ | refine T_bfree' rfl ?_
            try simp only [RN, reduceIte]
            try refine T_e rfl ?_
            refine T_rseq fun Kr hKr => ?_
            simp (disch := omega) only [RA, ↓reduceIte, Nat.reduceEqDiff, Nat.reduceBEq, Nat.reduceSub, Nat.reduceAdd, Nat.reduceMul, Nat.reduceLT, Nat.reduceLeDiff, Int.reduceLE, Int.reduceLT, Int.reduceEq, Int.reduceNeg, Int.reduceToNat, Int.reduceMul, Int.reduceAdd, Int.reduceSub, Int.reduceBEq, Int.reduceBNe, reduceCtorEq, RD, g51, g53]
            refine hKr _ _ ?_
            clear hKr Kr
            try simp only [RN, reduceIte]
            try refine T_e rfl ?_
            by_cases h1 : el s i < 1
            · refine T_rseq fun Kr hKr => ?_
              simp (disch := omega) only [RA, ↓reduceIte, Nat.reduceEqDiff, Nat.reduceBEq, Nat.reduceSub, Nat.reduceAdd, Nat.reduceMul, Nat.reduceLT, Nat.reduceLeDiff, Int.reduceLE, Int.reduceLT, Int.reduceEq, Int.reduceNeg, Int.reduceToNat, Int.reduceMul, Int.reduceAdd, Int.reduceSub, Int.reduceBEq, Int.reduceBNe, reduceCtorEq, RD]
              refine hKr _ _ ?_
              clear hKr Kr
              try simp only [RN, reduceIte]
              try refine T_e rfl ?_
              refine T_cseq (t := true) (by simp (disch := omega) only [RA, ↓reduceIte, Nat.reduceEqDiff, Nat.reduceBEq, Nat.reduceSub, Nat.reduceAdd, Nat.reduceMul, Nat.reduceLT, Nat.reduceLeDiff, Int.reduceLE, Int.reduceLT, Int.reduceEq, Int.reduceNeg, Int.reduceToNat, Int.reduceMul, Int.reduceAdd, Int.reduceSub, Int.reduceBEq, Int.reduceBNe, reduceCtorEq, RD]) ?_
              try simp only [RN, reduceIte]
              try refine T_e rfl ?_
              refine T_rseq fun Kr hKr => ?_
              simp (disch := omega) only [RA, ↓reduceIte, Nat.reduceEqDiff, Nat.reduceBEq, Nat.reduceSub, Nat.reduceAdd, Nat.reduceMul, Nat.reduceLT, Nat.reduceLeDiff, Int.reduceLE, Int.reduceLT, Int.reduceEq, Int.reduceNeg, Int.reduceToNat, Int.reduceMul, Int.reduceAdd, Int.reduceSub, Int.reduceBEq, Int.reduceBNe, reduceCtorEq, RD]
              refine hKr _ _ ?_
              clear hKr Kr
              try simp only [RN, reduceIte]
              try refine T_e rfl ?_
              refine hR _ _ ?_
              refine bodyQ_ret (by simp (disch := omega) only [RA, ↓reduceIte, Nat.reduceEqDiff, Nat.reduceBEq, Nat.reduceSub, Nat.reduceAdd, Nat.reduceMul, Nat.reduceLT, Nat.reduceLeDiff, Int.reduceLE, Int.reduceLT, Int.reduceEq, Int.reduceNeg, Int.reduceToNat, Int.reduceMul, Int.reduceAdd, Int.reduceSub, Int.reduceBEq, Int.reduceBNe, reduceCtorEq, RD, resAll, resOf]; rfl) GhV.refl ?_
              simp only [tup]
              rw [resW_2 hd (fun h => by have := (hok.1 h) i his; omega)]
              rfl
            · by_cases h2 : el s i > 1000000000
              · refine T_rseq fun Kr hKr => ?_
                simp (disch := omega) only [RA, ↓reduceIte, Nat.reduceEqDiff, Nat.reduceBEq, Nat.reduceSub, Nat.reduceAdd, Nat.reduceMul, Nat.reduceLT, Nat.reduceLeDiff, Int.reduceLE, Int.reduceLT, Int.reduceEq, Int.reduceNeg, Int.reduceToNat, Int.reduceMul, Int.reduceAdd, Int.reduceSub, Int.reduceBEq, Int.reduceBNe, reduceCtorEq, RD]
                refine hKr _ _ ?_
                clear hKr Kr
                try simp only [RN, reduceIte]
                try refine T_e rfl ?_
                refine T_cseq (t := true) (by simp (disch := omega) only [RA, ↓reduceIte, Nat.reduceEqDiff, Nat.reduceBEq, Nat.reduceSub, Nat.reduceAdd, Nat.reduceMul, Nat.reduceLT, Nat.reduceLeDiff, Int.reduceLE, Int.reduceLT, Int.reduceEq, Int.reduceNeg, Int.reduceToNat, Int.reduceMul, Int.reduceAdd, Int.reduceSub, Int.reduceBEq, Int.reduceBNe, reduceCtorEq, RD]) ?_
                try simp only [RN, reduceIte]
                try refine T_e rfl ?_
                refine T_rseq fun Kr hKr => ?_
                simp (disch := omega) only [RA, ↓reduceIte, Nat.reduceEqDiff, Nat.reduceBEq, Nat.reduceSub, Nat.reduceAdd, Nat.reduceMul, Nat.reduceLT, Nat.reduceLeDiff, Int.reduceLE, Int.reduceLT, Int.reduceEq, Int.reduceNeg, Int.reduceToNat, Int.reduceMul, Int.reduceAdd, Int.reduceSub, Int.reduceBEq, Int.reduceBNe, reduceCtorEq, RD]
                refine hKr _ _ ?_
                clear hKr Kr
                try simp only [RN, reduceIte]
                try refine T_e rfl ?_
                refine hR _ _ ?_
                refine bodyQ_ret (by simp (disch := omega) only [RA, ↓reduceIte, Nat.reduceEqDiff, Nat.reduceBEq, Nat.reduceSub, Nat.reduceAdd, Nat.reduceMul, Nat.reduceLT, Nat.reduceLeDiff, Int.reduceLE, Int.reduceLT, Int.reduceEq, Int.reduceNeg, Int.reduceToNat, Int.reduceMul, Int.reduceAdd, Int.reduceSub, Int.reduceBEq, Int.reduceBNe, reduceCtorEq, RD, resAll, resOf]; rfl) GhV.refl ?_
                simp only [tup]
                rw [resW_2 hd (fun h => by have := (hok.1 h) i his; omega)]
                rfl
              · refine T_rseq fun Kr hKr => ?_
                simp (disch := omega) only [RA, ↓reduceIte, Nat.reduceEqDiff, Nat.reduceBEq, Nat.reduceSub, Nat.reduceAdd, Nat.reduceMul, Nat.reduceLT, Nat.reduceLeDiff, Int.reduceLE, Int.reduceLT, Int.reduceEq, Int.reduceNeg, Int.reduceToNat, Int.reduceMul, Int.reduceAdd, Int.reduceSub, Int.reduceBEq, Int.reduceBNe, reduceCtorEq, RD]
                refine hKr _ _ ?_
                clear hKr Kr
                try simp only [RN, reduceIte]
                try refine T_e rfl ?_
                refine T_cseq (t := false) (by simp (disch := omega) only [RA, ↓reduceIte, Nat.reduceEqDiff, Nat.reduceBEq, Nat.reduceSub, Nat.reduceAdd, Nat.reduceMul, Nat.reduceLT, Nat.reduceLeDiff, Int.reduceLE, Int.reduceLT, Int.reduceEq, Int.reduceNeg, Int.reduceToNat, Int.reduceMul, Int.reduceAdd, Int.reduceSub, Int.reduceBEq, Int.reduceBNe, reduceCtorEq, RD]) ?_
                try simp only [RN, reduceIte]
                try refine T_e rfl ?_
                refine T_reg_k fun Kr hKr => ?_
                simp (disch := omega) only [RA, ↓reduceIte, Nat.reduceEqDiff, Nat.reduceBEq, Nat.reduceSub, Nat.reduceAdd, Nat.reduceMul, Nat.reduceLT, Nat.reduceLeDiff, Int.reduceLE, Int.reduceLT, Int.reduceEq, Int.reduceNeg, Int.reduceToNat, Int.reduceMul, Int.reduceAdd, Int.reduceSub, Int.reduceBEq, Int.reduceBNe, reduceCtorEq, RD, g53]
                refine hKr _ _ ?_
                clear hKr Kr
                refine hN (s.length - (i + 1)) _ _ _ _ (by omega) Gh.refl ⟨i + 1, by omega, rfl, fun j hj => ?_, ?_, ?_, ?_, ?_, ?_, rfl⟩
                any_goals (simp (disch := omega) only [RA, ↓reduceIte, Nat.reduceEqDiff, Nat.reduceBEq, Nat.reduceSub, Nat.reduceAdd, Nat.reduceMul, Nat.reduceLT, Nat.reduceLeDiff, Int.reduceLE, Int.reduceLT, Int.reduceEq, Int.reduceNeg, Int.reduceToNat, Int.reduceMul, Int.reduceAdd, Int.reduceSub, Int.reduceBEq, Int.reduceBNe, reduceCtorEq, RD, RE, *] <;> rfl)
                rcases Nat.lt_or_ge j i with h | h
                · exact hall j h
                · obtain rfl : j = i := by omega
                  omega
          · refine hX _ _ ?_
            obtain rfl : i = s.length := by omega
            have hwok : WOk m b w bl wh := hok.2 hall
            have hwok2 : ∀ v, v < (verts b w m).length → 1 ≤ el s v ∧ el s v ≤ 1000000000 := fun v hv => hall v (by omega)
            have hmn := hd.1.1
            try simp only [RN, reduceIte]
            try refine T_e rfl ?_
            refine T_rseq fun Kr hKr => ?_
            simp (disch := omega) only [RA, ↓reduceIte, Nat.reduceEqDiff, Nat.reduceBEq, Nat.reduceSub, Nat.reduceAdd, Nat.reduceMul, Nat.reduceLT, Nat.reduceLeDiff, Int.reduceLE, Int.reduceLT, Int.reduceEq, Int.reduceNeg, Int.reduceToNat, Int.reduceMul, Int.reduceAdd, Int.reduceSub, Int.reduceBEq, Int.reduceBNe, reduceCtorEq, RD, g3, RDS, RDD]
            refine isTree_spec hb hw hd ?_
            simp (disch := omega) only [RA, ↓reduceIte, Nat.reduceEqDiff, Nat.reduceBEq, Nat.reduceSub, Nat.reduceAdd, Nat.reduceMul, Nat.reduceLT, Nat.reduceLeDiff, Int.reduceLE, Int.reduceLT, Int.reduceEq, Int.reduceNeg, Int.reduceToNat, Int.reduceMul, Int.reduceAdd, Int.reduceSub, Int.reduceBEq, Int.reduceBNe, reduceCtorEq, RD]
            refine hKr _ _ ?_
            clear hKr Kr
            try simp only [blkQ, thenQ, loopQ]
            try simp only [RN, reduceIte]
            try refine T_e rfl ?_
            refine T_csplit (p := ¬ Tree m b w) (by simp only [RA, ↓reduceIte, Nat.reduceEqDiff, Nat.reduceBEq, Nat.reduceSub, Nat.reduceAdd, Nat.reduceMul, Nat.reduceLT, Nat.reduceLeDiff, Int.reduceLE, Int.reduceLT, Int.reduceEq, Int.reduceNeg, Int.reduceToNat, Int.reduceMul, Int.reduceAdd, Int.reduceSub, Int.reduceBEq, Int.reduceBNe, reduceCtorEq] <;> rfl) (by (try simp only [RB]) <;> first | done | exact Iff.rfl | omega | simp) (fun hc => ?_) (fun hc => ?_) <;> (try simp only [RN, reduceIte]) <;> (try refine T_e rfl ?_)
            · refine T_rseq fun Kr hKr => ?_
              simp (disch := omega) only [RA, ↓reduceIte, Nat.reduceEqDiff, Nat.reduceBEq, Nat.reduceSub, Nat.reduceAdd, Nat.reduceMul, Nat.reduceLT, Nat.reduceLeDiff, Int.reduceLE, Int.reduceLT, Int.reduceEq, Int.reduceNeg, Int.reduceToNat, Int.reduceMul, Int.reduceAdd, Int.reduceSub, Int.reduceBEq, Int.reduceBNe, reduceCtorEq, RD]
              refine hKr _ _ ?_
              clear hKr Kr
              try simp only [RN, reduceIte]
              try refine T_e rfl ?_
              refine bodyQ_ret (by simp (disch := omega) only [RA, ↓reduceIte, Nat.reduceEqDiff, Nat.reduceBEq, Nat.reduceSub, Nat.reduceAdd, Nat.reduceMul, Nat.reduceLT, Nat.reduceLeDiff, Int.reduceLE, Int.reduceLT, Int.reduceEq, Int.reduceNeg, Int.reduceToNat, Int.reduceMul, Int.reduceAdd, Int.reduceSub, Int.reduceBEq, Int.reduceBNe, reduceCtorEq, RD, resAll, resOf]; rfl) GhV.refl ?_
              simp only [tup]
              rw [resW_5 hd hwok hc]
              rfl
            · have ht : Tree m b w := Decidable.not_not.1 hc
              refine T_rseq fun Kr hKr => ?_
              simp (disch := omega) only [RA, ↓reduceIte, Nat.reduceEqDiff, Nat.reduceBEq, Nat.reduceSub, Nat.reduceAdd, Nat.reduceMul, Nat.reduceLT, Nat.reduceLeDiff, Int.reduceLE, Int.reduceLT, Int.reduceEq, Int.reduceNeg, Int.reduceToNat, Int.reduceMul, Int.reduceAdd, Int.reduceSub, Int.reduceBEq, Int.reduceBNe, reduceCtorEq, RD, g3, RDS, RDD]
              refine vertices_spec hb hw hd ?_
              simp (disch := omega) only [RA, ↓reduceIte, Nat.reduceEqDiff, Nat.reduceBEq, Nat.reduceSub, Nat.reduceAdd, Nat.reduceMul, Nat.reduceLT, Nat.reduceLeDiff, Int.reduceLE, Int.reduceLT, Int.reduceEq, Int.reduceNeg, Int.reduceToNat, Int.reduceMul, Int.reduceAdd, Int.reduceSub, Int.reduceBEq, Int.reduceBNe, reduceCtorEq, RD]
              refine hKr _ _ ?_
              clear hKr Kr
              try simp only [blkQ, thenQ, loopQ]
              try simp only [RN, reduceIte]
              try refine T_e rfl ?_
              refine T_rseq fun Kr hKr => ?_
              simp (disch := omega) only [RA, ↓reduceIte, Nat.reduceEqDiff, Nat.reduceBEq, Nat.reduceSub, Nat.reduceAdd, Nat.reduceMul, Nat.reduceLT, Nat.reduceLeDiff, Int.reduceLE, Int.reduceLT, Int.reduceEq, Int.reduceNeg, Int.reduceToNat, Int.reduceMul, Int.reduceAdd, Int.reduceSub, Int.reduceBEq, Int.reduceBNe, reduceCtorEq, RD, g3, RDS, RDD]
              refine hKr _ _ ?_
              clear hKr Kr
              try simp only [RN, reduceIte]
              try refine T_e rfl ?_
              refine T_rseq fun Kr hKr => ?_
              simp (disch := omega) only [RA, ↓reduceIte, Nat.reduceEqDiff, Nat.reduceBEq, Nat.reduceSub, Nat.reduceAdd, Nat.reduceMul, Nat.reduceLT, Nat.reduceLeDiff, Int.reduceLE, Int.reduceLT, Int.reduceEq, Int.reduceNeg, Int.reduceToNat, Int.reduceMul, Int.reduceAdd, Int.reduceSub, Int.reduceBEq, Int.reduceBNe, reduceCtorEq, RD]
              refine hKr _ _ ?_
              clear hKr Kr
              try simp only [RN, reduceIte]
              try refine T_e rfl ?_
              have hz : List.replicate m (Value.int .i64 0) = (List.replicate m (0 : Int)).map I := by simp
              refine T_wloop (fun d f H' => ∃ o ag, d = (if ag = true then left o m + 1 else 0) ∧ PM b w m s o ∧ (ag = false → ∀ u, u < (verts b w m).length → (opens o (vl b w m u)).length ≠ 1) ∧ f 8 = S 0 0 s.length 1 ∧ f 11 = VS b w m ∧ f 12 = ES b w m ∧ f 13 = S 1 0 m 1 ∧ f 14 = .bool ag ∧ H' = [some ((lf b w m s o).map I), some (o.map I)]) (left (List.replicate m (0 : Int)) m + 1) ?_ ?_
              · refine ⟨_, _, (Gh.nrm [1, 2] rfl rfl (by simp only [RH, RV])), List.replicate m 0, true, ?_, PM.zero, (fun h => by cases h), ?_, ?_, ?_, ?_, ?_, ?_⟩
                any_goals (simp (disch := omega) only [RA, ↓reduceIte, Nat.reduceEqDiff, Nat.reduceBEq, Nat.reduceSub, Nat.reduceAdd, Nat.reduceMul, Nat.reduceLT, Nat.reduceLeDiff, Int.reduceLE, Int.reduceLT, Int.reduceEq, Int.reduceNeg, Int.reduceToNat, Int.reduceMul, Int.reduceAdd, Int.reduceSub, Int.reduceBEq, Int.reduceBNe, reduceCtorEq, RD, RE, *] <;> rfl)
                rw [lf_zero hsv2, ← hz]
                rfl
              · clear g3 g8 g51 g52 g53 hN hX hR hE
                rintro d f H' R ⟨o, ag, rfl, hpm, hag, g8, g11, g12, g13, g14, rfl⟩ hN hX hR hE
                simp only [A_impl_WeightsOf.l3, T_aiff]
                have hp := hpm.1
                have hol : o.length = m := hp.len
                have hvl := hsv2
                refine T_rseq fun Kr hKr => ?_
                simp (disch := omega) only [RA, ↓reduceIte, Nat.reduceEqDiff, Nat.reduceBEq, Nat.reduceSub, Nat.reduceAdd, Nat.reduceMul, Nat.reduceLT, Nat.reduceLeDiff, Int.reduceLE, Int.reduceLT, Int.reduceEq, Int.reduceNeg, Int.reduceToNat, Int.reduceMul, Int.reduceAdd, Int.reduceSub, Int.reduceBEq, Int.reduceBNe, reduceCtorEq, RD, g14]
                refine hKr _ _ ?_
                clear hKr Kr
                try simp only [RN, reduceIte]
                try refine T_e rfl ?_
                cases ag with
                | false =>
                  have hag := hag rfl
                  have hl0 : left o m = 0 := Classical.byContradiction fun h => by
                    obtain ⟨v, hv, x, hx⟩ := left_leaf hd ht h
                    rw [← vl_eq hv] at hx
                    exact hag v hv (by rw [hx]; rfl)
                  refine T_cseq (t := false) (by simp (disch := omega) only [RA, ↓reduceIte, Nat.reduceEqDiff, Nat.reduceBEq, Nat.reduceSub, Nat.reduceAdd, Nat.reduceMul, Nat.reduceLT, Nat.reduceLeDiff, Int.reduceLE, Int.reduceLT, Int.reduceEq, Int.reduceNeg, Int.reduceToNat, Int.reduceMul, Int.reduceAdd, Int.reduceSub, Int.reduceBEq, Int.reduceBNe, reduceCtorEq, RD]) ?_
                  try simp only [RN, reduceIte]
                  try refine T_e rfl ?_
                  refine hX _ _ ?_
                  try simp only [RN, reduceIte]
                  try refine T_e rfl ?_
                  refine T_rseq fun Kr hKr => ?_
                  simp (disch := omega) only [RA, ↓reduceIte, Nat.reduceEqDiff, Nat.reduceBEq, Nat.reduceSub, Nat.reduceAdd, Nat.reduceMul, Nat.reduceLT, Nat.reduceLeDiff, Int.reduceLE, Int.reduceLT, Int.reduceEq, Int.reduceNeg, Int.reduceToNat, Int.reduceMul, Int.reduceAdd, Int.reduceSub, Int.reduceBEq, Int.reduceBNe, reduceCtorEq, RD, g8]
                  refine hKr _ _ ?_
                  clear hKr Kr
                  try simp only [RN, reduceIte]
                  try refine T_e rfl ?_
                  refine T_wloop (fun d f H' => ∃ i, i ≤ s.length ∧ d = s.length - i ∧ (∀ j, j < i → el (lf b w m s o) j = 0) ∧ f 13 = S 1 0 m 1 ∧ f 139 = S 0 0 s.length 1 ∧ f 140 = I (s.length : Nat) ∧ f 141 = I i ∧ H' = [some ((lf b w m s o).map I), some (o.map I)]) (s.length) ?_ ?_
                  · refine ⟨_, _, Gh.refl, 0, by omega, by omega, fun j hj => by omega, ?_, ?_, ?_, ?_, rfl⟩
                    any_goals (simp (disch := omega) only [RA, ↓reduceIte, Nat.reduceEqDiff, Nat.reduceBEq, Nat.reduceSub, Nat.reduceAdd, Nat.reduceMul, Nat.reduceLT, Nat.reduceLeDiff, Int.reduceLE, Int.reduceLT, Int.reduceEq, Int.reduceNeg, Int.reduceToNat, Int.reduceMul, Int.reduceAdd, Int.reduceSub, Int.reduceBEq, Int.reduceBNe, reduceCtorEq, RD, RE, *] <;> rfl)
                  · clear g8 g11 g12 g13 g14
                    rintro d f H' R1 ⟨i, hi, rfl, hz0, g13, g139, g140, g141, rfl⟩ hN1 hX1 hR1 hE1
                    simp only [A_impl_WeightsOf.l4, T_aiff]
                    refine T_rseq fun Kr hKr => ?_
                    simp (disch := omega) only [RA, ↓reduceIte, Nat.reduceEqDiff, Nat.reduceBEq, Nat.reduceSub, Nat.reduceAdd, Nat.reduceMul, Nat.reduceLT, Nat.reduceLeDiff, Int.reduceLE, Int.reduceLT, Int.reduceEq, Int.reduceNeg, Int.reduceToNat, Int.reduceMul, Int.reduceAdd, Int.reduceSub, Int.reduceBEq, Int.reduceBNe, reduceCtorEq, RD, g140, g141]
                    refine hKr _ _ ?_
                    clear hKr Kr
                    try simp only [RN, reduceIte]
                    try refine T_e rfl ?_
                    refine T_csplit (p := i < s.length) (by simp only [RA, ↓reduceIte, Nat.reduceEqDiff, Nat.reduceBEq, Nat.reduceSub, Nat.reduceAdd, Nat.reduceMul, Nat.reduceLT, Nat.reduceLeDiff, Int.reduceLE, Int.reduceLT, Int.reduceEq, Int.reduceNeg, Int.reduceToNat, Int.reduceMul, Int.reduceAdd, Int.reduceSub, Int.reduceBEq, Int.reduceBNe, reduceCtorEq] <;> rfl) (by (try simp only [RB]) <;> first | done | exact Iff.rfl | omega | simp) (fun hc => ?_) (fun hc => ?_) <;> (try simp only [RN, reduceIte]) <;> (try refine T_e rfl ?_)
                    · have his : i < s.length := by assumption
                      have hll := lf_len (b := b) (w := w) (n := m) (s := s) (o := o)
                      first | refine T_bfree rfl ?_ | refine T_bfree' rfl ?_
                      try simp only [RN, reduceIte]
                      try refine T_e rfl ?_
                      refine T_rseq fun Kr hKr => ?_
                      simp (disch := omega) only [RA, ↓reduceIte, Nat.reduceEqDiff, Nat.reduceBEq, Nat.reduceSub, Nat.reduceAdd, Nat.reduceMul, Nat.reduceLT, Nat.reduceLeDiff, Int.reduceLE, Int.reduceLT, Int.reduceEq, Int.reduceNeg, Int.reduceToNat, Int.reduceMul, Int.reduceAdd, Int.reduceSub, Int.reduceBEq, Int.reduceBNe, reduceCtorEq, RD, g139, g141, hll]
                      refine hKr _ _ ?_
                      clear hKr Kr
                      try simp only [RN, reduceIte]
                      try refine T_e rfl ?_
                      refine T_rseq fun Kr hKr => ?_
                      simp (disch := omega) only [RA, ↓reduceIte, Nat.reduceEqDiff, Nat.reduceBEq, Nat.reduceSub, Nat.reduceAdd, Nat.reduceMul, Nat.reduceLT, Nat.reduceLeDiff, Int.reduceLE, Int.reduceLT, Int.reduceEq, Int.reduceNeg, Int.reduceToNat, Int.reduceMul, Int.reduceAdd, Int.reduceSub, Int.reduceBEq, Int.reduceBNe, reduceCtorEq, RD]
                      refine hKr _ _ ?_
                      clear hKr Kr
                      try simp only [RN, reduceIte]
                      try refine T_e rfl ?_
                      refine T_csplit (p := ¬ el (lf b w m s o) i = 0) (by simp only [RA, ↓reduceIte, Nat.reduceEqDiff, Nat.reduceBEq, Nat.reduceSub, Nat.reduceAdd, Nat.reduceMul, Nat.reduceLT, Nat.reduceLeDiff, Int.reduceLE, Int.reduceLT, Int.reduceEq, Int.reduceNeg, Int.reduceToNat, Int.reduceMul, Int.reduceAdd, Int.reduceSub, Int.reduceBEq, Int.reduceBNe, reduceCtorEq] <;> rfl) (by (try simp only [RB]) <;> first | done | exact Iff.rfl | omega | simp) (fun hc => ?_) (fun hc => ?_) <;> (try simp only [RN, reduceIte]) <;> (try refine T_e rfl ?_)
                      · refine T_rseq fun Kr hKr => ?_
                        simp (disch := omega) only [RA, ↓reduceIte, Nat.reduceEqDiff, Nat.reduceBEq, Nat.reduceSub, Nat.reduceAdd, Nat.reduceMul, Nat.reduceLT, Nat.reduceLeDiff, Int.reduceLE, Int.reduceLT, Int.reduceEq, Int.reduceNeg, Int.reduceToNat, Int.reduceMul, Int.reduceAdd, Int.reduceSub, Int.reduceBEq, Int.reduceBNe, reduceCtorEq, RD]
                        refine hKr _ _ ?_
                        clear hKr Kr
                        try simp only [RN, reduceIte]
                        try refine T_e rfl ?_
                        refine hR1 _ _ ?_
                        refine bodyQ_ret (by simp (disch := omega) only [RA, ↓reduceIte, Nat.reduceEqDiff, Nat.reduceBEq, Nat.reduceSub, Nat.reduceAdd, Nat.reduceMul, Nat.reduceLT, Nat.reduceLeDiff, Int.reduceLE, Int.reduceLT, Int.reduceEq, Int.reduceNeg, Int.reduceToNat, Int.reduceMul, Int.reduceAdd, Int.reduceSub, Int.reduceBEq, Int.reduceBNe, reduceCtorEq, RD, resAll, resOf]; rfl) GhV.refl ?_
                        simp only [tup]
                        have hno : ∀ W, ¬ Good b w m (bl ++ wh) W := fun W hW => by
                          rw [hsd] at hW
                          have e := hp.bad hd hl0 hW
                          have h1 := lf_at (b := b) (w := w) (n := m) (s := s) (o := o) (v := i) (by omega)
                          have h2 := hW.sum i (by omega)
                          rw [← vl_eq (by omega), ← e] at h2
                          omega
                        rw [resW_4 hd hwok ht hno]
                        rfl
                      · have hzi : el (lf b w m s o) i = 0 := Decidable.not_not.1 hc
                        refine T_reg_k fun Kr hKr => ?_
                        simp (disch := omega) only [RA, ↓reduceIte, Nat.reduceEqDiff, Nat.reduceBEq, Nat.reduceSub, Nat.reduceAdd, Nat.reduceMul, Nat.reduceLT, Nat.reduceLeDiff, Int.reduceLE, Int.reduceLT, Int.reduceEq, Int.reduceNeg, Int.reduceToNat, Int.reduceMul, Int.reduceAdd, Int.reduceSub, Int.reduceBEq, Int.reduceBNe, reduceCtorEq, RD, g141]
                        refine hKr _ _ ?_
                        clear hKr Kr
                        refine hN1 (s.length - (i + 1)) _ _ _ _ (by omega) Gh.refl ⟨i + 1, by omega, rfl, fun j hj => ?_, ?_, ?_, ?_, ?_, rfl⟩
                        any_goals (simp (disch := omega) only [RA, ↓reduceIte, Nat.reduceEqDiff, Nat.reduceBEq, Nat.reduceSub, Nat.reduceAdd, Nat.reduceMul, Nat.reduceLT, Nat.reduceLeDiff, Int.reduceLE, Int.reduceLT, Int.reduceEq, Int.reduceNeg, Int.reduceToNat, Int.reduceMul, Int.reduceAdd, Int.reduceSub, Int.reduceBEq, Int.reduceBNe, reduceCtorEq, RD, RE, *] <;> rfl)
                        rcases Nat.lt_or_ge j i with h | h
                        · exact hz0 j h
                        · obtain rfl : j = i := by omega
                          exact hzi
                    · refine hX1 _ _ ?_
                      obtain rfl : i = s.length := by omega
                      have hgood : Good b w m (bl ++ wh) o := by
                        rw [hsd]
                        refine hp.full hl0 fun v hv => ?_
                        have h1 := lf_at (b := b) (w := w) (n := m) (s := s) (o := o) hv
                        have h2 := hz0 v (by omega)
                        rw [← vl_eq hv]
                        omega
                      refine T_rseq fun Kr hKr => ?_
                      simp (disch := omega) only [RA, ↓reduceIte, Nat.reduceEqDiff, Nat.reduceBEq, Nat.reduceSub, Nat.reduceAdd, Nat.reduceMul, Nat.reduceLT, Nat.reduceLeDiff, Int.reduceLE, Int.reduceLT, Int.reduceEq, Int.reduceNeg, Int.reduceToNat, Int.reduceMul, Int.reduceAdd, Int.reduceSub, Int.reduceBEq, Int.reduceBNe, reduceCtorEq, RD, g13]
                      refine hKr _ _ ?_
                      clear hKr Kr
                      try simp only [RN, reduceIte]
                      try refine T_e rfl ?_
                      refine bodyQ_ret (by simp (disch := omega) only [RA, ↓reduceIte, Nat.reduceEqDiff, Nat.reduceBEq, Nat.reduceSub, Nat.reduceAdd, Nat.reduceMul, Nat.reduceLT, Nat.reduceLeDiff, Int.reduceLE, Int.reduceLT, Int.reduceEq, Int.reduceNeg, Int.reduceToNat, Int.reduceMul, Int.reduceAdd, Int.reduceSub, Int.reduceBEq, Int.reduceBNe, reduceCtorEq, RD, resAll, resOf]; rfl) GhV.refl ?_
                      simp only [tup]
                      rw [resW_0 hd hwok ht hgood]
                      exact ⟨1, by rw [hol], rfl⟩
                | true =>
                  refine T_cseq (t := true) (by simp (disch := omega) only [RA, ↓reduceIte, Nat.reduceEqDiff, Nat.reduceBEq, Nat.reduceSub, Nat.reduceAdd, Nat.reduceMul, Nat.reduceLT, Nat.reduceLeDiff, Int.reduceLE, Int.reduceLT, Int.reduceEq, Int.reduceNeg, Int.reduceToNat, Int.reduceMul, Int.reduceAdd, Int.reduceSub, Int.reduceBEq, Int.reduceBNe, reduceCtorEq, RD]) ?_
                  try simp only [RN, reduceIte]
                  try refine T_e rfl ?_
                  first | refine T_bfree rfl ?_ | refine T_bfree' rfl ?_
                  try simp only [RN, reduceIte]
                  try refine T_e rfl ?_
                  refine T_rseq fun Kr hKr => ?_
                  simp (disch := omega) only [RA, ↓reduceIte, Nat.reduceEqDiff, Nat.reduceBEq, Nat.reduceSub, Nat.reduceAdd, Nat.reduceMul, Nat.reduceLT, Nat.reduceLeDiff, Int.reduceLE, Int.reduceLT, Int.reduceEq, Int.reduceNeg, Int.reduceToNat, Int.reduceMul, Int.reduceAdd, Int.reduceSub, Int.reduceBEq, Int.reduceBNe, reduceCtorEq, RD]
                  refine hKr _ _ ?_
                  clear hKr Kr
                  try simp only [RN, reduceIte]
                  try refine T_e rfl ?_
                  refine T_rseq fun Kr hKr => ?_
                  simp (disch := omega) only [RA, ↓reduceIte, Nat.reduceEqDiff, Nat.reduceBEq, Nat.reduceSub, Nat.reduceAdd, Nat.reduceMul, Nat.reduceLT, Nat.reduceLeDiff, Int.reduceLE, Int.reduceLT, Int.reduceEq, Int.reduceNeg, Int.reduceToNat, Int.reduceMul, Int.reduceAdd, Int.reduceSub, Int.reduceBEq, Int.reduceBNe, reduceCtorEq, RD, g11]
                  refine hKr _ _ ?_
                  clear hKr Kr
                  try simp only [RN, reduceIte]
                  try refine T_e rfl ?_
                  refine T_end ?_
                  refine T_wloop (fun d f H' => ∃ v o1 ag, v ≤ (verts b w m).length ∧ d = (verts b w m).length - v ∧ PM b w m s o1 ∧ Pass b w m o o1 ag v ∧ f 8 = S 0 0 s.length 1 ∧ f 11 = VS b w m ∧ f 12 = ES b w m ∧ f 13 = S 1 0 m 1 ∧ f 14 = .bool ag ∧ f 76 = VS b w m ∧ f 77 = I ((verts b w m).length : Nat) ∧ f 78 = I v ∧ H' = [some ((lf b w m s o1).map I), some (o1.map I)]) ((verts b w m).length) ?_ ?_
                  · refine ⟨_, _, Gh.refl, 0, o, false, by omega, by omega, hpm, ⟨fun _ => ⟨rfl, fun u hu => by omega⟩, fun h => by cases h⟩, ?_, ?_, ?_, ?_, ?_, ?_, ?_, ?_, rfl⟩
                    any_goals (simp (disch := omega) only [RA, ↓reduceIte, Nat.reduceEqDiff, Nat.reduceBEq, Nat.reduceSub, Nat.reduceAdd, Nat.reduceMul, Nat.reduceLT, Nat.reduceLeDiff, Int.reduceLE, Int.reduceLT, Int.reduceEq, Int.reduceNeg, Int.reduceToNat, Int.reduceMul, Int.reduceAdd, Int.reduceSub, Int.reduceBEq, Int.reduceBNe, reduceCtorEq, RD, RE, *] <;> rfl)
                  · clear g8 g11 g12 g13 g14
                    rintro d f H' R1 ⟨v, o1, ag, hv, rfl, hpm1, hps, g8, g11, g12, g13, g14, g76, g77, g78, rfl⟩ hN1 hX1 hR1 hE1
                    simp only [A_impl_WeightsOf.l2, T_aiff]
                    have hp1 := hpm1.1
                    refine T_rseq fun Kr hKr => ?_
                    simp (disch := omega) only [RA, ↓reduceIte, Nat.reduceEqDiff, Nat.reduceBEq, Nat.reduceSub, Nat.reduceAdd, Nat.reduceMul, Nat.reduceLT, Nat.reduceLeDiff, Int.reduceLE, Int.reduceLT, Int.reduceEq, Int.reduceNeg, Int.reduceToNat, Int.reduceMul, Int.reduceAdd, Int.reduceSub, Int.reduceBEq, Int.reduceBNe, reduceCtorEq, RD, g77, g78]
                    refine hKr _ _ ?_
                    clear hKr Kr
                    try simp only [RN, reduceIte]
                    try refine T_e rfl ?_
                    refine T_csplit (p := v < (verts b w m).length) (by simp only [RA, ↓reduceIte, Nat.reduceEqDiff, Nat.reduceBEq, Nat.reduceSub, Nat.reduceAdd, Nat.reduceMul, Nat.reduceLT, Nat.reduceLeDiff, Int.reduceLE, Int.reduceLT, Int.reduceEq, Int.reduceNeg, Int.reduceToNat, Int.reduceMul, Int.reduceAdd, Int.reduceSub, Int.reduceBEq, Int.reduceBNe, reduceCtorEq] <;> rfl) (by (try simp only [RB]) <;> first | done | exact Iff.rfl | omega | simp) (fun hc => ?_) (fun hc => ?_) <;> (try simp only [RN, reduceIte]) <;> (try refine T_e rfl ?_)
                    · have hvV : v < (verts b w m).length := by assumption
                      obtain ⟨hv1, hv2, hv3⟩ := vl_len hd hvV
                      have hvi : (verts b w m).getD v [] = vl b w m v := rfl
                      have hol1 : o1.length = m := hp1.len
                      have hll := lf_len (b := b) (w := w) (n := m) (s := s) (o := o1)
                      have hnext : ∀ f' o2 ag2, PM b w m s o2 → Pass b w m o o2 ag2 (v + 1) → f' 8 = S 0 0 s.length 1 → f' 11 = VS b w m → f' 12 = ES b w m → f' 13 = S 1 0 m 1 → f' 14 = .bool ag2 → f' 76 = VS b w m → f' 77 = I ((verts b w m).length : Nat) → f' 78 = I v →
                          T 0 A_impl_WeightsOf.r37 R1 f' [some ((lf b w m s o2).map I), some (o2.map I)] := by
                        clear g8 g11 g12 g13 g14 g76 g77 g78
                        intro f' o2 ag2 hp2 hps2 g8 g11 g12 g13 g14 g76 g77 g78
                        refine T_reg_k fun Kr hKr => ?_
                        simp (disch := omega) only [RA, ↓reduceIte, Nat.reduceEqDiff, Nat.reduceBEq, Nat.reduceSub, Nat.reduceAdd, Nat.reduceMul, Nat.reduceLT, Nat.reduceLeDiff, Int.reduceLE, Int.reduceLT, Int.reduceEq, Int.reduceNeg, Int.reduceToNat, Int.reduceMul, Int.reduceAdd, Int.reduceSub, Int.reduceBEq, Int.reduceBNe, reduceCtorEq, RD, g78]
                        refine hKr _ _ ?_
                        clear hKr Kr
                        refine hN1 ((verts b w m).length - (v + 1)) _ _ _ _ (by omega) Gh.refl ⟨v + 1, o2, ag2, by omega, rfl, hp2, hps2, ?_, ?_, ?_, ?_, ?_, ?_, ?_, ?_, rfl⟩
                        any_goals (simp (disch := omega) only [RA, ↓reduceIte, Nat.reduceEqDiff, Nat.reduceBEq, Nat.reduceSub, Nat.reduceAdd, Nat.reduceMul, Nat.reduceLT, Nat.reduceLeDiff, Int.reduceLE, Int.reduceLT, Int.reduceEq, Int.reduceNeg, Int.reduceToNat, Int.reduceMul, Int.reduceAdd, Int.reduceSub, Int.reduceBEq, Int.reduceBNe, reduceCtorEq, RD, RE, *] <;> rfl)
                      refine T_seq (T_block ?_)
                      try simp only [RN, reduceIte]
                      try refine T_e rfl ?_
                      refine T_rseq fun Kr hKr => ?_
                      simp (disch := omega) only [RA, ↓reduceIte, Nat.reduceEqDiff, Nat.reduceBEq, Nat.reduceSub, Nat.reduceAdd, Nat.reduceMul, Nat.reduceLT, Nat.reduceLeDiff, Int.reduceLE, Int.reduceLT, Int.reduceEq, Int.reduceNeg, Int.reduceToNat, Int.reduceMul, Int.reduceAdd, Int.reduceSub, Int.reduceBEq, Int.reduceBNe, reduceCtorEq, RD, g76, g78, getN_FN, hvi]
                      refine hKr _ _ ?_
                      clear hKr Kr
                      try simp only [RN, reduceIte]
                      try refine T_e rfl ?_
                      refine T_rseq fun Kr hKr => ?_
                      simp (disch := omega) only [RA, ↓reduceIte, Nat.reduceEqDiff, Nat.reduceBEq, Nat.reduceSub, Nat.reduceAdd, Nat.reduceMul, Nat.reduceLT, Nat.reduceLeDiff, Int.reduceLE, Int.reduceLT, Int.reduceEq, Int.reduceNeg, Int.reduceToNat, Int.reduceMul, Int.reduceAdd, Int.reduceSub, Int.reduceBEq, Int.reduceBNe, reduceCtorEq, RD]
                      refine hKr _ _ ?_
                      clear hKr Kr
                      try simp only [RN, reduceIte]
                      try refine T_e rfl ?_
                      refine T_rseq fun Kr hKr => ?_
                      simp (disch := omega) only [RA, ↓reduceIte, Nat.reduceEqDiff, Nat.reduceBEq, Nat.reduceSub, Nat.reduceAdd, Nat.reduceMul, Nat.reduceLT, Nat.reduceLeDiff, Int.reduceLE, Int.reduceLT, Int.reduceEq, Int.reduceNeg, Int.reduceToNat, Int.reduceMul, Int.reduceAdd, Int.reduceSub, Int.reduceBEq, Int.reduceBNe, reduceCtorEq, RD]
                      refine hKr _ _ ?_
                      clear hKr Kr
                      try simp only [RN, reduceIte]
                      try refine T_e rfl ?_
                      refine T_wloop (fun d f H' => ∃ j, j ≤ (vl b w m v).length ∧ d = (vl b w m v).length - j ∧ f 8 = S 0 0 s.length 1 ∧ f 11 = VS b w m ∧ f 12 = ES b w m ∧ f 13 = S 1 0 m 1 ∧ f 14 = .bool ag ∧ f 15 = I v ∧ f 17 = S 2 0 (opens o1 ((vl b w m v).take j)).length 1 ∧ f 76 = VS b w m ∧ f 77 = I ((verts b w m).length : Nat) ∧ f 78 = I v ∧ f 84 = FN (vl b w m v) ∧ f 85 = I ((vl b w m v).length : Nat) ∧ f 86 = I j ∧ H' = [some ((lf b w m s o1).map I), some (o1.map I), some ((opens o1 ((vl b w m v).take j)).map N64)]) ((vl b w m v).length) ?_ ?_
                      · refine ⟨_, _, Gh.refl, 0, by omega, by omega, ?_, ?_, ?_, ?_, ?_, ?_, ?_, ?_, ?_, ?_, ?_, ?_, ?_, rfl⟩
                        any_goals (simp (disch := omega) only [RA, ↓reduceIte, Nat.reduceEqDiff, Nat.reduceBEq, Nat.reduceSub, Nat.reduceAdd, Nat.reduceMul, Nat.reduceLT, Nat.reduceLeDiff, Int.reduceLE, Int.reduceLT, Int.reduceEq, Int.reduceNeg, Int.reduceToNat, Int.reduceMul, Int.reduceAdd, Int.reduceSub, Int.reduceBEq, Int.reduceBNe, reduceCtorEq, RD, RE, *] <;> rfl)
                      · clear g8 g11 g12 g13 g14 g76 g77 g78
                        rintro d f H' R2 ⟨j, hj, rfl, g8, g11, g12, g13, g14, g15, g17, g76, g77, g78, g84, g85, g86, rfl⟩ hN2 hX2 hR2 hE2
                        simp only [A_impl_WeightsOf.l1, T_aiff]
                        have hop : (opens o1 ((vl b w m v).take j)).length ≤ 16 := by
                          have h1 := List.length_filter_le (fun x => el o1 x == 0) ((vl b w m v).take j)
                          have h2 := List.length_take_le j (vl b w m v)
                          simp only [opens]
                          omega
                        refine T_rseq fun Kr hKr => ?_
                        simp (disch := omega) only [RA, ↓reduceIte, Nat.reduceEqDiff, Nat.reduceBEq, Nat.reduceSub, Nat.reduceAdd, Nat.reduceMul, Nat.reduceLT, Nat.reduceLeDiff, Int.reduceLE, Int.reduceLT, Int.reduceEq, Int.reduceNeg, Int.reduceToNat, Int.reduceMul, Int.reduceAdd, Int.reduceSub, Int.reduceBEq, Int.reduceBNe, reduceCtorEq, RD, g85, g86]
                        refine hKr _ _ ?_
                        clear hKr Kr
                        try simp only [RN, reduceIte]
                        try refine T_e rfl ?_
                        refine T_csplit (p := j < (vl b w m v).length) (by simp only [RA, ↓reduceIte, Nat.reduceEqDiff, Nat.reduceBEq, Nat.reduceSub, Nat.reduceAdd, Nat.reduceMul, Nat.reduceLT, Nat.reduceLeDiff, Int.reduceLE, Int.reduceLT, Int.reduceEq, Int.reduceNeg, Int.reduceToNat, Int.reduceMul, Int.reduceAdd, Int.reduceSub, Int.reduceBEq, Int.reduceBNe, reduceCtorEq] <;> rfl) (by (try simp only [RB]) <;> first | done | exact Iff.rfl | omega | simp) (fun hc => ?_) (fun hc => ?_) <;> (try simp only [RN, reduceIte]) <;> (try refine T_e rfl ?_)
                        · have hjl : j < (vl b w m v).length := by assumption
                          have hxm := hv3 _ (nl_mem hjl)
                          have htk : (vl b w m v).take (j + 1) = (vl b w m v).take j ++ [nl (vl b w m v) j] := take_succ_nl' hjl
                          have hos := opens_snoc (o := o1) (l := (vl b w m v).take j) (x := nl (vl b w m v) j)
                          rw [← htk] at hos
                          first | refine T_bfree rfl ?_ | refine T_bfree' rfl ?_
                          try simp only [RN, reduceIte]
                          try refine T_e rfl ?_
                          refine T_rseq fun Kr hKr => ?_
                          simp (disch := omega) only [RA, ↓reduceIte, Nat.reduceEqDiff, Nat.reduceBEq, Nat.reduceSub, Nat.reduceAdd, Nat.reduceMul, Nat.reduceLT, Nat.reduceLeDiff, Int.reduceLE, Int.reduceLT, Int.reduceEq, Int.reduceNeg, Int.reduceToNat, Int.reduceMul, Int.reduceAdd, Int.reduceSub, Int.reduceBEq, Int.reduceBNe, reduceCtorEq, RD, g84, g86, getN_64]
                          refine hKr _ _ ?_
                          clear hKr Kr
                          try simp only [RN, reduceIte]
                          try refine T_e rfl ?_
                          refine T_rseq fun Kr hKr => ?_
                          simp (disch := omega) only [RA, ↓reduceIte, Nat.reduceEqDiff, Nat.reduceBEq, Nat.reduceSub, Nat.reduceAdd, Nat.reduceMul, Nat.reduceLT, Nat.reduceLeDiff, Int.reduceLE, Int.reduceLT, Int.reduceEq, Int.reduceNeg, Int.reduceToNat, Int.reduceMul, Int.reduceAdd, Int.reduceSub, Int.reduceBEq, Int.reduceBNe, reduceCtorEq, RD, g13, hol1]
                          refine hKr _ _ ?_
                          clear hKr Kr
                          try simp only [RN, reduceIte]
                          try refine T_e rfl ?_
                          refine T_csplit (p := el o1 (nl (vl b w m v) j) = 0) (by simp only [RA, ↓reduceIte, Nat.reduceEqDiff, Nat.reduceBEq, Nat.reduceSub, Nat.reduceAdd, Nat.reduceMul, Nat.reduceLT, Nat.reduceLeDiff, Int.reduceLE, Int.reduceLT, Int.reduceEq, Int.reduceNeg, Int.reduceToNat, Int.reduceMul, Int.reduceAdd, Int.reduceSub, Int.reduceBEq, Int.reduceBNe, reduceCtorEq] <;> rfl) (by (try simp only [RB]) <;> first | done | exact Iff.rfl | omega | simp) (fun hc => ?_) (fun hc => ?_) <;> (try simp only [RN, reduceIte]) <;> (try refine T_e rfl ?_)
                          · rw [if_pos hc] at hos
                            refine T_rseq fun Kr hKr => ?_
                            simp (disch := omega) only [RA, ↓reduceIte, Nat.reduceEqDiff, Nat.reduceBEq, Nat.reduceSub, Nat.reduceAdd, Nat.reduceMul, Nat.reduceLT, Nat.reduceLeDiff, Int.reduceLE, Int.reduceLT, Int.reduceEq, Int.reduceNeg, Int.reduceToNat, Int.reduceMul, Int.reduceAdd, Int.reduceSub, Int.reduceBEq, Int.reduceBNe, reduceCtorEq, RD, g17, app1_64]
                            refine hKr _ _ ?_
                            clear hKr Kr
                            try simp only [RN, reduceIte]
                            try refine T_e rfl ?_
                            refine T_reg_k fun Kr hKr => ?_
                            simp (disch := omega) only [RA, ↓reduceIte, Nat.reduceEqDiff, Nat.reduceBEq, Nat.reduceSub, Nat.reduceAdd, Nat.reduceMul, Nat.reduceLT, Nat.reduceLeDiff, Int.reduceLE, Int.reduceLT, Int.reduceEq, Int.reduceNeg, Int.reduceToNat, Int.reduceMul, Int.reduceAdd, Int.reduceSub, Int.reduceBEq, Int.reduceBNe, reduceCtorEq, RD, g86]
                            refine hKr _ _ ?_
                            clear hKr Kr
                            refine hN2 ((vl b w m v).length - (j + 1)) _ _ _ _ (by omega) (Gh.nrm [0, 1, 4] rfl rfl (by simp only [RH, RV])) ⟨j + 1, by omega, rfl, ?_, ?_, ?_, ?_, ?_, ?_, ?_, ?_, ?_, ?_, ?_, ?_, ?_, ?_⟩
                            any_goals (simp (disch := omega) only [RA, ↓reduceIte, Nat.reduceEqDiff, Nat.reduceBEq, Nat.reduceSub, Nat.reduceAdd, Nat.reduceMul, Nat.reduceLT, Nat.reduceLeDiff, Int.reduceLE, Int.reduceLT, Int.reduceEq, Int.reduceNeg, Int.reduceToNat, Int.reduceMul, Int.reduceAdd, Int.reduceSub, Int.reduceBEq, Int.reduceBNe, reduceCtorEq, RD, RE, *] <;> rfl)
                            · rw [hos, List.length_append, List.length_singleton]
                              clear hos
                              simp (disch := omega) only [RA, ↓reduceIte, Nat.reduceEqDiff, Nat.reduceBEq, Nat.reduceSub, Nat.reduceAdd, Nat.reduceMul, Nat.reduceLT, Nat.reduceLeDiff, Int.reduceLE, Int.reduceLT, Int.reduceEq, Int.reduceNeg, Int.reduceToNat, Int.reduceMul, Int.reduceAdd, Int.reduceSub, Int.reduceBEq, Int.reduceBNe, reduceCtorEq, RD, RE, *] <;> rfl
                            · rw [hos]
                              rfl
                          · rw [if_neg hc] at hos
                            refine T_reg_k fun Kr hKr => ?_
                            simp (disch := omega) only [RA, ↓reduceIte, Nat.reduceEqDiff, Nat.reduceBEq, Nat.reduceSub, Nat.reduceAdd, Nat.reduceMul, Nat.reduceLT, Nat.reduceLeDiff, Int.reduceLE, Int.reduceLT, Int.reduceEq, Int.reduceNeg, Int.reduceToNat, Int.reduceMul, Int.reduceAdd, Int.reduceSub, Int.reduceBEq, Int.reduceBNe, reduceCtorEq, RD, g86]
                            refine hKr _ _ ?_
                            clear hKr Kr
                            refine hN2 ((vl b w m v).length - (j + 1)) _ _ _ _ (by omega) Gh.refl ⟨j + 1, by omega, rfl, ?_, ?_, ?_, ?_, ?_, ?_, ?_, ?_, ?_, ?_, ?_, ?_, ?_, ?_⟩
                            any_goals (simp (disch := omega) only [RA, ↓reduceIte, Nat.reduceEqDiff, Nat.reduceBEq, Nat.reduceSub, Nat.reduceAdd, Nat.reduceMul, Nat.reduceLT, Nat.reduceLeDiff, Int.reduceLE, Int.reduceLT, Int.reduceEq, Int.reduceNeg, Int.reduceToNat, Int.reduceMul, Int.reduceAdd, Int.reduceSub, Int.reduceBEq, Int.reduceBNe, reduceCtorEq, RD, RE, *] <;> rfl)
                            · rw [hos]
                              clear hos
                              simp (disch := omega) only [RA, ↓reduceIte, Nat.reduceEqDiff, Nat.reduceBEq, Nat.reduceSub, Nat.reduceAdd, Nat.reduceMul, Nat.reduceLT, Nat.reduceLeDiff, Int.reduceLE, Int.reduceLT, Int.reduceEq, Int.reduceNeg, Int.reduceToNat, Int.reduceMul, Int.reduceAdd, Int.reduceSub, Int.reduceBEq, Int.reduceBNe, reduceCtorEq, RD, RE, *] <;> rfl
                            · rw [hos]
                        · refine hX2 _ _ ?_
                          obtain rfl : j = (vl b w m v).length := by omega
                          rw [List.take_length] at g17 hop ⊢
                          try simp only [RN, reduceIte]
                          try refine T_e rfl ?_
                          refine T_rseq fun Kr hKr => ?_
                          simp (disch := omega) only [RA, ↓reduceIte, Nat.reduceEqDiff, Nat.reduceBEq, Nat.reduceSub, Nat.reduceAdd, Nat.reduceMul, Nat.reduceLT, Nat.reduceLeDiff, Int.reduceLE, Int.reduceLT, Int.reduceEq, Int.reduceNeg, Int.reduceToNat, Int.reduceMul, Int.reduceAdd, Int.reduceSub, Int.reduceBEq, Int.reduceBNe, reduceCtorEq, RD, g17]
                          refine hKr _ _ ?_
                          clear hKr Kr
                          try simp only [RN, reduceIte]
                          try refine T_e rfl ?_
                          by_cases h1 : (opens o1 (vl b w m v)).length = 1
                          · obtain ⟨x, hx⟩ : ∃ x, opens o1 (vl b w m v) = [x] := List.length_eq_one_iff.1 h1
                            have hxo := mem_opens.1 (show x ∈ opens o1 (vl b w m v) by rw [hx]; simp)
                            have hxm := hv3 x hxo.1
                            have hx2 := hx
                            rw [vl_eq hvV] at hx2
                            have hlv := lf_at (b := b) (w := w) (n := m) (s := s) (o := o1) hvV
                            have hnl : nl [x] 0 = x := rfl
                            rw [hx] at g17 ⊢
                            rw [List.length_singleton] at g17
                            have hg1 : getN none [N64 x] 0 = some (N64 x) := rfl
                            have hbd := fun u hu => hpm1.bd hd hwok2 (v := u) hu
                            refine T_cseq (t := false) (by simp (disch := omega) only [RA, ↓reduceIte, Nat.reduceEqDiff, Nat.reduceBEq, Nat.reduceSub, Nat.reduceAdd, Nat.reduceMul, Nat.reduceLT, Nat.reduceLeDiff, Int.reduceLE, Int.reduceLT, Int.reduceEq, Int.reduceNeg, Int.reduceToNat, Int.reduceMul, Int.reduceAdd, Int.reduceSub, Int.reduceBEq, Int.reduceBNe, reduceCtorEq, RD]) ?_
                            try simp only [RN, reduceIte]
                            try refine T_e rfl ?_
                            refine T_rseq fun Kr hKr => ?_
                            simp (disch := omega) only [RA, ↓reduceIte, Nat.reduceEqDiff, Nat.reduceBEq, Nat.reduceSub, Nat.reduceAdd, Nat.reduceMul, Nat.reduceLT, Nat.reduceLeDiff, Int.reduceLE, Int.reduceLT, Int.reduceEq, Int.reduceNeg, Int.reduceToNat, Int.reduceMul, Int.reduceAdd, Int.reduceSub, Int.reduceBEq, Int.reduceBNe, reduceCtorEq, RD, g8, g15, g17, hll, hg1]
                            refine hKr _ _ ?_
                            clear hKr Kr
                            try simp only [RN, reduceIte]
                            try refine T_e rfl ?_
                            refine T_rseq fun Kr hKr => ?_
                            simp (disch := omega) only [RA, ↓reduceIte, Nat.reduceEqDiff, Nat.reduceBEq, Nat.reduceSub, Nat.reduceAdd, Nat.reduceMul, Nat.reduceLT, Nat.reduceLeDiff, Int.reduceLE, Int.reduceLT, Int.reduceEq, Int.reduceNeg, Int.reduceToNat, Int.reduceMul, Int.reduceAdd, Int.reduceSub, Int.reduceBEq, Int.reduceBNe, reduceCtorEq, RD]
                            refine hKr _ _ ?_
                            clear hKr Kr
                            try simp only [RN, reduceIte]
                            try refine T_e rfl ?_
                            refine T_csplit (p := el (lf b w m s o1) v < 1) (by simp only [RA, ↓reduceIte, Nat.reduceEqDiff, Nat.reduceBEq, Nat.reduceSub, Nat.reduceAdd, Nat.reduceMul, Nat.reduceLT, Nat.reduceLeDiff, Int.reduceLE, Int.reduceLT, Int.reduceEq, Int.reduceNeg, Int.reduceToNat, Int.reduceMul, Int.reduceAdd, Int.reduceSub, Int.reduceBEq, Int.reduceBNe, reduceCtorEq] <;> rfl) (by (try simp only [RB]) <;> first | done | exact Iff.rfl | omega | simp) (fun hc => ?_) (fun hc => ?_) <;> (try simp only [RN, reduceIte]) <;> (try refine T_e rfl ?_)
                            · refine T_rseq fun Kr hKr => ?_
                              simp (disch := omega) only [RA, ↓reduceIte, Nat.reduceEqDiff, Nat.reduceBEq, Nat.reduceSub, Nat.reduceAdd, Nat.reduceMul, Nat.reduceLT, Nat.reduceLeDiff, Int.reduceLE, Int.reduceLT, Int.reduceEq, Int.reduceNeg, Int.reduceToNat, Int.reduceMul, Int.reduceAdd, Int.reduceSub, Int.reduceBEq, Int.reduceBNe, reduceCtorEq, RD]
                              refine hKr _ _ ?_
                              clear hKr Kr
                              try simp only [RN, reduceIte]
                              try refine T_e rfl ?_
                              refine hR1 _ _ ?_
                              refine hR _ _ ?_
                              refine bodyQ_ret (by simp (disch := omega) only [RA, ↓reduceIte, Nat.reduceEqDiff, Nat.reduceBEq, Nat.reduceSub, Nat.reduceAdd, Nat.reduceMul, Nat.reduceLT, Nat.reduceLeDiff, Int.reduceLE, Int.reduceLT, Int.reduceEq, Int.reduceNeg, Int.reduceToNat, Int.reduceMul, Int.reduceAdd, Int.reduceSub, Int.reduceBEq, Int.reduceBNe, reduceCtorEq, RD, resAll, resOf]; rfl) GhV.refl ?_
                              simp only [tup]
                              have hno : ∀ W, ¬ Good b w m (bl ++ wh) W := fun W hW => by
                                rw [hsd] at hW
                                have h2 := hp1.one hd hW hvV hx2
                                have h3 := hW.pos x hxm
                                rw [← vl_eq hvV] at h2
                                omega
                              rw [resW_4 hd hwok ht hno]
                              rfl
                            · obtain ⟨q1, q2⟩ := hpm1.set hd hwok2 hvV hx (by omega)
                              have hset := lf_set hd (s := s) hol1 hxm hxo.2 (r := el (lf b w m s o1) v)
                              have he0 := endl_0 (b := b) (w := w) hxm
                              have he1 := endl_1 (b := b) (w := w) hxm
                              have hE0 := ends_lt hd (c := false) hxm
                              have hE1 := ends_lt hd (c := true) hxm
                              have hEn := ends_ne hd hxm
                              have hel2 := endl_len (b := b) (w := w) (n := m)
                              have hb0 := hbd _ hE0
                              have hb1 := hbd _ hE1
                              have hbv := hbd _ hvV
                              generalize hr : el (lf b w m s o1) v = r at *
                              refine T_rseq fun Kr hKr => ?_
                              simp (disch := omega) only [RA, ↓reduceIte, Nat.reduceEqDiff, Nat.reduceBEq, Nat.reduceSub, Nat.reduceAdd, Nat.reduceMul, Nat.reduceLT, Nat.reduceLeDiff, Int.reduceLE, Int.reduceLT, Int.reduceEq, Int.reduceNeg, Int.reduceToNat, Int.reduceMul, Int.reduceAdd, Int.reduceSub, Int.reduceBEq, Int.reduceBNe, reduceCtorEq, RD, g13, hol1]
                              refine hKr _ _ ?_
                              clear hKr Kr
                              try simp only [RN, reduceIte]
                              try refine T_e rfl ?_
                              refine T_rseq fun Kr hKr => ?_
                              simp (disch := omega) only [RA, ↓reduceIte, Nat.reduceEqDiff, Nat.reduceBEq, Nat.reduceSub, Nat.reduceAdd, Nat.reduceMul, Nat.reduceLT, Nat.reduceLeDiff, Int.reduceLE, Int.reduceLT, Int.reduceEq, Int.reduceNeg, Int.reduceToNat, Int.reduceMul, Int.reduceAdd, Int.reduceSub, Int.reduceBEq, Int.reduceBNe, reduceCtorEq, RD, g8, g12, hll, getN_64, he0, hel2]
                              refine hKr _ _ ?_
                              clear hKr Kr
                              try simp only [RN, reduceIte]
                              try refine T_e rfl ?_
                              have hL1l : ((lf b w m s o1).set (ends b w m false x) (el (lf b w m s o1) (ends b w m false x) - r)).length = (verts b w m).length := by rw [List.length_set, hll]
                              have hL1e : el ((lf b w m s o1).set (ends b w m false x) (el (lf b w m s o1) (ends b w m false x) - r)) (ends b w m true x) = el (lf b w m s o1) (ends b w m true x) := by
                                rw [at_set (by omega), if_neg (fun h => hEn h.symm)]
                              generalize (lf b w m s o1).set (ends b w m false x) (el (lf b w m s o1) (ends b w m false x) - r) = L1 at hset hL1l hL1e ⊢
                              refine T_rseq fun Kr hKr => ?_
                              simp (disch := omega) only [RA, ↓reduceIte, Nat.reduceEqDiff, Nat.reduceBEq, Nat.reduceSub, Nat.reduceAdd, Nat.reduceMul, Nat.reduceLT, Nat.reduceLeDiff, Int.reduceLE, Int.reduceLT, Int.reduceEq, Int.reduceNeg, Int.reduceToNat, Int.reduceMul, Int.reduceAdd, Int.reduceSub, Int.reduceBEq, Int.reduceBNe, reduceCtorEq, RD, g8, g12, hL1l, hL1e, getN_64, he1, hel2]
                              refine hKr _ _ ?_
                              clear hKr Kr
                              try simp only [RN, reduceIte]
                              try refine T_e rfl ?_
                              refine T_reg_k fun Kr hKr => ?_
                              simp (disch := omega) only [RA, ↓reduceIte, Nat.reduceEqDiff, Nat.reduceBEq, Nat.reduceSub, Nat.reduceAdd, Nat.reduceMul, Nat.reduceLT, Nat.reduceLeDiff, Int.reduceLE, Int.reduceLT, Int.reduceEq, Int.reduceNeg, Int.reduceToNat, Int.reduceMul, Int.reduceAdd, Int.reduceSub, Int.reduceBEq, Int.reduceBNe, reduceCtorEq, RD]
                              refine hKr _ _ ?_
                              clear hKr Kr
                              simp only [blkQ, thenQ, loopQ, if_true]
                              refine T_gh (Gh.nrm [0, 1] rfl rfl (by simp only [RH, RV])) ?_
                              rw [hset]
                              refine hnext _ (o1.set x r) true q1 ⟨(fun h => by cases h), fun _ => ?_⟩ ?_ ?_ ?_ ?_ ?_ ?_ ?_ ?_
                              any_goals (simp (disch := omega) only [RA, ↓reduceIte, Nat.reduceEqDiff, Nat.reduceBEq, Nat.reduceSub, Nat.reduceAdd, Nat.reduceMul, Nat.reduceLT, Nat.reduceLeDiff, Int.reduceLE, Int.reduceLT, Int.reduceEq, Int.reduceNeg, Int.reduceToNat, Int.reduceMul, Int.reduceAdd, Int.reduceSub, Int.reduceBEq, Int.reduceBNe, reduceCtorEq, RD, RE, *] <;> rfl)
                              cases ag with
                              | false => rw [← (hps.1 rfl).1]; exact q2
                              | true => have := hps.2 rfl; omega
                          · refine T_cseq (t := true) (by simp (disch := omega) only [RA, ↓reduceIte, Nat.reduceEqDiff, Nat.reduceBEq, Nat.reduceSub, Nat.reduceAdd, Nat.reduceMul, Nat.reduceLT, Nat.reduceLeDiff, Int.reduceLE, Int.reduceLT, Int.reduceEq, Int.reduceNeg, Int.reduceToNat, Int.reduceMul, Int.reduceAdd, Int.reduceSub, Int.reduceBEq, Int.reduceBNe, reduceCtorEq, RD]) ?_
                            try simp only [RN, reduceIte]
                            try refine T_e rfl ?_
                            simp only [blkQ, thenQ, loopQ, if_true]
                            refine T_gh (Gh.nrm [0, 1] rfl rfl (by simp only [RH, RV])) ?_
                            refine hnext _ o1 ag hpm1 ⟨fun h => ?_, fun h => hps.2 h⟩ ?_ ?_ ?_ ?_ ?_ ?_ ?_ ?_
                            any_goals (simp (disch := omega) only [RA, ↓reduceIte, Nat.reduceEqDiff, Nat.reduceBEq, Nat.reduceSub, Nat.reduceAdd, Nat.reduceMul, Nat.reduceLT, Nat.reduceLeDiff, Int.reduceLE, Int.reduceLT, Int.reduceEq, Int.reduceNeg, Int.reduceToNat, Int.reduceMul, Int.reduceAdd, Int.reduceSub, Int.reduceBEq, Int.reduceBNe, reduceCtorEq, RD, RE, *] <;> rfl)
                            obtain ⟨k1, k2⟩ := hps.1 h
                            refine ⟨k1, fun u hu => ?_⟩
                            rcases Nat.lt_or_ge u v with h2 | h2
                            · exact k2 u h2
                            · obtain rfl : u = v := by omega
                              rw [← k1]
                              exact h1
                    · refine hX1 _ _ ?_
                      obtain rfl : v = (verts b w m).length := by omega
                      refine T_skip ?_
                      refine hN (if ag = true then left o1 m + 1 else 0) _ _ _ _ ?_ Gh.refl ⟨o1, ag, rfl, hpm1, fun h => ?_, ?_, ?_, ?_, ?_, ?_, rfl⟩
                      any_goals (simp (disch := omega) only [RA, ↓reduceIte, Nat.reduceEqDiff, Nat.reduceBEq, Nat.reduceSub, Nat.reduceAdd, Nat.reduceMul, Nat.reduceLT, Nat.reduceLeDiff, Int.reduceLE, Int.reduceLT, Int.reduceEq, Int.reduceNeg, Int.reduceToNat, Int.reduceMul, Int.reduceAdd, Int.reduceSub, Int.reduceBEq, Int.reduceBNe, reduceCtorEq, RD, RE, *] <;> rfl)
                      · cases ag with
                        | false => simp
                        | true => have := hps.2 rfl; simp; omega
                      · obtain ⟨k1, k2⟩ := hps.1 h
                        rw [k1]
                        exact k2
      · refine T_rseq fun Kr hKr => ?_
        simp (disch := omega) only [RA, ↓reduceIte, Nat.reduceEqDiff, Nat.reduceBEq, Nat.reduceSub, Nat.reduceAdd, Nat.reduceMul, Nat.reduceLT, Nat.reduceLeDiff, Int.reduceLE, Int.reduceLT, Int.reduceEq, Int.reduceNeg, Int.reduceToNat, Int.reduceMul, Int.reduceAdd, Int.reduceSub, Int.reduceBEq, Int.reduceBNe, reduceCtorEq, RD, RDS, RDD]
        refine cycles_spec hb hd.1 ?_
        simp (disch := omega) only [RA, ↓reduceIte, Nat.reduceEqDiff, Nat.reduceBEq, Nat.reduceSub, Nat.reduceAdd, Nat.reduceMul, Nat.reduceLT, Nat.reduceLeDiff, Int.reduceLE, Int.reduceLT, Int.reduceEq, Int.reduceNeg, Int.reduceToNat, Int.reduceMul, Int.reduceAdd, Int.reduceSub, Int.reduceBEq, Int.reduceBNe, reduceCtorEq, RD, RDS, RDD]
        refine cycles_spec hw hd.2.1 ?_
        simp (disch := omega) only [RA, ↓reduceIte, Nat.reduceEqDiff, Nat.reduceBEq, Nat.reduceSub, Nat.reduceAdd, Nat.reduceMul, Nat.reduceLT, Nat.reduceLeDiff, Int.reduceLE, Int.reduceLT, Int.reduceEq, Int.reduceNeg, Int.reduceToNat, Int.reduceMul, Int.reduceAdd, Int.reduceSub, Int.reduceBEq, Int.reduceBNe, reduceCtorEq, RD]
        refine hKr _ _ ?_
        clear hKr Kr
        try simp only [blkQ, thenQ, loopQ]
        try simp only [RN, reduceIte]
        try refine T_e rfl ?_
        refine T_cseq (t := true) (by simp (disch := omega) only [RA, ↓reduceIte, Nat.reduceEqDiff, Nat.reduceBEq, Nat.reduceSub, Nat.reduceAdd, Nat.reduceMul, Nat.reduceLT, Nat.reduceLeDiff, Int.reduceLE, Int.reduceLT, Int.reduceEq, Int.reduceNeg, Int.reduceToNat, Int.reduceMul, Int.reduceAdd, Int.reduceSub, Int.reduceBEq, Int.reduceBNe, reduceCtorEq, RD]) ?_
        try simp only [RN, reduceIte]
        try refine T_e rfl ?_
        refine T_rseq fun Kr hKr => ?_
        simp (disch := omega) only [RA, ↓reduceIte, Nat.reduceEqDiff, Nat.reduceBEq, Nat.reduceSub, Nat.reduceAdd, Nat.reduceMul, Nat.reduceLT, Nat.reduceLeDiff, Int.reduceLE, Int.reduceLT, Int.reduceEq, Int.reduceNeg, Int.reduceToNat, Int.reduceMul, Int.reduceAdd, Int.reduceSub, Int.reduceBEq, Int.reduceBNe, reduceCtorEq, RD]
        refine hKr _ _ ?_
        clear hKr Kr
        try simp only [RN, reduceIte]
        try refine T_e rfl ?_
        refine bodyQ_ret (by simp (disch := omega) only [RA, ↓reduceIte, Nat.reduceEqDiff, Nat.reduceBEq, Nat.reduceSub, Nat.reduceAdd, Nat.reduceMul, Nat.reduceLT, Nat.reduceLeDiff, Int.reduceLE, Int.reduceLT, Int.reduceEq, Int.reduceNeg, Int.reduceToNat, Int.reduceMul, Int.reduceAdd, Int.reduceSub, Int.reduceBEq, Int.reduceBNe, reduceCtorEq, RD, resAll, resOf]; rfl) GhV.refl ?_
        simp only [tup]
        rw [resW_2 hd (fun h => e2 h.1.2)]
        rfl
    · refine T_rseq fun Kr hKr => ?_
      simp (disch := omega) only [RA, ↓reduceIte, Nat.reduceEqDiff, Nat.reduceBEq, Nat.reduceSub, Nat.reduceAdd, Nat.reduceMul, Nat.reduceLT, Nat.reduceLeDiff, Int.reduceLE, Int.reduceLT, Int.reduceEq, Int.reduceNeg, Int.reduceToNat, Int.reduceMul, Int.reduceAdd, Int.reduceSub, Int.reduceBEq, Int.reduceBNe, reduceCtorEq, RD, RDS, RDD]
      refine cycles_spec hb hd.1 ?_
      simp (disch := omega) only [RA, ↓reduceIte, Nat.reduceEqDiff, Nat.reduceBEq, Nat.reduceSub, Nat.reduceAdd, Nat.reduceMul, Nat.reduceLT, Nat.reduceLeDiff, Int.reduceLE, Int.reduceLT, Int.reduceEq, Int.reduceNeg, Int.reduceToNat, Int.reduceMul, Int.reduceAdd, Int.reduceSub, Int.reduceBEq, Int.reduceBNe, reduceCtorEq, RD]
      refine hKr _ _ ?_
      clear hKr Kr
      try simp only [blkQ, thenQ, loopQ]
      try simp only [RN, reduceIte]
      try refine T_e rfl ?_
      refine T_cseq (t := true) (by simp (disch := omega) only [RA, ↓reduceIte, Nat.reduceEqDiff, Nat.reduceBEq, Nat.reduceSub, Nat.reduceAdd, Nat.reduceMul, Nat.reduceLT, Nat.reduceLeDiff, Int.reduceLE, Int.reduceLT, Int.reduceEq, Int.reduceNeg, Int.reduceToNat, Int.reduceMul, Int.reduceAdd, Int.reduceSub, Int.reduceBEq, Int.reduceBNe, reduceCtorEq, RD]) ?_
      try simp only [RN, reduceIte]
      try refine T_e rfl ?_
      refine T_rseq fun Kr hKr => ?_
      simp (disch := omega) only [RA, ↓reduceIte, Nat.reduceEqDiff, Nat.reduceBEq, Nat.reduceSub, Nat.reduceAdd, Nat.reduceMul, Nat.reduceLT, Nat.reduceLeDiff, Int.reduceLE, Int.reduceLT, Int.reduceEq, Int.reduceNeg, Int.reduceToNat, Int.reduceMul, Int.reduceAdd, Int.reduceSub, Int.reduceBEq, Int.reduceBNe, reduceCtorEq, RD]
      refine hKr _ _ ?_
      clear hKr Kr
      try simp only [RN, reduceIte]
      try refine T_e rfl ?_
      refine bodyQ_ret (by simp (disch := omega) only [RA, ↓reduceIte, Nat.reduceEqDiff, Nat.reduceBEq, Nat.reduceSub, Nat.reduceAdd, Nat.reduceMul, Nat.reduceLT, Nat.reduceLeDiff, Int.reduceLE, Int.reduceLT, Int.reduceEq, Int.reduceNeg, Int.reduceToNat, Int.reduceMul, Int.reduceAdd, Int.reduceSub, Int.reduceBEq, Int.reduceBNe, reduceCtorEq, RD, resAll, resOf]; rfl) GhV.refl ?_
      simp only [tup]
      rw [resW_2 hd (fun h => e1 h.1.1)]
      rfl
end
end Go.Bm

