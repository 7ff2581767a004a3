/- The law of renamed dessins and namings. -/
import Derived.Test.YtbfhlajbjfahiaaDpG6
import Derived.Test.YtbfhlajbjfahiaaDpG5
import Derived.Test.YtbfhlajbjfahiaaDpG4
set_option linter.unusedVariables false
set_option linter.unusedSimpArgs false
namespace Go.Bm
open Go Go.Am

theorem resNa_0 {n : Int} {b w : List Nat} {k : Int} (h : (resNa n b w k).2 = 0) : ∃ j : Nat, k = j ∧ j < 16 ∧ nl (resNa n b w k).1 j = 0 := by
  by_cases hd : Des n b w
  · by_cases hk : 0 ≤ k ∧ k < n
    · obtain ⟨m, rfl, hm1, hm2⟩ := hd.n0
      refine ⟨k.toNat, by omega, by omega, ?_⟩
      rw [resNa, if_pos hd, if_pos hk]
      dsimp only
      exact nam_0 hd (by omega)
    · rw [resNa, if_pos hd, if_neg hk] at h; cases h
  · rw [resNa, if_neg hd] at h; cases h
theorem resCa_0 {n : Int} {b w : List Nat} {c : (Int × List Nat × List Nat) × Int} (hc : resCa n b w = c) (h : c.2 = 0) : resCa c.1.1 c.1.2.1 c.1.2.2 = c ∧ resAl n b w c.1.1 c.1.2.1 c.1.2.2 = (true, 0) := by
  by_cases hd : Des n b w
  · obtain ⟨m, rfl, hm1, hm2⟩ := hd.n0
    rw [resCa, if_pos hd, Int.toNat_natCast] at hc
    subst hc
    obtain ⟨h1, h2⟩ := can_des hd
    dsimp only
    refine ⟨?_, ?_⟩
    · rw [resCa, if_pos h1, Int.toNat_natCast, h2]
    · rw [resAl, if_pos ⟨hd, h1⟩, Int.toNat_natCast, alk_can hd h1, h2]
      simp
  · rw [resCa, if_neg hd] at hc
    subst hc
    cases h
theorem resRn_0 {n : Int} {b w p : List Nat} {r : (Int × List Nat × List Nat) × Int} (hr : resRn n b w p = r) : (r.2 ≠ 0 → r.1.1 = 0) ∧
    (r.2 = 0 → resCa r.1.1 r.1.2.1 r.1.2.2 = resCa n b w ∧ (resCa n b w).2 = 0 ∧ paR r.1.1 r.1.2.1 r.1.2.2 = paR n b w ∧ paC r.1.1 r.1.2.1 r.1.2.2 = 0 ∧ paC n b w = 0) := by
  by_cases hd : Des n b w ∧ Perm p n
  · obtain ⟨hd, hp⟩ := hd
    rw [resRn, if_pos ⟨hd, hp⟩] at hr
    subst hr
    refine ⟨fun h => absurd rfl h, fun _ => ?_⟩
    obtain ⟨m, rfl, hm1, hm2⟩ := hd.n0
    have h1 := rn_des hd hp
    rw [Int.toNat_natCast]
    dsimp only
    refine ⟨?_, ?_, ?_, ?_, ?_⟩
    · rw [resCa, if_pos h1, resCa, if_pos hd, Int.toNat_natCast, rn_can hd hp]
    · rw [resCa, if_pos hd]
    · rw [paR, if_pos h1, paR, if_pos hd, Int.toNat_natCast, pass_rn hd hp]
    · rw [paC, if_pos h1]
    · rw [paC, if_pos hd]
  · rw [resRn, if_neg hd] at hr
    subst hr
    exact ⟨fun _ => rfl, fun h => by cases h⟩
theorem paR_len {n : Int} {b w : List Nat} : (paR n b w).length ≤ 3 ∧ ∀ xs ∈ paR n b w, xs.length ≤ 100 := by
  by_cases hd : Des n b w
  · obtain ⟨m, rfl, hm1, hm2⟩ := hd.n0
    rw [paR, if_pos hd, Int.toNat_natCast]
    refine ⟨by simp [pass], fun xs hx => ?_⟩
    simp only [pass, List.mem_cons, List.not_mem_nil, or_false] at hx
    rcases hx with rfl | rfl | rfl
    · exact typ_len16 hd.1
    · exact typ_len16 hd.2.1
    · exact typ_len16 (face_perm hd.1 hd.2.1)
  · rw [paR, if_neg hd]
    simp
theorem FnNamings_small {code : List Nat} (hcd : ∀ i, nl code i < 256) :
    CallX false F_laws_FnNamings [FB code] [] fun v _ => v = .bool true := by
  have hz := z16_len
  refine CallX_body Γ_laws_FnNamings ?_
  simp only [A_laws_FnNamings, T_aiff]
  refine T_rseq fun Kr hKr => ?_
  simp (disch := omega) only [RA, ↓reduceIte, Nat.reduceEqDiff, RD]
  refine hKr _ _ ?_
  clear hKr Kr
  try simp only [RN, reduceIte]
  try refine T_e rfl ?_
  refine T_rseq fun Kr hKr => ?_
  simp (disch := omega) only [RA, ↓reduceIte, Nat.reduceEqDiff, RD]
  refine big_spec ?_
  simp (disch := omega) only [RA, ↓reduceIte, Nat.reduceEqDiff, RD]
  refine hKr _ _ ?_
  clear hKr Kr
  try simp only [blkQ, thenQ, loopQ]
  try simp only [RN, reduceIte]
  try refine T_e rfl ?_
  refine T_csplit (p := 4096 < code.length) (by simp only [RA, ↓reduceIte, Nat.reduceEqDiff] <;> rfl) (by (try simp only [RB]) <;> first | done | exact Iff.rfl | omega | simp) (fun hc => ?_) (fun hc => ?_) <;> (try simp only [RN, reduceIte]) <;> (try refine T_e rfl ?_)
  · refine T_rseq fun Kr hKr => ?_
    simp (disch := omega) only [RA, ↓reduceIte, Nat.reduceEqDiff, RD]
    refine hKr _ _ ?_
    clear hKr Kr
    try simp only [RN, reduceIte]
    try refine T_e rfl ?_
    refine bodyQ_ret (by simp (disch := omega) only [RA, ↓reduceIte, Nat.reduceEqDiff, RD, resAll, resOf]; rfl) GhV.refl ?_
    simp only [tup]
  have hl : code.length ≤ 1048576 := by omega
  refine T_rseq fun Kr hKr => ?_
  simp (disch := omega) only [RA, ↓reduceIte, Nat.reduceEqDiff, RD]
  refine spec_DrawRenameDessin_spec hl hcd fun n b w p hb hw hp hn => ?_
  have hlb := hb.len
  have hlw := hw.len
  have hlp := hp.len
  simp (disch := omega) only [RA, ↓reduceIte, Nat.reduceEqDiff, Nat.reduceAdd, Nat.reduceMul, Int.reduceToNat, Nat.reduceLT, reduceCtorEq, RD, RDS, RDD, hlp]
  refine hKr _ _ ?_
  clear hKr Kr
  try simp only [blkQ, thenQ, loopQ]
  try simp only [RN, reduceIte]
  try refine T_e rfl ?_
  have hrb := resRn_by (n := n) (b := b) (w := w) hp
  obtain ⟨r, hr⟩ : ∃ r, resRn n b w p = r := ⟨_, rfl⟩
  rw [hr] at hrb
  have lr1 := hrb.1.len
  have lr2 := hrb.2.len
  refine T_rseq fun Kr hKr => ?_
  simp (disch := omega) only [RA, ↓reduceIte, Nat.reduceEqDiff, Nat.reduceAdd, Nat.reduceMul, Int.reduceToNat, Nat.reduceLT, reduceCtorEq, RD, RDS, RDD, hlp]
  refine impl_RenameDessin_spec hb hw hp ?_
  rw [hr]
  simp (disch := omega) only [RA, ↓reduceIte, Nat.reduceEqDiff, Nat.reduceBEq, Nat.reduceSub, Nat.reduceAdd, Nat.reduceMul, Nat.reduceLT, Nat.reduceLeDiff, Int.reduceLE, Int.reduceLT, Int.reduceEq, Int.reduceNeg, Int.reduceToNat, Int.reduceMul, Int.reduceAdd, Int.reduceSub, Int.reduceBEq, Int.reduceBNe, reduceCtorEq, RD, RDS, RDD]
  refine hKr _ _ ?_
  clear hKr Kr
  try simp only [blkQ, thenQ, loopQ]
  try simp only [RN, reduceIte]
  try refine T_e rfl ?_
  refine T_rseq fun Kr hKr => ?_
  simp (disch := omega) only [RA, ↓reduceIte, Nat.reduceEqDiff, Nat.reduceAdd, Nat.reduceMul, Int.reduceToNat, Nat.reduceLT, reduceCtorEq, RD, RDS, RDD, hlp]
  refine spec_RenameDessin_spec hb hw hp ?_
  rw [hr]
  simp (disch := omega) only [RA, ↓reduceIte, Nat.reduceEqDiff, Nat.reduceBEq, Nat.reduceSub, Nat.reduceAdd, Nat.reduceMul, Nat.reduceLT, Nat.reduceLeDiff, Int.reduceLE, Int.reduceLT, Int.reduceEq, Int.reduceNeg, Int.reduceToNat, Int.reduceMul, Int.reduceAdd, Int.reduceSub, Int.reduceBEq, Int.reduceBNe, reduceCtorEq, RD, RDS, RDD]
  refine hKr _ _ ?_
  clear hKr Kr
  try simp only [blkQ, thenQ, loopQ]
  try simp only [RN, reduceIte]
  try refine T_e rfl ?_
  refine T_rseq fun Kr hKr => ?_
  simp (disch := omega) only [RA, ↓reduceIte, Nat.reduceEqDiff, RD, RDS, RDD, eqaV_D]
  refine hKr _ _ ?_
  clear hKr Kr
  try simp only [RN, reduceIte]
  try refine T_e rfl ?_
  refine T_cseq (t := false) (by simp (disch := omega) only [RA, ↓reduceIte, Nat.reduceEqDiff, RD]) ?_
  try simp only [RN, reduceIte]
  try refine T_e rfl ?_
  refine T_rseq fun Kr hKr => ?_
  simp (disch := omega) only [RA, ↓reduceIte, Nat.reduceEqDiff, RD]
  refine spec_DrawNamingFrom_spec hl hcd fun ne be we k hbe hwe hne hk => ?_
  have hlbe := hbe.len
  have hlwe := hwe.len
  simp (disch := omega) only [RA, ↓reduceIte, Nat.reduceEqDiff, Nat.reduceBEq, Nat.reduceSub, Nat.reduceAdd, Nat.reduceMul, Nat.reduceLT, Nat.reduceLeDiff, Int.reduceLE, Int.reduceLT, Int.reduceEq, Int.reduceNeg, Int.reduceToNat, Int.reduceMul, Int.reduceAdd, Int.reduceSub, Int.reduceBEq, Int.reduceBNe, reduceCtorEq, RD, RDS, RDD]
  refine hKr _ _ ?_
  clear hKr Kr
  try simp only [blkQ, thenQ, loopQ]
  try simp only [RN, reduceIte]
  try refine T_e rfl ?_
  have hqb := resNa_by (n := ne) (b := be) (w := we) (k := k)
  obtain ⟨q, hq⟩ : ∃ q, resNa ne be we k = q := ⟨_, rfl⟩
  rw [hq] at hqb
  have lq := hqb.len
  refine T_rseq fun Kr hKr => ?_
  simp (disch := omega) only [RA, ↓reduceIte, Nat.reduceEqDiff, Nat.reduceAdd, Nat.reduceMul, Int.reduceToNat, Nat.reduceLT, reduceCtorEq, RD, RDS, RDD]
  refine impl_NamingFrom_spec hbe hwe (by omega) ?_
  rw [hq]
  simp (disch := omega) only [RA, ↓reduceIte, Nat.reduceEqDiff, Nat.reduceAdd, Nat.reduceMul, Int.reduceToNat, Nat.reduceLT, reduceCtorEq, RD, RDS, RDD, lq]
  refine hKr _ _ ?_
  clear hKr Kr
  try simp only [blkQ, thenQ, loopQ]
  try simp only [RN, reduceIte]
  try refine T_e rfl ?_
  refine T_rseq fun Kr hKr => ?_
  simp (disch := omega) only [RA, ↓reduceIte, Nat.reduceEqDiff, Nat.reduceAdd, Nat.reduceMul, Int.reduceToNat, Nat.reduceLT, reduceCtorEq, RD, RDS, RDD]
  refine spec_NamingFrom_spec hbe hwe (by omega) ?_
  rw [hq]
  simp (disch := omega) only [RA, ↓reduceIte, Nat.reduceEqDiff, Nat.reduceAdd, Nat.reduceMul, Int.reduceToNat, Nat.reduceLT, reduceCtorEq, RD, RDS, RDD, lq]
  refine hKr _ _ ?_
  clear hKr Kr
  try simp only [blkQ, thenQ, loopQ]
  try simp only [RN, reduceIte]
  try refine T_e rfl ?_
  refine T_rseq fun Kr hKr => ?_
  simp (disch := omega) only [RA, ↓reduceIte, Nat.reduceEqDiff, RD, eqaV_PL, lq]
  refine hKr _ _ ?_
  clear hKr Kr
  try simp only [RN, reduceIte]
  try refine T_e rfl ?_
  refine T_cseq (t := false) (by simp (disch := omega) only [RA, ↓reduceIte, Nat.reduceEqDiff, RD]) ?_
  try simp only [RN, reduceIte]
  try refine T_e rfl ?_
  refine T_rseq fun Kr hKr => ?_
  simp (disch := omega) only [RA, ↓reduceIte, Nat.reduceEqDiff, RD]
  refine spec_DrawCanonicalDessin_spec hl hcd fun nf bf wf hbf hwf hnf => ?_
  have hlbf := hbf.len
  have hlwf := hwf.len
  simp (disch := omega) only [RA, ↓reduceIte, Nat.reduceEqDiff, Nat.reduceBEq, Nat.reduceSub, Nat.reduceAdd, Nat.reduceMul, Nat.reduceLT, Nat.reduceLeDiff, Int.reduceLE, Int.reduceLT, Int.reduceEq, Int.reduceNeg, Int.reduceToNat, Int.reduceMul, Int.reduceAdd, Int.reduceSub, Int.reduceBEq, Int.reduceBNe, reduceCtorEq, RD, RDS, RDD]
  refine hKr _ _ ?_
  clear hKr Kr
  try simp only [blkQ, thenQ, loopQ]
  try simp only [RN, reduceIte]
  try refine T_e rfl ?_
  have hcb := resCa_by (n := nf) hbf hwf
  obtain ⟨c, hc⟩ : ∃ c, resCa nf bf wf = c := ⟨_, rfl⟩
  rw [hc] at hcb
  have lc1 := hcb.1.len
  have lc2 := hcb.2.len
  refine T_rseq fun Kr hKr => ?_
  simp (disch := omega) only [RA, ↓reduceIte, Nat.reduceEqDiff, Nat.reduceAdd, Nat.reduceMul, Int.reduceToNat, Nat.reduceLT, reduceCtorEq, RD, RDS, RDD]
  refine impl_CanonicalDessin_spec hbf hwf ?_
  rw [hc]
  simp (disch := omega) only [RA, ↓reduceIte, Nat.reduceEqDiff, Nat.reduceBEq, Nat.reduceSub, Nat.reduceAdd, Nat.reduceMul, Nat.reduceLT, Nat.reduceLeDiff, Int.reduceLE, Int.reduceLT, Int.reduceEq, Int.reduceNeg, Int.reduceToNat, Int.reduceMul, Int.reduceAdd, Int.reduceSub, Int.reduceBEq, Int.reduceBNe, reduceCtorEq, RD, RDS, RDD]
  refine hKr _ _ ?_
  clear hKr Kr
  try simp only [blkQ, thenQ, loopQ]
  try simp only [RN, reduceIte]
  try refine T_e rfl ?_
  refine T_rseq fun Kr hKr => ?_
  simp (disch := omega) only [RA, ↓reduceIte, Nat.reduceEqDiff, Nat.reduceAdd, Nat.reduceMul, Int.reduceToNat, Nat.reduceLT, reduceCtorEq, RD, RDS, RDD]
  refine spec_CanonicalDessin_spec hbf hwf ?_
  rw [hc]
  simp (disch := omega) only [RA, ↓reduceIte, Nat.reduceEqDiff, Nat.reduceBEq, Nat.reduceSub, Nat.reduceAdd, Nat.reduceMul, Nat.reduceLT, Nat.reduceLeDiff, Int.reduceLE, Int.reduceLT, Int.reduceEq, Int.reduceNeg, Int.reduceToNat, Int.reduceMul, Int.reduceAdd, Int.reduceSub, Int.reduceBEq, Int.reduceBNe, reduceCtorEq, RD, RDS, RDD]
  refine hKr _ _ ?_
  clear hKr Kr
  try simp only [blkQ, thenQ, loopQ]
  try simp only [RN, reduceIte]
  try refine T_e rfl ?_
  refine T_rseq fun Kr hKr => ?_
  simp (disch := omega) only [RA, ↓reduceIte, Nat.reduceEqDiff, RD, RDS, RDD, eqaV_D]
  refine hKr _ _ ?_
  clear hKr Kr
  try simp only [RN, reduceIte]
  try refine T_e rfl ?_
  refine T_cseq (t := false) (by simp (disch := omega) only [RA, ↓reduceIte, Nat.reduceEqDiff, RD]) ?_
  try simp only [RN, reduceIte]
  try refine T_e rfl ?_
  obtain ⟨hr1, hr2⟩ := resRn_0 hr
  have htail : ∀ f', f' 3 = P 0 0 → f' 5 = P 2 0 → f' 6 = I r.2 → T 0 (.seq A_laws_FnNamings.r25 (.seq (.cond (.t 141) (.seq A_laws_FnNamings.r26 .ret) .skip) (.seq A_laws_FnNamings.r27 (.seq A_laws_FnNamings.r28 (.seq A_laws_FnNamings.r29 (.seq A_laws_FnNamings.r30 (.seq A_laws_FnNamings.r31 .ret)))))))
      (bodyQ 0 [.tmp 2] fun v x => v = .bool true) f' [some (DC n b w), some (p.map N8), some (DC r.1.1 r.1.2.1 r.1.2.2)] := by
    intro f' g3 g5 g6
    by_cases h0 : r.2 = 0
    · obtain ⟨e1, e2, e3, e4, e5⟩ := hr2 h0
      rw [h0] at g6
      have hpl := @paR_len n b w
      have hcb2 := resCa_by (n := n) hb hw
      obtain ⟨c2, hc2⟩ : ∃ c2, resCa n b w = c2 := ⟨_, rfl⟩
      rw [hc2] at e1 e2 hcb2
      have l1 := hcb2.1.len
      have l2 := hcb2.2.len
      refine T_rseq fun Kr hKr => ?_
      simp (disch := omega) only [RA, ↓reduceIte, Nat.reduceEqDiff, RD, g6]
      refine hKr _ _ ?_
      clear hKr Kr
      try simp only [RN, reduceIte]
      try refine T_e rfl ?_
      refine T_cseq (t := false) (by simp (disch := omega) only [RA, ↓reduceIte, Nat.reduceEqDiff, RD]) ?_
      try simp only [RN, reduceIte]
      try refine T_e rfl ?_
      refine T_rseq fun Kr hKr => ?_
      simp (disch := omega) only [RA, ↓reduceIte, Nat.reduceEqDiff, RD, g3, RDS, RDD]
      refine impl_CanonicalDessin_spec hb hw ?_
      rw [hc2]
      simp (disch := omega) only [RA, ↓reduceIte, Nat.reduceEqDiff, Nat.reduceBEq, Nat.reduceSub, Nat.reduceAdd, Nat.reduceMul, Nat.reduceLT, Nat.reduceLeDiff, Int.reduceLE, Int.reduceLT, Int.reduceEq, Int.reduceNeg, Int.reduceToNat, Int.reduceMul, Int.reduceAdd, Int.reduceSub, Int.reduceBEq, Int.reduceBNe, reduceCtorEq, RD, RDS, RDD]
      refine hKr _ _ ?_
      clear hKr Kr
      try simp only [blkQ, thenQ, loopQ]
      try simp only [RN, reduceIte]
      try refine T_e rfl ?_
      refine T_rseq fun Kr hKr => ?_
      simp (disch := omega) only [RA, ↓reduceIte, Nat.reduceEqDiff, RD, g5, RDS, RDD]
      refine impl_CanonicalDessin_spec hrb.1 hrb.2 ?_
      rw [e1]
      simp (disch := omega) only [RA, ↓reduceIte, Nat.reduceEqDiff, Nat.reduceBEq, Nat.reduceSub, Nat.reduceAdd, Nat.reduceMul, Nat.reduceLT, Nat.reduceLeDiff, Int.reduceLE, Int.reduceLT, Int.reduceEq, Int.reduceNeg, Int.reduceToNat, Int.reduceMul, Int.reduceAdd, Int.reduceSub, Int.reduceBEq, Int.reduceBNe, reduceCtorEq, RD, RDS, RDD]
      refine hKr _ _ ?_
      clear hKr Kr
      try simp only [blkQ, thenQ, loopQ]
      try simp only [RN, reduceIte]
      try refine T_e rfl ?_
      refine T_rseq fun Kr hKr => ?_
      simp (disch := omega) only [RA, ↓reduceIte, Nat.reduceEqDiff, RD, g3, RDS, RDD]
      refine impl_PassportOf_spec hb hw ?_
      rw [e5]
      simp (disch := omega) only [RA, ↓reduceIte, Nat.reduceEqDiff, Nat.reduceBEq, Nat.reduceSub, Nat.reduceAdd, Nat.reduceMul, Nat.reduceLT, Nat.reduceLeDiff, Int.reduceLE, Int.reduceLT, Int.reduceEq, Int.reduceNeg, Int.reduceToNat, Int.reduceMul, Int.reduceAdd, Int.reduceSub, Int.reduceBEq, Int.reduceBNe, reduceCtorEq, RD, RDS, RDD]
      refine hKr _ _ ?_
      clear hKr Kr
      try simp only [blkQ, thenQ, loopQ]
      try simp only [RN, reduceIte]
      try refine T_e rfl ?_
      refine T_rseq fun Kr hKr => ?_
      simp (disch := omega) only [RA, ↓reduceIte, Nat.reduceEqDiff, RD, g5, RDS, RDD]
      refine impl_PassportOf_spec hrb.1 hrb.2 ?_
      rw [e3, e4]
      simp (disch := omega) only [RA, ↓reduceIte, Nat.reduceEqDiff, Nat.reduceBEq, Nat.reduceSub, Nat.reduceAdd, Nat.reduceMul, Nat.reduceLT, Nat.reduceLeDiff, Int.reduceLE, Int.reduceLT, Int.reduceEq, Int.reduceNeg, Int.reduceToNat, Int.reduceMul, Int.reduceAdd, Int.reduceSub, Int.reduceBEq, Int.reduceBNe, reduceCtorEq, RD, RDS, RDD]
      refine hKr _ _ ?_
      clear hKr Kr
      try simp only [blkQ, thenQ, loopQ]
      try simp only [RN, reduceIte]
      try refine T_e rfl ?_
      refine T_rseq fun Kr hKr => ?_
      simp (disch := omega) only [RA, ↓reduceIte, Nat.reduceEqDiff, RD, RDS, RDD, eqaV_D, e2, LN_FII]
      refine lists9_spec (by simp; omega) (by simp; omega) (fun ys hy => ?_) (fun ys hy => ?_) ?_
      · obtain ⟨u, hu, rfl⟩ := List.mem_map.1 hy
        rw [toI_len]
        have := hpl.2 u hu
        omega
      · obtain ⟨u, hu, rfl⟩ := List.mem_map.1 hy
        rw [toI_len]
        have := hpl.2 u hu
        omega
      rw [decide_eq_true rfl]
      simp (disch := omega) only [RA, ↓reduceIte, Nat.reduceEqDiff, RD]
      refine hKr _ _ ?_
      clear hKr Kr
      try simp only [blkQ, thenQ, loopQ]
      try simp only [RN, reduceIte]
      try refine T_e rfl ?_
      refine bodyQ_ret (by simp (disch := omega) only [RA, ↓reduceIte, Nat.reduceEqDiff, RD, resAll, resOf]; rfl) GhV.refl ?_
      simp only [tup]
    · have h1 := hr1 h0
      refine T_rseq fun Kr hKr => ?_
      simp (disch := omega) only [RA, ↓reduceIte, Nat.reduceEqDiff, RD, g6, h0]
      refine hKr _ _ ?_
      clear hKr Kr
      try simp only [RN, reduceIte]
      try refine T_e rfl ?_
      refine T_cseq (t := true) (by simp (disch := omega) only [RA, ↓reduceIte, Nat.reduceEqDiff, RD]) ?_
      try simp only [RN, reduceIte]
      try refine T_e rfl ?_
      refine T_rseq fun Kr hKr => ?_
      simp (disch := omega) only [RA, ↓reduceIte, Nat.reduceEqDiff, RD, g5, RDS, h1]
      refine hKr _ _ ?_
      clear hKr Kr
      try simp only [RN, reduceIte]
      try refine T_e rfl ?_
      refine bodyQ_ret (by simp (disch := omega) only [RA, ↓reduceIte, Nat.reduceEqDiff, RD, resAll, resOf]; rfl) GhV.refl ?_
      simp only [tup]
  have hmid : ∀ f', f' 3 = P 0 0 → f' 5 = P 2 0 → f' 6 = I r.2 → f' 15 = P 3 0 → f' 16 = P 4 0 → f' 17 = I c.2 → T 0 (.seq A_laws_FnNamings.r20 (.seq (.cond (.t 113) (.seq A_laws_FnNamings.r21 (.seq A_laws_FnNamings.r22 (.seq A_laws_FnNamings.r23 (.cond (.t 139) (.seq A_laws_FnNamings.r24 .ret) .skip)))) .skip) (.seq (.seq A_laws_FnNamings.r25 (.cond (.t 141) (.seq A_laws_FnNamings.r26 .ret) .skip)) (.seq A_laws_FnNamings.r27 (.seq A_laws_FnNamings.r28 (.seq A_laws_FnNamings.r29 (.seq A_laws_FnNamings.r30 (.seq A_laws_FnNamings.r31 .ret))))))))
      (bodyQ 0 [.tmp 2] fun v x => v = .bool true) f' [some (DC n b w), some (p.map N8), some (DC r.1.1 r.1.2.1 r.1.2.2), some (DC nf bf wf), some (DC c.1.1 c.1.2.1 c.1.2.2)] := by
    intro f' g3 g5 g6 g15 g16 g17
    by_cases hc0 : c.2 = 0
    · obtain ⟨f1, f2⟩ := resCa_0 hc hc0
      rw [hc0] at g17
      refine T_rseq fun Kr hKr => ?_
      simp (disch := omega) only [RA, ↓reduceIte, Nat.reduceEqDiff, RD, g17]
      refine hKr _ _ ?_
      clear hKr Kr
      try simp only [RN, reduceIte]
      try refine T_e rfl ?_
      refine T_cseq (t := true) (by simp (disch := omega) only [RA, ↓reduceIte, Nat.reduceEqDiff, RD]) ?_
      try simp only [RN, reduceIte]
      try refine T_e rfl ?_
      refine T_rseq fun Kr hKr => ?_
      simp (disch := omega) only [RA, ↓reduceIte, Nat.reduceEqDiff, RD, g16, RDS, RDD]
      refine impl_CanonicalDessin_spec hcb.1 hcb.2 ?_
      rw [f1]
      simp (disch := omega) only [RA, ↓reduceIte, Nat.reduceEqDiff, Nat.reduceBEq, Nat.reduceSub, Nat.reduceAdd, Nat.reduceMul, Nat.reduceLT, Nat.reduceLeDiff, Int.reduceLE, Int.reduceLT, Int.reduceEq, Int.reduceNeg, Int.reduceToNat, Int.reduceMul, Int.reduceAdd, Int.reduceSub, Int.reduceBEq, Int.reduceBNe, reduceCtorEq, RD, RDS, RDD]
      refine hKr _ _ ?_
      clear hKr Kr
      try simp only [blkQ, thenQ, loopQ]
      try simp only [RN, reduceIte]
      try refine T_e rfl ?_
      refine T_rseq fun Kr hKr => ?_
      simp (disch := omega) only [RA, ↓reduceIte, Nat.reduceEqDiff, RD, g15, g16, RDS, RDD]
      refine impl_AreAlike_spec hbf hwf hcb.1 hcb.2 ?_
      rw [f2]
      simp (disch := omega) only [RA, ↓reduceIte, Nat.reduceEqDiff, RD]
      refine hKr _ _ ?_
      clear hKr Kr
      try simp only [blkQ, thenQ, loopQ]
      try simp only [RN, reduceIte]
      try refine T_e rfl ?_
      refine T_rseq fun Kr hKr => ?_
      simp (disch := omega) only [RA, ↓reduceIte, Nat.reduceEqDiff, RD, g16, RDS, RDD, eqaV_D, hc0]
      refine hKr _ _ ?_
      clear hKr Kr
      try simp only [RN, reduceIte]
      try refine T_e rfl ?_
      refine T_cseq (t := false) (by simp (disch := omega) only [RA, ↓reduceIte, Nat.reduceEqDiff, RD]) ?_
      try simp only [RN, reduceIte]
      try refine T_e rfl ?_
      refine T_gh (Gh.nrm [0, 1, 2] rfl rfl (by simp only [RH, NN_D])) ?_
      refine htail _ ?_ ?_ ?_
      any_goals (simp (disch := omega) only [RA, ↓reduceIte, Nat.reduceEqDiff, RD, RE, *] <;> rfl)
    · refine T_rseq fun Kr hKr => ?_
      simp (disch := omega) only [RA, ↓reduceIte, Nat.reduceEqDiff, RD, g17, hc0]
      refine hKr _ _ ?_
      clear hKr Kr
      try simp only [RN, reduceIte]
      try refine T_e rfl ?_
      refine T_cseq (t := false) (by simp (disch := omega) only [RA, ↓reduceIte, Nat.reduceEqDiff, RD]) ?_
      try simp only [RN, reduceIte]
      try refine T_e rfl ?_
      refine T_gh (Gh.nrm [0, 1, 2] rfl rfl (by simp only [RH, NN_D])) ?_
      refine htail _ ?_ ?_ ?_
      any_goals (simp (disch := omega) only [RA, ↓reduceIte, Nat.reduceEqDiff, RD, RE, *] <;> rfl)
  by_cases h0 : q.2 = 0
  · obtain ⟨j, rfl, hj, hj0⟩ := resNa_0 (by rw [hq]; exact h0)
    rw [hq] at hj0
    refine T_rseq fun Kr hKr => ?_
    simp (disch := omega) only [RA, ↓reduceIte, Nat.reduceEqDiff, RD, lq, h0, hj0]
    refine hKr _ _ ?_
    clear hKr Kr
    try simp only [RN, reduceIte]
    try refine T_e rfl ?_
    refine T_cseq (t := false) (by simp (disch := omega) only [RA, ↓reduceIte, Nat.reduceEqDiff, RD]) ?_
    try simp only [RN, reduceIte]
    try refine T_e rfl ?_
    refine T_gh (Gh.nrm [0, 1, 2, 7, 8] rfl rfl (by simp only [RH, NN_D])) ?_
    refine hmid _ ?_ ?_ ?_ ?_ ?_ ?_
    any_goals (simp (disch := omega) only [RA, ↓reduceIte, Nat.reduceEqDiff, RD, RE, *] <;> rfl)
  · refine T_rseq fun Kr hKr => ?_
    simp (disch := omega) only [RA, ↓reduceIte, Nat.reduceEqDiff, RD, lq, h0]
    refine hKr _ _ ?_
    clear hKr Kr
    try simp only [RN, reduceIte]
    try refine T_e rfl ?_
    refine T_cseq (t := false) (by simp (disch := omega) only [RA, ↓reduceIte, Nat.reduceEqDiff, RD]) ?_
    try simp only [RN, reduceIte]
    try refine T_e rfl ?_
    refine T_gh (Gh.nrm [0, 1, 2, 7, 8] rfl rfl (by simp only [RH, NN_D])) ?_
    refine hmid _ ?_ ?_ ?_ ?_ ?_ ?_
    any_goals (simp (disch := omega) only [RA, ↓reduceIte, Nat.reduceEqDiff, RD, RE, *] <;> rfl)
end Go.Bm
