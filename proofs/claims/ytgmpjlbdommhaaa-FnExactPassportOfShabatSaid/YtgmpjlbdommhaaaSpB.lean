/- Division, the program's own; common divisors. -/
import Derived.Test.YtgmpjlbdommhaaaSpA
set_option linter.unusedVariables false
set_option linter.unusedSimpArgs false
namespace Go.Am
open Go

theorem Clone_spec {H : AHeap} {v : Value} {xs : List Int} {K : Value → AHeap → Prop} (hx : IsI H v xs) (hl : xs.length < 100000) (hK : ∀ v' H', Ext H H' → OwnI H.n H'.n H' v' xs → K v' H') : CallT F_slices_Clone_int64_int64 [v] H K := by
  obtain ⟨v', H', ha, ho, hout⟩ := appendS (own_empty H) (hx.ext (Ext.alloc H [])) (by simp) (by omega)
  refine CallT_body Γ_slices_Clone_int64_int64 ?_
  simp only [A_slices_Clone_int64_int64, T_aiff]
  refine T_rseq fun Kr hKr => ?_
  simp (disch := omega) only [RF, RO, RC, bodyQ, resAll, resOf, tup, ↓reduceIte, Nat.reduceEqDiff, Nat.reduceSub, Nat.reduceAdd, Nat.reduceMul, Nat.reduceLT, Nat.reduceLeDiff, Int.reduceLE, Int.reduceLT, Int.reduceEq, Int.reduceNeg, Int.reduceToNat, Int.reduceMul, Int.reduceAdd, Int.reduceSub, Int.reduceBEq, Int.reduceBNe, reduceCtorEq, RD]
  refine hKr _ _ ?_
  clear hKr Kr
  try simp only [RN, if_true, if_false, Bool.false_eq_true, if_pos, reduceIte]
  rcases hx with ⟨rfl, rfl⟩ | ⟨b, o, blk, rfl, hb, hg, hl', hel⟩
  · refine T_rseq fun Kr hKr => ?_
    simp (disch := omega) only [RF, RO, RC, bodyQ, resAll, resOf, tup, ↓reduceIte, Nat.reduceEqDiff, Nat.reduceSub, Nat.reduceAdd, Nat.reduceMul, Nat.reduceLT, Nat.reduceLeDiff, Int.reduceLE, Int.reduceLT, Int.reduceEq, Int.reduceNeg, Int.reduceToNat, Int.reduceMul, Int.reduceAdd, Int.reduceSub, Int.reduceBEq, Int.reduceBNe, reduceCtorEq, RD]
    refine hKr _ _ ?_
    clear hKr Kr
    try simp only [RN, if_true, if_false, Bool.false_eq_true, if_pos, reduceIte]
    refine T_cseq (t := true) (by simp (disch := omega) only [RF, RO, RC, bodyQ, resAll, resOf, tup, ↓reduceIte, Nat.reduceEqDiff, Nat.reduceSub, Nat.reduceAdd, Nat.reduceMul, Nat.reduceLT, Nat.reduceLeDiff, Int.reduceLE, Int.reduceLT, Int.reduceEq, Int.reduceNeg, Int.reduceToNat, Int.reduceMul, Int.reduceAdd, Int.reduceSub, Int.reduceBEq, Int.reduceBNe, reduceCtorEq, decT, decF]) ?_
    try simp only [RN, if_true, if_false, Bool.false_eq_true, if_pos, reduceIte]
    refine T_rseq fun Kr hKr => ?_
    simp (disch := omega) only [RF, RO, RC, bodyQ, resAll, resOf, tup, ↓reduceIte, Nat.reduceEqDiff, Nat.reduceSub, Nat.reduceAdd, Nat.reduceMul, Nat.reduceLT, Nat.reduceLeDiff, Int.reduceLE, Int.reduceLT, Int.reduceEq, Int.reduceNeg, Int.reduceToNat, Int.reduceMul, Int.reduceAdd, Int.reduceSub, Int.reduceBEq, Int.reduceBNe, reduceCtorEq, RD]
    refine hKr _ _ ?_
    clear hKr Kr
    try simp only [RN, if_true, if_false, Bool.false_eq_true, if_pos, reduceIte]
    refine ⟨_, rfl, ?_⟩
    simp only [RF, ev_t, ev_c, tup, ↓reduceIte, Nat.reduceEqDiff]
    exact hK _ _ (Ext.refl' _) .nil
  · refine T_rseq fun Kr hKr => ?_
    simp (disch := omega) only [RF, RO, RC, bodyQ, resAll, resOf, tup, ↓reduceIte, Nat.reduceEqDiff, Nat.reduceSub, Nat.reduceAdd, Nat.reduceMul, Nat.reduceLT, Nat.reduceLeDiff, Int.reduceLE, Int.reduceLT, Int.reduceEq, Int.reduceNeg, Int.reduceToNat, Int.reduceMul, Int.reduceAdd, Int.reduceSub, Int.reduceBEq, Int.reduceBNe, reduceCtorEq, RD]
    refine hKr _ _ ?_
    clear hKr Kr
    try simp only [RN, if_true, if_false, Bool.false_eq_true, if_pos, reduceIte]
    refine T_cseq (t := false) (by simp (disch := omega) only [RF, RO, RC, bodyQ, resAll, resOf, tup, ↓reduceIte, Nat.reduceEqDiff, Nat.reduceSub, Nat.reduceAdd, Nat.reduceMul, Nat.reduceLT, Nat.reduceLeDiff, Int.reduceLE, Int.reduceLT, Int.reduceEq, Int.reduceNeg, Int.reduceToNat, Int.reduceMul, Int.reduceAdd, Int.reduceSub, Int.reduceBEq, Int.reduceBNe, reduceCtorEq, decT, decF]) ?_
    try simp only [RN, if_true, if_false, Bool.false_eq_true, if_pos, reduceIte]
    refine T_rseq fun Kr hKr => ?_
    simp (disch := omega) only [RF, RO, RC, bodyQ, resAll, resOf, tup, ↓reduceIte, Nat.reduceEqDiff, Nat.reduceSub, Nat.reduceAdd, Nat.reduceMul, Nat.reduceLT, Nat.reduceLeDiff, Int.reduceLE, Int.reduceLT, Int.reduceEq, Int.reduceNeg, Int.reduceToNat, Int.reduceMul, Int.reduceAdd, Int.reduceSub, Int.reduceBEq, Int.reduceBNe, reduceCtorEq, RD, ha]
    refine hKr _ _ ?_
    clear hKr Kr
    try simp only [RN, if_true, if_false, Bool.false_eq_true, if_pos, reduceIte]
    refine ⟨_, rfl, ?_⟩
    simp only [RF, ev_t, ev_c, tup, ↓reduceIte, Nat.reduceEqDiff]
    refine hK _ _ ⟨Nat.le_trans (Nat.le_succ _) hout.n, fun b hb => (hout.get b (Nat.lt_succ_of_lt hb) (.inl hb)).trans (get_alloc_ne _ _ _ (by omega))⟩ ?_
    simpa using ho.weak (Nat.le_succ _) (Nat.le_refl _)
theorem md_sub {r b n : Int} : md (r + (10007 - b) * n) = md (r + -n * b) := by
  rw [Int.sub_mul, Int.neg_mul, Int.mul_comm n b]
  unfold md
  omega
theorem dstep_gen {rs zs g : List Int} {c : Int} (hr : Red rs) (hle : g.length ≤ rs.length) (hz : zs.length = rs.length) (h1 : ∀ j, j < rs.length - g.length → el zs j = el rs j)
    (h2 : ∀ i, i < g.length → el zs (rs.length - g.length + i) = md (el rs (rs.length - g.length + i) + -c * el g i)) : trim zs = dstep rs g c := by
  have : zs = gen (max rs.length (pad0 (rs.length - g.length) g).length) fun i => md (el rs i + -c * el (pad0 (rs.length - g.length) g) i) := by
    refine gen_ext (by rw [hz, pad0_len]; omega) fun i hi => ?_
    rw [pad0_len] at hi
    by_cases h : i < rs.length - g.length
    · have hb := hr.1 i
      rw [h1 i h, el_pad0_lo h, Int.mul_zero, Int.add_zero, md_id hb.1 hb.2]
    · rw [show i = rs.length - g.length + (i - (rs.length - g.length)) by omega, h2 _ (by omega), el_pad0_hi]
  rw [dstep, padd, ← this]

theorem divide_spec {H : AHeap} {v u : Value} {xs ys : List Int} {K : Value → AHeap → Prop} (hx : IsI H v xs) (hrx : Red xs) (hlx : xs.length < 1000) (hy : IsI H u ys) (hry : Red ys) (hy0 : 0 < ys.length) (hly : ys.length < 1000)
    (hK : ∀ q v' H', Ext H H' → OwnI H.n H'.n H' v' (rem xs ys) → K (.tuple ⟨[q, v']⟩) H') : CallT F_impl_divide [v, u] H K := by
  obtain ⟨a, e, rfl⟩ := hx.len
  obtain ⟨b, o, blk, rfl, hb, hg, hlen, hel⟩ := hy.pos hy0
  have ht := hry.top hy0
  have hiv := inv_bd (top ys)
  have hlast : (ys.length : Int) - 1 = ((ys.length - 1 : Nat) : Int) := by omega
  have hlt : ys.length - 1 < ys.length := by omega
  generalize hQ : (if ys.length ≤ xs.length then xs.length - ys.length + 1 else 0) = Q
  have hQ' : (if (0 : Int) > (xs.length : Int) - (ys.length : Int) + 1 then (0 : Int) else (xs.length : Int) - (ys.length : Int) + 1) = (Q : Int) := by
    subst hQ; split <;> split <;> omega
  have hQ2 : (if (xs.length : Int) - (ys.length : Int) + 1 < (0 : Int) then (0 : Int) else (xs.length : Int) - (ys.length : Int) + 1) = (Q : Int) := hQ'
  have hw : IntKind.i64.wrap ((xs.length : Int) - (ys.length : Int)) = (xs.length : Int) - (ys.length : Int) := w64 (by omega) (by omega)
  have hw2 : IntKind.i64.wrap ((xs.length : Int) - (ys.length : Int) + 1) = (xs.length : Int) - (ys.length : Int) + 1 := w64 (by omega) (by omega)
  have hQ1000 : Q < 2000 := by subst hQ; split <;> omega
  refine CallT_body Γ_impl_divide ?_
  simp only [A_impl_divide, T_aiff]
  refine T_rseq fun Kr hKr => ?_
  simp (disch := omega) only [RF, RO, RC, bodyQ, resAll, resOf, tup, ↓reduceIte, Nat.reduceEqDiff, Nat.reduceSub, Nat.reduceAdd, Nat.reduceMul, Nat.reduceLT, Nat.reduceLeDiff, Int.reduceLE, Int.reduceLT, Int.reduceEq, Int.reduceNeg, Int.reduceToNat, Int.reduceMul, Int.reduceAdd, Int.reduceSub, Int.reduceBEq, Int.reduceBNe, reduceCtorEq, RD]
  refine hKr _ _ ?_
  clear hKr Kr
  try simp only [RN, if_true, if_false, Bool.false_eq_true, if_pos, reduceIte]
  refine T_rseq fun Kr hKr => ?_
  simp (disch := omega) only [RF, RO, RC, bodyQ, resAll, resOf, tup, ↓reduceIte, Nat.reduceEqDiff, Nat.reduceSub, Nat.reduceAdd, Nat.reduceMul, Nat.reduceLT, Nat.reduceLeDiff, Int.reduceLE, Int.reduceLT, Int.reduceEq, Int.reduceNeg, Int.reduceToNat, Int.reduceMul, Int.reduceAdd, Int.reduceSub, Int.reduceBEq, Int.reduceBNe, reduceCtorEq, RD]
  refine Clone_spec hx (by omega) fun r0 H1 he1 ho1 => ?_
  simp (disch := omega) only [RF, RO, RC, bodyQ, resAll, resOf, tup, ↓reduceIte, Nat.reduceEqDiff, Nat.reduceSub, Nat.reduceAdd, Nat.reduceMul, Nat.reduceLT, Nat.reduceLeDiff, Int.reduceLE, Int.reduceLT, Int.reduceEq, Int.reduceNeg, Int.reduceToNat, Int.reduceMul, Int.reduceAdd, Int.reduceSub, Int.reduceBEq, Int.reduceBNe, reduceCtorEq, RD]
  refine hKr _ _ ?_
  clear hKr Kr
  try simp only [blkQ, thenQ, loopQ]
  try simp only [RN, if_true, if_false, Bool.false_eq_true, if_pos, reduceIte]
  refine T_rseq fun Kr hKr => ?_
  simp (disch := omega) only [RF, RO, RC, bodyQ, resAll, resOf, tup, ↓reduceIte, Nat.reduceEqDiff, Nat.reduceSub, Nat.reduceAdd, Nat.reduceMul, Nat.reduceLT, Nat.reduceLeDiff, Int.reduceLE, Int.reduceLT, Int.reduceEq, Int.reduceNeg, Int.reduceToNat, Int.reduceMul, Int.reduceAdd, Int.reduceSub, Int.reduceBEq, Int.reduceBNe, reduceCtorEq, RD, hw, hw2, hQ2]
  refine hKr _ _ ?_
  clear hKr Kr
  try simp only [RN, if_true, if_false, Bool.false_eq_true, if_pos, reduceIte]
  have hm1 := own_make H1 Q
  have he2 := Ext.alloc H1 (repl [.int .i64 0] Q)
  generalize hH2 : H1.alloc (repl [.int .i64 0] Q) = H2 at hm1 he2 ⊢
  have hn2 : H2.n = H1.n + 1 := by rw [← hH2]; rfl
  have hg2 : H2.get b = some blk := by rw [he2.get b (Nat.lt_of_lt_of_le hb he1.n), he1.get b hb]; exact hg
  refine T_rseq fun Kr hKr => ?_
  simp (disch := omega) only [RF, RO, RC, bodyQ, resAll, resOf, tup, ↓reduceIte, Nat.reduceEqDiff, Nat.reduceSub, Nat.reduceAdd, Nat.reduceMul, Nat.reduceLT, Nat.reduceLeDiff, Int.reduceLE, Int.reduceLT, Int.reduceEq, Int.reduceNeg, Int.reduceToNat, Int.reduceMul, Int.reduceAdd, Int.reduceSub, Int.reduceBEq, Int.reduceBNe, reduceCtorEq, RD, hlast, hlt, hg2, hel]
  refine inverse_spec (by show 0 ≤ top ys; omega) (by show top ys ≤ 10007; omega) ?_
  simp (disch := omega) only [RF, RO, RC, bodyQ, resAll, resOf, tup, ↓reduceIte, Nat.reduceEqDiff, Nat.reduceSub, Nat.reduceAdd, Nat.reduceMul, Nat.reduceLT, Nat.reduceLeDiff, Int.reduceLE, Int.reduceLT, Int.reduceEq, Int.reduceNeg, Int.reduceToNat, Int.reduceMul, Int.reduceAdd, Int.reduceSub, Int.reduceBEq, Int.reduceBNe, reduceCtorEq, RD]
  refine hKr _ _ ?_
  clear hKr Kr
  try simp only [blkQ, thenQ, loopQ]
  try simp only [RN, if_true, if_false, Bool.false_eq_true, if_pos, reduceIte]
  refine T_wloop (fun n f H' => ∃ r rs qs rlo rhi, n = rs.length ∧ Ext H H' ∧ f 1 = S b o ys.length 1 ∧ f 6 = r ∧ f 8 = I (inv (top ys)) ∧ f 7 = S H1.n 0 Q 1 ∧ OwnI rlo rhi H' r rs ∧ OwnI H1.n (H1.n + 1) H' (S H1.n 0 Q 1) qs ∧ H.n ≤ rlo ∧ rhi ≤ H'.n ∧ (H1.n + 1 ≤ rlo ∨ rhi ≤ H1.n) ∧ Red rs ∧ rs.length ≤ xs.length ∧ rem rs ys = rem xs ys ∧ qs.length = Q) (xs.length) ?_ ?_
  · exact ⟨r0, xs, List.replicate Q 0, H.n, H1.n, rfl, he1.trans' he2, by simp [RF], by simp [RF], by simp [RF]; rfl, by simp [RF], ho1.ext he2, hm1, Nat.le_refl _, he2.n, .inr (Nat.le_refl _), hrx, Nat.le_refl _, rfl, by simp⟩
  · clear hm1 ho1 hH2 hg2
    rintro n f H' R ⟨r, rs, qs, rlo, rhi, rfl, he, h1, h6, h8, h7, hr, hq, hN1, hr2, hdis, hred, hrl, hrem, hql⟩ hN hX hR
    simp only [A_impl_divide.l1, T_aiff]
    obtain ⟨ra, re, rfl⟩ := hr.len
    refine T_rseq fun Kr hKr => ?_
    simp (disch := omega) only [RF, RO, RC, bodyQ, resAll, resOf, tup, ↓reduceIte, Nat.reduceEqDiff, Nat.reduceSub, Nat.reduceAdd, Nat.reduceMul, Nat.reduceLT, Nat.reduceLeDiff, Int.reduceLE, Int.reduceLT, Int.reduceEq, Int.reduceNeg, Int.reduceToNat, Int.reduceMul, Int.reduceAdd, Int.reduceSub, Int.reduceBEq, Int.reduceBNe, reduceCtorEq, RD, h1, h6]
    refine hKr _ _ ?_
    clear hKr Kr
    try simp only [RN, if_true, if_false, Bool.false_eq_true, if_pos, reduceIte]
    by_cases hge : ys.length ≤ rs.length
    · refine T_cseq (t := true) (by simp (disch := omega) only [RF, RO, RC, bodyQ, resAll, resOf, tup, ↓reduceIte, Nat.reduceEqDiff, Nat.reduceSub, Nat.reduceAdd, Nat.reduceMul, Nat.reduceLT, Nat.reduceLeDiff, Int.reduceLE, Int.reduceLT, Int.reduceEq, Int.reduceNeg, Int.reduceToNat, Int.reduceMul, Int.reduceAdd, Int.reduceSub, Int.reduceBEq, Int.reduceBNe, reduceCtorEq, decT, decF]) ?_
      try simp only [RN, if_true, if_false, Bool.false_eq_true, if_pos, reduceIte]
      first | refine T_bfree rfl ?_ | refine T_bfree' rfl ?_
      try simp only [RN, if_true, if_false, Bool.false_eq_true, if_pos, reduceIte]
      obtain ⟨rb, rrest, heq, hb1, hb2, hb3, hgr⟩ := hr.pos (by omega)
      cases heq
      have hi : (rs.length : Int) - 1 = ((rs.length - 1 : Nat) : Int) := by omega
      have hs : (rs.length : Int) - (ys.length : Int) = ((rs.length - ys.length : Nat) : Int) := by omega
      have hn1 : rs.length - 1 < rs.length := by omega
      have htr := hred.top (by omega)
      have hm := mulb (a := el rs (rs.length - 1)) (b := inv (top ys)) (by show 0 ≤ top rs; omega) (by show top rs ≤ _; omega) hiv.1 (by omega)
      refine T_rseq fun Kr hKr => ?_
      simp (disch := omega) only [RF, RO, RC, bodyQ, resAll, resOf, tup, ↓reduceIte, Nat.reduceEqDiff, Nat.reduceSub, Nat.reduceAdd, Nat.reduceMul, Nat.reduceLT, Nat.reduceLeDiff, Int.reduceLE, Int.reduceLT, Int.reduceEq, Int.reduceNeg, Int.reduceToNat, Int.reduceMul, Int.reduceAdd, Int.reduceSub, Int.reduceBEq, Int.reduceBNe, reduceCtorEq, RD, h1, h6, hs]
      refine hKr _ _ ?_
      clear hKr Kr
      try simp only [RN, if_true, if_false, Bool.false_eq_true, if_pos, reduceIte]
      refine T_rseq fun Kr hKr => ?_
      simp (disch := omega) only [RF, RO, RC, bodyQ, resAll, resOf, tup, ↓reduceIte, Nat.reduceEqDiff, Nat.reduceSub, Nat.reduceAdd, Nat.reduceMul, Nat.reduceLT, Nat.reduceLeDiff, Int.reduceLE, Int.reduceLT, Int.reduceEq, Int.reduceNeg, Int.reduceToNat, Int.reduceMul, Int.reduceAdd, Int.reduceSub, Int.reduceBEq, Int.reduceBNe, reduceCtorEq, RD, h6, h8, hi, hn1, hgr, tmodm]
      refine hKr _ _ ?_
      clear hKr Kr
      try simp only [RN, if_true, if_false, Bool.false_eq_true, if_pos, reduceIte]
      generalize hc : md (el rs (rs.length - 1) * inv (top ys)) = c
      have hlq1 : 0 ≤ c := by rw [← hc]; exact md_lo _
      have hlq2 : c ≤ 10006 := by rw [← hc]; exact md_hi _
      have hQq : Q = xs.length - ys.length + 1 := by rw [← hQ, if_pos (by omega)]
      obtain ⟨qb, qrest, heq, hc1, hc2, hc3, hgq⟩ := hq.pos (by omega)
      rw [hql] at heq
      cases heq
      refine T_rseq fun Kr hKr => ?_
      simp (disch := omega) only [RF, RO, RC, bodyQ, resAll, resOf, tup, ↓reduceIte, Nat.reduceEqDiff, Nat.reduceSub, Nat.reduceAdd, Nat.reduceMul, Nat.reduceLT, Nat.reduceLeDiff, Int.reduceLE, Int.reduceLT, Int.reduceEq, Int.reduceNeg, Int.reduceToNat, Int.reduceMul, Int.reduceAdd, Int.reduceSub, Int.reduceBEq, Int.reduceBNe, reduceCtorEq, RD, h7, hgq]
      refine hKr _ _ ?_
      clear hKr Kr
      try simp only [RN, if_true, if_false, Bool.false_eq_true, if_pos, reduceIte]
      have hout : Out H1.n (H1.n + 1) H' (H'.set H1.n (List.map I (qs.set (rs.length - ys.length) c) ++ qrest)) := Out.set (.refl) ⟨hc1, hc2⟩ _
      have hE0 := he.out hout he1.n
      have hr' := hr.out hout (by omega)
      have hq' : OwnI H1.n (H1.n + 1) (H'.set H1.n (List.map I (qs.set (rs.length - ys.length) c) ++ qrest)) (S H1.n 0 Q 1) (qs.set (rs.length - ys.length) c) := .inr ⟨H1.n, qrest, by rw [List.length_set, hql], hc1, hc2, hc3, get_set_same _ _ _⟩
      have hnn : (H'.set H1.n (List.map I (qs.set (rs.length - ys.length) c) ++ qrest)).n = H'.n := rfl
      simp only [List.map_set] at hout hE0 hr' hq' hnn ⊢
      generalize hH3 : H'.set H1.n ((List.map I qs).set (rs.length - ys.length) (I c) ++ qrest) = H3 at hout hE0 hr' hq' hnn ⊢
      refine T_rseq fun Kr hKr => ?_
      simp (disch := omega) only [RF, RO, RC, bodyQ, resAll, resOf, tup, ↓reduceIte, Nat.reduceEqDiff, Nat.reduceSub, Nat.reduceAdd, Nat.reduceMul, Nat.reduceLT, Nat.reduceLeDiff, Int.reduceLE, Int.reduceLT, Int.reduceEq, Int.reduceNeg, Int.reduceToNat, Int.reduceMul, Int.reduceAdd, Int.reduceSub, Int.reduceBEq, Int.reduceBNe, reduceCtorEq, RD, h1]
      refine hKr _ _ ?_
      clear hKr Kr
      try simp only [RN, if_true, if_false, Bool.false_eq_true, if_pos, reduceIte]
      refine T_wloop (fun n f H4 => ∃ k zs, k ≤ ys.length ∧ n = ys.length - k ∧ Ext H H4 ∧ H4.n = H'.n ∧ f 1 = S b o ys.length 1 ∧ f 6 = S rb 0 rs.length 1 ∧ f 8 = I (inv (top ys)) ∧ f 7 = S H1.n 0 Q 1 ∧ f 9 = I ((rs.length - ys.length : Nat) : Int) ∧ f 10 = I c ∧ f 53 = S b o ys.length 1 ∧ f 54 = I ys.length ∧ f 55 = I k ∧ OwnI rlo rhi H4 (S rb 0 rs.length 1) zs ∧ zs.length = rs.length ∧ OwnI H1.n (H1.n + 1) H4 (S H1.n 0 Q 1) (qs.set (rs.length - ys.length) c) ∧ (∀ j, j < rs.length - ys.length → el zs j = el rs j) ∧ (∀ i, i < k → el zs (rs.length - ys.length + i) = md (el rs (rs.length - ys.length + i) + -c * el ys i)) ∧ (∀ i, k ≤ i → el zs (rs.length - ys.length + i) = el rs (rs.length - ys.length + i))) (ys.length) ?_ ?_
      · exact ⟨0, rs, by omega, by omega, hE0, hnn, by simp [RF, h1], by simp [RF, h6], by simp [RF, h8], by simp [RF, h7], by simp [RF], by simp [RF], by simp [RF, h1], by simp [RF], by simp [RF], hr', rfl, hq', fun _ _ => rfl, fun i hi => by omega, fun _ _ => rfl⟩
      · clear hr hr' hq hq' hgr hgq hE0 he hout hH3 hnn h1 h6 h7 h8
        rintro n f H4 R2 ⟨k, zs, hk, rfl, he, hn4, h1, h6, h8, h7, h9, h10, h53, h54, h55, hr, hz, hq, hz1, hz2, hz3⟩ hN2 hX2 hR2
        simp only [A_impl_divide.l0, T_aiff]
        refine T_rseq fun Kr hKr => ?_
        simp (disch := omega) only [RF, RO, RC, bodyQ, resAll, resOf, tup, ↓reduceIte, Nat.reduceEqDiff, Nat.reduceSub, Nat.reduceAdd, Nat.reduceMul, Nat.reduceLT, Nat.reduceLeDiff, Int.reduceLE, Int.reduceLT, Int.reduceEq, Int.reduceNeg, Int.reduceToNat, Int.reduceMul, Int.reduceAdd, Int.reduceSub, Int.reduceBEq, Int.reduceBNe, reduceCtorEq, RD, h54, h55]
        refine hKr _ _ ?_
        clear hKr Kr
        try simp only [RN, if_true, if_false, Bool.false_eq_true, if_pos, reduceIte]
        by_cases hlt2 : k < ys.length
        · refine T_cseq (t := true) (by simp (disch := omega) only [RF, RO, RC, bodyQ, resAll, resOf, tup, ↓reduceIte, Nat.reduceEqDiff, Nat.reduceSub, Nat.reduceAdd, Nat.reduceMul, Nat.reduceLT, Nat.reduceLeDiff, Int.reduceLE, Int.reduceLT, Int.reduceEq, Int.reduceNeg, Int.reduceToNat, Int.reduceMul, Int.reduceAdd, Int.reduceSub, Int.reduceBEq, Int.reduceBNe, reduceCtorEq, decT, decF]) ?_
          try simp only [RN, if_true, if_false, Bool.false_eq_true, if_pos, reduceIte]
          first | refine T_bfree rfl ?_ | refine T_bfree' rfl ?_
          try simp only [RN, if_true, if_false, Bool.false_eq_true, if_pos, reduceIte]
          have hg4 : H4.get b = some blk := by rw [he.get b hb]; exact hg
          obtain ⟨rb', rrest', heq, hb1', hb2', hb3', hgr'⟩ := hr.pos (by omega)
          rw [hz] at heq
          cases heq
          have hik : ((rs.length - ys.length : Nat) : Int) + (k : Int) = ((rs.length - ys.length + k : Nat) : Int) := by omega
          have c1 := hred.1 (rs.length - ys.length + k)
          have c2 := hry.1 k
          have hm2 := mulb (a := 10007 - el ys k) (b := c) (by omega) (by omega) hlq1 (by omega)
          have hzk := hz3 k (Nat.le_refl _)
          have hii : rs.length - ys.length + k < zs.length := by omega
          refine T_rseq fun Kr hKr => ?_
          simp (disch := omega) only [RF, RO, RC, bodyQ, resAll, resOf, tup, ↓reduceIte, Nat.reduceEqDiff, Nat.reduceSub, Nat.reduceAdd, Nat.reduceMul, Nat.reduceLT, Nat.reduceLeDiff, Int.reduceLE, Int.reduceLT, Int.reduceEq, Int.reduceNeg, Int.reduceToNat, Int.reduceMul, Int.reduceAdd, Int.reduceSub, Int.reduceBEq, Int.reduceBNe, reduceCtorEq, RD, h53, h55, hlt2, hg4, hel]
          refine hKr _ _ ?_
          clear hKr Kr
          try simp only [RN, if_true, if_false, Bool.false_eq_true, if_pos, reduceIte]
          refine T_rseq fun Kr hKr => ?_
          simp (disch := omega) only [RF, RO, RC, bodyQ, resAll, resOf, tup, ↓reduceIte, Nat.reduceEqDiff, Nat.reduceSub, Nat.reduceAdd, Nat.reduceMul, Nat.reduceLT, Nat.reduceLeDiff, Int.reduceLE, Int.reduceLT, Int.reduceEq, Int.reduceNeg, Int.reduceToNat, Int.reduceMul, Int.reduceAdd, Int.reduceSub, Int.reduceBEq, Int.reduceBNe, reduceCtorEq, RD, h6, h9, h10, hik, hgr', hzk, tmodm, md_sub]
          refine hKr _ _ ?_
          clear hKr Kr
          try simp only [RN, if_true, if_false, Bool.false_eq_true, if_pos, reduceIte]
          refine T_reg_k fun Kr hKr => ?_
          simp (disch := omega) only [RF, RO, RC, bodyQ, resAll, resOf, tup, ↓reduceIte, Nat.reduceEqDiff, Nat.reduceSub, Nat.reduceAdd, Nat.reduceMul, Nat.reduceLT, Nat.reduceLeDiff, Int.reduceLE, Int.reduceLT, Int.reduceEq, Int.reduceNeg, Int.reduceToNat, Int.reduceMul, Int.reduceAdd, Int.reduceSub, Int.reduceBEq, Int.reduceBNe, reduceCtorEq, RD, h55]
          refine hKr _ _ ?_
          clear hKr Kr
          refine hN2 (ys.length - (k + 1)) _ _ (by omega) ⟨k + 1, zs.set (rs.length - ys.length + k) (md (el rs (rs.length - ys.length + k) + -c * el ys k)), by omega, rfl, ?_, hn4, by simp [RF, h1], by simp [RF, h6], by simp [RF, h8], by simp [RF, h7], by simp [RF, h9], by simp [RF, h10], by simp [RF, h53], by simp [RF, h54], by simp [RF], .inr ⟨_, rrest', by rw [List.length_set, hz], hb1', hb2', hb3', by rw [List.map_set, get_set_same]⟩, by simpa using hz, ?_, fun j hj => ?_, fun i hi => ?_, fun i hi => ?_⟩
          · exact he.set (by omega) _
          · exact hq.out (Out.set .refl ⟨hb1', hb2'⟩ _) (by omega)
          · rw [el_set_ne (by omega)]; exact hz1 j hj
          · by_cases h : i = k
            · subst h; rw [el_set_same (by omega)]
            · rw [el_set_ne (by omega)]; exact hz2 i (by omega)
          · rw [el_set_ne (by omega)]; exact hz3 i (by omega)
        · refine T_cseq (t := false) (by simp (disch := omega) only [RF, RO, RC, bodyQ, resAll, resOf, tup, ↓reduceIte, Nat.reduceEqDiff, Nat.reduceSub, Nat.reduceAdd, Nat.reduceMul, Nat.reduceLT, Nat.reduceLeDiff, Int.reduceLE, Int.reduceLT, Int.reduceEq, Int.reduceNeg, Int.reduceToNat, Int.reduceMul, Int.reduceAdd, Int.reduceSub, Int.reduceBEq, Int.reduceBNe, reduceCtorEq, decT, decF]) ?_
          try simp only [RN, if_true, if_false, Bool.false_eq_true, if_pos, reduceIte]
          refine hX2 _ _ ?_
          have hkk : k = ys.length := by omega
          subst hkk
          refine T_reg_k fun Kr hKr => ?_
          simp (disch := omega) only [RF, RO, RC, bodyQ, resAll, resOf, tup, ↓reduceIte, Nat.reduceEqDiff, Nat.reduceSub, Nat.reduceAdd, Nat.reduceMul, Nat.reduceLT, Nat.reduceLeDiff, Int.reduceLE, Int.reduceLT, Int.reduceEq, Int.reduceNeg, Int.reduceToNat, Int.reduceMul, Int.reduceAdd, Int.reduceSub, Int.reduceBEq, Int.reduceBNe, reduceCtorEq, RD, h6]
          refine cut_spec hr (by omega) fun w ho5 => ?_
          simp (disch := omega) only [RF, RO, RC, bodyQ, resAll, resOf, tup, ↓reduceIte, Nat.reduceEqDiff, Nat.reduceSub, Nat.reduceAdd, Nat.reduceMul, Nat.reduceLT, Nat.reduceLeDiff, Int.reduceLE, Int.reduceLT, Int.reduceEq, Int.reduceNeg, Int.reduceToNat, Int.reduceMul, Int.reduceAdd, Int.reduceSub, Int.reduceBEq, Int.reduceBNe, reduceCtorEq, RD]
          refine hKr _ _ ?_
          clear hKr Kr
          try simp only [blkQ, thenQ, loopQ]
          try simp only [RN, if_true, if_false, Bool.false_eq_true, if_pos, reduceIte]
          have hstep : trim zs = dstep rs ys (lastq rs ys) := by
            have : lastq rs ys = c := hc
            rw [this]
            exact dstep_gen hred hge hz hz1 hz2
          rw [hstep] at ho5
          have hlt3 := dstep_len hred hry hy0 hge
          refine hN _ _ _ hlt3 ⟨w, dstep rs ys (lastq rs ys), qs.set (rs.length - ys.length) c, rlo, rhi, rfl, he, by simp [RF, h1], by simp [RF], by simp [RF, h8], by simp [RF, h7], ho5, hq, hN1, by omega, hdis, red_padd _ _ _, by omega, by rw [← rem_step hred hry hy0 hge]; exact hrem, by rw [List.length_set]; exact hql⟩
    · refine T_cseq (t := false) (by simp (disch := omega) only [RF, RO, RC, bodyQ, resAll, resOf, tup, ↓reduceIte, Nat.reduceEqDiff, Nat.reduceSub, Nat.reduceAdd, Nat.reduceMul, Nat.reduceLT, Nat.reduceLeDiff, Int.reduceLE, Int.reduceLT, Int.reduceEq, Int.reduceNeg, Int.reduceToNat, Int.reduceMul, Int.reduceAdd, Int.reduceSub, Int.reduceBEq, Int.reduceBNe, reduceCtorEq, decT, decF]) ?_
      try simp only [RN, if_true, if_false, Bool.false_eq_true, if_pos, reduceIte]
      refine hX _ _ ?_
      refine T_rseq fun Kr hKr => ?_
      simp (disch := omega) only [RF, RO, RC, bodyQ, resAll, resOf, tup, ↓reduceIte, Nat.reduceEqDiff, Nat.reduceSub, Nat.reduceAdd, Nat.reduceMul, Nat.reduceLT, Nat.reduceLeDiff, Int.reduceLE, Int.reduceLT, Int.reduceEq, Int.reduceNeg, Int.reduceToNat, Int.reduceMul, Int.reduceAdd, Int.reduceSub, Int.reduceBEq, Int.reduceBNe, reduceCtorEq, RD, h6, h7]
      refine cut_spec hq (by omega) fun w ho5 => ?_
      simp (disch := omega) only [RF, RO, RC, bodyQ, resAll, resOf, tup, ↓reduceIte, Nat.reduceEqDiff, Nat.reduceSub, Nat.reduceAdd, Nat.reduceMul, Nat.reduceLT, Nat.reduceLeDiff, Int.reduceLE, Int.reduceLT, Int.reduceEq, Int.reduceNeg, Int.reduceToNat, Int.reduceMul, Int.reduceAdd, Int.reduceSub, Int.reduceBEq, Int.reduceBNe, reduceCtorEq, RD, h6]
      refine hKr _ _ ?_
      clear hKr Kr
      try simp only [blkQ, thenQ, loopQ]
      try simp only [RN, if_true, if_false, Bool.false_eq_true, if_pos, reduceIte]
      refine ⟨_, rfl, ?_⟩
      simp only [RF, ev_t, ev_c, tup, ↓reduceIte, Nat.reduceEqDiff]
      refine hK _ _ _ he ?_
      rw [← hrem, rem_small (by omega)]
      exact hr.weak hN1 hr2
end Go.Am
