/- SpB, SpC, SpD, SpE, SpF, SpG -/
import Derived.Test.YteklchkdgpoedaaDpG2
/- Division, the program's own; common divisors. -/
set_option linter.unusedVariables false
set_option linter.unusedSimpArgs false
namespace Go.Am
open Go

theorem Clone_spec {H : AHeap} {v : Value} {xs : List Int} {K : Value → AHeap → Prop} (hx : IsI H v xs) (hl : xs.length < 100000) (hK : ∀ v' H', Ext H H' → OwnI H.n H'.n H' v' xs → K v' H') : CallT F_slices_Clone_int64_int64 [v] H K := by
  obtain ⟨v', H', ha, ho, hout⟩ := appendS (own_empty H) (hx.ext (Ext.alloc H [])) (by simp) (by omega)
  refine CallT_body Γ_slices_Clone_int64_int64 ?_; simp only [A_slices_Clone_int64_int64, T_aiff]
  refine T_rseq fun Kr hKr => ?_; simp (disch := omega) only [RF, RO, RC, tup, ↓reduceIte, Nat.reduceEqDiff, RD]; refine hKr _ _ ?_; clear hKr Kr; try simp only [RN, Bool.false_eq_true, reduceIte]
  rcases hx with ⟨rfl, rfl⟩ | ⟨b, o, blk, rfl, hb, hg, hl', hel⟩
  · refine T_rseq fun Kr hKr => ?_; simp (disch := omega) only [RF, RO, RC, tup, ↓reduceIte, Nat.reduceEqDiff, reduceCtorEq, RD]; refine hKr _ _ ?_; clear hKr Kr; try simp only [RN, Bool.false_eq_true, reduceIte]
    refine T_cseq (t := true) (by simp (disch := omega) only [RF, RO, RC, tup, ↓reduceIte, Nat.reduceEqDiff, decT, decF]) ?_; try simp only [RN, Bool.false_eq_true, reduceIte]
    refine T_rseq fun Kr hKr => ?_; simp (disch := omega) only [RF, RO, RC, tup, ↓reduceIte, Nat.reduceEqDiff, RD]; refine hKr _ _ ?_; clear hKr Kr; try simp only [RN, Bool.false_eq_true, reduceIte]
    refine ⟨_, rfl, ?_⟩; simp only [RF, ev_t, ev_c, tup, ↓reduceIte, Nat.reduceEqDiff]
    exact hK _ _ (Ext.refl' _) .nil
  · refine T_rseq fun Kr hKr => ?_; simp (disch := omega) only [RF, RO, RC, tup, ↓reduceIte, Nat.reduceEqDiff, reduceCtorEq, RD]; refine hKr _ _ ?_; clear hKr Kr; try simp only [RN, Bool.false_eq_true, reduceIte]
    refine T_cseq (t := false) (by simp (disch := omega) only [RF, RO, RC, tup, ↓reduceIte, Nat.reduceEqDiff, decT, decF]) ?_; try simp only [RN, Bool.false_eq_true, reduceIte]
    refine T_rseq fun Kr hKr => ?_; simp (disch := omega) only [RF, RO, RC, tup, ↓reduceIte, Nat.reduceEqDiff, reduceCtorEq, RD, ha]; refine hKr _ _ ?_; clear hKr Kr; try simp only [RN, Bool.false_eq_true, reduceIte]
    refine ⟨_, rfl, ?_⟩; simp only [RF, ev_t, ev_c, tup, ↓reduceIte, Nat.reduceEqDiff]
    refine hK _ _ ⟨Nat.le_trans (Nat.le_succ _) hout.n, fun b hb => (hout.get b (Nat.lt_succ_of_lt hb) (.inl hb)).trans (get_alloc_ne _ _ _ (by omega))⟩ ?_
    simpa using ho.weak (Nat.le_succ _) (Nat.le_refl _)
theorem md_sub {r b n : Int} : md (r + (10007 - b) * n) = md (r + -n * b) := by
  rw [Int.sub_mul, Int.neg_mul, Int.mul_comm n b]
  unfold md
  omega
theorem dstep_gen {rs zs g : List Int} {c : Int} (hr : Red rs) (hle : g.length ≤ rs.length) (hz : zs.length = rs.length) (h1 : ∀ j, j < rs.length - g.length → el zs j = el rs j)
    (h2 : ∀ i, i < g.length → el zs (rs.length - g.length + i) = md (el rs (rs.length - g.length + i) + -c * el g i)) : trim zs = dstep rs g c := by
  have : zs = gen (max rs.length (pad0 (rs.length - g.length) g).length) fun i => md (el rs i + -c * el (pad0 (rs.length - g.length) g) i) := by
    refine gen_ext (by rw [hz, pad0_len]; omega) fun i hi => ?_
    rw [pad0_len] at hi
    by_cases h : i < rs.length - g.length
    · have hb := hr.1 i
      rw [h1 i h, el_pad0_lo h, Int.mul_zero, Int.add_zero, md_id hb.1 hb.2]
    · rw [show i = rs.length - g.length + (i - (rs.length - g.length)) by omega, h2 _ (by omega), el_pad0_hi]
  rw [dstep, padd, ← this]

theorem divide_spec {H : AHeap} {v u : Value} {xs ys : List Int} {K : Value → AHeap → Prop} (hx : IsI H v xs) (hrx : Red xs) (hlx : xs.length < 1000) (hy : IsI H u ys) (hry : Red ys) (hy0 : 0 < ys.length) (hly : ys.length < 1000)
    (hK : ∀ q v' H', Ext H H' → OwnI H.n H'.n H' v' (rem xs ys) → K (.tuple ⟨[q, v']⟩) H') : CallT F_impl_divide [v, u] H K := by
  obtain ⟨a, e, rfl⟩ := hx.len
  obtain ⟨b, o, blk, rfl, hb, hg, hlen, hel⟩ := hy.pos hy0
  have ht := hry.top hy0
  have hiv := inv_bd (top ys)
  have hlast : (ys.length : Int) - 1 = ((ys.length - 1 : Nat) : Int) := by omega
  have hlt : ys.length - 1 < ys.length := by omega
  generalize hQ : (if ys.length ≤ xs.length then xs.length - ys.length + 1 else 0) = Q
  have hQ' : (if (0 : Int) > (xs.length : Int) - (ys.length : Int) + 1 then (0 : Int) else (xs.length : Int) - (ys.length : Int) + 1) = (Q : Int) := by
    subst hQ; split <;> split <;> omega
  have hQ2 : (if (xs.length : Int) - (ys.length : Int) + 1 < (0 : Int) then (0 : Int) else (xs.length : Int) - (ys.length : Int) + 1) = (Q : Int) := hQ'
  have hw : IntKind.i64.wrap ((xs.length : Int) - (ys.length : Int)) = (xs.length : Int) - (ys.length : Int) := w64 (by omega) (by omega)
  have hw2 : IntKind.i64.wrap ((xs.length : Int) - (ys.length : Int) + 1) = (xs.length : Int) - (ys.length : Int) + 1 := w64 (by omega) (by omega)
  have hQ1000 : Q < 2000 := by subst hQ; split <;> omega
  refine CallT_body Γ_impl_divide ?_; simp only [A_impl_divide, T_aiff]
  refine T_rseq fun Kr hKr => ?_; simp (disch := omega) only [RF, RO, RC, tup, ↓reduceIte, Nat.reduceEqDiff, RD]; refine hKr _ _ ?_; clear hKr Kr; try simp only [RN, Bool.false_eq_true, reduceIte]
  refine T_rseq fun Kr hKr => ?_; simp (disch := omega) only [RF, RO, RC, tup, ↓reduceIte, Nat.reduceEqDiff, RD]
  refine Clone_spec hx (by omega) fun r0 H1 he1 ho1 => ?_
  simp (disch := omega) only [RF, RO, RC, tup, ↓reduceIte, Nat.reduceEqDiff, RD]
  refine hKr _ _ ?_; clear hKr Kr; (try simp only [blkQ, thenQ, loopQ]); try simp only [RN, Bool.false_eq_true, reduceIte]
  refine T_rseq fun Kr hKr => ?_; simp (disch := omega) only [RF, RO, RC, tup, ↓reduceIte, Nat.reduceEqDiff, RD, hw, hw2, hQ2]
  refine hKr _ _ ?_
  clear hKr Kr
  try simp only [RN, Bool.false_eq_true, reduceIte]
  have hm1 := own_make H1 Q
  have he2 := Ext.alloc H1 (repl [.int .i64 0] Q)
  generalize hH2 : H1.alloc (repl [.int .i64 0] Q) = H2 at hm1 he2 ⊢
  have hn2 : H2.n = H1.n + 1 := by rw [← hH2]; rfl
  have hg2 : H2.get b = some blk := by rw [he2.get b (Nat.lt_of_lt_of_le hb he1.n), he1.get b hb]; exact hg
  refine T_rseq fun Kr hKr => ?_; simp (disch := omega) only [RF, RO, RC, tup, ↓reduceIte, Nat.reduceEqDiff, RD, hlast, hlt, hg2, hel]
  refine inverse_spec (by show 0 ≤ top ys; omega) (by show top ys ≤ 10007; omega) ?_
  simp (disch := omega) only [RF, RO, RC, tup, ↓reduceIte, Nat.reduceEqDiff, RD]
  refine hKr _ _ ?_; clear hKr Kr; (try simp only [blkQ, thenQ, loopQ]); try simp only [RN, Bool.false_eq_true, reduceIte]
  refine T_wloop (fun n f H' => ∃ r rs qs rlo rhi, n = rs.length ∧ Ext H H' ∧ f 1 = S b o ys.length 1 ∧ f 6 = r ∧ f 8 = I (inv (top ys)) ∧ f 7 = S H1.n 0 Q 1 ∧ OwnI rlo rhi H' r rs ∧ OwnI H1.n (H1.n + 1) H' (S H1.n 0 Q 1) qs ∧ H.n ≤ rlo ∧ rhi ≤ H'.n ∧ (H1.n + 1 ≤ rlo ∨ rhi ≤ H1.n) ∧ Red rs ∧ rs.length ≤ xs.length ∧ rem rs ys = rem xs ys ∧ qs.length = Q) (xs.length) ?_ ?_
  · exact ⟨r0, xs, List.replicate Q 0, H.n, H1.n, rfl, he1.trans' he2, by simp [RF], by simp [RF], by simp [RF]; rfl, by simp [RF], ho1.ext he2, hm1, Nat.le_refl _, he2.n, .inr (Nat.le_refl _), hrx, Nat.le_refl _, rfl, by simp⟩
  · clear hm1 ho1 hH2 hg2
    rintro n f H' R ⟨r, rs, qs, rlo, rhi, rfl, he, h1, h6, h8, h7, hr, hq, hN1, hr2, hdis, hred, hrl, hrem, hql⟩ hN hX hR
    simp only [A_impl_divide.l1, T_aiff]
    obtain ⟨ra, re, rfl⟩ := hr.len
    refine T_rseq fun Kr hKr => ?_; simp (disch := omega) only [RF, RO, RC, tup, ↓reduceIte, Nat.reduceEqDiff, RD, h1, h6]; refine hKr _ _ ?_; clear hKr Kr; try simp only [RN, Bool.false_eq_true, reduceIte]
    by_cases hge : ys.length ≤ rs.length
    · refine T_cseq (t := true) (by simp (disch := omega) only [RF, RO, RC, tup, ↓reduceIte, Nat.reduceEqDiff, decT, decF]) ?_; try simp only [RN, Bool.false_eq_true, reduceIte]
      (first | refine T_bfree rfl ?_ | refine T_bfree' rfl ?_); try simp only [RN, Bool.false_eq_true, reduceIte]
      obtain ⟨rb, rrest, heq, hb1, hb2, hb3, hgr⟩ := hr.pos (by omega)
      cases heq
      have hi : (rs.length : Int) - 1 = ((rs.length - 1 : Nat) : Int) := by omega
      have hs : (rs.length : Int) - (ys.length : Int) = ((rs.length - ys.length : Nat) : Int) := by omega
      have hn1 : rs.length - 1 < rs.length := by omega
      have htr := hred.top (by omega)
      have hm := mulb (a := el rs (rs.length - 1)) (b := inv (top ys)) (by show 0 ≤ top rs; omega) (by show top rs ≤ _; omega) hiv.1 (by omega)
      refine T_rseq fun Kr hKr => ?_; simp (disch := omega) only [RF, RO, RC, tup, ↓reduceIte, Nat.reduceEqDiff, RD, h1, h6, hs]; refine hKr _ _ ?_; clear hKr Kr; try simp only [RN, Bool.false_eq_true, reduceIte]
      refine T_rseq fun Kr hKr => ?_; simp (disch := omega) only [RF, RO, RC, tup, ↓reduceIte, Nat.reduceEqDiff, RD, h6, h8, hi, hn1, hgr, tmodm]; refine hKr _ _ ?_; clear hKr Kr; try simp only [RN, Bool.false_eq_true, reduceIte]
      generalize hc : md (el rs (rs.length - 1) * inv (top ys)) = c
      have hlq1 : 0 ≤ c := by rw [← hc]; exact md_lo _
      have hlq2 : c ≤ 10006 := by rw [← hc]; exact md_hi _
      have hQq : Q = xs.length - ys.length + 1 := by rw [← hQ, if_pos (by omega)]
      obtain ⟨qb, qrest, heq, hc1, hc2, hc3, hgq⟩ := hq.pos (by omega)
      rw [hql] at heq
      cases heq
      refine T_rseq fun Kr hKr => ?_; simp (disch := omega) only [RF, RO, RC, tup, ↓reduceIte, Nat.reduceEqDiff, RD, h7, hgq]; refine hKr _ _ ?_; clear hKr Kr; try simp only [RN, Bool.false_eq_true, reduceIte]
      have hout : Out H1.n (H1.n + 1) H' (H'.set H1.n (List.map I (qs.set (rs.length - ys.length) c) ++ qrest)) := Out.set (.refl) ⟨hc1, hc2⟩ _
      have hE0 := he.out hout he1.n
      have hr' := hr.out hout (by omega)
      have hq' : OwnI H1.n (H1.n + 1) (H'.set H1.n (List.map I (qs.set (rs.length - ys.length) c) ++ qrest)) (S H1.n 0 Q 1) (qs.set (rs.length - ys.length) c) := .inr ⟨H1.n, qrest, by rw [List.length_set, hql], hc1, hc2, hc3, get_set_same _ _ _⟩
      have hnn : (H'.set H1.n (List.map I (qs.set (rs.length - ys.length) c) ++ qrest)).n = H'.n := rfl
      simp only [List.map_set] at hout hE0 hr' hq' hnn ⊢
      generalize hH3 : H'.set H1.n ((List.map I qs).set (rs.length - ys.length) (I c) ++ qrest) = H3 at hout hE0 hr' hq' hnn ⊢
      refine T_rseq fun Kr hKr => ?_; simp (disch := omega) only [RF, RO, RC, tup, ↓reduceIte, Nat.reduceEqDiff, RD, h1]; refine hKr _ _ ?_; clear hKr Kr; try simp only [RN, Bool.false_eq_true, reduceIte]
      refine T_wloop (fun n f H4 => ∃ k zs, k ≤ ys.length ∧ n = ys.length - k ∧ Ext H H4 ∧ H4.n = H'.n ∧ f 1 = S b o ys.length 1 ∧ f 6 = S rb 0 rs.length 1 ∧ f 8 = I (inv (top ys)) ∧ f 7 = S H1.n 0 Q 1 ∧ f 9 = I ((rs.length - ys.length : Nat) : Int) ∧ f 10 = I c ∧ f 53 = S b o ys.length 1 ∧ f 54 = I ys.length ∧ f 55 = I k ∧ OwnI rlo rhi H4 (S rb 0 rs.length 1) zs ∧ zs.length = rs.length ∧ OwnI H1.n (H1.n + 1) H4 (S H1.n 0 Q 1) (qs.set (rs.length - ys.length) c) ∧ (∀ j, j < rs.length - ys.length → el zs j = el rs j) ∧ (∀ i, i < k → el zs (rs.length - ys.length + i) = md (el rs (rs.length - ys.length + i) + -c * el ys i)) ∧ (∀ i, k ≤ i → el zs (rs.length - ys.length + i) = el rs (rs.length - ys.length + i))) (ys.length) ?_ ?_
      · exact ⟨0, rs, by omega, by omega, hE0, hnn, by simp [RF, h1], by simp [RF, h6], by simp [RF, h8], by simp [RF, h7], by simp [RF], by simp [RF], by simp [RF, h1], by simp [RF], by simp [RF], hr', rfl, hq', fun _ _ => rfl, fun i hi => by omega, fun _ _ => rfl⟩
      · clear hr hr' hq hq' hgr hgq hE0 he hout hH3 hnn h1 h6 h7 h8
        rintro n f H4 R2 ⟨k, zs, hk, rfl, he, hn4, h1, h6, h8, h7, h9, h10, h53, h54, h55, hr, hz, hq, hz1, hz2, hz3⟩ hN2 hX2 hR2
        simp only [A_impl_divide.l0, T_aiff]
        refine T_rseq fun Kr hKr => ?_; simp (disch := omega) only [RF, RO, RC, tup, ↓reduceIte, Nat.reduceEqDiff, RD, h54, h55]; refine hKr _ _ ?_; clear hKr Kr; try simp only [RN, Bool.false_eq_true, reduceIte]
        by_cases hlt2 : k < ys.length
        · refine T_cseq (t := true) (by simp (disch := omega) only [RF, RO, RC, tup, ↓reduceIte, Nat.reduceEqDiff, decT, decF]) ?_; try simp only [RN, Bool.false_eq_true, reduceIte]
          (first | refine T_bfree rfl ?_ | refine T_bfree' rfl ?_); try simp only [RN, Bool.false_eq_true, reduceIte]
          have hg4 : H4.get b = some blk := by rw [he.get b hb]; exact hg
          obtain ⟨rb', rrest', heq, hb1', hb2', hb3', hgr'⟩ := hr.pos (by omega)
          rw [hz] at heq
          cases heq
          have hik : ((rs.length - ys.length : Nat) : Int) + (k : Int) = ((rs.length - ys.length + k : Nat) : Int) := by omega
          have c1 := hred.1 (rs.length - ys.length + k)
          have c2 := hry.1 k
          have hm2 := mulb (a := 10007 - el ys k) (b := c) (by omega) (by omega) hlq1 (by omega)
          have hzk := hz3 k (Nat.le_refl _)
          have hii : rs.length - ys.length + k < zs.length := by omega
          refine T_rseq fun Kr hKr => ?_; simp (disch := omega) only [RF, RO, RC, tup, ↓reduceIte, Nat.reduceEqDiff, RD, h53, h55, hlt2, hg4, hel]; refine hKr _ _ ?_; clear hKr Kr; try simp only [RN, Bool.false_eq_true, reduceIte]
          refine T_rseq fun Kr hKr => ?_; simp (disch := omega) only [RF, RO, RC, tup, ↓reduceIte, Nat.reduceEqDiff, Int.reduceEq, RD, h6, h9, h10, hik, hgr', hzk, tmodm, md_sub]; refine hKr _ _ ?_; clear hKr Kr; try simp only [RN, Bool.false_eq_true, reduceIte]
          refine T_reg_k fun Kr hKr => ?_; simp (disch := omega) only [RF, RO, RC, tup, ↓reduceIte, Nat.reduceEqDiff, RD, h55]; refine hKr _ _ ?_; clear hKr Kr
          refine hN2 (ys.length - (k + 1)) _ _ (by omega) ⟨k + 1, zs.set (rs.length - ys.length + k) (md (el rs (rs.length - ys.length + k) + -c * el ys k)), by omega, rfl, ?_, hn4, by simp [RF, h1], by simp [RF, h6], by simp [RF, h8], by simp [RF, h7], by simp [RF, h9], by simp [RF, h10], by simp [RF, h53], by simp [RF, h54], by simp [RF], .inr ⟨_, rrest', by rw [List.length_set, hz], hb1', hb2', hb3', by rw [List.map_set, get_set_same]⟩, by simpa using hz, ?_, fun j hj => ?_, fun i hi => ?_, fun i hi => ?_⟩
          · exact he.set (by omega) _
          · exact hq.out (Out.set .refl ⟨hb1', hb2'⟩ _) (by omega)
          · rw [el_set_ne (by omega)]; exact hz1 j hj
          · by_cases h : i = k
            · subst h; rw [el_set_same (by omega)]
            · rw [el_set_ne (by omega)]; exact hz2 i (by omega)
          · rw [el_set_ne (by omega)]; exact hz3 i (by omega)
        · refine T_cseq (t := false) (by simp (disch := omega) only [RF, RO, RC, tup, ↓reduceIte, Nat.reduceEqDiff, decT, decF]) ?_; try simp only [RN, Bool.false_eq_true, reduceIte]
          refine hX2 _ _ ?_
          have hkk : k = ys.length := by omega
          subst hkk
          refine T_reg_k fun Kr hKr => ?_; simp (disch := omega) only [RF, RO, RC, tup, ↓reduceIte, Nat.reduceEqDiff, RD, h6]
          refine cut_spec hr (by omega) fun w ho5 => ?_
          simp (disch := omega) only [RF, RO, RC, tup, ↓reduceIte, Nat.reduceEqDiff, RD]
          refine hKr _ _ ?_; clear hKr Kr; (try simp only [blkQ, thenQ, loopQ]); try simp only [RN, Bool.false_eq_true, reduceIte]
          have hstep : trim zs = dstep rs ys (lastq rs ys) := by
            have : lastq rs ys = c := hc
            rw [this]
            exact dstep_gen hred hge hz hz1 hz2
          rw [hstep] at ho5
          have hlt3 := dstep_len hred hry hy0 hge
          refine hN _ _ _ hlt3 ⟨w, dstep rs ys (lastq rs ys), qs.set (rs.length - ys.length) c, rlo, rhi, rfl, he, by simp [RF, h1], by simp [RF], by simp [RF, h8], by simp [RF, h7], ho5, hq, hN1, by omega, hdis, red_padd _ _ _, by omega, by rw [← rem_step hred hry hy0 hge]; exact hrem, by rw [List.length_set]; exact hql⟩
    · refine T_cseq (t := false) (by simp (disch := omega) only [RF, RO, RC, tup, ↓reduceIte, Nat.reduceEqDiff, decT, decF]) ?_; try simp only [RN, Bool.false_eq_true, reduceIte]
      refine hX _ _ ?_
      refine T_rseq fun Kr hKr => ?_; simp (disch := omega) only [RF, RO, RC, tup, ↓reduceIte, Nat.reduceEqDiff, RD, h6, h7]
      refine cut_spec hq (by omega) fun w ho5 => ?_
      simp (disch := omega) only [RF, RO, RC, tup, ↓reduceIte, Nat.reduceEqDiff, RD, h6]
      refine hKr _ _ ?_; clear hKr Kr; (try simp only [blkQ, thenQ, loopQ]); try simp only [RN, Bool.false_eq_true, reduceIte]
      refine ⟨_, rfl, ?_⟩; simp only [RF, ev_t, ev_c, tup, ↓reduceIte, Nat.reduceEqDiff]
      refine hK _ _ _ he ?_
      rw [← hrem, rem_small (by omega)]
      exact hr.weak hN1 hr2
end Go.Am

/- Common divisors. -/
set_option linter.unusedVariables false
set_option linter.unusedSimpArgs false
namespace Go.Am
open Go

def gcdF : Nat → List Int → List Int → List Int
  | 0, f, _ => f
  | n + 1, f, g => if g.length = 0 then f else gcdF n g (rem f g)
theorem gcdF_stable : ∀ (n m : Nat) (f g : List Int), Red f → Red g → g.length < n → g.length < m → gcdF n f g = gcdF m f g
  | 0, _, _, _, _, _, h, _ => by omega
  | _, 0, _, _, _, _, _, h => by omega
  | n + 1, m + 1, f, g, hf, hg, hn, hm => by
    simp only [gcdF]
    split
    · rfl
    · have := rem_red hg (by omega) f.length f (Nat.le_refl _) hf
      exact gcdF_stable n m _ _ hg this.1 (by omega) (by omega)
/-- The last one that is not 0. -/
def euclid (f g : List Int) : List Int := gcdF (g.length + 1) f g
theorem euclid_nil {f g : List Int} (h : g.length = 0) : euclid f g = f := by simp [euclid, gcdF, h]
theorem euclid_step {f g : List Int} (hf : Red f) (hg : Red g) (h : 0 < g.length) : euclid f g = euclid g (rem f g) := by
  have := rem_red hg h f.length f (Nat.le_refl _) hf
  show (if g.length = 0 then f else gcdF g.length g (rem f g)) = _
  rw [if_neg (by omega)]
  exact gcdF_stable _ _ _ _ hg this.1 this.2 (by omega)
def monic (f : List Int) : List Int := padd [] f (inv (top f))
def common (f g : List Int) : List Int := monic (euclid f g)
theorem monic_is {f : List Int} (hf : Red f) : ptimes f [inv (top f)] = monic f := by
  refine Red.ext (red_ptimes _ _) (red_padd _ _ _) fun i => ?_
  rw [el_ptimes, cv_one _ _ _ (el_one _), monic, el_padd]
  have h1 : el [inv (top f)] 0 = inv (top f) := rfl
  have h2 : el [] i = 0 := by simp [el]
  rw [h1, h2, Int.zero_add, Int.mul_comm]
theorem euclid_red : ∀ (n : Nat) (f g : List Int), g.length ≤ n → Red f → Red g → (f.length < 1000 ∧ g.length < 1000) → Red (euclid f g) ∧ (euclid f g).length < 1000 ∧ (0 < f.length ∨ 0 < g.length → 0 < (euclid f g).length)
  | n, f, g, hn, hf, hg, hb => by
    by_cases h : g.length = 0
    · rw [euclid_nil h]; exact ⟨hf, hb.1, fun h2 => by omega⟩
    · have hr := rem_red hg (by omega) f.length f (Nat.le_refl _) hf
      rw [euclid_step hf hg (by omega)]
      match n, hn with
      | 0, hn => omega
      | n + 1, hn =>
        have ih := euclid_red n g (rem f g) (by omega) hg hr.1 ⟨hb.2, by omega⟩
        exact ⟨ih.1, ih.2.1, fun _ => ih.2.2 (.inl (by omega))⟩

theorem l06Monic_spec {H : AHeap} {v : Value} {xs : List Int} {K : Value → AHeap → Prop} (hx : IsI H v xs) (hrx : Red xs) (hx0 : 0 < xs.length) (hlx : xs.length < 1000)
    (hK : ∀ v' H', Ext H H' → OwnI H.n H'.n H' v' (monic xs) → K v' H') : CallT F_spec_l06Monic [v] H K := by
  obtain ⟨b, o, blk, rfl, hb, hg, hlen, hel⟩ := hx.pos hx0
  have ht := hrx.top hx0
  have hiv := inv_bd (top xs)
  have hlast : (xs.length : Int) - 1 = ((xs.length - 1 : Nat) : Int) := by omega
  have hlt : xs.length - 1 < xs.length := by omega
  refine CallT_body Γ_spec_l06Monic ?_; simp only [A_spec_l06Monic, T_aiff]
  refine T_rseq fun Kr hKr => ?_; simp (disch := omega) only [RF, RO, RC, tup, ↓reduceIte, Nat.reduceEqDiff, RD]; refine hKr _ _ ?_; clear hKr Kr; try simp only [RN, Bool.false_eq_true, reduceIte]
  refine T_rseq fun Kr hKr => ?_; simp (disch := omega) only [RF, RO, RC, tup, ↓reduceIte, Nat.reduceEqDiff, RD, hlast, hlt, hg, hel]
  refine l06Inverse_spec (by show 0 ≤ top xs; omega) (by show top xs ≤ 10007; omega) ?_
  simp (disch := omega) only [RF, RO, RC, tup, ↓reduceIte, Nat.reduceEqDiff, RD]
  refine l06Add_spec .nil (fun i hi => by simp at hi) (by simp) hx hrx.fit (by omega) (q := inv (top xs)) (by omega) (by omega) fun v' H' he ho => ?_
  simp (disch := omega) only [RF, RO, RC, tup, ↓reduceIte, Nat.reduceEqDiff, RD]
  refine hKr _ _ ?_; clear hKr Kr; (try simp only [blkQ, thenQ, loopQ]); try simp only [RN, Bool.false_eq_true, reduceIte]
  refine ⟨_, rfl, ?_⟩; simp only [RF, ev_t, ev_c, tup, ↓reduceIte, Nat.reduceEqDiff]
  exact hK _ _ he ho
theorem l06Common_spec {H : AHeap} {v u : Value} {xs ys : List Int} {K : Value → AHeap → Prop} (hx : IsI H v xs) (hrx : Red xs) (hlx : xs.length < 1000) (hy : IsI H u ys) (hry : Red ys) (hly : ys.length < 1000) (h0 : 0 < xs.length ∨ 0 < ys.length)
    (hK : ∀ v' H', Ext H H' → OwnI H.n H'.n H' v' (common xs ys) → K v' H') : CallT F_spec_l06Common [v, u] H K := by
  refine CallT_body Γ_spec_l06Common ?_; simp only [A_spec_l06Common, T_aiff]
  refine T_rseq fun Kr hKr => ?_; simp (disch := omega) only [RF, RO, RC, tup, ↓reduceIte, Nat.reduceEqDiff, RD]; refine hKr _ _ ?_; clear hKr Kr; try simp only [RN, Bool.false_eq_true, reduceIte]
  refine T_wloop (fun n f H' => ∃ a b fs gs, n = gs.length ∧ Ext H H' ∧ f 0 = a ∧ f 1 = b ∧ IsI H' a fs ∧ IsI H' b gs ∧ Red fs ∧ Red gs ∧ fs.length < 1000 ∧ gs.length < 1000 ∧ (0 < fs.length ∨ 0 < gs.length) ∧ euclid fs gs = euclid xs ys) (ys.length) ?_ ?_
  · exact ⟨v, u, xs, ys, rfl, Ext.refl' _, by simp [RF], by simp [RF], hx, hy, hrx, hry, hlx, hly, h0, rfl⟩
  · rintro n f H' R ⟨a, b, fs, gs, rfl, he, ha, hb, hfs, hgs, hrf, hrg, hlf, hlg, hn0, heu⟩ hN hX hR
    simp only [A_spec_l06Common.l0, T_aiff]
    obtain ⟨ga, ge, rfl⟩ := hgs.len
    refine T_rseq fun Kr hKr => ?_; simp (disch := omega) only [RF, RO, RC, tup, ↓reduceIte, Nat.reduceEqDiff, RD, hb]; refine hKr _ _ ?_; clear hKr Kr; try simp only [RN, Bool.false_eq_true, reduceIte]
    by_cases hg0 : 0 < gs.length
    · refine T_cseq (t := true) (by simp (disch := omega) only [RF, RO, RC, tup, ↓reduceIte, Nat.reduceEqDiff, decT, decF]) ?_; try simp only [RN, Bool.false_eq_true, reduceIte]
      (first | refine T_bfree rfl ?_ | refine T_bfree' rfl ?_); try simp only [RN, Bool.false_eq_true, reduceIte]
      refine T_rseq fun Kr hKr => ?_; simp (disch := omega) only [RF, RO, RC, tup, ↓reduceIte, Nat.reduceEqDiff, RD, ha, hb]
      refine l06Divide_spec hfs hrf hlf hgs hrg hg0 hlg fun q w H2 he2 ho2 => ?_
      simp (disch := omega) only [RF, RO, RC, tup, ↓reduceIte, Nat.reduceEqDiff, RD]
      refine hKr _ _ ?_; clear hKr Kr; (try simp only [blkQ, thenQ, loopQ]); try simp only [RN, Bool.false_eq_true, reduceIte]
      refine T_rseq fun Kr hKr => ?_; simp (disch := omega) only [RF, RO, RC, tup, ↓reduceIte, Nat.reduceEqDiff, RD, hb]; refine hKr _ _ ?_; clear hKr Kr; try simp only [RN, Bool.false_eq_true, reduceIte]
      refine T_reg_k fun Kr hKr => ?_; simp (disch := omega) only [RF, RO, RC, tup, ↓reduceIte, Nat.reduceEqDiff, reduceCtorEq, RD]; refine hKr _ _ ?_; clear hKr Kr
      have hr := rem_red hrg hg0 fs.length fs (Nat.le_refl _) hrf
      exact hN _ _ _ hr.2 ⟨_, w, gs, rem fs gs, rfl, he.trans' he2, by simp [RF], by simp [RF], hgs.ext he2, ho2.is, hrg, hr.1, hlg, by omega, .inl hg0, by rw [← euclid_step hrf hrg hg0]; exact heu⟩
    · refine T_cseq (t := false) (by simp (disch := omega) only [RF, RO, RC, tup, ↓reduceIte, Nat.reduceEqDiff, decT, decF]) ?_; try simp only [RN, Bool.false_eq_true, reduceIte]
      refine hX _ _ ?_
      have hgz : gs.length = 0 := by omega
      rw [euclid_nil hgz] at heu
      refine T_rseq fun Kr hKr => ?_; simp (disch := omega) only [RF, RO, RC, tup, ↓reduceIte, Nat.reduceEqDiff, RD, ha]
      refine l06Monic_spec hfs hrf (by omega) hlf fun w H2 he2 ho2 => ?_
      simp (disch := omega) only [RF, RO, RC, tup, ↓reduceIte, Nat.reduceEqDiff, RD]
      refine hKr _ _ ?_; clear hKr Kr; (try simp only [blkQ, thenQ, loopQ]); try simp only [RN, Bool.false_eq_true, reduceIte]
      refine ⟨_, rfl, ?_⟩; simp only [RF, ev_t, ev_c, tup, ↓reduceIte, Nat.reduceEqDiff]
      refine hK _ _ (he.trans' he2) ?_
      rw [common, ← heu]
      exact ho2.weak he.n (Nat.le_refl _)
theorem common_spec {H : AHeap} {v u : Value} {xs ys : List Int} {K : Value → AHeap → Prop} (hx : IsI H v xs) (hrx : Red xs) (hlx : xs.length < 1000) (hy : IsI H u ys) (hry : Red ys) (hly : ys.length < 1000) (h0 : 0 < xs.length ∨ 0 < ys.length)
    (hK : ∀ v' H', Ext H H' → OwnI H.n H'.n H' v' (common xs ys) → K v' H') : CallT F_impl_common [v, u] H K := by
  refine CallT_body Γ_impl_common ?_; simp only [A_impl_common, T_aiff]
  refine T_rseq fun Kr hKr => ?_; simp (disch := omega) only [RF, RO, RC, tup, ↓reduceIte, Nat.reduceEqDiff, RD]; refine hKr _ _ ?_; clear hKr Kr; try simp only [RN, Bool.false_eq_true, reduceIte]
  refine T_wloop (fun n f H' => ∃ a b fs gs, n = gs.length ∧ Ext H H' ∧ f 0 = a ∧ f 1 = b ∧ IsI H' a fs ∧ IsI H' b gs ∧ Red fs ∧ Red gs ∧ fs.length < 1000 ∧ gs.length < 1000 ∧ (0 < fs.length ∨ 0 < gs.length) ∧ euclid fs gs = euclid xs ys) (ys.length) ?_ ?_
  · exact ⟨v, u, xs, ys, rfl, Ext.refl' _, by simp [RF], by simp [RF], hx, hy, hrx, hry, hlx, hly, h0, rfl⟩
  · rintro n f H' R ⟨a, b, fs, gs, rfl, he, ha, hb, hfs, hgs, hrf, hrg, hlf, hlg, hn0, heu⟩ hN hX hR
    simp only [A_impl_common.l0, T_aiff]
    obtain ⟨ga, ge, rfl⟩ := hgs.len
    refine T_rseq fun Kr hKr => ?_; simp (disch := omega) only [RF, RO, RC, tup, ↓reduceIte, Nat.reduceEqDiff, RD, hb]; refine hKr _ _ ?_; clear hKr Kr; try simp only [RN, Bool.false_eq_true, reduceIte]
    by_cases hg0 : 0 < gs.length
    · refine T_cseq (t := true) (by simp (disch := omega) only [RF, RO, RC, tup, ↓reduceIte, Nat.reduceEqDiff, decT, decF]) ?_; try simp only [RN, Bool.false_eq_true, reduceIte]
      (first | refine T_bfree rfl ?_ | refine T_bfree' rfl ?_); try simp only [RN, Bool.false_eq_true, reduceIte]
      refine T_rseq fun Kr hKr => ?_; simp (disch := omega) only [RF, RO, RC, tup, ↓reduceIte, Nat.reduceEqDiff, RD, ha, hb]
      refine divide_spec hfs hrf hlf hgs hrg hg0 hlg fun q w H2 he2 ho2 => ?_
      simp (disch := omega) only [RF, RO, RC, tup, ↓reduceIte, Nat.reduceEqDiff, RD]
      refine hKr _ _ ?_; clear hKr Kr; (try simp only [blkQ, thenQ, loopQ]); try simp only [RN, Bool.false_eq_true, reduceIte]
      refine T_reg_k fun Kr hKr => ?_; simp (disch := omega) only [RF, RO, RC, tup, ↓reduceIte, Nat.reduceEqDiff, reduceCtorEq, RD, hb]; refine hKr _ _ ?_; clear hKr Kr
      have hr := rem_red hrg hg0 fs.length fs (Nat.le_refl _) hrf
      exact hN _ _ _ hr.2 ⟨_, w, gs, rem fs gs, rfl, he.trans' he2, by simp [RF], by simp [RF], hgs.ext he2, ho2.is, hrg, hr.1, hlg, by omega, .inl hg0, by rw [← euclid_step hrf hrg hg0]; exact heu⟩
    · refine T_cseq (t := false) (by simp (disch := omega) only [RF, RO, RC, tup, ↓reduceIte, Nat.reduceEqDiff, decT, decF]) ?_; try simp only [RN, Bool.false_eq_true, reduceIte]
      refine hX _ _ ?_
      have hgz : gs.length = 0 := by omega
      rw [euclid_nil hgz] at heu
      obtain ⟨b', o, blk, rfl, hb', hg, hlen, hel⟩ := hfs.pos (by omega)
      have ht := hrf.top (by omega)
      have hiv := inv_bd (top fs)
      have hlast : (fs.length : Int) - 1 = ((fs.length - 1 : Nat) : Int) := by omega
      have hlt : fs.length - 1 < fs.length := by omega
      refine T_rseq fun Kr hKr => ?_; simp (disch := omega) only [RF, RO, RC, tup, ↓reduceIte, Nat.reduceEqDiff, RD, ha, hlast, hlt, hg, hel]
      refine inverse_spec (by show 0 ≤ top fs; omega) (by show top fs ≤ 10007; omega) ?_
      simp (disch := omega) only [RF, RO, RC, tup, ↓reduceIte, Nat.reduceEqDiff, RD, ha]
      refine times_spec (hfs.ext (Ext.alloc _ _)) hrf.fit (by omega) (own_one _ (inv (el fs (fs.length - 1)))).is (fit_one _ (by show 0 ≤ inv (top fs) ∧ inv (top fs) ≤ 10007; omega)) (by simp) fun w H2 he2 ho2 => ?_
      simp (disch := omega) only [RF, RO, RC, tup, ↓reduceIte, Nat.reduceEqDiff, RD]
      refine hKr _ _ ?_; clear hKr Kr; (try simp only [blkQ, thenQ, loopQ]); try simp only [RN, Bool.false_eq_true, reduceIte]
      refine ⟨_, rfl, ?_⟩; simp only [RF, ev_t, ev_c, tup, ↓reduceIte, Nat.reduceEqDiff]
      refine hK _ _ (he.trans' ((Ext.alloc _ _).trans' he2)) ?_
      rw [common, ← heu, ← monic_is hrf]
      exact ho2.weak (Nat.le_trans he.n (Nat.le_succ _)) (Nat.le_refl _)

theorem monic_len (f : List Int) : (monic f).length ≤ f.length := by
  have := padd_len [] f (inv (top f))
  unfold monic
  simpa using this
end Go.Am

/- Multiplicities. -/
set_option linter.unusedVariables false
set_option linter.unusedSimpArgs false
namespace Go.Am
open Go

/-! ### Codes -/
def AllNum (vs : List Int) : Prop := ∀ i, i < vs.length → 0 ≤ el vs i ∧ el vs i ≤ 10006
instance (vs : List Int) : Decidable (AllNum vs) := by unfold AllNum; infer_instance
def pcode (f vs : List Int) : Int := if Poly f then if AllNum vs ∧ 2 ≤ f.length then 0 else 2 else 1
theorem l06Code_spec {H : AHeap} {v u : Value} {xs vs : List Int} {K : Value → AHeap → Prop} (hx : IsI H v xs) (hl : xs.length < 2 ^ 62) (hv : IsI H u vs) (hlv : vs.length < 1000) (hK : K (I (pcode xs vs)) H) : CallT F_spec_l06Code [v, u] H K := by
  obtain ⟨a, e, rfl⟩ := hx.len
  obtain ⟨a', e', rfl⟩ := hv.len
  refine CallT_body Γ_spec_l06Code ?_; simp only [A_spec_l06Code, T_aiff]
  refine T_rseq fun Kr hKr => ?_; simp (disch := omega) only [RF, RO, RC, tup, ↓reduceIte, Nat.reduceEqDiff, RD]; refine hKr _ _ ?_; clear hKr Kr; try simp only [RN, Bool.false_eq_true, reduceIte]
  refine T_rseq fun Kr hKr => ?_; simp (disch := omega) only [RF, RO, RC, tup, ↓reduceIte, Nat.reduceEqDiff, RD]
  refine l06Is_spec hx hl ?_
  by_cases hp : Poly xs
  · rw [decide_eq_true hp]
    simp (disch := omega) only [RF, RO, RC, tup, ↓reduceIte, Nat.reduceEqDiff, RD]
    refine hKr _ _ ?_; clear hKr Kr; (try simp only [blkQ, thenQ, loopQ]); try simp only [RN, if_true, if_false, Bool.false_eq_true, if_pos, reduceIte]
    refine T_cseq (t := false) (by simp (disch := omega) only [RF, RO, RC, tup, ↓reduceIte, Nat.reduceEqDiff, decT, decF]) ?_; try simp only [RN, Bool.false_eq_true, reduceIte]
    refine T_rseq fun Kr hKr => ?_; simp (disch := omega) only [RF, RO, RC, tup, ↓reduceIte, Nat.reduceEqDiff, RD]; refine hKr _ _ ?_; clear hKr Kr; try simp only [RN, Bool.false_eq_true, reduceIte]
    refine T_wloop (fun n f H' => ∃ k, k ≤ vs.length ∧ n = vs.length - k ∧ H' = H ∧ f 0 = .slice a xs.length e ∧ f 1 = .slice a' vs.length e' ∧ f 5 = I k ∧ ∀ i, i < k → 0 ≤ el vs i ∧ el vs i ≤ 10006) (vs.length) ?_ ?_
    · exact ⟨0, by omega, by omega, rfl, by simp [RF], by simp [RF], by simp [RF], by simp⟩
    · rintro n f H' R ⟨k, hk, rfl, rfl, h0, h1, h5, hkk⟩ hN hX hR
      simp only [A_spec_l06Code.l0, T_aiff]
      refine T_rseq fun Kr hKr => ?_; simp (disch := omega) only [RF, RO, RC, tup, ↓reduceIte, Nat.reduceEqDiff, RD, h1, h5]; refine hKr _ _ ?_; clear hKr Kr; try simp only [RN, Bool.false_eq_true, reduceIte]
      by_cases hlt : k < vs.length
      · refine T_cseq (t := true) (by simp (disch := omega) only [RF, RO, RC, tup, ↓reduceIte, Nat.reduceEqDiff, decT, decF]) ?_; try simp only [RN, Bool.false_eq_true, reduceIte]
        (first | refine T_bfree rfl ?_ | refine T_bfree' rfl ?_); try simp only [RN, Bool.false_eq_true, reduceIte]
        obtain ⟨b, o, blk, heq, hb, hg, hlen, hel⟩ := hv.pos (by omega)
        cases heq
        refine T_rseq fun Kr hKr => ?_; simp (disch := omega) only [RF, RO, RC, tup, ↓reduceIte, Nat.reduceEqDiff, RD, h1, h5, hlt, hg, hel]
        refine l01In_spec ?_
        by_cases hn : 0 ≤ el vs k ∧ el vs k ≤ 10006
        · rw [decide_eq_true hn]
          simp (disch := omega) only [RF, RO, RC, tup, ↓reduceIte, Nat.reduceEqDiff, RD]
          refine hKr _ _ ?_; clear hKr Kr; (try simp only [blkQ, thenQ, loopQ]); try simp only [RN, if_true, if_false, Bool.false_eq_true, if_pos, reduceIte]
          refine T_cseq (t := false) (by simp (disch := omega) only [RF, RO, RC, tup, ↓reduceIte, Nat.reduceEqDiff, decT, decF]) ?_; try simp only [RN, Bool.false_eq_true, reduceIte]
          refine T_reg_k fun Kr hKr => ?_; simp (disch := omega) only [RF, RO, RC, tup, ↓reduceIte, Nat.reduceEqDiff, RD, h5]; refine hKr _ _ ?_; clear hKr Kr
          refine hN (vs.length - (k + 1)) _ _ (by omega) ⟨k + 1, by omega, rfl, rfl, by simp [RF, h0], by simp [RF, h1], by simp [RF], fun i hi => ?_⟩
          by_cases h : i = k
          · subst h; exact hn
          · exact hkk i (by omega)
        · rw [decide_eq_false hn]
          simp (disch := omega) only [RF, RO, RC, tup, ↓reduceIte, Nat.reduceEqDiff, RD]
          refine hKr _ _ ?_; clear hKr Kr; (try simp only [blkQ, thenQ, loopQ]); try simp only [RN, if_true, if_false, Bool.false_eq_true, if_pos, reduceIte]
          refine T_cseq (t := true) (by simp (disch := omega) only [RF, RO, RC, tup, ↓reduceIte, Nat.reduceEqDiff, decT, decF]) ?_; try simp only [RN, Bool.false_eq_true, reduceIte]
          refine T_rseq fun Kr hKr => ?_; simp (disch := omega) only [RF, RO, RC, tup, ↓reduceIte, Nat.reduceEqDiff, RD]; refine hKr _ _ ?_; clear hKr Kr; try simp only [RN, Bool.false_eq_true, reduceIte]
          refine hR _ _ ?_
          refine ⟨_, rfl, ?_⟩; simp only [RF, ev_t, ev_c, tup, ↓reduceIte, Nat.reduceEqDiff]
          have : ¬ (AllNum vs ∧ 2 ≤ xs.length) := fun h => hn (h.1 k hlt)
          simpa only [pcode, hp, this, if_true, if_false] using hK
      · refine T_cseq (t := false) (by simp (disch := omega) only [RF, RO, RC, tup, ↓reduceIte, Nat.reduceEqDiff, decT, decF]) ?_; try simp only [RN, Bool.false_eq_true, reduceIte]
        refine hX _ _ ?_
        try simp only [RN, Bool.false_eq_true, reduceIte]
        have hall : AllNum vs := fun i hi => hkk i (by omega)
        refine T_rseq fun Kr hKr => ?_; simp (disch := omega) only [RF, RO, RC, tup, ↓reduceIte, Nat.reduceEqDiff, RD, h0]; refine hKr _ _ ?_; clear hKr Kr; try simp only [RN, Bool.false_eq_true, reduceIte]
        by_cases h2 : xs.length < 2
        · refine T_cseq (t := true) (by simp (disch := omega) only [RF, RO, RC, tup, ↓reduceIte, Nat.reduceEqDiff, decT, decF]) ?_; try simp only [RN, Bool.false_eq_true, reduceIte]
          refine T_rseq fun Kr hKr => ?_; simp (disch := omega) only [RF, RO, RC, tup, ↓reduceIte, Nat.reduceEqDiff, RD]; refine hKr _ _ ?_; clear hKr Kr; try simp only [RN, Bool.false_eq_true, reduceIte]
          refine ⟨_, rfl, ?_⟩; simp only [RF, ev_t, ev_c, tup, ↓reduceIte, Nat.reduceEqDiff]
          have : ¬ (AllNum vs ∧ 2 ≤ xs.length) := fun h => by omega
          simpa only [pcode, hp, this, if_true, if_false] using hK
        · refine T_cseq (t := false) (by simp (disch := omega) only [RF, RO, RC, tup, ↓reduceIte, Nat.reduceEqDiff, decT, decF]) ?_; try simp only [RN, Bool.false_eq_true, reduceIte]
          refine T_rseq fun Kr hKr => ?_; simp (disch := omega) only [RF, RO, RC, tup, ↓reduceIte, Nat.reduceEqDiff, RD]; refine hKr _ _ ?_; clear hKr Kr; try simp only [RN, Bool.false_eq_true, reduceIte]
          refine ⟨_, rfl, ?_⟩; simp only [RF, ev_t, ev_c, tup, ↓reduceIte, Nat.reduceEqDiff]
          have : AllNum vs ∧ 2 ≤ xs.length := ⟨hall, by omega⟩
          simpa only [pcode, hp, this, and_self, if_true] using hK
  · rw [decide_eq_false hp]
    simp (disch := omega) only [RF, RO, RC, tup, ↓reduceIte, Nat.reduceEqDiff, RD]
    refine hKr _ _ ?_; clear hKr Kr; (try simp only [blkQ, thenQ, loopQ]); try simp only [RN, if_true, if_false, Bool.false_eq_true, if_pos, reduceIte]
    refine T_cseq (t := true) (by simp (disch := omega) only [RF, RO, RC, tup, ↓reduceIte, Nat.reduceEqDiff, decT, decF]) ?_; try simp only [RN, Bool.false_eq_true, reduceIte]
    refine T_rseq fun Kr hKr => ?_; simp (disch := omega) only [RF, RO, RC, tup, ↓reduceIte, Nat.reduceEqDiff, RD]; refine hKr _ _ ?_; clear hKr Kr; try simp only [RN, Bool.false_eq_true, reduceIte]
    refine ⟨_, rfl, ?_⟩; simp only [RF, ev_t, ev_c, tup, ↓reduceIte, Nat.reduceEqDiff]
    simpa only [pcode, hp, if_false] using hK
theorem polynomialCode_spec {H : AHeap} {v u : Value} {xs vs : List Int} {K : Value → AHeap → Prop} (hx : IsI H v xs) (hl : xs.length < 2 ^ 62) (hv : IsI H u vs) (hlv : vs.length < 1000) (hK : K (I (pcode xs vs)) H) : CallT F_impl_polynomialCode [v, u] H K := by
  obtain ⟨a, e, rfl⟩ := hx.len
  obtain ⟨a', e', rfl⟩ := hv.len
  refine CallT_body Γ_impl_polynomialCode ?_; simp only [A_impl_polynomialCode, T_aiff]
  refine T_rseq fun Kr hKr => ?_; simp (disch := omega) only [RF, RO, RC, tup, ↓reduceIte, Nat.reduceEqDiff, RD]; refine hKr _ _ ?_; clear hKr Kr; try simp only [RN, Bool.false_eq_true, reduceIte]
  refine T_rseq fun Kr hKr => ?_; simp (disch := omega) only [RF, RO, RC, tup, ↓reduceIte, Nat.reduceEqDiff, RD]
  refine impl_IsPolynomial_spec hx hl ?_
  by_cases hp : Poly xs
  · rw [decide_eq_true hp]
    simp (disch := omega) only [RF, RO, RC, tup, ↓reduceIte, Nat.reduceEqDiff, RD]
    refine hKr _ _ ?_; clear hKr Kr; (try simp only [blkQ, thenQ, loopQ]); try simp only [RN, if_true, if_false, Bool.false_eq_true, if_pos, reduceIte]
    refine T_cseq (t := false) (by simp (disch := omega) only [RF, RO, RC, tup, ↓reduceIte, Nat.reduceEqDiff, decT, decF]) ?_; try simp only [RN, Bool.false_eq_true, reduceIte]
    refine T_rseq fun Kr hKr => ?_; simp (disch := omega) only [RF, RO, RC, tup, ↓reduceIte, Nat.reduceEqDiff, RD]; refine hKr _ _ ?_; clear hKr Kr; try simp only [RN, Bool.false_eq_true, reduceIte]
    refine T_wloop (fun n f H' => ∃ k, k ≤ vs.length ∧ n = vs.length - k ∧ H' = H ∧ f 0 = .slice a xs.length e ∧ f 10 = .slice a' vs.length e' ∧ f 11 = I vs.length ∧ f 12 = I k ∧ ∀ i, i < k → 0 ≤ el vs i ∧ el vs i ≤ 10006) (vs.length) ?_ ?_
    · exact ⟨0, by omega, by omega, rfl, by simp [RF], by simp [RF], by simp [RF], by simp [RF], by simp⟩
    · rintro n f H' R ⟨k, hk, rfl, rfl, h0, h1, h11, h5, hkk⟩ hN hX hR
      simp only [A_impl_polynomialCode.l0, T_aiff]
      refine T_rseq fun Kr hKr => ?_; simp (disch := omega) only [RF, RO, RC, tup, ↓reduceIte, Nat.reduceEqDiff, RD, h11, h5]; refine hKr _ _ ?_; clear hKr Kr; try simp only [RN, Bool.false_eq_true, reduceIte]
      by_cases hlt : k < vs.length
      · refine T_cseq (t := true) (by simp (disch := omega) only [RF, RO, RC, tup, ↓reduceIte, Nat.reduceEqDiff, decT, decF]) ?_; try simp only [RN, Bool.false_eq_true, reduceIte]
        (first | refine T_bfree rfl ?_ | refine T_bfree' rfl ?_); try simp only [RN, Bool.false_eq_true, reduceIte]
        obtain ⟨b, o, blk, heq, hb, hg, hlen, hel⟩ := hv.pos (by omega)
        cases heq
        refine T_rseq fun Kr hKr => ?_; simp (disch := omega) only [RF, RO, RC, tup, ↓reduceIte, Nat.reduceEqDiff, RD, h1, h5, hlt, hg, hel]; refine hKr _ _ ?_; clear hKr Kr; try simp only [RN, Bool.false_eq_true, reduceIte]
        refine T_rseq fun Kr hKr => ?_; simp (disch := omega) only [RF, RO, RC, tup, ↓reduceIte, Nat.reduceEqDiff, RD]
        refine isNumber_spec ?_
        by_cases hn : 0 ≤ el vs k ∧ el vs k ≤ 10006
        · rw [decide_eq_true hn]
          simp (disch := omega) only [RF, RO, RC, tup, ↓reduceIte, Nat.reduceEqDiff, RD]
          refine hKr _ _ ?_; clear hKr Kr; (try simp only [blkQ, thenQ, loopQ]); try simp only [RN, if_true, if_false, Bool.false_eq_true, if_pos, reduceIte]
          refine T_cseq (t := false) (by simp (disch := omega) only [RF, RO, RC, tup, ↓reduceIte, Nat.reduceEqDiff, decT, decF]) ?_; try simp only [RN, Bool.false_eq_true, reduceIte]
          refine T_reg_k fun Kr hKr => ?_; simp (disch := omega) only [RF, RO, RC, tup, ↓reduceIte, Nat.reduceEqDiff, RD, h5]; refine hKr _ _ ?_; clear hKr Kr
          refine hN (vs.length - (k + 1)) _ _ (by omega) ⟨k + 1, by omega, rfl, rfl, by simp [RF, h0], by simp [RF, h1], by simp [RF, h11], by simp [RF], fun i hi => ?_⟩
          by_cases h : i = k
          · subst h; exact hn
          · exact hkk i (by omega)
        · rw [decide_eq_false hn]
          simp (disch := omega) only [RF, RO, RC, tup, ↓reduceIte, Nat.reduceEqDiff, RD]
          refine hKr _ _ ?_; clear hKr Kr; (try simp only [blkQ, thenQ, loopQ]); try simp only [RN, if_true, if_false, Bool.false_eq_true, if_pos, reduceIte]
          refine T_cseq (t := true) (by simp (disch := omega) only [RF, RO, RC, tup, ↓reduceIte, Nat.reduceEqDiff, decT, decF]) ?_; try simp only [RN, Bool.false_eq_true, reduceIte]
          refine T_rseq fun Kr hKr => ?_; simp (disch := omega) only [RF, RO, RC, tup, ↓reduceIte, Nat.reduceEqDiff, RD]; refine hKr _ _ ?_; clear hKr Kr; try simp only [RN, Bool.false_eq_true, reduceIte]
          refine hR _ _ ?_
          refine ⟨_, rfl, ?_⟩; simp only [RF, ev_t, ev_c, tup, ↓reduceIte, Nat.reduceEqDiff]
          have : ¬ (AllNum vs ∧ 2 ≤ xs.length) := fun h => hn (h.1 k hlt)
          simpa only [pcode, hp, this, if_true, if_false] using hK
      · refine T_cseq (t := false) (by simp (disch := omega) only [RF, RO, RC, tup, ↓reduceIte, Nat.reduceEqDiff, decT, decF]) ?_; try simp only [RN, Bool.false_eq_true, reduceIte]
        refine hX _ _ ?_
        try simp only [RN, Bool.false_eq_true, reduceIte]
        have hall : AllNum vs := fun i hi => hkk i (by omega)
        refine T_rseq fun Kr hKr => ?_; simp (disch := omega) only [RF, RO, RC, tup, ↓reduceIte, Nat.reduceEqDiff, RD, h0]; refine hKr _ _ ?_; clear hKr Kr; try simp only [RN, Bool.false_eq_true, reduceIte]
        by_cases h2 : xs.length < 2
        · refine T_cseq (t := true) (by simp (disch := omega) only [RF, RO, RC, tup, ↓reduceIte, Nat.reduceEqDiff, decT, decF]) ?_; try simp only [RN, Bool.false_eq_true, reduceIte]
          refine T_rseq fun Kr hKr => ?_; simp (disch := omega) only [RF, RO, RC, tup, ↓reduceIte, Nat.reduceEqDiff, RD]; refine hKr _ _ ?_; clear hKr Kr; try simp only [RN, Bool.false_eq_true, reduceIte]
          refine ⟨_, rfl, ?_⟩; simp only [RF, ev_t, ev_c, tup, ↓reduceIte, Nat.reduceEqDiff]
          have : ¬ (AllNum vs ∧ 2 ≤ xs.length) := fun h => by omega
          simpa only [pcode, hp, this, if_true, if_false] using hK
        · refine T_cseq (t := false) (by simp (disch := omega) only [RF, RO, RC, tup, ↓reduceIte, Nat.reduceEqDiff, decT, decF]) ?_; try simp only [RN, Bool.false_eq_true, reduceIte]
          refine T_rseq fun Kr hKr => ?_; simp (disch := omega) only [RF, RO, RC, tup, ↓reduceIte, Nat.reduceEqDiff, RD]; refine hKr _ _ ?_; clear hKr Kr; try simp only [RN, Bool.false_eq_true, reduceIte]
          refine ⟨_, rfl, ?_⟩; simp only [RF, ev_t, ev_c, tup, ↓reduceIte, Nat.reduceEqDiff]
          have : AllNum vs ∧ 2 ≤ xs.length := ⟨hall, by omega⟩
          simpa only [pcode, hp, this, and_self, if_true] using hK
  · rw [decide_eq_false hp]
    simp (disch := omega) only [RF, RO, RC, tup, ↓reduceIte, Nat.reduceEqDiff, RD]
    refine hKr _ _ ?_; clear hKr Kr; (try simp only [blkQ, thenQ, loopQ]); try simp only [RN, if_true, if_false, Bool.false_eq_true, if_pos, reduceIte]
    refine T_cseq (t := true) (by simp (disch := omega) only [RF, RO, RC, tup, ↓reduceIte, Nat.reduceEqDiff, decT, decF]) ?_; try simp only [RN, Bool.false_eq_true, reduceIte]
    refine T_rseq fun Kr hKr => ?_; simp (disch := omega) only [RF, RO, RC, tup, ↓reduceIte, Nat.reduceEqDiff, RD]; refine hKr _ _ ?_; clear hKr Kr; try simp only [RN, Bool.false_eq_true, reduceIte]
    refine ⟨_, rfl, ?_⟩; simp only [RF, ev_t, ev_c, tup, ↓reduceIte, Nat.reduceEqDiff]
    simpa only [pcode, hp, if_false] using hK

/-! ### Slopes are shorter, and not 0 -/
theorem el_slope (f : List Int) (i : Nat) : el (slope f) i = md (el f (i + 1) * ((i : Int) + 1)) := by
  rw [slope, el_trim, el_gen_md (g := fun i => el f (i + 1) * ((i : Int) + 1)) fun i hi => ?_]
  show el f (i + 1) * _ = 0
  rw [el_out (by omega)]; simp
theorem red_slope (f : List Int) : Red (slope f) := by
  refine Red.trim fun i => ?_
  rw [el_gen_md (g := fun i => el f (i + 1) * ((i : Int) + 1)) fun i hi => ?_]
  · exact ⟨md_lo _, md_hi _⟩
  · show el f (i + 1) * _ = 0
    rw [el_out (by omega)]; simp
theorem md_prime {a b : Int} (ha : 1 ≤ a ∧ a ≤ 10006) (hb : 1 ≤ b ∧ b ≤ 10006) : md (a * b) ≠ 0 := by
  intro h
  have hi := inv_mul hb.1 hb.2
  unfold md at h hi
  have h1 : a * b = 10007 * (a * b / 10007) := by omega
  have h2 : b * inv b = 1 + 10007 * (b * inv b / 10007) := by omega
  generalize a * b / 10007 = q at h1
  generalize b * inv b / 10007 = t at h2
  have h3 : a = 10007 * (q * inv b - a * t) := by
    have e : a * (b * inv b) = 10007 * q * inv b := by rw [← Int.mul_assoc, h1]
    rw [h2, Int.mul_add, Int.mul_one, Int.mul_left_comm, Int.mul_assoc 10007 q] at e
    rw [Int.mul_sub]
    omega
  generalize q * inv b - a * t = z at h3
  omega
theorem slope_pos {f : List Int} (hf : Red f) (h2 : 2 ≤ f.length) (hl : f.length ≤ 17) : 0 < (slope f).length := by
  rcases Nat.eq_zero_or_pos (slope f).length with h | h
  · exfalso
    have h1 := el_slope f (f.length - 2)
    rw [el_out (by omega), show f.length - 2 + 1 = f.length - 1 by omega] at h1
    have ht := hf.top (by omega)
    exact md_prime (a := top f) (b := ((f.length - 2 : Nat) : Int) + 1) ht (by omega) h1.symm
  · exact h
theorem euclid_len : ∀ (n : Nat) (f g : List Int), g.length ≤ n → Red f → Red g → 0 < g.length → (euclid f g).length ≤ g.length
  | n, f, g, hn, hf, hg, h0 => by
    have hr := rem_red hg h0 f.length f (Nat.le_refl _) hf
    rw [euclid_step hf hg h0]
    by_cases h : (rem f g).length = 0
    · rw [euclid_nil h]; exact Nat.le_refl _
    · match n, hn with
      | 0, hn => omega
      | n + 1, hn =>
        have := euclid_len n g (rem f g) (by omega) hg hr.1 (by omega)
        omega
theorem monic_pos {f : List Int} (hf : Red f) (h0 : 0 < f.length) : (monic f).length = f.length := by
  have hle := monic_len f
  have ht := hf.top h0
  have hi := inv_mul ht.1 ht.2
  have h1 : el (monic f) (f.length - 1) = 1 := by
    rw [monic, el_padd]
    have h2 : el [] (f.length - 1) = 0 := by simp [el]
    rw [h2, Int.zero_add, Int.mul_comm]
    exact hi
  rcases Nat.lt_or_ge (monic f).length f.length with h | h
  · rw [el_out (by omega)] at h1; omega
  · omega
theorem common_slope {f : List Int} (hf : Red f) (h2 : 2 ≤ f.length) (hl : f.length ≤ 17) : Red (common f (slope f)) ∧ 0 < (common f (slope f)).length ∧ (common f (slope f)).length < f.length := by
  have hs := slope_pos hf h2 hl
  have hsl := slope_len f
  have he := euclid_red _ f (slope f) (Nat.le_refl _) hf (red_slope f) ⟨by omega, by omega⟩
  have hp := he.2.2 (.inr hs)
  have hle := euclid_len _ f (slope f) (Nat.le_refl _) hf (red_slope f) hs
  have hm := monic_pos he.1 hp
  unfold common
  exact ⟨red_padd _ _ _, by omega, by omega⟩

/-! ### Counts -/
def cntF : Nat → List Int → List Int
  | 0, _ => []
  | n + 1, f => if f.length ≤ 1 then [] else ((f.length : Int) - ((common f (slope f)).length : Int)) :: cntF n (common f (slope f))
theorem cntF_stable : ∀ (n m : Nat) (f : List Int), Red f → f.length ≤ 17 → f.length ≤ n → f.length ≤ m → cntF n f = cntF m f
  | 0, m, f, _, _, h, _ => by cases m <;> simp [cntF]; omega
  | n + 1, 0, f, _, _, _, h => by simp [cntF]; omega
  | n + 1, m + 1, f, hf, hl, hn, hm => by
    simp only [cntF]
    split
    · rfl
    · have hc := common_slope hf (by omega) hl
      rw [cntF_stable n m _ hc.1 (by omega) (by omega) (by omega)]
def counts (f : List Int) : List Int := cntF f.length f
theorem counts_end {f : List Int} (h : f.length ≤ 1) : counts f = [] := by
  unfold counts
  match hf : f.length with
  | 0 => rfl
  | n + 1 => simp [cntF, hf]; omega
theorem counts_step {f : List Int} (hf : Red f) (h2 : 2 ≤ f.length) (hl : f.length ≤ 17) : counts f = ((f.length : Int) - ((common f (slope f)).length : Int)) :: counts (common f (slope f)) := by
  have hc := common_slope hf h2 hl
  unfold counts
  obtain ⟨n, hn⟩ : ∃ n, f.length = n + 1 := ⟨f.length - 1, by omega⟩
  conv => lhs; rw [hn]
  simp only [cntF]
  rw [if_neg (by omega), cntF_stable n _ _ hc.1 (by omega) (by omega) (Nat.le_refl _)]
theorem el_cons_zero (a : Int) (l : List Int) : el (a :: l) 0 = a := rfl
theorem el_cons_succ (a : Int) (l : List Int) (i : Nat) : el (a :: l) (i + 1) = el l i := by simp [el]
theorem counts_bd : ∀ (n : Nat) (f : List Int), f.length ≤ n → Red f → f.length ≤ 17 → (counts f).length < 17 + 1 ∧ (counts f).length ≤ f.length ∧ ∀ i, i < (counts f).length → 1 ≤ el (counts f) i ∧ el (counts f) i ≤ 17
  | n, f, hn, hf, hl => by
    by_cases h : f.length ≤ 1
    · rw [counts_end h]; simp
    · have hc := common_slope hf (by omega) hl
      rw [counts_step hf (by omega) hl]
      match n, hn with
      | 0, hn => omega
      | n + 1, hn =>
        have ih := counts_bd n _ (show (common f (slope f)).length ≤ n by omega) hc.1 (by omega)
        refine ⟨by simp only [List.length_cons]; omega, by simp only [List.length_cons]; omega, fun i hi => ?_⟩
        cases i with
        | zero => rw [el_cons_zero]; omega
        | succ i => rw [el_cons_succ]; exact ih.2.2 i (by simpa using hi)
/-- The multiplicities off the counts, the last j of them. -/
def expand (cs : List Int) : Nat → List Int
  | 0 => []
  | j + 1 => expand cs j ++ List.replicate (el cs (cs.length - 1 - j) - el cs (cs.length - j)).toNat ((cs.length - j : Nat) : Int)
theorem expand_len {cs : List Int} (h : ∀ i, i < cs.length → 1 ≤ el cs i ∧ el cs i ≤ 17) : ∀ j, j ≤ cs.length → (expand cs j).length ≤ 17 * j
  | 0, _ => Nat.le_refl _
  | j + 1, hj => by
    have ih := expand_len h j (by omega)
    have h1 := h (cs.length - 1 - j) (by omega)
    have h2 : 0 ≤ el cs (cs.length - j) := by
      by_cases hh : cs.length - j < cs.length
      · have := h _ hh; omega
      · rw [el_out (by omega)]; omega
    simp only [expand, List.length_append, List.length_replicate]
    omega
def shiftBy (f : List Int) (v : Int) : List Int := padd f (trim [v]) (-1)
def mults (f : List Int) (v : Int) : List Int := expand (counts (shiftBy f v)) (counts (shiftBy f v)).length
theorem shiftBy_is (f : List Int) {v : Int} : padd f [10007 - v] 1 = shiftBy f v := by
  refine Red.ext (red_padd _ _ _) (red_padd _ _ _) fun i => ?_
  rw [el_padd, shiftBy, el_padd, el_trim]
  cases i with
  | zero =>
    have h1 : el [10007 - v] 0 = 10007 - v := rfl
    have h2 : el [v] 0 = v := rfl
    rw [h1, h2]
    unfold md
    omega
  | succ i => rw [el_one _ _ (by omega), el_one _ _ (by omega)]; simp
theorem shiftBy_len {f : List Int} (hf : Red f) (h2 : 2 ≤ f.length) (v : Int) : (shiftBy f v).length = f.length := by
  have hle := padd_len f (trim [v]) (-1)
  have ht := trim_le [v]
  simp only [List.length_cons, List.length_nil] at ht
  have hle' : (shiftBy f v).length ≤ f.length := by unfold shiftBy; omega
  rcases Nat.lt_or_ge (shiftBy f v).length f.length with h | h
  · exfalso
    have h1 : el (shiftBy f v) (f.length - 1) = el f (f.length - 1) := by
      have hb := hf.1 (f.length - 1)
      rw [shiftBy, el_padd, el_trim, el_one _ _ (by omega), Int.mul_zero, Int.add_zero, md_id hb.1 hb.2]
    rw [el_out (by omega)] at h1
    have := hf.top (by omega)
    unfold top at this
    omega
  · omega
theorem mults_len {f : List Int} (hf : Red f) (h2 : 2 ≤ f.length) (hl : f.length ≤ 17) (v : Int) : (mults f v).length < 1000 := by
  have hs := shiftBy_len hf h2 v
  have hb := counts_bd _ (shiftBy f v) (Nat.le_refl _) (red_padd _ _ _) (by omega)
  have := expand_len hb.2.2 _ (Nat.le_refl _)
  unfold mults
  omega
theorem expand_mono (cs : List Int) : ∀ j, 0 < (expand cs 1).length → 0 < (expand cs (j + 1)).length
  | 0, h => h
  | j + 1, h => by
    have := expand_mono cs j h
    simp only [expand, List.length_append] at this ⊢
    omega
theorem mults_pos {f : List Int} (hf : Red f) (h2 : 2 ≤ f.length) (hl : f.length ≤ 17) (v : Int) : 0 < (mults f v).length := by
  have hs := shiftBy_len hf h2 v
  have hred : Red (shiftBy f v) := red_padd _ _ _
  have hb := counts_bd _ (shiftBy f v) (Nat.le_refl _) hred (by omega)
  have hst := counts_step hred (by omega) (by omega)
  have hp : 0 < (counts (shiftBy f v)).length := by rw [hst]; simp
  unfold mults
  generalize counts (shiftBy f v) = cs at hb hp
  obtain ⟨j, hj⟩ : ∃ j, cs.length = j + 1 := ⟨cs.length - 1, by omega⟩
  rw [hj]
  refine expand_mono cs j ?_
  have h1 := hb.2.2 (cs.length - 1) (by omega)
  simp only [expand, List.length_append, List.length_replicate, List.length_nil, Nat.sub_zero]
  rw [el_out (Nat.le_refl cs.length)]
  omega
end Go.Am

/- Multiplicities, walked. -/
set_option linter.unusedVariables false
set_option linter.unusedSimpArgs false
namespace Go.Am
open Go

theorem own_one' (H : AHeap) (a : Int) : IsI (H.alloc [I a]) (S H.n 0 1 1) [a] := (own_one H a).is
theorem rep_succ (i : Nat) (k : Int) (l : List Int) : l ++ List.replicate (i + 1) k = (l ++ List.replicate i k) ++ [k] := by rw [List.replicate_succ', List.append_assoc]

theorem l06Multiplicities_spec {H : AHeap} {v : Value} {xs : List Int} {x : Int} {K : Value → AHeap → Prop} (hx : IsI H v xs) (hrx : Red xs) (h2 : 2 ≤ xs.length) (hl : xs.length ≤ 17) (hx1 : 0 ≤ x) (hx2 : x ≤ 10006)
    (hK : ∀ v' H', Ext H H' → OwnI H.n H'.n H' v' (mults xs x) → K v' H') : CallT F_spec_l06Multiplicities [v, I x] H K := by
  have hsl := shiftBy_len hrx h2 x
  have hsr : Red (shiftBy xs x) := red_padd _ _ _
  have hcb := counts_bd _ (shiftBy xs x) (Nat.le_refl _) hsr (by omega)
  generalize hC : counts (shiftBy xs x) = C at hcb
  have hmul : mults xs x = expand C C.length := by rw [mults, hC]
  refine CallT_body Γ_spec_l06Multiplicities ?_; simp only [A_spec_l06Multiplicities, T_aiff]
  refine T_rseq fun Kr hKr => ?_; simp (disch := omega) only [RF, RO, RC, tup, ↓reduceIte, Nat.reduceEqDiff, RD]; refine hKr _ _ ?_; clear hKr Kr; try simp only [RN, Bool.false_eq_true, reduceIte]
  refine T_rseq fun Kr hKr => ?_; simp (disch := omega) only [RF, RO, RC, tup, ↓reduceIte, Nat.reduceEqDiff, RD]
  refine l06Trim_spec (own_one' H x) (by simp) fun p H1 he1 ho1 => ?_
  simp (disch := omega) only [RF, RO, RC, tup, ↓reduceIte, Nat.reduceEqDiff, RD]
  have hE1 := (Ext.alloc H [I x]).trans' he1
  have htl := trim_le [x]
  simp only [List.length_cons, List.length_nil] at htl
  refine l06Add_spec (hx.ext hE1) hrx.fit (by omega) ho1.is (fun i hi => by rw [el_trim]; exact fit_one x (by omega) i (by simp; omega)) (by omega) (by omega) (by omega) fun q H2 he2 ho2 => ?_
  simp (disch := omega) only [RF, RO, RC, tup, ↓reduceIte, Nat.reduceEqDiff, RD]
  refine hKr _ _ ?_; clear hKr Kr; (try simp only [blkQ, thenQ, loopQ]); try simp only [RN, Bool.false_eq_true, reduceIte]
  have hE2 := hE1.trans' he2
  have ho3 := (ho2.weak (Nat.le_trans (Nat.le_succ H.n) he1.n) (Nat.le_refl _)).ext (Ext.alloc H2 [])
  refine T_wloop (fun n f H' => ∃ u c now cs lo, n = now.length ∧ Ext H H' ∧ f 5 = u ∧ f 6 = c ∧ OwnI H.n lo H' u now ∧ OwnI lo H'.n H' c cs ∧ H.n ≤ lo ∧ lo ≤ H'.n ∧ Red now ∧ now.length ≤ 17 ∧ cs ++ counts now = C) (xs.length) ?_ ?_
  · exact ⟨q, S H2.n 0 0 1, shiftBy xs x, [], H2.n, hsl.symm, hE2.trans' (Ext.alloc _ _), by simp [RF], by simp [RF], ho3, own_empty H2, hE2.n, Nat.le_succ _, hsr, by omega, by simpa using hC⟩
  · clear ho1 ho2 ho3 hE1 he1 he2 hE2
    rintro n f H' R ⟨u, c, now, cs, lo, rfl, he, h5, h6, hnow, hcs, hlo, hlo2, hred, hnl, hcnt⟩ hN hX hR
    simp only [A_spec_l06Multiplicities.l0, T_aiff]
    obtain ⟨ua, ue, rfl⟩ := hnow.len
    refine T_rseq fun Kr hKr => ?_; simp (disch := omega) only [RF, RO, RC, tup, ↓reduceIte, Nat.reduceEqDiff, RD, h5]; refine hKr _ _ ?_; clear hKr Kr; try simp only [RN, Bool.false_eq_true, reduceIte]
    by_cases hgt : 1 < now.length
    · refine T_cseq (t := true) (by simp (disch := omega) only [RF, RO, RC, tup, ↓reduceIte, Nat.reduceEqDiff, decT, decF]) ?_; try simp only [RN, Bool.false_eq_true, reduceIte]
      (first | refine T_bfree rfl ?_ | refine T_bfree' rfl ?_); try simp only [RN, Bool.false_eq_true, reduceIte]
      have hcl := common_slope hred (by omega) hnl
      have hsp := slope_pos hred (by omega) hnl
      have hsle := slope_len now
      refine T_rseq fun Kr hKr => ?_; simp (disch := omega) only [RF, RO, RC, tup, ↓reduceIte, Nat.reduceEqDiff, RD, h5]
      refine l06Slope_spec hnow.is hred.fit (by omega) fun p H1 he1 ho1 => ?_
      simp (disch := omega) only [RF, RO, RC, tup, ↓reduceIte, Nat.reduceEqDiff, RD, h5]
      refine l06Common_spec (hnow.ext he1).is hred (by omega) ho1.is (red_slope now) (by omega) (.inl (by omega)) fun g H2 he2 ho2 => ?_
      simp (disch := omega) only [RF, RO, RC, tup, ↓reduceIte, Nat.reduceEqDiff, RD]
      refine hKr _ _ ?_; clear hKr Kr; (try simp only [blkQ, thenQ, loopQ]); try simp only [RN, Bool.false_eq_true, reduceIte]
      have hE := he1.trans' he2
      obtain ⟨ga, ge, rfl⟩ := ho2.len
      have hcl2 : cs.length ≤ C.length := by rw [← hcnt, List.length_append]; omega
      obtain ⟨c', H3, ha, hoc, hout⟩ := append1 ((now.length : Int) - ((common now (slope now)).length : Int)) (hcs.ext hE) (by omega)
      refine T_rseq fun Kr hKr => ?_; simp (disch := omega) only [RF, RO, RC, tup, ↓reduceIte, Nat.reduceEqDiff, RD, h5, h6, ha]; refine hKr _ _ ?_; clear hKr Kr; try simp only [RN, Bool.false_eq_true, reduceIte]
      refine T_reg_k fun Kr hKr => ?_; simp (disch := omega) only [RF, RO, RC, tup, ↓reduceIte, Nat.reduceEqDiff, RD]; refine hKr _ _ ?_; clear hKr Kr
      refine hN _ _ _ hcl.2.2 ⟨.slice ga (common now (slope now)).length ge, c', common now (slope now), cs ++ [(now.length : Int) - ((common now (slope now)).length : Int)], H2.n, rfl, (he.trans' hE).out hout hlo, by simp [RF], by simp [RF], ?_, hoc, Nat.le_trans he.n hE.n, hout.n, hcl.1, by omega, ?_⟩
      · exact (ho2.out hout (.inr he1.n)).weak (Nat.le_trans he.n he1.n) (Nat.le_refl _)
      · rw [← hcnt, counts_step hred (by omega) hnl, List.append_assoc]; rfl
    · refine T_cseq (t := false) (by simp (disch := omega) only [RF, RO, RC, tup, ↓reduceIte, Nat.reduceEqDiff, decT, decF]) ?_; try simp only [RN, Bool.false_eq_true, reduceIte]
      refine hX _ _ ?_
      rw [counts_end (by omega), List.append_nil] at hcnt
      subst hcnt
      obtain ⟨ca, ce, rfl⟩ := hcs.len
      refine T_rseq fun Kr hKr => ?_; simp (disch := omega) only [RF, RO, RC, tup, ↓reduceIte, Nat.reduceEqDiff, RD]; refine hKr _ _ ?_; clear hKr Kr; try simp only [RN, Bool.false_eq_true, reduceIte]
      refine T_rseq fun Kr hKr => ?_; simp (disch := omega) only [RF, RO, RC, tup, ↓reduceIte, Nat.reduceEqDiff, RD, h6]; refine hKr _ _ ?_; clear hKr Kr; try simp only [RN, Bool.false_eq_true, reduceIte]
      refine T_wloop (fun n f H2 => ∃ w j lo2, j ≤ cs.length ∧ n = cs.length - j ∧ Ext H H2 ∧ f 6 = .slice ca cs.length ce ∧ f 8 = w ∧ f 9 = I ((cs.length - j : Nat) : Int) ∧ OwnI H.n lo2 H2 (.slice ca cs.length ce) cs ∧ OwnI lo2 H2.n H2 w (expand cs j) ∧ H.n ≤ lo2 ∧ lo2 ≤ H2.n) (cs.length) ?_ ?_
      · refine ⟨S H'.n 0 0 1, 0, H'.n, by omega, by omega, he.alloc' _, by simp [RF, h6], by simp [RF], by simp [RF], ?_, own_empty H', he.n, Nat.le_succ _⟩
        exact (hcs.weak hlo (Nat.le_refl _)).ext (Ext.alloc _ _)
      · clear hnow hcs h5 h6 he hN hX hR
        rintro n f H2 R2 ⟨w, j, lo2, hj, rfl, he, h6, h8, h9, hcs, hw, hlo3, hlo4⟩ hN hX hR
        simp only [A_spec_l06Multiplicities.l2, T_aiff]
        refine T_rseq fun Kr hKr => ?_; simp (disch := omega) only [RF, RO, RC, tup, ↓reduceIte, Nat.reduceEqDiff, RD, h9]; refine hKr _ _ ?_; clear hKr Kr; try simp only [RN, Bool.false_eq_true, reduceIte]
        by_cases hjl : j < cs.length
        · refine T_cseq (t := true) (by simp (disch := omega) only [RF, RO, RC, tup, ↓reduceIte, Nat.reduceEqDiff, decT, decF]) ?_; try simp only [RN, Bool.false_eq_true, reduceIte]
          (first | refine T_bfree rfl ?_ | refine T_bfree' rfl ?_); try simp only [RN, Bool.false_eq_true, reduceIte]
          obtain ⟨cb, crest, heq, hc1, hc2, hc3, hgc⟩ := hcs.pos (by omega)
          cases heq
          have hk1 : ((cs.length - j : Nat) : Int) - 1 = ((cs.length - 1 - j : Nat) : Int) := by omega
          have hkl : cs.length - 1 - j < cs.length := by omega
          have hb1 := hcb.2.2 (cs.length - 1 - j) hkl
          have hb2 : 0 ≤ el cs (cs.length - j) ∧ el cs (cs.length - j) ≤ 17 := by
            by_cases hh : cs.length - j < cs.length
            · have := hcb.2.2 _ hh; omega
            · rw [el_out (by omega)]; omega
          have hex := expand_len hcb.2.2 j hj
          have hmid : ∀ (f' : Fr), f' 6 = S cb 0 cs.length 1 → f' 8 = w → f' 9 = I ((cs.length - j : Nat) : Int) → f' 10 = I (el cs (cs.length - j)) → T (.seq A_spec_l06Multiplicities.r13 (.seq (.block 4 (.loop A_spec_l06Multiplicities.l1)) A_spec_l06Multiplicities.r9)) R2 f' H2 := by
            intro f' h6 h8 h9 h10
            refine T_rseq fun Kr hKr => ?_; simp (disch := omega) only [RF, RO, RC, tup, ↓reduceIte, Nat.reduceEqDiff, RD, h6, h9, h10, hk1, hkl, hgc]; refine hKr _ _ ?_; clear hKr Kr; try simp only [RN, Bool.false_eq_true, reduceIte]
            generalize hd : el cs (cs.length - 1 - j) - el cs (cs.length - j) = d
            refine T_wloop (fun n f H3 => ∃ w i lo2, i ≤ d.toNat ∧ n = d.toNat - i ∧ Ext H H3 ∧ f 6 = S cb 0 cs.length 1 ∧ f 8 = w ∧ f 9 = I ((cs.length - j : Nat) : Int) ∧ f 11 = I (d - i) ∧ OwnI H.n lo2 H3 (S cb 0 cs.length 1) cs ∧ OwnI lo2 H3.n H3 w (expand cs j ++ List.replicate i ((cs.length - j : Nat) : Int)) ∧ H.n ≤ lo2 ∧ lo2 ≤ H3.n) (d.toNat) ?_ ?_
            · exact ⟨w, 0, lo2, by omega, by omega, he, by simp [RF, h6], by simp [RF, h8], by simp [RF, h9], by simp [RF], hcs, by simpa using hw, hlo3, hlo4⟩
            · clear hcs hw h6 h8 h9 h10 he hgc hc2 hc3 hlo3 hlo4
              rintro n f H3 R3 ⟨w, i, lo2, hi, rfl, he, h6, h8, h9, h11, hcs, hw, hlo3, hlo4⟩ hN3 hX3 hR3
              simp only [A_spec_l06Multiplicities.l1, T_aiff]
              refine T_rseq fun Kr hKr => ?_; simp (disch := omega) only [RF, RO, RC, tup, ↓reduceIte, Nat.reduceEqDiff, RD, h11]; refine hKr _ _ ?_; clear hKr Kr; try simp only [RN, Bool.false_eq_true, reduceIte]
              by_cases hid : i < d.toNat
              · refine T_cseq (t := true) (by simp (disch := omega) only [RF, RO, RC, tup, ↓reduceIte, Nat.reduceEqDiff, decT, decF]) ?_; try simp only [RN, Bool.false_eq_true, reduceIte]
                (first | refine T_bfree rfl ?_ | refine T_bfree' rfl ?_); try simp only [RN, Bool.false_eq_true, reduceIte]
                obtain ⟨w', H4, ha, how, hout⟩ := append1 ((cs.length - j : Nat) : Int) hw (by simp; omega)
                refine T_rseq fun Kr hKr => ?_; simp (disch := omega) only [RF, RO, RC, tup, ↓reduceIte, Nat.reduceEqDiff, RD, h8, h9, ha]; refine hKr _ _ ?_; clear hKr Kr; try simp only [RN, Bool.false_eq_true, reduceIte]
                refine T_reg_k fun Kr hKr => ?_; simp (disch := omega) only [RF, RO, RC, tup, ↓reduceIte, Nat.reduceEqDiff, RD, h11]; refine hKr _ _ ?_; clear hKr Kr
                refine hN3 (d.toNat - (i + 1)) _ _ (by omega) ⟨w', i + 1, H3.n, by omega, rfl, he.out hout hlo3, by simp [RF, h6], by simp [RF], by simp [RF, h9], by simp [RF]; omega, ?_, by rw [rep_succ]; exact how, he.n, hout.n⟩
                exact (hcs.out hout (.inl (Nat.le_refl _))).weak (Nat.le_refl _) hlo4
              · refine T_cseq (t := false) (by simp (disch := omega) only [RF, RO, RC, tup, ↓reduceIte, Nat.reduceEqDiff, decT, decF]) ?_; try simp only [RN, Bool.false_eq_true, reduceIte]
                refine hX3 _ _ ?_
                have hii : i = d.toNat := by omega
                subst hii
                refine T_reg_k fun Kr hKr => ?_; simp (disch := omega) only [RF, RO, RC, tup, ↓reduceIte, Nat.reduceEqDiff, RD, h9]; refine hKr _ _ ?_; clear hKr Kr
                refine hN (cs.length - (j + 1)) _ _ (by omega) ⟨w, j + 1, lo2, by omega, rfl, he, by simp [RF, h6], by simp [RF, h8], ?_, hcs, ?_, hlo3, hlo4⟩
                · simp [RF]; omega
                · rw [← hd] at hw; exact hw
          refine T_rseq fun Kr hKr => ?_; simp (disch := omega) only [RF, RO, RC, tup, ↓reduceIte, Nat.reduceEqDiff, RD]; refine hKr _ _ ?_; clear hKr Kr; try simp only [RN, Bool.false_eq_true, reduceIte]
          refine T_rseq fun Kr hKr => ?_; simp (disch := omega) only [RF, RO, RC, tup, ↓reduceIte, Nat.reduceEqDiff, RD, h6, h9]; refine hKr _ _ ?_; clear hKr Kr; try simp only [RN, Bool.false_eq_true, reduceIte]
          by_cases hlt : cs.length - j < cs.length
          · refine T_cseq (t := true) (by simp (disch := omega) only [RF, RO, RC, tup, ↓reduceIte, Nat.reduceEqDiff, decT, decF]) ?_; try simp only [RN, Bool.false_eq_true, reduceIte]
            refine T_rseq fun Kr hKr => ?_; simp (disch := omega) only [RF, RO, RC, tup, ↓reduceIte, Nat.reduceEqDiff, RD, h6, h9, hgc]; refine hKr _ _ ?_; clear hKr Kr; try simp only [RN, Bool.false_eq_true, reduceIte]
            exact hmid _ (by simp [RF, h6]) (by simp [RF, h8]) (by simp [RF, h9]) (by simp [RF])
          · refine T_cseq (t := false) (by simp (disch := omega) only [RF, RO, RC, tup, ↓reduceIte, Nat.reduceEqDiff, decT, decF]) ?_; try simp only [RN, Bool.false_eq_true, reduceIte]
            exact hmid _ (by simp [RF, h6]) (by simp [RF, h8]) (by simp [RF, h9]) (by simp [RF]; rw [el_out (by omega)])
        · refine T_cseq (t := false) (by simp (disch := omega) only [RF, RO, RC, tup, ↓reduceIte, Nat.reduceEqDiff, decT, decF]) ?_; try simp only [RN, Bool.false_eq_true, reduceIte]
          refine hX _ _ ?_
          have hjj : j = cs.length := by omega
          subst hjj
          refine T_rseq fun Kr hKr => ?_; simp (disch := omega) only [RF, RO, RC, tup, ↓reduceIte, Nat.reduceEqDiff, RD, h8]; refine hKr _ _ ?_; clear hKr Kr; try simp only [RN, Bool.false_eq_true, reduceIte]
          refine ⟨_, rfl, ?_⟩; simp only [RF, ev_t, ev_c, tup, ↓reduceIte, Nat.reduceEqDiff]
          refine hK _ _ he ?_
          rw [hmul]
          exact hw.weak hlo3 (Nat.le_refl _)
end Go.Am

/- Multiplicities, the program's own; the laws' functions. -/
set_option linter.unusedVariables false
set_option linter.unusedSimpArgs false
namespace Go.Am
open Go

theorem multiplicities_spec {H : AHeap} {v : Value} {xs : List Int} {x : Int} {K : Value → AHeap → Prop} (hx : IsI H v xs) (hrx : Red xs) (h2 : 2 ≤ xs.length) (hl : xs.length ≤ 17) (hx1 : 0 ≤ x) (hx2 : x ≤ 10006)
    (hK : ∀ v' H', Ext H H' → OwnI H.n H'.n H' v' (mults xs x) → K v' H') : CallT F_impl_multiplicities [v, I x] H K := by
  have hsl := shiftBy_len hrx h2 x
  have hsr : Red (shiftBy xs x) := red_padd _ _ _
  have hcb := counts_bd _ (shiftBy xs x) (Nat.le_refl _) hsr (by omega)
  generalize hC : counts (shiftBy xs x) = C at hcb
  have hmul : mults xs x = expand C C.length := by rw [mults, hC]
  refine CallT_body Γ_impl_multiplicities ?_; simp only [A_impl_multiplicities, T_aiff]
  refine T_rseq fun Kr hKr => ?_; simp (disch := omega) only [RF, RO, RC, tup, ↓reduceIte, Nat.reduceEqDiff, RD]; refine hKr _ _ ?_; clear hKr Kr; try simp only [RN, Bool.false_eq_true, reduceIte]
  refine T_rseq fun Kr hKr => ?_; simp (disch := omega) only [RF, RO, RC, tup, ↓reduceIte, Nat.reduceEqDiff, RD]
  refine addAll_spec (hx.ext (Ext.alloc H [I (10007 - x)])) hrx.fit (by omega) (own_one' H (10007 - x)) (fit_one _ (by omega)) (by simp) fun q H2 he2 ho2 => ?_
  simp (disch := omega) only [RF, RO, RC, tup, ↓reduceIte, Nat.reduceEqDiff, RD]
  refine hKr _ _ ?_; clear hKr Kr; (try simp only [blkQ, thenQ, loopQ]); try simp only [RN, Bool.false_eq_true, reduceIte]
  rw [shiftBy_is] at ho2
  have hE2 := (Ext.alloc H [I (10007 - x)]).trans' he2
  have ho3 := (ho2.weak (Nat.le_succ H.n) (Nat.le_refl _)).ext (Ext.alloc H2 [])
  refine T_rseq fun Kr hKr => ?_; simp (disch := omega) only [RF, RO, RC, tup, ↓reduceIte, Nat.reduceEqDiff, RD]; refine hKr _ _ ?_; clear hKr Kr; try simp only [RN, Bool.false_eq_true, reduceIte]
  refine T_wloop (fun n f H' => ∃ u c now cs lo, n = now.length ∧ Ext H H' ∧ f 0 = u ∧ f 5 = c ∧ OwnI H.n lo H' u now ∧ OwnI lo H'.n H' c cs ∧ H.n ≤ lo ∧ lo ≤ H'.n ∧ Red now ∧ now.length ≤ 17 ∧ cs ++ counts now = C) (xs.length) ?_ ?_
  · exact ⟨q, S H2.n 0 0 1, shiftBy xs x, [], H2.n, hsl.symm, hE2.trans' (Ext.alloc _ _), by simp [RF], by simp [RF], ho3, own_empty H2, hE2.n, Nat.le_succ _, hsr, by omega, by simpa using hC⟩
  · clear ho2 ho3 he2 hE2
    rintro n f H' R ⟨u, c, now, cs, lo, rfl, he, h5, h6, hnow, hcs, hlo, hlo2, hred, hnl, hcnt⟩ hN hX hR
    simp only [A_impl_multiplicities.l0, T_aiff]
    obtain ⟨ua, ue, rfl⟩ := hnow.len
    refine T_rseq fun Kr hKr => ?_; simp (disch := omega) only [RF, RO, RC, tup, ↓reduceIte, Nat.reduceEqDiff, RD, h5]; refine hKr _ _ ?_; clear hKr Kr; try simp only [RN, Bool.false_eq_true, reduceIte]
    by_cases hgt : 1 < now.length
    · refine T_cseq (t := true) (by simp (disch := omega) only [RF, RO, RC, tup, ↓reduceIte, Nat.reduceEqDiff, decT, decF]) ?_; try simp only [RN, Bool.false_eq_true, reduceIte]
      (first | refine T_bfree rfl ?_ | refine T_bfree' rfl ?_); try simp only [RN, Bool.false_eq_true, reduceIte]
      have hcl := common_slope hred (by omega) hnl
      have hsp := slope_pos hred (by omega) hnl
      have hsle := slope_len now
      refine T_rseq fun Kr hKr => ?_; simp (disch := omega) only [RF, RO, RC, tup, ↓reduceIte, Nat.reduceEqDiff, RD, h5]
      refine derivative_spec hnow.is hred.fit (by omega) fun p H1 he1 ho1 => ?_
      simp (disch := omega) only [RF, RO, RC, tup, ↓reduceIte, Nat.reduceEqDiff, RD, h5]
      refine common_spec (hnow.ext he1).is hred (by omega) ho1.is (red_slope now) (by omega) (.inl (by omega)) fun g H2 he2 ho2 => ?_
      simp (disch := omega) only [RF, RO, RC, tup, ↓reduceIte, Nat.reduceEqDiff, RD]
      refine hKr _ _ ?_; clear hKr Kr; (try simp only [blkQ, thenQ, loopQ]); try simp only [RN, Bool.false_eq_true, reduceIte]
      have hE := he1.trans' he2
      obtain ⟨ga, ge, rfl⟩ := ho2.len
      have hcl2 : cs.length ≤ C.length := by rw [← hcnt, List.length_append]; omega
      obtain ⟨c', H3, ha, hoc, hout⟩ := append1 ((now.length : Int) - ((common now (slope now)).length : Int)) (hcs.ext hE) (by omega)
      refine T_rseq fun Kr hKr => ?_; simp (disch := omega) only [RF, RO, RC, tup, ↓reduceIte, Nat.reduceEqDiff, RD, h5, h6, ha]; refine hKr _ _ ?_; clear hKr Kr; try simp only [RN, Bool.false_eq_true, reduceIte]
      refine T_reg_k fun Kr hKr => ?_; simp (disch := omega) only [RF, RO, RC, tup, ↓reduceIte, Nat.reduceEqDiff, RD]; refine hKr _ _ ?_; clear hKr Kr
      refine hN _ _ _ hcl.2.2 ⟨.slice ga (common now (slope now)).length ge, c', common now (slope now), cs ++ [(now.length : Int) - ((common now (slope now)).length : Int)], H2.n, rfl, (he.trans' hE).out hout hlo, by simp [RF], by simp [RF], ?_, hoc, Nat.le_trans he.n hE.n, hout.n, hcl.1, by omega, ?_⟩
      · exact (ho2.out hout (.inr he1.n)).weak (Nat.le_trans he.n he1.n) (Nat.le_refl _)
      · rw [← hcnt, counts_step hred (by omega) hnl, List.append_assoc]; rfl
    · refine T_cseq (t := false) (by simp (disch := omega) only [RF, RO, RC, tup, ↓reduceIte, Nat.reduceEqDiff, decT, decF]) ?_; try simp only [RN, Bool.false_eq_true, reduceIte]
      refine hX _ _ ?_
      try simp only [RN, Bool.false_eq_true, reduceIte]
      rw [counts_end (by omega), List.append_nil] at hcnt
      subst hcnt
      obtain ⟨ca, ce, rfl⟩ := hcs.len
      refine T_rseq fun Kr hKr => ?_; simp (disch := omega) only [RF, RO, RC, tup, ↓reduceIte, Nat.reduceEqDiff, RD]; refine hKr _ _ ?_; clear hKr Kr; try simp only [RN, Bool.false_eq_true, reduceIte]
      refine T_rseq fun Kr hKr => ?_; simp (disch := omega) only [RF, RO, RC, tup, ↓reduceIte, Nat.reduceEqDiff, RD, h6]; refine hKr _ _ ?_; clear hKr Kr; try simp only [RN, Bool.false_eq_true, reduceIte]
      refine T_wloop (fun n f H2 => ∃ w j lo2, j ≤ cs.length ∧ n = cs.length - j ∧ Ext H H2 ∧ f 5 = .slice ca cs.length ce ∧ f 7 = w ∧ f 8 = I (((cs.length - j : Nat) : Int) - 1) ∧ OwnI H.n lo2 H2 (.slice ca cs.length ce) cs ∧ OwnI lo2 H2.n H2 w (expand cs j) ∧ H.n ≤ lo2 ∧ lo2 ≤ H2.n) (cs.length) ?_ ?_
      · refine ⟨S H'.n 0 0 1, 0, H'.n, by omega, by omega, he.alloc' _, by simp [RF, h6], by simp [RF], by simp [RF], ?_, own_empty H', he.n, Nat.le_succ _⟩
        exact (hcs.weak hlo (Nat.le_refl _)).ext (Ext.alloc _ _)
      · clear hnow hcs h5 h6 he hN hX hR
        rintro n f H2 R2 ⟨w, j, lo2, hj, rfl, he, h6, h8, h9, hcs, hw, hlo3, hlo4⟩ hN hX hR
        simp only [A_impl_multiplicities.l2, T_aiff]
        refine T_rseq fun Kr hKr => ?_; simp (disch := omega) only [RF, RO, RC, tup, ↓reduceIte, Nat.reduceEqDiff, RD, h9]; refine hKr _ _ ?_; clear hKr Kr; try simp only [RN, Bool.false_eq_true, reduceIte]
        by_cases hjl : j < cs.length
        · refine T_cseq (t := true) (by simp (disch := omega) only [RF, RO, RC, tup, ↓reduceIte, Nat.reduceEqDiff, decT, decF]) ?_; try simp only [RN, Bool.false_eq_true, reduceIte]
          (first | refine T_bfree rfl ?_ | refine T_bfree' rfl ?_); try simp only [RN, Bool.false_eq_true, reduceIte]
          obtain ⟨cb, crest, heq, hc1, hc2, hc3, hgc⟩ := hcs.pos (by omega)
          cases heq
          have hk1 : ((cs.length - j : Nat) : Int) - 1 = ((cs.length - 1 - j : Nat) : Int) := by omega
          have hk2 : ((cs.length - 1 - j : Nat) : Int) + 1 = ((cs.length - j : Nat) : Int) := by omega
          have hkl : cs.length - 1 - j < cs.length := by omega
          rw [hk1] at h9
          have hb1 := hcb.2.2 (cs.length - 1 - j) hkl
          have hb2 : 0 ≤ el cs (cs.length - j) ∧ el cs (cs.length - j) ≤ 17 := by
            by_cases hh : cs.length - j < cs.length
            · have := hcb.2.2 _ hh; omega
            · rw [el_out (by omega)]; omega
          have hex := expand_len hcb.2.2 j hj
          have hmid : ∀ (f' : Fr), f' 5 = S cb 0 cs.length 1 → f' 7 = w → f' 8 = I ((cs.length - 1 - j : Nat) : Int) → f' 9 = I (el cs (cs.length - j)) → T (.seq A_impl_multiplicities.r14 (.seq (.block 4 (.loop A_impl_multiplicities.l1)) A_impl_multiplicities.r10)) R2 f' H2 := by
            intro f' h6 h8 h9 h10
            refine T_rseq fun Kr hKr => ?_; simp (disch := omega) only [RF, RO, RC, tup, ↓reduceIte, Nat.reduceEqDiff, RD, h6, h9, h10, hkl, hgc]; refine hKr _ _ ?_; clear hKr Kr; try simp only [RN, Bool.false_eq_true, reduceIte]
            generalize hd : el cs (cs.length - 1 - j) - el cs (cs.length - j) = d
            refine T_wloop (fun n f H3 => ∃ w i lo2, i ≤ d.toNat ∧ n = d.toNat - i ∧ Ext H H3 ∧ f 5 = S cb 0 cs.length 1 ∧ f 7 = w ∧ f 8 = I ((cs.length - 1 - j : Nat) : Int) ∧ f 55 = I d ∧ f 56 = I i ∧ OwnI H.n lo2 H3 (S cb 0 cs.length 1) cs ∧ OwnI lo2 H3.n H3 w (expand cs j ++ List.replicate i ((cs.length - j : Nat) : Int)) ∧ H.n ≤ lo2 ∧ lo2 ≤ H3.n) (d.toNat) ?_ ?_
            · exact ⟨w, 0, lo2, by omega, by omega, he, by simp [RF, h6], by simp [RF, h8], by simp [RF, h9], by simp [RF], by simp [RF], hcs, by simpa using hw, hlo3, hlo4⟩
            · clear hcs hw h6 h8 h9 h10 he hgc hc2 hc3 hlo3 hlo4
              rintro n f H3 R3 ⟨w, i, lo2, hi, rfl, he, h6, h8, h9, h11, h56, hcs, hw, hlo3, hlo4⟩ hN3 hX3 hR3
              simp only [A_impl_multiplicities.l1, T_aiff]
              refine T_rseq fun Kr hKr => ?_; simp (disch := omega) only [RF, RO, RC, tup, ↓reduceIte, Nat.reduceEqDiff, RD, h11, h56]; refine hKr _ _ ?_; clear hKr Kr; try simp only [RN, Bool.false_eq_true, reduceIte]
              by_cases hid : i < d.toNat
              · refine T_cseq (t := true) (by simp (disch := omega) only [RF, RO, RC, tup, ↓reduceIte, Nat.reduceEqDiff, decT, decF]) ?_; try simp only [RN, Bool.false_eq_true, reduceIte]
                (first | refine T_bfree rfl ?_ | refine T_bfree' rfl ?_); try simp only [RN, Bool.false_eq_true, reduceIte]
                obtain ⟨w', H4, ha, how, hout⟩ := append1 ((cs.length - j : Nat) : Int) hw (by simp; omega)
                refine T_rseq fun Kr hKr => ?_; simp (disch := omega) only [RF, RO, RC, tup, ↓reduceIte, Nat.reduceEqDiff, RD, h8, h9, hk2, ha]; refine hKr _ _ ?_; clear hKr Kr; try simp only [RN, Bool.false_eq_true, reduceIte]
                refine T_reg_k fun Kr hKr => ?_; simp (disch := omega) only [RF, RO, RC, tup, ↓reduceIte, Nat.reduceEqDiff, RD, h56]; refine hKr _ _ ?_; clear hKr Kr
                refine hN3 (d.toNat - (i + 1)) _ _ (by omega) ⟨w', i + 1, H3.n, by omega, rfl, he.out hout hlo3, by simp [RF, h6], by simp [RF], by simp [RF, h9], by simp [RF, h11], by simp [RF], ?_, by rw [rep_succ]; exact how, he.n, hout.n⟩
                exact (hcs.out hout (.inl (Nat.le_refl _))).weak (Nat.le_refl _) hlo4
              · refine T_cseq (t := false) (by simp (disch := omega) only [RF, RO, RC, tup, ↓reduceIte, Nat.reduceEqDiff, decT, decF]) ?_; try simp only [RN, Bool.false_eq_true, reduceIte]
                refine hX3 _ _ ?_
                have hii : i = d.toNat := by omega
                subst hii
                refine T_reg_k fun Kr hKr => ?_; simp (disch := omega) only [RF, RO, RC, tup, ↓reduceIte, Nat.reduceEqDiff, RD, h9]; refine hKr _ _ ?_; clear hKr Kr
                refine hN (cs.length - (j + 1)) _ _ (by omega) ⟨w, j + 1, lo2, by omega, rfl, he, by simp [RF, h6], by simp [RF, h8], ?_, hcs, ?_, hlo3, hlo4⟩
                · simp [RF]; omega
                · rw [← hd] at hw; exact hw
          refine T_rseq fun Kr hKr => ?_; simp (disch := omega) only [RF, RO, RC, tup, ↓reduceIte, Nat.reduceEqDiff, RD]; refine hKr _ _ ?_; clear hKr Kr; try simp only [RN, Bool.false_eq_true, reduceIte]
          refine T_rseq fun Kr hKr => ?_; simp (disch := omega) only [RF, RO, RC, tup, ↓reduceIte, Nat.reduceEqDiff, RD, h6, h9, hk2]; refine hKr _ _ ?_; clear hKr Kr; try simp only [RN, Bool.false_eq_true, reduceIte]
          by_cases hlt : cs.length - j < cs.length
          · refine T_cseq (t := true) (by simp (disch := omega) only [RF, RO, RC, tup, ↓reduceIte, Nat.reduceEqDiff, decT, decF]) ?_; try simp only [RN, Bool.false_eq_true, reduceIte]
            refine T_rseq fun Kr hKr => ?_; simp (disch := omega) only [RF, RO, RC, tup, ↓reduceIte, Nat.reduceEqDiff, RD, h6, h9, hk2, hgc]; refine hKr _ _ ?_; clear hKr Kr; try simp only [RN, Bool.false_eq_true, reduceIte]
            exact hmid _ (by simp [RF, h6]) (by simp [RF, h8]) (by simp [RF, h9]) (by simp [RF])
          · refine T_cseq (t := false) (by simp (disch := omega) only [RF, RO, RC, tup, ↓reduceIte, Nat.reduceEqDiff, decT, decF]) ?_; try simp only [RN, Bool.false_eq_true, reduceIte]
            exact hmid _ (by simp [RF, h6]) (by simp [RF, h8]) (by simp [RF, h9]) (by simp [RF]; rw [el_out (by omega)])
        · refine T_cseq (t := false) (by simp (disch := omega) only [RF, RO, RC, tup, ↓reduceIte, Nat.reduceEqDiff, decT, decF]) ?_; try simp only [RN, Bool.false_eq_true, reduceIte]
          refine hX _ _ ?_
          have hjj : j = cs.length := by omega
          subst hjj
          refine T_rseq fun Kr hKr => ?_; simp (disch := omega) only [RF, RO, RC, tup, ↓reduceIte, Nat.reduceEqDiff, RD, h8]; refine hKr _ _ ?_; clear hKr Kr; try simp only [RN, Bool.false_eq_true, reduceIte]
          refine ⟨_, rfl, ?_⟩; simp only [RF, ev_t, ev_c, tup, ↓reduceIte, Nat.reduceEqDiff]
          refine hK _ _ he ?_
          rw [hmul]
          exact hw.weak hlo3 (Nat.le_refl _)
end Go.Am

/- The laws' functions over multiplicities. -/
set_option linter.unusedVariables false
set_option linter.unusedSimpArgs false
namespace Go.Am
open Go

theorem el_single (a : Int) : el [a] 0 = a := rfl
theorem pcode_zero {f vs : List Int} (h : pcode f vs = 0) : Poly f ∧ AllNum vs ∧ 2 ≤ f.length := by
  unfold pcode at h
  by_cases h1 : Poly f
  · rw [if_pos h1] at h
    by_cases h2 : AllNum vs ∧ 2 ≤ f.length
    · exact ⟨h1, h2⟩
    · rw [if_neg h2] at h; omega
  · rw [if_neg h1] at h; omega
def resMultiplicitiesOf (xs : List Int) (a : Int) : List Int × Int := if pcode xs [a] = 0 then (mults xs a, 0) else ([], pcode xs [a])
theorem resMultiplicitiesOf_len (xs : List Int) (a : Int) : (resMultiplicitiesOf xs a).1.length < 1000 := by
  unfold resMultiplicitiesOf
  split
  · rename_i h
    have hp := pcode_zero h
    exact mults_len hp.1.red hp.2.2 hp.1.2.1 a
  · simp
def resIsCritical (xs : List Int) (a : Int) : Bool × Int := if pcode xs [a] = 0 then (decide (1 < el (mults xs a) 0), 0) else (false, pcode xs [a])
theorem MultiplicitiesOf_spec {H : AHeap} {v : Value} {xs : List Int} {a : Int} {K : Value → AHeap → Prop} (hx : IsI H v xs) (hl : xs.length < 2 ^ 62) (hb : -9223372036854775808 ≤ a ∧ a < 9223372036854775808)
    (hK : ∀ v' H', Ext H H' → OwnI H.n H'.n H' v' (resMultiplicitiesOf xs a).1 → K (.tuple ⟨[v', I (resMultiplicitiesOf xs a).2]⟩) H') : CallT F_spec_MultiplicitiesOf [v, I a] H K := by
  refine CallT_body Γ_spec_MultiplicitiesOf ?_; simp only [A_spec_MultiplicitiesOf, T_aiff]
  refine T_rseq fun Kr hKr => ?_; simp (disch := omega) only [RF, RO, RC, tup, ↓reduceIte, Nat.reduceEqDiff, RD]; refine hKr _ _ ?_; clear hKr Kr; try simp only [RN, Bool.false_eq_true, reduceIte]
  refine T_rseq fun Kr hKr => ?_; simp (disch := omega) only [RF, RO, RC, tup, ↓reduceIte, Nat.reduceEqDiff, reduceCtorEq, RD]
  refine l06Code_spec (hx.ext (Ext.alloc H [I a])) hl (own_one' H a) (by simp) ?_
  simp (disch := omega) only [RF, RO, RC, tup, ↓reduceIte, Nat.reduceEqDiff, RD]
  refine hKr _ _ ?_; clear hKr Kr; (try simp only [blkQ, thenQ, loopQ]); try simp only [RN, Bool.false_eq_true, reduceIte]
  by_cases hc : pcode xs [a] = 0
  · simp only [resMultiplicitiesOf, hc, if_true] at hK
    have hp := pcode_zero hc
    have hl17 := hp.1.2.1
    have ha := hp.2.1 0 (by simp)
    rw [el_single] at ha
    refine T_rseq fun Kr hKr => ?_; simp (disch := omega) only [RF, RO, RC, tup, ↓reduceIte, Nat.reduceEqDiff, RD, hc]; refine hKr _ _ ?_; clear hKr Kr; try simp only [RN, Bool.false_eq_true, reduceIte]
    refine T_cseq (t := false) (by simp (disch := omega) only [RF, RO, RC, tup, ↓reduceIte, Nat.reduceEqDiff, decT, decF, hc]) ?_; try simp only [RN, Bool.false_eq_true, reduceIte]
    refine T_rseq fun Kr hKr => ?_; simp (disch := omega) only [RF, RO, RC, tup, ↓reduceIte, Nat.reduceEqDiff, reduceCtorEq, RD]
    refine l06Multiplicities_spec (hx.ext (Ext.alloc H [I a])) hp.1.red hp.2.2 hl17 ha.1 ha.2 fun w H2 he2 ho2 => ?_
    simp (disch := omega) only [RF, RO, RC, tup, ↓reduceIte, Nat.reduceEqDiff, RD]
    refine hKr _ _ ?_; clear hKr Kr; (try simp only [blkQ, thenQ, loopQ]); try simp only [RN, Bool.false_eq_true, reduceIte]
    refine ⟨_, rfl, ?_⟩; simp only [RF, ev_t, ev_c, tup, ↓reduceIte, Nat.reduceEqDiff]
    exact hK _ _ ((Ext.alloc H [I a]).trans' he2) (ho2.weak (Nat.le_succ _) (Nat.le_refl _))
  · simp only [resMultiplicitiesOf, hc, if_false] at hK
    refine T_rseq fun Kr hKr => ?_; simp (disch := omega) only [RF, RO, RC, tup, ↓reduceIte, Nat.reduceEqDiff, RD]; refine hKr _ _ ?_; clear hKr Kr; try simp only [RN, Bool.false_eq_true, reduceIte]
    refine T_cseq (t := true) (by simp (disch := omega) only [RF, RO, RC, tup, ↓reduceIte, Nat.reduceEqDiff, decT, decF, hc]) ?_; try simp only [RN, Bool.false_eq_true, reduceIte]
    refine T_rseq fun Kr hKr => ?_; simp (disch := omega) only [RF, RO, RC, tup, ↓reduceIte, Nat.reduceEqDiff, RD]; refine hKr _ _ ?_; clear hKr Kr; try simp only [RN, Bool.false_eq_true, reduceIte]
    refine ⟨_, rfl, ?_⟩; simp only [RF, ev_t, ev_c, tup, ↓reduceIte, Nat.reduceEqDiff]
    exact hK _ _ (Ext.alloc H [I a]) .nil
theorem impl_MultiplicitiesOf_spec {H : AHeap} {v : Value} {xs : List Int} {a : Int} {K : Value → AHeap → Prop} (hx : IsI H v xs) (hl : xs.length < 2 ^ 62) (hb : -9223372036854775808 ≤ a ∧ a < 9223372036854775808)
    (hK : ∀ v' H', Ext H H' → OwnI H.n H'.n H' v' (resMultiplicitiesOf xs a).1 → K (.tuple ⟨[v', I (resMultiplicitiesOf xs a).2]⟩) H') : CallT F_impl_MultiplicitiesOf [v, I a] H K := by
  refine CallT_body Γ_impl_MultiplicitiesOf ?_; simp only [A_impl_MultiplicitiesOf, T_aiff]
  refine T_rseq fun Kr hKr => ?_; simp (disch := omega) only [RF, RO, RC, tup, ↓reduceIte, Nat.reduceEqDiff, RD]; refine hKr _ _ ?_; clear hKr Kr; try simp only [RN, Bool.false_eq_true, reduceIte]
  refine T_rseq fun Kr hKr => ?_; simp (disch := omega) only [RF, RO, RC, tup, ↓reduceIte, Nat.reduceEqDiff, reduceCtorEq, RD]
  refine polynomialCode_spec (hx.ext (Ext.alloc H [I a])) hl (own_one' H a) (by simp) ?_
  simp (disch := omega) only [RF, RO, RC, tup, ↓reduceIte, Nat.reduceEqDiff, RD]
  refine hKr _ _ ?_; clear hKr Kr; (try simp only [blkQ, thenQ, loopQ]); try simp only [RN, Bool.false_eq_true, reduceIte]
  by_cases hc : pcode xs [a] = 0
  · simp only [resMultiplicitiesOf, hc, if_true] at hK
    have hp := pcode_zero hc
    have hl17 := hp.1.2.1
    have ha := hp.2.1 0 (by simp)
    rw [el_single] at ha
    refine T_rseq fun Kr hKr => ?_; simp (disch := omega) only [RF, RO, RC, tup, ↓reduceIte, Nat.reduceEqDiff, RD, hc]; refine hKr _ _ ?_; clear hKr Kr; try simp only [RN, Bool.false_eq_true, reduceIte]
    refine T_cseq (t := false) (by simp (disch := omega) only [RF, RO, RC, tup, ↓reduceIte, Nat.reduceEqDiff, decT, decF, hc]) ?_; try simp only [RN, Bool.false_eq_true, reduceIte]
    refine T_rseq fun Kr hKr => ?_; simp (disch := omega) only [RF, RO, RC, tup, ↓reduceIte, Nat.reduceEqDiff, reduceCtorEq, RD]
    refine multiplicities_spec (hx.ext (Ext.alloc H [I a])) hp.1.red hp.2.2 hl17 ha.1 ha.2 fun w H2 he2 ho2 => ?_
    simp (disch := omega) only [RF, RO, RC, tup, ↓reduceIte, Nat.reduceEqDiff, RD]
    refine hKr _ _ ?_; clear hKr Kr; (try simp only [blkQ, thenQ, loopQ]); try simp only [RN, Bool.false_eq_true, reduceIte]
    refine ⟨_, rfl, ?_⟩; simp only [RF, ev_t, ev_c, tup, ↓reduceIte, Nat.reduceEqDiff]
    exact hK _ _ ((Ext.alloc H [I a]).trans' he2) (ho2.weak (Nat.le_succ _) (Nat.le_refl _))
  · simp only [resMultiplicitiesOf, hc, if_false] at hK
    refine T_rseq fun Kr hKr => ?_; simp (disch := omega) only [RF, RO, RC, tup, ↓reduceIte, Nat.reduceEqDiff, RD]; refine hKr _ _ ?_; clear hKr Kr; try simp only [RN, Bool.false_eq_true, reduceIte]
    refine T_cseq (t := true) (by simp (disch := omega) only [RF, RO, RC, tup, ↓reduceIte, Nat.reduceEqDiff, decT, decF, hc]) ?_; try simp only [RN, Bool.false_eq_true, reduceIte]
    refine T_rseq fun Kr hKr => ?_; simp (disch := omega) only [RF, RO, RC, tup, ↓reduceIte, Nat.reduceEqDiff, RD]; refine hKr _ _ ?_; clear hKr Kr; try simp only [RN, Bool.false_eq_true, reduceIte]
    refine ⟨_, rfl, ?_⟩; simp only [RF, ev_t, ev_c, tup, ↓reduceIte, Nat.reduceEqDiff]
    exact hK _ _ (Ext.alloc H [I a]) .nil
theorem IsCritical_spec {H : AHeap} {v : Value} {xs : List Int} {a : Int} {K : Value → AHeap → Prop} (hx : IsI H v xs) (hl : xs.length < 2 ^ 62) (hb : -9223372036854775808 ≤ a ∧ a < 9223372036854775808)
    (hK : ∀ H', Ext H H' → K (.tuple ⟨[.bool (resIsCritical xs a).1, I (resIsCritical xs a).2]⟩) H') : CallT F_spec_IsCritical [v, I a] H K := by
  refine CallT_body Γ_spec_IsCritical ?_; simp only [A_spec_IsCritical, T_aiff]
  refine T_rseq fun Kr hKr => ?_; simp (disch := omega) only [RF, RO, RC, tup, ↓reduceIte, Nat.reduceEqDiff, RD]; refine hKr _ _ ?_; clear hKr Kr; try simp only [RN, Bool.false_eq_true, reduceIte]
  refine T_rseq fun Kr hKr => ?_; simp (disch := omega) only [RF, RO, RC, tup, ↓reduceIte, Nat.reduceEqDiff, reduceCtorEq, RD]
  refine l06Code_spec (hx.ext (Ext.alloc H [I a])) hl (own_one' H a) (by simp) ?_
  simp (disch := omega) only [RF, RO, RC, tup, ↓reduceIte, Nat.reduceEqDiff, RD]
  refine hKr _ _ ?_; clear hKr Kr; (try simp only [blkQ, thenQ, loopQ]); try simp only [RN, Bool.false_eq_true, reduceIte]
  by_cases hc : pcode xs [a] = 0
  · simp only [resIsCritical, hc, if_true] at hK
    have hp := pcode_zero hc
    have hl17 := hp.1.2.1
    have ha := hp.2.1 0 (by simp)
    rw [el_single] at ha
    have hmp := mults_pos hp.1.red hp.2.2 hl17 a
    refine T_rseq fun Kr hKr => ?_; simp (disch := omega) only [RF, RO, RC, tup, ↓reduceIte, Nat.reduceEqDiff, RD, hc]; refine hKr _ _ ?_; clear hKr Kr; try simp only [RN, Bool.false_eq_true, reduceIte]
    refine T_cseq (t := false) (by simp (disch := omega) only [RF, RO, RC, tup, ↓reduceIte, Nat.reduceEqDiff, decT, decF, hc]) ?_; try simp only [RN, Bool.false_eq_true, reduceIte]
    refine T_rseq fun Kr hKr => ?_; simp (disch := omega) only [RF, RO, RC, tup, ↓reduceIte, Nat.reduceEqDiff, reduceCtorEq, RD]
    refine l06Multiplicities_spec (hx.ext (Ext.alloc H [I a])) hp.1.red hp.2.2 hl17 ha.1 ha.2 fun w H2 he2 ho2 => ?_
    obtain ⟨b, rest, rfl, hb1, hb2, hb3, hg⟩ := ho2.pos hmp
    simp (disch := omega) only [RF, RO, RC, tup, ↓reduceIte, Nat.reduceEqDiff, RD, hg]
    refine hKr _ _ ?_; clear hKr Kr; (try simp only [blkQ, thenQ, loopQ]); try simp only [RN, Bool.false_eq_true, reduceIte]
    refine ⟨_, rfl, ?_⟩; simp only [RF, ev_t, ev_c, tup, ↓reduceIte, Nat.reduceEqDiff]
    exact hK _ ((Ext.alloc H [I a]).trans' he2)
  · simp only [resIsCritical, hc, if_false] at hK
    refine T_rseq fun Kr hKr => ?_; simp (disch := omega) only [RF, RO, RC, tup, ↓reduceIte, Nat.reduceEqDiff, RD]; refine hKr _ _ ?_; clear hKr Kr; try simp only [RN, Bool.false_eq_true, reduceIte]
    refine T_cseq (t := true) (by simp (disch := omega) only [RF, RO, RC, tup, ↓reduceIte, Nat.reduceEqDiff, decT, decF, hc]) ?_; try simp only [RN, Bool.false_eq_true, reduceIte]
    refine T_rseq fun Kr hKr => ?_; simp (disch := omega) only [RF, RO, RC, tup, ↓reduceIte, Nat.reduceEqDiff, RD]; refine hKr _ _ ?_; clear hKr Kr; try simp only [RN, Bool.false_eq_true, reduceIte]
    refine ⟨_, rfl, ?_⟩; simp only [RF, ev_t, ev_c, tup, ↓reduceIte, Nat.reduceEqDiff]
    exact hK _ (Ext.alloc H [I a])
theorem impl_IsCritical_spec {H : AHeap} {v : Value} {xs : List Int} {a : Int} {K : Value → AHeap → Prop} (hx : IsI H v xs) (hl : xs.length < 2 ^ 62) (hb : -9223372036854775808 ≤ a ∧ a < 9223372036854775808)
    (hK : ∀ H', Ext H H' → K (.tuple ⟨[.bool (resIsCritical xs a).1, I (resIsCritical xs a).2]⟩) H') : CallT F_impl_IsCritical [v, I a] H K := by
  refine CallT_body Γ_impl_IsCritical ?_; simp only [A_impl_IsCritical, T_aiff]
  refine T_rseq fun Kr hKr => ?_; simp (disch := omega) only [RF, RO, RC, tup, ↓reduceIte, Nat.reduceEqDiff, RD]; refine hKr _ _ ?_; clear hKr Kr; try simp only [RN, Bool.false_eq_true, reduceIte]
  refine T_rseq fun Kr hKr => ?_; simp (disch := omega) only [RF, RO, RC, tup, ↓reduceIte, Nat.reduceEqDiff, reduceCtorEq, RD]
  refine polynomialCode_spec (hx.ext (Ext.alloc H [I a])) hl (own_one' H a) (by simp) ?_
  simp (disch := omega) only [RF, RO, RC, tup, ↓reduceIte, Nat.reduceEqDiff, RD]
  refine hKr _ _ ?_; clear hKr Kr; (try simp only [blkQ, thenQ, loopQ]); try simp only [RN, Bool.false_eq_true, reduceIte]
  by_cases hc : pcode xs [a] = 0
  · simp only [resIsCritical, hc, if_true] at hK
    have hp := pcode_zero hc
    have hl17 := hp.1.2.1
    have ha := hp.2.1 0 (by simp)
    rw [el_single] at ha
    have hmp := mults_pos hp.1.red hp.2.2 hl17 a
    refine T_rseq fun Kr hKr => ?_; simp (disch := omega) only [RF, RO, RC, tup, ↓reduceIte, Nat.reduceEqDiff, RD, hc]; refine hKr _ _ ?_; clear hKr Kr; try simp only [RN, Bool.false_eq_true, reduceIte]
    refine T_cseq (t := false) (by simp (disch := omega) only [RF, RO, RC, tup, ↓reduceIte, Nat.reduceEqDiff, decT, decF, hc]) ?_; try simp only [RN, Bool.false_eq_true, reduceIte]
    refine T_rseq fun Kr hKr => ?_; simp (disch := omega) only [RF, RO, RC, tup, ↓reduceIte, Nat.reduceEqDiff, reduceCtorEq, RD]
    refine multiplicities_spec (hx.ext (Ext.alloc H [I a])) hp.1.red hp.2.2 hl17 ha.1 ha.2 fun w H2 he2 ho2 => ?_
    obtain ⟨b, rest, rfl, hb1, hb2, hb3, hg⟩ := ho2.pos hmp
    simp (disch := omega) only [RF, RO, RC, tup, ↓reduceIte, Nat.reduceEqDiff, RD, hg]
    refine hKr _ _ ?_; clear hKr Kr; (try simp only [blkQ, thenQ, loopQ]); try simp only [RN, Bool.false_eq_true, reduceIte]
    refine ⟨_, rfl, ?_⟩; simp only [RF, ev_t, ev_c, tup, ↓reduceIte, Nat.reduceEqDiff]
    exact hK _ ((Ext.alloc H [I a]).trans' he2)
  · simp only [resIsCritical, hc, if_false] at hK
    refine T_rseq fun Kr hKr => ?_; simp (disch := omega) only [RF, RO, RC, tup, ↓reduceIte, Nat.reduceEqDiff, RD]; refine hKr _ _ ?_; clear hKr Kr; try simp only [RN, Bool.false_eq_true, reduceIte]
    refine T_cseq (t := true) (by simp (disch := omega) only [RF, RO, RC, tup, ↓reduceIte, Nat.reduceEqDiff, decT, decF, hc]) ?_; try simp only [RN, Bool.false_eq_true, reduceIte]
    refine T_rseq fun Kr hKr => ?_; simp (disch := omega) only [RF, RO, RC, tup, ↓reduceIte, Nat.reduceEqDiff, RD]; refine hKr _ _ ?_; clear hKr Kr; try simp only [RN, Bool.false_eq_true, reduceIte]
    refine ⟨_, rfl, ?_⟩; simp only [RF, ev_t, ev_c, tup, ↓reduceIte, Nat.reduceEqDiff]
    exact hK _ (Ext.alloc H [I a])
end Go.Am

