/- SpA, SpB, SpC, SpD, SpE, SpF, SpG, SpH -/
import Derived.Test.YteklchkdgpoedaaDpG3
/- Division with a remainder. -/
set_option linter.unusedVariables false
set_option linter.unusedSimpArgs false
namespace Go.Am
open Go

def pad0 (n : Nat) (g : List Int) : List Int := List.replicate n 0 ++ g
theorem pad0_len (n : Nat) (g : List Int) : (pad0 n g).length = n + g.length := by simp [pad0]
theorem el_pad0_lo {n i : Nat} {g : List Int} (h : i < n) : el (pad0 n g) i = 0 := by simp [el, pad0, List.getD, List.getElem?_append_left, h]
theorem el_pad0_hi (n i : Nat) (g : List Int) : el (pad0 n g) (n + i) = el g i := by simp [el, pad0, List.getD, List.getElem?_append_right]
def top (r : List Int) : Int := el r (r.length - 1)
def lastq (r g : List Int) : Int := md (top r * inv (top g))
def dstep (r g : List Int) (c : Int) : List Int := padd r (pad0 (r.length - g.length) g) (-c)
theorem cancel {a b c : Int} (h : md (b * inv b) = 1) (hc : c = md (a * inv b)) : md (a + -c * b) = 0 := by
  unfold md at *
  have h1 : b * inv b = 1 + 10007 * (b * inv b / 10007) := by omega
  have h2 : a * inv b = c + 10007 * (a * inv b / 10007) := by omega
  generalize b * inv b / 10007 = q2 at h1
  generalize a * inv b / 10007 = q1 at h2
  have h3 : a + -c * b = 10007 * (q1 * b - a * q2) := by
    have e1 : c = a * inv b - 10007 * q1 := by omega
    have e2 : a * inv b * b = a * (1 + 10007 * q2) := by rw [← h1, Int.mul_assoc, Int.mul_comm (inv b) b]
    rw [e1, Int.neg_mul, Int.sub_mul, e2, Int.mul_add, Int.mul_one, Int.mul_sub, Int.mul_assoc 10007 q1 b, Int.mul_left_comm a 10007 q2]
    omega
  rw [h3]
  exact Int.mul_emod_right _ _
theorem Red.top {r : List Int} (h : Red r) (hp : 0 < r.length) : 1 ≤ top r ∧ top r ≤ 10006 := by
  have h1 := h.1 (r.length - 1)
  rcases h.2 with h2 | h2
  · omega
  · unfold Am.top; omega
theorem dstep_len {r g : List Int} (hr : Red r) (hg : Red g) (hg0 : 0 < g.length) (hl : g.length ≤ r.length) : (dstep r g (lastq r g)).length < r.length := by
  have hle := padd_len r (pad0 (r.length - g.length) g) (-lastq r g)
  rw [pad0_len] at hle
  have hred : Red (dstep r g (lastq r g)) := red_padd _ _ _
  have hle' : (dstep r g (lastq r g)).length ≤ r.length := by unfold dstep; omega
  rcases Nat.lt_or_ge (dstep r g (lastq r g)).length r.length with h | h
  · exact h
  · have heq : (dstep r g (lastq r g)).length = r.length := by omega
    rcases hred.2 with h0 | h0
    · omega
    · exfalso
      apply h0
      rw [heq]
      unfold dstep
      rw [el_padd]
      have e : el (pad0 (r.length - g.length) g) (r.length - 1) = top g := by
        rw [show r.length - 1 = (r.length - g.length) + (g.length - 1) by omega, el_pad0_hi]; rfl
      rw [e]
      have ht := hg.top hg0
      exact cancel (inv_mul ht.1 ht.2) rfl
def prem (g : List Int) : Nat → List Int → List Int
  | 0, r => r
  | n + 1, r => if r.length < g.length then r else prem g n (dstep r g (lastq r g))
theorem prem_stable {g : List Int} (hg : Red g) (hg0 : 0 < g.length) : ∀ (n m : Nat) (r : List Int), Red r → r.length < n → r.length < m → prem g n r = prem g m r
  | 0, _, _, _, h, _ => by omega
  | _, 0, _, _, _, h => by omega
  | n + 1, m + 1, r, hr, hn, hm => by
    simp only [prem]
    split
    · rfl
    · have hl := dstep_len hr hg hg0 (by omega)
      exact prem_stable hg hg0 n m _ (red_padd _ _ _) (by omega) (by omega)
/-- The remainder. -/
def rem (f g : List Int) : List Int := prem g (f.length + 1) f
theorem rem_small {f g : List Int} (h : f.length < g.length) : rem f g = f := by simp [rem, prem, h]
theorem rem_step {f g : List Int} (hf : Red f) (hg : Red g) (hg0 : 0 < g.length) (hl : g.length ≤ f.length) : rem f g = rem (dstep f g (lastq f g)) g := by
  have hd := dstep_len hf hg hg0 hl
  show (if f.length < g.length then f else prem g f.length (dstep f g (lastq f g))) = _
  rw [if_neg (by omega)]
  exact prem_stable hg hg0 _ _ _ (red_padd _ _ _) (by omega) (by omega)
theorem rem_red {g : List Int} (hg : Red g) (hg0 : 0 < g.length) : ∀ (n : Nat) (f : List Int), f.length ≤ n → Red f → Red (rem f g) ∧ (rem f g).length < g.length
  | n, f, hn, hf => by
    by_cases h : f.length < g.length
    · rw [rem_small h]; exact ⟨hf, h⟩
    · have hd := dstep_len hf hg hg0 (by omega)
      rw [rem_step hf hg hg0 (by omega)]
      match n, hn with
      | 0, hn => omega
      | n + 1, hn => exact rem_red hg hg0 n _ (by omega) (red_padd _ _ _)
theorem fit_pad0 {n : Nat} {g : List Int} (h : Fit g) : Fit (pad0 n g) := fun i hi => by
  by_cases h1 : i < n
  · rw [el_pad0_lo h1]; omega
  · rw [show i = n + (i - n) by omega, el_pad0_hi]; exact h.el _

theorem l06Divide_spec {H : AHeap} {v u : Value} {xs ys : List Int} {K : Value → AHeap → Prop} (hx : IsI H v xs) (hrx : Red xs) (hlx : xs.length < 1000) (hy : IsI H u ys) (hry : Red ys) (hy0 : 0 < ys.length) (hly : ys.length < 1000)
    (hK : ∀ q v' H', Ext H H' → OwnI H.n H'.n H' v' (rem xs ys) → K (.tuple ⟨[q, v']⟩) H') : CallT F_spec_l06Divide [v, u] H K := by
  obtain ⟨a, e, rfl⟩ := hx.len
  obtain ⟨b, o, blk, rfl, hb, hg, hlen, hel⟩ := hy.pos hy0
  have ht := hry.top hy0
  have hiv := inv_bd (top ys)
  have hlast : (ys.length : Int) - 1 = ((ys.length - 1 : Nat) : Int) := by omega
  have hlt : ys.length - 1 < ys.length := by omega
  refine CallT_body Γ_spec_l06Divide ?_
  simp only [A_spec_l06Divide, T_aiff]
  refine T_rseq fun Kr hKr => ?_
  simp (disch := omega) only [RF, RO, RC, bodyQ, resAll, resOf, tup, ↓reduceIte, Nat.reduceEqDiff, Nat.reduceSub, Nat.reduceAdd, Nat.reduceMul, Nat.reduceLT, Nat.reduceLeDiff, Int.reduceLE, Int.reduceLT, Int.reduceEq, Int.reduceNeg, Int.reduceToNat, Int.reduceMul, Int.reduceAdd, Int.reduceSub, Int.reduceBEq, Int.reduceBNe, reduceCtorEq, RD]
  refine hKr _ _ ?_
  clear hKr Kr
  try simp only [RN, if_true, if_false, Bool.false_eq_true, if_pos, reduceIte]
  refine T_rseq fun Kr hKr => ?_
  simp (disch := omega) only [RF, RO, RC, bodyQ, resAll, resOf, tup, ↓reduceIte, Nat.reduceEqDiff, Nat.reduceSub, Nat.reduceAdd, Nat.reduceMul, Nat.reduceLT, Nat.reduceLeDiff, Int.reduceLE, Int.reduceLT, Int.reduceEq, Int.reduceNeg, Int.reduceToNat, Int.reduceMul, Int.reduceAdd, Int.reduceSub, Int.reduceBEq, Int.reduceBNe, reduceCtorEq, RD]
  refine l01Own_spec hx (by omega) fun r0 H1 he1 ho1 => ?_
  have hg1 : H1.get b = some blk := by rw [he1.get b hb]; exact hg
  simp (disch := omega) only [RF, RO, RC, bodyQ, resAll, resOf, tup, ↓reduceIte, Nat.reduceEqDiff, Nat.reduceSub, Nat.reduceAdd, Nat.reduceMul, Nat.reduceLT, Nat.reduceLeDiff, Int.reduceLE, Int.reduceLT, Int.reduceEq, Int.reduceNeg, Int.reduceToNat, Int.reduceMul, Int.reduceAdd, Int.reduceSub, Int.reduceBEq, Int.reduceBNe, reduceCtorEq, RD, he1, hlast, hlt, hg1, hel]
  refine l06Inverse_spec (by show 0 ≤ top ys; omega) (by show top ys ≤ 10007; omega) ?_
  simp (disch := omega) only [RF, RO, RC, bodyQ, resAll, resOf, tup, ↓reduceIte, Nat.reduceEqDiff, Nat.reduceSub, Nat.reduceAdd, Nat.reduceMul, Nat.reduceLT, Nat.reduceLeDiff, Int.reduceLE, Int.reduceLT, Int.reduceEq, Int.reduceNeg, Int.reduceToNat, Int.reduceMul, Int.reduceAdd, Int.reduceSub, Int.reduceBEq, Int.reduceBNe, reduceCtorEq, RD, Ext.refl']
  refine hKr _ _ ?_
  clear hKr Kr
  try simp only [blkQ, thenQ, loopQ]
  try simp only [RN, if_true, if_false, Bool.false_eq_true, if_pos, reduceIte]
  have ho1' := ho1.ext (Ext.alloc H1 [])
  have hmain : ∀ (f' : Fr) (H2 : AHeap) (q0 : Value) (qs0 : List Int), Ext H1 H2 → f' 1 = S b o ys.length 1 → f' 6 = r0 → f' 7 = I (inv (top ys)) → f' 8 = q0 → OwnI H1.n H2.n H2 q0 qs0 → (ys.length ≤ xs.length → qs0.length = xs.length - ys.length + 1) →
      T (.seq (.block 0 (.loop A_spec_l06Divide.l0)) (.seq A_spec_l06Divide.r8 .ret)) (bodyQ [ARes.tmp 4, ARes.tmp 5] K) f' H2 := by
    intro f' H2 q0 qs0 he2 h1 h6 h7 h8 hq hql
    refine T_wloop (fun n f H' => ∃ r rs q qs rlo rhi qlo qhi, n = rs.length ∧ Ext H H' ∧ f 1 = S b o ys.length 1 ∧ f 6 = r ∧ f 7 = I (inv (top ys)) ∧ f 8 = q ∧ OwnI rlo rhi H' r rs ∧ OwnI qlo qhi H' q qs ∧ H.n ≤ rlo ∧ H.n ≤ qlo ∧ rhi ≤ H'.n ∧ qhi ≤ H'.n ∧ (qhi ≤ rlo ∨ rhi ≤ qlo) ∧ Red rs ∧ rs.length ≤ xs.length ∧ rem rs ys = rem xs ys ∧ (ys.length ≤ xs.length → qs.length = xs.length - ys.length + 1)) (xs.length) ?_ ?_
    · exact ⟨r0, xs, q0, qs0, H.n, H1.n, H1.n, H2.n, rfl, he1.trans' he2, h1, h6, h7, h8, ho1.ext he2, hq, Nat.le_refl _, he1.n, he2.n, Nat.le_refl _, .inr (Nat.le_refl _), hrx, Nat.le_refl _, rfl, hql⟩
    · clear hq hql h1 h6 h7 h8 he2 ho1 ho1'
      rintro n f H' R ⟨r, rs, q, qs, rlo, rhi, qlo, qhi, rfl, he, h1, h6, h7, h8, hr, hq, hN1, hN2, hr2, hq2, hdis, hred, hrl, hrem, hql⟩ hN hX hR
      simp only [A_spec_l06Divide.l0, T_aiff]
      obtain ⟨ra, re, rfl⟩ := hr.len
      refine T_rseq fun Kr hKr => ?_
      simp (disch := omega) only [RF, RO, RC, bodyQ, resAll, resOf, tup, ↓reduceIte, Nat.reduceEqDiff, Nat.reduceSub, Nat.reduceAdd, Nat.reduceMul, Nat.reduceLT, Nat.reduceLeDiff, Int.reduceLE, Int.reduceLT, Int.reduceEq, Int.reduceNeg, Int.reduceToNat, Int.reduceMul, Int.reduceAdd, Int.reduceSub, Int.reduceBEq, Int.reduceBNe, reduceCtorEq, RD, h1, h6]
      refine hKr _ _ ?_
      clear hKr Kr
      try simp only [RN, if_true, if_false, Bool.false_eq_true, if_pos, reduceIte]
      by_cases hge : ys.length ≤ rs.length
      · refine T_cseq (t := true) (by simp (disch := omega) only [RF, RO, RC, bodyQ, resAll, resOf, tup, ↓reduceIte, Nat.reduceEqDiff, Nat.reduceSub, Nat.reduceAdd, Nat.reduceMul, Nat.reduceLT, Nat.reduceLeDiff, Int.reduceLE, Int.reduceLT, Int.reduceEq, Int.reduceNeg, Int.reduceToNat, Int.reduceMul, Int.reduceAdd, Int.reduceSub, Int.reduceBEq, Int.reduceBNe, reduceCtorEq, decT, decF]) ?_
        try simp only [RN, if_true, if_false, Bool.false_eq_true, if_pos, reduceIte]
        first | refine T_bfree rfl ?_ | refine T_bfree' rfl ?_
        try simp only [RN, if_true, if_false, Bool.false_eq_true, if_pos, reduceIte]
        obtain ⟨rb, rrest, heq, hb1, hb2, hb3, hgr⟩ := hr.pos (by omega)
        cases heq
        have hi : (rs.length : Int) - 1 = ((rs.length - 1 : Nat) : Int) := by omega
        have hs : (rs.length : Int) - (ys.length : Int) = ((rs.length - ys.length : Nat) : Int) := by omega
        have hn1 : rs.length - 1 < rs.length := by omega
        have htr := hred.top (by omega)
        have hm := mulb (a := el rs (rs.length - 1)) (b := inv (top ys)) (by show 0 ≤ top rs; omega) (by show top rs ≤ _; omega) hiv.1 (by omega)
        refine T_rseq fun Kr hKr => ?_
        simp (disch := omega) only [RF, RO, RC, bodyQ, resAll, resOf, tup, ↓reduceIte, Nat.reduceEqDiff, Nat.reduceSub, Nat.reduceAdd, Nat.reduceMul, Nat.reduceLT, Nat.reduceLeDiff, Int.reduceLE, Int.reduceLT, Int.reduceEq, Int.reduceNeg, Int.reduceToNat, Int.reduceMul, Int.reduceAdd, Int.reduceSub, Int.reduceBEq, Int.reduceBNe, reduceCtorEq, RD, h1, h6, h7, hi, hs, hn1, hgr]
        refine l06Mod_spec (by omega) (by omega) ?_
        simp (disch := omega) only [RF, RO, RC, bodyQ, resAll, resOf, tup, ↓reduceIte, Nat.reduceEqDiff, Nat.reduceSub, Nat.reduceAdd, Nat.reduceMul, Nat.reduceLT, Nat.reduceLeDiff, Int.reduceLE, Int.reduceLT, Int.reduceEq, Int.reduceNeg, Int.reduceToNat, Int.reduceMul, Int.reduceAdd, Int.reduceSub, Int.reduceBEq, Int.reduceBNe, reduceCtorEq, RD]
        refine hKr _ _ ?_
        clear hKr Kr
        try simp only [blkQ, thenQ, loopQ]
        try simp only [RN, if_true, if_false, Bool.false_eq_true, if_pos, reduceIte]
        have hqlen := hql (by omega)
        obtain ⟨qb, qrest, heq, hc1, hc2, hc3, hgq⟩ := hq.pos (by omega)
        cases heq
        refine T_rseq fun Kr hKr => ?_
        simp (disch := omega) only [RF, RO, RC, bodyQ, resAll, resOf, tup, ↓reduceIte, Nat.reduceEqDiff, Nat.reduceSub, Nat.reduceAdd, Nat.reduceMul, Nat.reduceLT, Nat.reduceLeDiff, Int.reduceLE, Int.reduceLT, Int.reduceEq, Int.reduceNeg, Int.reduceToNat, Int.reduceMul, Int.reduceAdd, Int.reduceSub, Int.reduceBEq, Int.reduceBNe, reduceCtorEq, RD, h8, hgq]
        refine hKr _ _ ?_
        clear hKr Kr
        try simp only [RN, if_true, if_false, Bool.false_eq_true, if_pos, reduceIte]
        have hlq1 := md_lo (el rs (rs.length - 1) * inv (top ys))
        have hlq2 := md_hi (el rs (rs.length - 1) * inv (top ys))
        have hout : Out qlo qhi H' (H'.set qb (List.map I (qs.set (rs.length - ys.length) (md (el rs (rs.length - 1) * inv (top ys)))) ++ qrest)) := Out.set (.refl) ⟨hc1, hc2⟩ _
        have hE0 := he.out hout hN2
        have hr' := hr.out hout (by omega)
        have hq' : OwnI qlo qhi (H'.set qb (List.map I (qs.set (rs.length - ys.length) (md (el rs (rs.length - 1) * inv (top ys)))) ++ qrest)) (S qb 0 qs.length 1) (qs.set (rs.length - ys.length) (md (el rs (rs.length - 1) * inv (top ys)))) := .inr ⟨qb, qrest, by rw [List.length_set], hc1, hc2, hc3, get_set_same _ _ _⟩
        simp only [List.map_set] at hout hE0 hr' hq' ⊢
        generalize hH2 : H'.set qb ((List.map I qs).set (rs.length - ys.length) (I (md (el rs (rs.length - 1) * inv (top ys)))) ++ qrest) = H2 at hout hE0 hr' hq' ⊢
        obtain ⟨p', H4, ha, hop, hout4⟩ := appendS (own_make H2 (rs.length - ys.length)) ((hy.ext hE0).ext (Ext.alloc H2 _)) (by simp; omega) (by omega)
        have hE4 : Ext H2 H4 := (Ext.alloc H2 (repl [.int .i64 0] (rs.length - ys.length))).out hout4 (Nat.le_refl _)
        refine T_reg_k fun Kr hKr => ?_
        simp (disch := omega) only [RF, RO, RC, bodyQ, resAll, resOf, tup, ↓reduceIte, Nat.reduceEqDiff, Nat.reduceSub, Nat.reduceAdd, Nat.reduceMul, Nat.reduceLT, Nat.reduceLeDiff, Int.reduceLE, Int.reduceLT, Int.reduceEq, Int.reduceNeg, Int.reduceToNat, Int.reduceMul, Int.reduceAdd, Int.reduceSub, Int.reduceBEq, Int.reduceBNe, reduceCtorEq, RD, h6, h1, ha]
        refine l06Add_spec (hr'.ext hE4).is hred.fit (by omega) hop.is (fit_pad0 hry.fit) (by rw [show List.replicate (rs.length - ys.length) 0 ++ ys = pad0 (rs.length - ys.length) ys from rfl, pad0_len]; omega) (by omega) (by omega) fun w H5 he5 ho5 => ?_
        simp (disch := omega) only [RF, RO, RC, bodyQ, resAll, resOf, tup, ↓reduceIte, Nat.reduceEqDiff, Nat.reduceSub, Nat.reduceAdd, Nat.reduceMul, Nat.reduceLT, Nat.reduceLeDiff, Int.reduceLE, Int.reduceLT, Int.reduceEq, Int.reduceNeg, Int.reduceToNat, Int.reduceMul, Int.reduceAdd, Int.reduceSub, Int.reduceBEq, Int.reduceBNe, reduceCtorEq, RD]
        refine hKr _ _ ?_
        clear hKr Kr
        try simp only [blkQ, thenQ, loopQ]
        try simp only [RN, if_true, if_false, Bool.false_eq_true, if_pos, reduceIte]
        have hE5 := hE4.trans' he5
        have hstep : padd rs (List.replicate (rs.length - ys.length) 0 ++ ys) (0 - md (el rs (rs.length - 1) * inv (top ys))) = dstep rs ys (lastq rs ys) := by
          rw [Int.zero_sub]; rfl
        rw [hstep] at ho5
        have hlt2 := dstep_len hred hry hy0 hge
        have hqq := hq'.ext hE5
        have n1 := hout.n
        have n2 := hE4.n
        have n3 := he5.n
        refine hN _ _ _ hlt2 ⟨w, dstep rs ys (lastq rs ys), S qb 0 qs.length 1, _, H4.n, H5.n, qlo, qhi, rfl, hE0.trans' hE5, by simp [RF, h1], by simp [RF], by simp [RF, h7], by simp [RF, h8], ho5, hqq, ?_, hN2, Nat.le_refl _, by omega, .inl (by omega), red_padd _ _ _, by omega, by rw [← rem_step hred hry hy0 hge]; exact hrem, fun h => by rw [List.length_set]; exact hql h⟩
        have := he.n
        omega
      · refine T_cseq (t := false) (by simp (disch := omega) only [RF, RO, RC, bodyQ, resAll, resOf, tup, ↓reduceIte, Nat.reduceEqDiff, Nat.reduceSub, Nat.reduceAdd, Nat.reduceMul, Nat.reduceLT, Nat.reduceLeDiff, Int.reduceLE, Int.reduceLT, Int.reduceEq, Int.reduceNeg, Int.reduceToNat, Int.reduceMul, Int.reduceAdd, Int.reduceSub, Int.reduceBEq, Int.reduceBNe, reduceCtorEq, decT, decF]) ?_
        try simp only [RN, if_true, if_false, Bool.false_eq_true, if_pos, reduceIte]
        refine hX _ _ ?_
        refine T_rseq fun Kr hKr => ?_
        simp (disch := omega) only [RF, RO, RC, bodyQ, resAll, resOf, tup, ↓reduceIte, Nat.reduceEqDiff, Nat.reduceSub, Nat.reduceAdd, Nat.reduceMul, Nat.reduceLT, Nat.reduceLeDiff, Int.reduceLE, Int.reduceLT, Int.reduceEq, Int.reduceNeg, Int.reduceToNat, Int.reduceMul, Int.reduceAdd, Int.reduceSub, Int.reduceBEq, Int.reduceBNe, reduceCtorEq, RD, h6, h8]
        refine hKr _ _ ?_
        clear hKr Kr
        try simp only [RN, if_true, if_false, Bool.false_eq_true, if_pos, reduceIte]
        refine ⟨_, rfl, ?_⟩
        simp only [RF, ev_t, ev_c, tup, ↓reduceIte, Nat.reduceEqDiff]
        refine hK _ _ _ he ?_
        rw [← hrem, rem_small (by omega)]
        exact hr.weak hN1 hr2
  refine T_rseq fun Kr hKr => ?_
  simp (disch := omega) only [RF, RO, RC, bodyQ, resAll, resOf, tup, ↓reduceIte, Nat.reduceEqDiff, Nat.reduceSub, Nat.reduceAdd, Nat.reduceMul, Nat.reduceLT, Nat.reduceLeDiff, Int.reduceLE, Int.reduceLT, Int.reduceEq, Int.reduceNeg, Int.reduceToNat, Int.reduceMul, Int.reduceAdd, Int.reduceSub, Int.reduceBEq, Int.reduceBNe, reduceCtorEq, RD]
  refine hKr _ _ ?_
  clear hKr Kr
  try simp only [RN, if_true, if_false, Bool.false_eq_true, if_pos, reduceIte]
  by_cases hge : ys.length ≤ xs.length
  · have hs : (xs.length : Int) - (ys.length : Int) + 1 = ((xs.length - ys.length + 1 : Nat) : Int) := by omega
    have hw : IntKind.i64.wrap ((xs.length : Int) - (ys.length : Int)) = (xs.length : Int) - (ys.length : Int) := w64 (by omega) (by omega)
    refine T_cseq (t := true) (by simp (disch := omega) only [RF, RO, RC, bodyQ, resAll, resOf, tup, ↓reduceIte, Nat.reduceEqDiff, Nat.reduceSub, Nat.reduceAdd, Nat.reduceMul, Nat.reduceLT, Nat.reduceLeDiff, Int.reduceLE, Int.reduceLT, Int.reduceEq, Int.reduceNeg, Int.reduceToNat, Int.reduceMul, Int.reduceAdd, Int.reduceSub, Int.reduceBEq, Int.reduceBNe, reduceCtorEq, decT, decF]) ?_
    try simp only [RN, if_true, if_false, Bool.false_eq_true, if_pos, reduceIte]
    refine T_rseq fun Kr hKr => ?_
    simp (disch := omega) only [RF, RO, RC, bodyQ, resAll, resOf, tup, ↓reduceIte, Nat.reduceEqDiff, Nat.reduceSub, Nat.reduceAdd, Nat.reduceMul, Nat.reduceLT, Nat.reduceLeDiff, Int.reduceLE, Int.reduceLT, Int.reduceEq, Int.reduceNeg, Int.reduceToNat, Int.reduceMul, Int.reduceAdd, Int.reduceSub, Int.reduceBEq, Int.reduceBNe, reduceCtorEq, RD, hw, hs]
    refine hKr _ _ ?_
    clear hKr Kr
    try simp only [RN, if_true, if_false, Bool.false_eq_true, if_pos, reduceIte]
    exact hmain _ _ _ (List.replicate (xs.length - ys.length + 1) 0) ((Ext.alloc _ _).alloc' _) (by simp [RF]) (by simp [RF]) (by first | (simp [RF]; done) | (simp [RF]; rfl)) (by first | (simp [RF]; done) | (simp [RF]; rfl)) ((own_make _ _).weak (Nat.le_succ _) (Nat.le_refl _)) (by simp)
  · refine T_cseq (t := false) (by simp (disch := omega) only [RF, RO, RC, bodyQ, resAll, resOf, tup, ↓reduceIte, Nat.reduceEqDiff, Nat.reduceSub, Nat.reduceAdd, Nat.reduceMul, Nat.reduceLT, Nat.reduceLeDiff, Int.reduceLE, Int.reduceLT, Int.reduceEq, Int.reduceNeg, Int.reduceToNat, Int.reduceMul, Int.reduceAdd, Int.reduceSub, Int.reduceBEq, Int.reduceBNe, reduceCtorEq, decT, decF]) ?_
    try simp only [RN, if_true, if_false, Bool.false_eq_true, if_pos, reduceIte]
    exact hmain _ _ _ [] (Ext.alloc _ _) (by simp [RF]) (by simp [RF]) (by first | (simp [RF]; done) | (simp [RF]; rfl)) (by first | (simp [RF]; done) | (simp [RF]; rfl)) (own_empty _) (fun h => absurd h hge)
end Go.Am

/- Division, the program's own; common divisors. -/
set_option linter.unusedVariables false
set_option linter.unusedSimpArgs false
namespace Go.Am
open Go

theorem Clone_spec {H : AHeap} {v : Value} {xs : List Int} {K : Value → AHeap → Prop} (hx : IsI H v xs) (hl : xs.length < 100000) (hK : ∀ v' H', Ext H H' → OwnI H.n H'.n H' v' xs → K v' H') : CallT F_slices_Clone_int64_int64 [v] H K := by
  obtain ⟨v', H', ha, ho, hout⟩ := appendS (own_empty H) (hx.ext (Ext.alloc H [])) (by simp) (by omega)
  refine CallT_body Γ_slices_Clone_int64_int64 ?_
  simp only [A_slices_Clone_int64_int64, T_aiff]
  refine T_rseq fun Kr hKr => ?_
  simp (disch := omega) only [RF, RO, RC, bodyQ, resAll, resOf, tup, ↓reduceIte, Nat.reduceEqDiff, Nat.reduceSub, Nat.reduceAdd, Nat.reduceMul, Nat.reduceLT, Nat.reduceLeDiff, Int.reduceLE, Int.reduceLT, Int.reduceEq, Int.reduceNeg, Int.reduceToNat, Int.reduceMul, Int.reduceAdd, Int.reduceSub, Int.reduceBEq, Int.reduceBNe, reduceCtorEq, RD]
  refine hKr _ _ ?_
  clear hKr Kr
  try simp only [RN, if_true, if_false, Bool.false_eq_true, if_pos, reduceIte]
  rcases hx with ⟨rfl, rfl⟩ | ⟨b, o, blk, rfl, hb, hg, hl', hel⟩
  · refine T_rseq fun Kr hKr => ?_
    simp (disch := omega) only [RF, RO, RC, bodyQ, resAll, resOf, tup, ↓reduceIte, Nat.reduceEqDiff, Nat.reduceSub, Nat.reduceAdd, Nat.reduceMul, Nat.reduceLT, Nat.reduceLeDiff, Int.reduceLE, Int.reduceLT, Int.reduceEq, Int.reduceNeg, Int.reduceToNat, Int.reduceMul, Int.reduceAdd, Int.reduceSub, Int.reduceBEq, Int.reduceBNe, reduceCtorEq, RD]
    refine hKr _ _ ?_
    clear hKr Kr
    try simp only [RN, if_true, if_false, Bool.false_eq_true, if_pos, reduceIte]
    refine T_cseq (t := true) (by simp (disch := omega) only [RF, RO, RC, bodyQ, resAll, resOf, tup, ↓reduceIte, Nat.reduceEqDiff, Nat.reduceSub, Nat.reduceAdd, Nat.reduceMul, Nat.reduceLT, Nat.reduceLeDiff, Int.reduceLE, Int.reduceLT, Int.reduceEq, Int.reduceNeg, Int.reduceToNat, Int.reduceMul, Int.reduceAdd, Int.reduceSub, Int.reduceBEq, Int.reduceBNe, reduceCtorEq, decT, decF]) ?_
    try simp only [RN, if_true, if_false, Bool.false_eq_true, if_pos, reduceIte]
    refine T_rseq fun Kr hKr => ?_
    simp (disch := omega) only [RF, RO, RC, bodyQ, resAll, resOf, tup, ↓reduceIte, Nat.reduceEqDiff, Nat.reduceSub, Nat.reduceAdd, Nat.reduceMul, Nat.reduceLT, Nat.reduceLeDiff, Int.reduceLE, Int.reduceLT, Int.reduceEq, Int.reduceNeg, Int.reduceToNat, Int.reduceMul, Int.reduceAdd, Int.reduceSub, Int.reduceBEq, Int.reduceBNe, reduceCtorEq, RD]
    refine hKr _ _ ?_
    clear hKr Kr
    try simp only [RN, if_true, if_false, Bool.false_eq_true, if_pos, reduceIte]
    refine ⟨_, rfl, ?_⟩
    simp only [RF, ev_t, ev_c, tup, ↓reduceIte, Nat.reduceEqDiff]
    exact hK _ _ (Ext.refl' _) .nil
  · refine T_rseq fun Kr hKr => ?_
    simp (disch := omega) only [RF, RO, RC, bodyQ, resAll, resOf, tup, ↓reduceIte, Nat.reduceEqDiff, Nat.reduceSub, Nat.reduceAdd, Nat.reduceMul, Nat.reduceLT, Nat.reduceLeDiff, Int.reduceLE, Int.reduceLT, Int.reduceEq, Int.reduceNeg, Int.reduceToNat, Int.reduceMul, Int.reduceAdd, Int.reduceSub, Int.reduceBEq, Int.reduceBNe, reduceCtorEq, RD]
    refine hKr _ _ ?_
    clear hKr Kr
    try simp only [RN, if_true, if_false, Bool.false_eq_true, if_pos, reduceIte]
    refine T_cseq (t := false) (by simp (disch := omega) only [RF, RO, RC, bodyQ, resAll, resOf, tup, ↓reduceIte, Nat.reduceEqDiff, Nat.reduceSub, Nat.reduceAdd, Nat.reduceMul, Nat.reduceLT, Nat.reduceLeDiff, Int.reduceLE, Int.reduceLT, Int.reduceEq, Int.reduceNeg, Int.reduceToNat, Int.reduceMul, Int.reduceAdd, Int.reduceSub, Int.reduceBEq, Int.reduceBNe, reduceCtorEq, decT, decF]) ?_
    try simp only [RN, if_true, if_false, Bool.false_eq_true, if_pos, reduceIte]
    refine T_rseq fun Kr hKr => ?_
    simp (disch := omega) only [RF, RO, RC, bodyQ, resAll, resOf, tup, ↓reduceIte, Nat.reduceEqDiff, Nat.reduceSub, Nat.reduceAdd, Nat.reduceMul, Nat.reduceLT, Nat.reduceLeDiff, Int.reduceLE, Int.reduceLT, Int.reduceEq, Int.reduceNeg, Int.reduceToNat, Int.reduceMul, Int.reduceAdd, Int.reduceSub, Int.reduceBEq, Int.reduceBNe, reduceCtorEq, RD, ha]
    refine hKr _ _ ?_
    clear hKr Kr
    try simp only [RN, if_true, if_false, Bool.false_eq_true, if_pos, reduceIte]
    refine ⟨_, rfl, ?_⟩
    simp only [RF, ev_t, ev_c, tup, ↓reduceIte, Nat.reduceEqDiff]
    refine hK _ _ ⟨Nat.le_trans (Nat.le_succ _) hout.n, fun b hb => (hout.get b (Nat.lt_succ_of_lt hb) (.inl hb)).trans (get_alloc_ne _ _ _ (by omega))⟩ ?_
    simpa using ho.weak (Nat.le_succ _) (Nat.le_refl _)
theorem md_sub {r b n : Int} : md (r + (10007 - b) * n) = md (r + -n * b) := by
  rw [Int.sub_mul, Int.neg_mul, Int.mul_comm n b]
  unfold md
  omega
theorem dstep_gen {rs zs g : List Int} {c : Int} (hr : Red rs) (hle : g.length ≤ rs.length) (hz : zs.length = rs.length) (h1 : ∀ j, j < rs.length - g.length → el zs j = el rs j)
    (h2 : ∀ i, i < g.length → el zs (rs.length - g.length + i) = md (el rs (rs.length - g.length + i) + -c * el g i)) : trim zs = dstep rs g c := by
  have : zs = gen (max rs.length (pad0 (rs.length - g.length) g).length) fun i => md (el rs i + -c * el (pad0 (rs.length - g.length) g) i) := by
    refine gen_ext (by rw [hz, pad0_len]; omega) fun i hi => ?_
    rw [pad0_len] at hi
    by_cases h : i < rs.length - g.length
    · have hb := hr.1 i
      rw [h1 i h, el_pad0_lo h, Int.mul_zero, Int.add_zero, md_id hb.1 hb.2]
    · rw [show i = rs.length - g.length + (i - (rs.length - g.length)) by omega, h2 _ (by omega), el_pad0_hi]
  rw [dstep, padd, ← this]

theorem divide_spec {H : AHeap} {v u : Value} {xs ys : List Int} {K : Value → AHeap → Prop} (hx : IsI H v xs) (hrx : Red xs) (hlx : xs.length < 1000) (hy : IsI H u ys) (hry : Red ys) (hy0 : 0 < ys.length) (hly : ys.length < 1000)
    (hK : ∀ q v' H', Ext H H' → OwnI H.n H'.n H' v' (rem xs ys) → K (.tuple ⟨[q, v']⟩) H') : CallT F_impl_divide [v, u] H K := by
  obtain ⟨a, e, rfl⟩ := hx.len
  obtain ⟨b, o, blk, rfl, hb, hg, hlen, hel⟩ := hy.pos hy0
  have ht := hry.top hy0
  have hiv := inv_bd (top ys)
  have hlast : (ys.length : Int) - 1 = ((ys.length - 1 : Nat) : Int) := by omega
  have hlt : ys.length - 1 < ys.length := by omega
  generalize hQ : (if ys.length ≤ xs.length then xs.length - ys.length + 1 else 0) = Q
  have hQ' : (if (0 : Int) > (xs.length : Int) - (ys.length : Int) + 1 then (0 : Int) else (xs.length : Int) - (ys.length : Int) + 1) = (Q : Int) := by
    subst hQ; split <;> split <;> omega
  have hQ2 : (if (xs.length : Int) - (ys.length : Int) + 1 < (0 : Int) then (0 : Int) else (xs.length : Int) - (ys.length : Int) + 1) = (Q : Int) := hQ'
  have hw : IntKind.i64.wrap ((xs.length : Int) - (ys.length : Int)) = (xs.length : Int) - (ys.length : Int) := w64 (by omega) (by omega)
  have hw2 : IntKind.i64.wrap ((xs.length : Int) - (ys.length : Int) + 1) = (xs.length : Int) - (ys.length : Int) + 1 := w64 (by omega) (by omega)
  have hQ1000 : Q < 2000 := by subst hQ; split <;> omega
  refine CallT_body Γ_impl_divide ?_
  simp only [A_impl_divide, T_aiff]
  refine T_rseq fun Kr hKr => ?_
  simp (disch := omega) only [RF, RO, RC, bodyQ, resAll, resOf, tup, ↓reduceIte, Nat.reduceEqDiff, Nat.reduceSub, Nat.reduceAdd, Nat.reduceMul, Nat.reduceLT, Nat.reduceLeDiff, Int.reduceLE, Int.reduceLT, Int.reduceEq, Int.reduceNeg, Int.reduceToNat, Int.reduceMul, Int.reduceAdd, Int.reduceSub, Int.reduceBEq, Int.reduceBNe, reduceCtorEq, RD]
  refine hKr _ _ ?_
  clear hKr Kr
  try simp only [RN, if_true, if_false, Bool.false_eq_true, if_pos, reduceIte]
  refine T_rseq fun Kr hKr => ?_
  simp (disch := omega) only [RF, RO, RC, bodyQ, resAll, resOf, tup, ↓reduceIte, Nat.reduceEqDiff, Nat.reduceSub, Nat.reduceAdd, Nat.reduceMul, Nat.reduceLT, Nat.reduceLeDiff, Int.reduceLE, Int.reduceLT, Int.reduceEq, Int.reduceNeg, Int.reduceToNat, Int.reduceMul, Int.reduceAdd, Int.reduceSub, Int.reduceBEq, Int.reduceBNe, reduceCtorEq, RD]
  refine Clone_spec hx (by omega) fun r0 H1 he1 ho1 => ?_
  simp (disch := omega) only [RF, RO, RC, bodyQ, resAll, resOf, tup, ↓reduceIte, Nat.reduceEqDiff, Nat.reduceSub, Nat.reduceAdd, Nat.reduceMul, Nat.reduceLT, Nat.reduceLeDiff, Int.reduceLE, Int.reduceLT, Int.reduceEq, Int.reduceNeg, Int.reduceToNat, Int.reduceMul, Int.reduceAdd, Int.reduceSub, Int.reduceBEq, Int.reduceBNe, reduceCtorEq, RD]
  refine hKr _ _ ?_
  clear hKr Kr
  try simp only [blkQ, thenQ, loopQ]
  try simp only [RN, if_true, if_false, Bool.false_eq_true, if_pos, reduceIte]
  refine T_rseq fun Kr hKr => ?_
  simp (disch := omega) only [RF, RO, RC, bodyQ, resAll, resOf, tup, ↓reduceIte, Nat.reduceEqDiff, Nat.reduceSub, Nat.reduceAdd, Nat.reduceMul, Nat.reduceLT, Nat.reduceLeDiff, Int.reduceLE, Int.reduceLT, Int.reduceEq, Int.reduceNeg, Int.reduceToNat, Int.reduceMul, Int.reduceAdd, Int.reduceSub, Int.reduceBEq, Int.reduceBNe, reduceCtorEq, RD, hw, hw2, hQ2]
  refine hKr _ _ ?_
  clear hKr Kr
  try simp only [RN, if_true, if_false, Bool.false_eq_true, if_pos, reduceIte]
  have hm1 := own_make H1 Q
  have he2 := Ext.alloc H1 (repl [.int .i64 0] Q)
  generalize hH2 : H1.alloc (repl [.int .i64 0] Q) = H2 at hm1 he2 ⊢
  have hn2 : H2.n = H1.n + 1 := by rw [← hH2]; rfl
  have hg2 : H2.get b = some blk := by rw [he2.get b (Nat.lt_of_lt_of_le hb he1.n), he1.get b hb]; exact hg
  refine T_rseq fun Kr hKr => ?_
  simp (disch := omega) only [RF, RO, RC, bodyQ, resAll, resOf, tup, ↓reduceIte, Nat.reduceEqDiff, Nat.reduceSub, Nat.reduceAdd, Nat.reduceMul, Nat.reduceLT, Nat.reduceLeDiff, Int.reduceLE, Int.reduceLT, Int.reduceEq, Int.reduceNeg, Int.reduceToNat, Int.reduceMul, Int.reduceAdd, Int.reduceSub, Int.reduceBEq, Int.reduceBNe, reduceCtorEq, RD, hlast, hlt, hg2, hel]
  refine inverse_spec (by show 0 ≤ top ys; omega) (by show top ys ≤ 10007; omega) ?_
  simp (disch := omega) only [RF, RO, RC, bodyQ, resAll, resOf, tup, ↓reduceIte, Nat.reduceEqDiff, Nat.reduceSub, Nat.reduceAdd, Nat.reduceMul, Nat.reduceLT, Nat.reduceLeDiff, Int.reduceLE, Int.reduceLT, Int.reduceEq, Int.reduceNeg, Int.reduceToNat, Int.reduceMul, Int.reduceAdd, Int.reduceSub, Int.reduceBEq, Int.reduceBNe, reduceCtorEq, RD]
  refine hKr _ _ ?_
  clear hKr Kr
  try simp only [blkQ, thenQ, loopQ]
  try simp only [RN, if_true, if_false, Bool.false_eq_true, if_pos, reduceIte]
  refine T_wloop (fun n f H' => ∃ r rs qs rlo rhi, n = rs.length ∧ Ext H H' ∧ f 1 = S b o ys.length 1 ∧ f 6 = r ∧ f 8 = I (inv (top ys)) ∧ f 7 = S H1.n 0 Q 1 ∧ OwnI rlo rhi H' r rs ∧ OwnI H1.n (H1.n + 1) H' (S H1.n 0 Q 1) qs ∧ H.n ≤ rlo ∧ rhi ≤ H'.n ∧ (H1.n + 1 ≤ rlo ∨ rhi ≤ H1.n) ∧ Red rs ∧ rs.length ≤ xs.length ∧ rem rs ys = rem xs ys ∧ qs.length = Q) (xs.length) ?_ ?_
  · exact ⟨r0, xs, List.replicate Q 0, H.n, H1.n, rfl, he1.trans' he2, by simp [RF], by simp [RF], by simp [RF]; rfl, by simp [RF], ho1.ext he2, hm1, Nat.le_refl _, he2.n, .inr (Nat.le_refl _), hrx, Nat.le_refl _, rfl, by simp⟩
  · clear hm1 ho1 hH2 hg2
    rintro n f H' R ⟨r, rs, qs, rlo, rhi, rfl, he, h1, h6, h8, h7, hr, hq, hN1, hr2, hdis, hred, hrl, hrem, hql⟩ hN hX hR
    simp only [A_impl_divide.l1, T_aiff]
    obtain ⟨ra, re, rfl⟩ := hr.len
    refine T_rseq fun Kr hKr => ?_
    simp (disch := omega) only [RF, RO, RC, bodyQ, resAll, resOf, tup, ↓reduceIte, Nat.reduceEqDiff, Nat.reduceSub, Nat.reduceAdd, Nat.reduceMul, Nat.reduceLT, Nat.reduceLeDiff, Int.reduceLE, Int.reduceLT, Int.reduceEq, Int.reduceNeg, Int.reduceToNat, Int.reduceMul, Int.reduceAdd, Int.reduceSub, Int.reduceBEq, Int.reduceBNe, reduceCtorEq, RD, h1, h6]
    refine hKr _ _ ?_
    clear hKr Kr
    try simp only [RN, if_true, if_false, Bool.false_eq_true, if_pos, reduceIte]
    by_cases hge : ys.length ≤ rs.length
    · refine T_cseq (t := true) (by simp (disch := omega) only [RF, RO, RC, bodyQ, resAll, resOf, tup, ↓reduceIte, Nat.reduceEqDiff, Nat.reduceSub, Nat.reduceAdd, Nat.reduceMul, Nat.reduceLT, Nat.reduceLeDiff, Int.reduceLE, Int.reduceLT, Int.reduceEq, Int.reduceNeg, Int.reduceToNat, Int.reduceMul, Int.reduceAdd, Int.reduceSub, Int.reduceBEq, Int.reduceBNe, reduceCtorEq, decT, decF]) ?_
      try simp only [RN, if_true, if_false, Bool.false_eq_true, if_pos, reduceIte]
      first | refine T_bfree rfl ?_ | refine T_bfree' rfl ?_
      try simp only [RN, if_true, if_false, Bool.false_eq_true, if_pos, reduceIte]
      obtain ⟨rb, rrest, heq, hb1, hb2, hb3, hgr⟩ := hr.pos (by omega)
      cases heq
      have hi : (rs.length : Int) - 1 = ((rs.length - 1 : Nat) : Int) := by omega
      have hs : (rs.length : Int) - (ys.length : Int) = ((rs.length - ys.length : Nat) : Int) := by omega
      have hn1 : rs.length - 1 < rs.length := by omega
      have htr := hred.top (by omega)
      have hm := mulb (a := el rs (rs.length - 1)) (b := inv (top ys)) (by show 0 ≤ top rs; omega) (by show top rs ≤ _; omega) hiv.1 (by omega)
      refine T_rseq fun Kr hKr => ?_
      simp (disch := omega) only [RF, RO, RC, bodyQ, resAll, resOf, tup, ↓reduceIte, Nat.reduceEqDiff, Nat.reduceSub, Nat.reduceAdd, Nat.reduceMul, Nat.reduceLT, Nat.reduceLeDiff, Int.reduceLE, Int.reduceLT, Int.reduceEq, Int.reduceNeg, Int.reduceToNat, Int.reduceMul, Int.reduceAdd, Int.reduceSub, Int.reduceBEq, Int.reduceBNe, reduceCtorEq, RD, h1, h6, hs]
      refine hKr _ _ ?_
      clear hKr Kr
      try simp only [RN, if_true, if_false, Bool.false_eq_true, if_pos, reduceIte]
      refine T_rseq fun Kr hKr => ?_
      simp (disch := omega) only [RF, RO, RC, bodyQ, resAll, resOf, tup, ↓reduceIte, Nat.reduceEqDiff, Nat.reduceSub, Nat.reduceAdd, Nat.reduceMul, Nat.reduceLT, Nat.reduceLeDiff, Int.reduceLE, Int.reduceLT, Int.reduceEq, Int.reduceNeg, Int.reduceToNat, Int.reduceMul, Int.reduceAdd, Int.reduceSub, Int.reduceBEq, Int.reduceBNe, reduceCtorEq, RD, h6, h8, hi, hn1, hgr, tmodm]
      refine hKr _ _ ?_
      clear hKr Kr
      try simp only [RN, if_true, if_false, Bool.false_eq_true, if_pos, reduceIte]
      generalize hc : md (el rs (rs.length - 1) * inv (top ys)) = c
      have hlq1 : 0 ≤ c := by rw [← hc]; exact md_lo _
      have hlq2 : c ≤ 10006 := by rw [← hc]; exact md_hi _
      have hQq : Q = xs.length - ys.length + 1 := by rw [← hQ, if_pos (by omega)]
      obtain ⟨qb, qrest, heq, hc1, hc2, hc3, hgq⟩ := hq.pos (by omega)
      rw [hql] at heq
      cases heq
      refine T_rseq fun Kr hKr => ?_
      simp (disch := omega) only [RF, RO, RC, bodyQ, resAll, resOf, tup, ↓reduceIte, Nat.reduceEqDiff, Nat.reduceSub, Nat.reduceAdd, Nat.reduceMul, Nat.reduceLT, Nat.reduceLeDiff, Int.reduceLE, Int.reduceLT, Int.reduceEq, Int.reduceNeg, Int.reduceToNat, Int.reduceMul, Int.reduceAdd, Int.reduceSub, Int.reduceBEq, Int.reduceBNe, reduceCtorEq, RD, h7, hgq]
      refine hKr _ _ ?_
      clear hKr Kr
      try simp only [RN, if_true, if_false, Bool.false_eq_true, if_pos, reduceIte]
      have hout : Out H1.n (H1.n + 1) H' (H'.set H1.n (List.map I (qs.set (rs.length - ys.length) c) ++ qrest)) := Out.set (.refl) ⟨hc1, hc2⟩ _
      have hE0 := he.out hout he1.n
      have hr' := hr.out hout (by omega)
      have hq' : OwnI H1.n (H1.n + 1) (H'.set H1.n (List.map I (qs.set (rs.length - ys.length) c) ++ qrest)) (S H1.n 0 Q 1) (qs.set (rs.length - ys.length) c) := .inr ⟨H1.n, qrest, by rw [List.length_set, hql], hc1, hc2, hc3, get_set_same _ _ _⟩
      have hnn : (H'.set H1.n (List.map I (qs.set (rs.length - ys.length) c) ++ qrest)).n = H'.n := rfl
      simp only [List.map_set] at hout hE0 hr' hq' hnn ⊢
      generalize hH3 : H'.set H1.n ((List.map I qs).set (rs.length - ys.length) (I c) ++ qrest) = H3 at hout hE0 hr' hq' hnn ⊢
      refine T_rseq fun Kr hKr => ?_
      simp (disch := omega) only [RF, RO, RC, bodyQ, resAll, resOf, tup, ↓reduceIte, Nat.reduceEqDiff, Nat.reduceSub, Nat.reduceAdd, Nat.reduceMul, Nat.reduceLT, Nat.reduceLeDiff, Int.reduceLE, Int.reduceLT, Int.reduceEq, Int.reduceNeg, Int.reduceToNat, Int.reduceMul, Int.reduceAdd, Int.reduceSub, Int.reduceBEq, Int.reduceBNe, reduceCtorEq, RD, h1]
      refine hKr _ _ ?_
      clear hKr Kr
      try simp only [RN, if_true, if_false, Bool.false_eq_true, if_pos, reduceIte]
      refine T_wloop (fun n f H4 => ∃ k zs, k ≤ ys.length ∧ n = ys.length - k ∧ Ext H H4 ∧ H4.n = H'.n ∧ f 1 = S b o ys.length 1 ∧ f 6 = S rb 0 rs.length 1 ∧ f 8 = I (inv (top ys)) ∧ f 7 = S H1.n 0 Q 1 ∧ f 9 = I ((rs.length - ys.length : Nat) : Int) ∧ f 10 = I c ∧ f 53 = S b o ys.length 1 ∧ f 54 = I ys.length ∧ f 55 = I k ∧ OwnI rlo rhi H4 (S rb 0 rs.length 1) zs ∧ zs.length = rs.length ∧ OwnI H1.n (H1.n + 1) H4 (S H1.n 0 Q 1) (qs.set (rs.length - ys.length) c) ∧ (∀ j, j < rs.length - ys.length → el zs j = el rs j) ∧ (∀ i, i < k → el zs (rs.length - ys.length + i) = md (el rs (rs.length - ys.length + i) + -c * el ys i)) ∧ (∀ i, k ≤ i → el zs (rs.length - ys.length + i) = el rs (rs.length - ys.length + i))) (ys.length) ?_ ?_
      · exact ⟨0, rs, by omega, by omega, hE0, hnn, by simp [RF, h1], by simp [RF, h6], by simp [RF, h8], by simp [RF, h7], by simp [RF], by simp [RF], by simp [RF, h1], by simp [RF], by simp [RF], hr', rfl, hq', fun _ _ => rfl, fun i hi => by omega, fun _ _ => rfl⟩
      · clear hr hr' hq hq' hgr hgq hE0 he hout hH3 hnn h1 h6 h7 h8
        rintro n f H4 R2 ⟨k, zs, hk, rfl, he, hn4, h1, h6, h8, h7, h9, h10, h53, h54, h55, hr, hz, hq, hz1, hz2, hz3⟩ hN2 hX2 hR2
        simp only [A_impl_divide.l0, T_aiff]
        refine T_rseq fun Kr hKr => ?_
        simp (disch := omega) only [RF, RO, RC, bodyQ, resAll, resOf, tup, ↓reduceIte, Nat.reduceEqDiff, Nat.reduceSub, Nat.reduceAdd, Nat.reduceMul, Nat.reduceLT, Nat.reduceLeDiff, Int.reduceLE, Int.reduceLT, Int.reduceEq, Int.reduceNeg, Int.reduceToNat, Int.reduceMul, Int.reduceAdd, Int.reduceSub, Int.reduceBEq, Int.reduceBNe, reduceCtorEq, RD, h54, h55]
        refine hKr _ _ ?_
        clear hKr Kr
        try simp only [RN, if_true, if_false, Bool.false_eq_true, if_pos, reduceIte]
        by_cases hlt2 : k < ys.length
        · refine T_cseq (t := true) (by simp (disch := omega) only [RF, RO, RC, bodyQ, resAll, resOf, tup, ↓reduceIte, Nat.reduceEqDiff, Nat.reduceSub, Nat.reduceAdd, Nat.reduceMul, Nat.reduceLT, Nat.reduceLeDiff, Int.reduceLE, Int.reduceLT, Int.reduceEq, Int.reduceNeg, Int.reduceToNat, Int.reduceMul, Int.reduceAdd, Int.reduceSub, Int.reduceBEq, Int.reduceBNe, reduceCtorEq, decT, decF]) ?_
          try simp only [RN, if_true, if_false, Bool.false_eq_true, if_pos, reduceIte]
          first | refine T_bfree rfl ?_ | refine T_bfree' rfl ?_
          try simp only [RN, if_true, if_false, Bool.false_eq_true, if_pos, reduceIte]
          have hg4 : H4.get b = some blk := by rw [he.get b hb]; exact hg
          obtain ⟨rb', rrest', heq, hb1', hb2', hb3', hgr'⟩ := hr.pos (by omega)
          rw [hz] at heq
          cases heq
          have hik : ((rs.length - ys.length : Nat) : Int) + (k : Int) = ((rs.length - ys.length + k : Nat) : Int) := by omega
          have c1 := hred.1 (rs.length - ys.length + k)
          have c2 := hry.1 k
          have hm2 := mulb (a := 10007 - el ys k) (b := c) (by omega) (by omega) hlq1 (by omega)
          have hzk := hz3 k (Nat.le_refl _)
          have hii : rs.length - ys.length + k < zs.length := by omega
          refine T_rseq fun Kr hKr => ?_
          simp (disch := omega) only [RF, RO, RC, bodyQ, resAll, resOf, tup, ↓reduceIte, Nat.reduceEqDiff, Nat.reduceSub, Nat.reduceAdd, Nat.reduceMul, Nat.reduceLT, Nat.reduceLeDiff, Int.reduceLE, Int.reduceLT, Int.reduceEq, Int.reduceNeg, Int.reduceToNat, Int.reduceMul, Int.reduceAdd, Int.reduceSub, Int.reduceBEq, Int.reduceBNe, reduceCtorEq, RD, h53, h55, hlt2, hg4, hel]
          refine hKr _ _ ?_
          clear hKr Kr
          try simp only [RN, if_true, if_false, Bool.false_eq_true, if_pos, reduceIte]
          refine T_rseq fun Kr hKr => ?_
          simp (disch := omega) only [RF, RO, RC, bodyQ, resAll, resOf, tup, ↓reduceIte, Nat.reduceEqDiff, Nat.reduceSub, Nat.reduceAdd, Nat.reduceMul, Nat.reduceLT, Nat.reduceLeDiff, Int.reduceLE, Int.reduceLT, Int.reduceEq, Int.reduceNeg, Int.reduceToNat, Int.reduceMul, Int.reduceAdd, Int.reduceSub, Int.reduceBEq, Int.reduceBNe, reduceCtorEq, RD, h6, h9, h10, hik, hgr', hzk, tmodm, md_sub]
          refine hKr _ _ ?_
          clear hKr Kr
          try simp only [RN, if_true, if_false, Bool.false_eq_true, if_pos, reduceIte]
          refine T_reg_k fun Kr hKr => ?_
          simp (disch := omega) only [RF, RO, RC, bodyQ, resAll, resOf, tup, ↓reduceIte, Nat.reduceEqDiff, Nat.reduceSub, Nat.reduceAdd, Nat.reduceMul, Nat.reduceLT, Nat.reduceLeDiff, Int.reduceLE, Int.reduceLT, Int.reduceEq, Int.reduceNeg, Int.reduceToNat, Int.reduceMul, Int.reduceAdd, Int.reduceSub, Int.reduceBEq, Int.reduceBNe, reduceCtorEq, RD, h55]
          refine hKr _ _ ?_
          clear hKr Kr
          refine hN2 (ys.length - (k + 1)) _ _ (by omega) ⟨k + 1, zs.set (rs.length - ys.length + k) (md (el rs (rs.length - ys.length + k) + -c * el ys k)), by omega, rfl, ?_, hn4, by simp [RF, h1], by simp [RF, h6], by simp [RF, h8], by simp [RF, h7], by simp [RF, h9], by simp [RF, h10], by simp [RF, h53], by simp [RF, h54], by simp [RF], .inr ⟨_, rrest', by rw [List.length_set, hz], hb1', hb2', hb3', by rw [List.map_set, get_set_same]⟩, by simpa using hz, ?_, fun j hj => ?_, fun i hi => ?_, fun i hi => ?_⟩
          · exact he.set (by omega) _
          · exact hq.out (Out.set .refl ⟨hb1', hb2'⟩ _) (by omega)
          · rw [el_set_ne (by omega)]; exact hz1 j hj
          · by_cases h : i = k
            · subst h; rw [el_set_same (by omega)]
            · rw [el_set_ne (by omega)]; exact hz2 i (by omega)
          · rw [el_set_ne (by omega)]; exact hz3 i (by omega)
        · refine T_cseq (t := false) (by simp (disch := omega) only [RF, RO, RC, bodyQ, resAll, resOf, tup, ↓reduceIte, Nat.reduceEqDiff, Nat.reduceSub, Nat.reduceAdd, Nat.reduceMul, Nat.reduceLT, Nat.reduceLeDiff, Int.reduceLE, Int.reduceLT, Int.reduceEq, Int.reduceNeg, Int.reduceToNat, Int.reduceMul, Int.reduceAdd, Int.reduceSub, Int.reduceBEq, Int.reduceBNe, reduceCtorEq, decT, decF]) ?_
          try simp only [RN, if_true, if_false, Bool.false_eq_true, if_pos, reduceIte]
          refine hX2 _ _ ?_
          have hkk : k = ys.length := by omega
          subst hkk
          refine T_reg_k fun Kr hKr => ?_
          simp (disch := omega) only [RF, RO, RC, bodyQ, resAll, resOf, tup, ↓reduceIte, Nat.reduceEqDiff, Nat.reduceSub, Nat.reduceAdd, Nat.reduceMul, Nat.reduceLT, Nat.reduceLeDiff, Int.reduceLE, Int.reduceLT, Int.reduceEq, Int.reduceNeg, Int.reduceToNat, Int.reduceMul, Int.reduceAdd, Int.reduceSub, Int.reduceBEq, Int.reduceBNe, reduceCtorEq, RD, h6]
          refine cut_spec hr (by omega) fun w ho5 => ?_
          simp (disch := omega) only [RF, RO, RC, bodyQ, resAll, resOf, tup, ↓reduceIte, Nat.reduceEqDiff, Nat.reduceSub, Nat.reduceAdd, Nat.reduceMul, Nat.reduceLT, Nat.reduceLeDiff, Int.reduceLE, Int.reduceLT, Int.reduceEq, Int.reduceNeg, Int.reduceToNat, Int.reduceMul, Int.reduceAdd, Int.reduceSub, Int.reduceBEq, Int.reduceBNe, reduceCtorEq, RD]
          refine hKr _ _ ?_
          clear hKr Kr
          try simp only [blkQ, thenQ, loopQ]
          try simp only [RN, if_true, if_false, Bool.false_eq_true, if_pos, reduceIte]
          have hstep : trim zs = dstep rs ys (lastq rs ys) := by
            have : lastq rs ys = c := hc
            rw [this]
            exact dstep_gen hred hge hz hz1 hz2
          rw [hstep] at ho5
          have hlt3 := dstep_len hred hry hy0 hge
          refine hN _ _ _ hlt3 ⟨w, dstep rs ys (lastq rs ys), qs.set (rs.length - ys.length) c, rlo, rhi, rfl, he, by simp [RF, h1], by simp [RF], by simp [RF, h8], by simp [RF, h7], ho5, hq, hN1, by omega, hdis, red_padd _ _ _, by omega, by rw [← rem_step hred hry hy0 hge]; exact hrem, by rw [List.length_set]; exact hql⟩
    · refine T_cseq (t := false) (by simp (disch := omega) only [RF, RO, RC, bodyQ, resAll, resOf, tup, ↓reduceIte, Nat.reduceEqDiff, Nat.reduceSub, Nat.reduceAdd, Nat.reduceMul, Nat.reduceLT, Nat.reduceLeDiff, Int.reduceLE, Int.reduceLT, Int.reduceEq, Int.reduceNeg, Int.reduceToNat, Int.reduceMul, Int.reduceAdd, Int.reduceSub, Int.reduceBEq, Int.reduceBNe, reduceCtorEq, decT, decF]) ?_
      try simp only [RN, if_true, if_false, Bool.false_eq_true, if_pos, reduceIte]
      refine hX _ _ ?_
      refine T_rseq fun Kr hKr => ?_
      simp (disch := omega) only [RF, RO, RC, bodyQ, resAll, resOf, tup, ↓reduceIte, Nat.reduceEqDiff, Nat.reduceSub, Nat.reduceAdd, Nat.reduceMul, Nat.reduceLT, Nat.reduceLeDiff, Int.reduceLE, Int.reduceLT, Int.reduceEq, Int.reduceNeg, Int.reduceToNat, Int.reduceMul, Int.reduceAdd, Int.reduceSub, Int.reduceBEq, Int.reduceBNe, reduceCtorEq, RD, h6, h7]
      refine cut_spec hq (by omega) fun w ho5 => ?_
      simp (disch := omega) only [RF, RO, RC, bodyQ, resAll, resOf, tup, ↓reduceIte, Nat.reduceEqDiff, Nat.reduceSub, Nat.reduceAdd, Nat.reduceMul, Nat.reduceLT, Nat.reduceLeDiff, Int.reduceLE, Int.reduceLT, Int.reduceEq, Int.reduceNeg, Int.reduceToNat, Int.reduceMul, Int.reduceAdd, Int.reduceSub, Int.reduceBEq, Int.reduceBNe, reduceCtorEq, RD, h6]
      refine hKr _ _ ?_
      clear hKr Kr
      try simp only [blkQ, thenQ, loopQ]
      try simp only [RN, if_true, if_false, Bool.false_eq_true, if_pos, reduceIte]
      refine ⟨_, rfl, ?_⟩
      simp only [RF, ev_t, ev_c, tup, ↓reduceIte, Nat.reduceEqDiff]
      refine hK _ _ _ he ?_
      rw [← hrem, rem_small (by omega)]
      exact hr.weak hN1 hr2
end Go.Am

/- Common divisors. -/
set_option linter.unusedVariables false
set_option linter.unusedSimpArgs false
namespace Go.Am
open Go

def gcdF : Nat → List Int → List Int → List Int
  | 0, f, _ => f
  | n + 1, f, g => if g.length = 0 then f else gcdF n g (rem f g)
theorem gcdF_stable : ∀ (n m : Nat) (f g : List Int), Red f → Red g → g.length < n → g.length < m → gcdF n f g = gcdF m f g
  | 0, _, _, _, _, _, h, _ => by omega
  | _, 0, _, _, _, _, _, h => by omega
  | n + 1, m + 1, f, g, hf, hg, hn, hm => by
    simp only [gcdF]
    split
    · rfl
    · have := rem_red hg (by omega) f.length f (Nat.le_refl _) hf
      exact gcdF_stable n m _ _ hg this.1 (by omega) (by omega)
/-- The last one that is not 0. -/
def euclid (f g : List Int) : List Int := gcdF (g.length + 1) f g
theorem euclid_nil {f g : List Int} (h : g.length = 0) : euclid f g = f := by simp [euclid, gcdF, h]
theorem euclid_step {f g : List Int} (hf : Red f) (hg : Red g) (h : 0 < g.length) : euclid f g = euclid g (rem f g) := by
  have := rem_red hg h f.length f (Nat.le_refl _) hf
  show (if g.length = 0 then f else gcdF g.length g (rem f g)) = _
  rw [if_neg (by omega)]
  exact gcdF_stable _ _ _ _ hg this.1 this.2 (by omega)
def monic (f : List Int) : List Int := padd [] f (inv (top f))
def common (f g : List Int) : List Int := monic (euclid f g)
theorem monic_is {f : List Int} (hf : Red f) : ptimes f [inv (top f)] = monic f := by
  refine Red.ext (red_ptimes _ _) (red_padd _ _ _) fun i => ?_
  rw [el_ptimes, cv_one _ _ _ (el_one _), monic, el_padd]
  have h1 : el [inv (top f)] 0 = inv (top f) := rfl
  have h2 : el [] i = 0 := by simp [el]
  rw [h1, h2, Int.zero_add, Int.mul_comm]
theorem euclid_red : ∀ (n : Nat) (f g : List Int), g.length ≤ n → Red f → Red g → (f.length < 1000 ∧ g.length < 1000) → Red (euclid f g) ∧ (euclid f g).length < 1000 ∧ (0 < f.length ∨ 0 < g.length → 0 < (euclid f g).length)
  | n, f, g, hn, hf, hg, hb => by
    by_cases h : g.length = 0
    · rw [euclid_nil h]; exact ⟨hf, hb.1, fun h2 => by omega⟩
    · have hr := rem_red hg (by omega) f.length f (Nat.le_refl _) hf
      rw [euclid_step hf hg (by omega)]
      match n, hn with
      | 0, hn => omega
      | n + 1, hn =>
        have ih := euclid_red n g (rem f g) (by omega) hg hr.1 ⟨hb.2, by omega⟩
        exact ⟨ih.1, ih.2.1, fun _ => ih.2.2 (.inl (by omega))⟩

theorem l06Monic_spec {H : AHeap} {v : Value} {xs : List Int} {K : Value → AHeap → Prop} (hx : IsI H v xs) (hrx : Red xs) (hx0 : 0 < xs.length) (hlx : xs.length < 1000)
    (hK : ∀ v' H', Ext H H' → OwnI H.n H'.n H' v' (monic xs) → K v' H') : CallT F_spec_l06Monic [v] H K := by
  obtain ⟨b, o, blk, rfl, hb, hg, hlen, hel⟩ := hx.pos hx0
  have ht := hrx.top hx0
  have hiv := inv_bd (top xs)
  have hlast : (xs.length : Int) - 1 = ((xs.length - 1 : Nat) : Int) := by omega
  have hlt : xs.length - 1 < xs.length := by omega
  refine CallT_body Γ_spec_l06Monic ?_
  simp only [A_spec_l06Monic, T_aiff]
  refine T_rseq fun Kr hKr => ?_
  simp (disch := omega) only [RF, RO, RC, bodyQ, resAll, resOf, tup, ↓reduceIte, Nat.reduceEqDiff, Nat.reduceSub, Nat.reduceAdd, Nat.reduceMul, Nat.reduceLT, Nat.reduceLeDiff, Int.reduceLE, Int.reduceLT, Int.reduceEq, Int.reduceNeg, Int.reduceToNat, Int.reduceMul, Int.reduceAdd, Int.reduceSub, Int.reduceBEq, Int.reduceBNe, reduceCtorEq, RD]
  refine hKr _ _ ?_
  clear hKr Kr
  try simp only [RN, if_true, if_false, Bool.false_eq_true, if_pos, reduceIte]
  refine T_rseq fun Kr hKr => ?_
  simp (disch := omega) only [RF, RO, RC, bodyQ, resAll, resOf, tup, ↓reduceIte, Nat.reduceEqDiff, Nat.reduceSub, Nat.reduceAdd, Nat.reduceMul, Nat.reduceLT, Nat.reduceLeDiff, Int.reduceLE, Int.reduceLT, Int.reduceEq, Int.reduceNeg, Int.reduceToNat, Int.reduceMul, Int.reduceAdd, Int.reduceSub, Int.reduceBEq, Int.reduceBNe, reduceCtorEq, RD, hlast, hlt, hg, hel]
  refine l06Inverse_spec (by show 0 ≤ top xs; omega) (by show top xs ≤ 10007; omega) ?_
  simp (disch := omega) only [RF, RO, RC, bodyQ, resAll, resOf, tup, ↓reduceIte, Nat.reduceEqDiff, Nat.reduceSub, Nat.reduceAdd, Nat.reduceMul, Nat.reduceLT, Nat.reduceLeDiff, Int.reduceLE, Int.reduceLT, Int.reduceEq, Int.reduceNeg, Int.reduceToNat, Int.reduceMul, Int.reduceAdd, Int.reduceSub, Int.reduceBEq, Int.reduceBNe, reduceCtorEq, RD]
  refine l06Add_spec .nil (fun i hi => by simp at hi) (by simp) hx hrx.fit (by omega) (q := inv (top xs)) (by omega) (by omega) fun v' H' he ho => ?_
  simp (disch := omega) only [RF, RO, RC, bodyQ, resAll, resOf, tup, ↓reduceIte, Nat.reduceEqDiff, Nat.reduceSub, Nat.reduceAdd, Nat.reduceMul, Nat.reduceLT, Nat.reduceLeDiff, Int.reduceLE, Int.reduceLT, Int.reduceEq, Int.reduceNeg, Int.reduceToNat, Int.reduceMul, Int.reduceAdd, Int.reduceSub, Int.reduceBEq, Int.reduceBNe, reduceCtorEq, RD]
  refine hKr _ _ ?_
  clear hKr Kr
  try simp only [blkQ, thenQ, loopQ]
  try simp only [RN, if_true, if_false, Bool.false_eq_true, if_pos, reduceIte]
  refine ⟨_, rfl, ?_⟩
  simp only [RF, ev_t, ev_c, tup, ↓reduceIte, Nat.reduceEqDiff]
  exact hK _ _ he ho
theorem l06Common_spec {H : AHeap} {v u : Value} {xs ys : List Int} {K : Value → AHeap → Prop} (hx : IsI H v xs) (hrx : Red xs) (hlx : xs.length < 1000) (hy : IsI H u ys) (hry : Red ys) (hly : ys.length < 1000) (h0 : 0 < xs.length ∨ 0 < ys.length)
    (hK : ∀ v' H', Ext H H' → OwnI H.n H'.n H' v' (common xs ys) → K v' H') : CallT F_spec_l06Common [v, u] H K := by
  refine CallT_body Γ_spec_l06Common ?_
  simp only [A_spec_l06Common, T_aiff]
  refine T_rseq fun Kr hKr => ?_
  simp (disch := omega) only [RF, RO, RC, bodyQ, resAll, resOf, tup, ↓reduceIte, Nat.reduceEqDiff, Nat.reduceSub, Nat.reduceAdd, Nat.reduceMul, Nat.reduceLT, Nat.reduceLeDiff, Int.reduceLE, Int.reduceLT, Int.reduceEq, Int.reduceNeg, Int.reduceToNat, Int.reduceMul, Int.reduceAdd, Int.reduceSub, Int.reduceBEq, Int.reduceBNe, reduceCtorEq, RD]
  refine hKr _ _ ?_
  clear hKr Kr
  try simp only [RN, if_true, if_false, Bool.false_eq_true, if_pos, reduceIte]
  refine T_wloop (fun n f H' => ∃ a b fs gs, n = gs.length ∧ Ext H H' ∧ f 0 = a ∧ f 1 = b ∧ IsI H' a fs ∧ IsI H' b gs ∧ Red fs ∧ Red gs ∧ fs.length < 1000 ∧ gs.length < 1000 ∧ (0 < fs.length ∨ 0 < gs.length) ∧ euclid fs gs = euclid xs ys) (ys.length) ?_ ?_
  · exact ⟨v, u, xs, ys, rfl, Ext.refl' _, by simp [RF], by simp [RF], hx, hy, hrx, hry, hlx, hly, h0, rfl⟩
  · rintro n f H' R ⟨a, b, fs, gs, rfl, he, ha, hb, hfs, hgs, hrf, hrg, hlf, hlg, hn0, heu⟩ hN hX hR
    simp only [A_spec_l06Common.l0, T_aiff]
    obtain ⟨ga, ge, rfl⟩ := hgs.len
    refine T_rseq fun Kr hKr => ?_
    simp (disch := omega) only [RF, RO, RC, bodyQ, resAll, resOf, tup, ↓reduceIte, Nat.reduceEqDiff, Nat.reduceSub, Nat.reduceAdd, Nat.reduceMul, Nat.reduceLT, Nat.reduceLeDiff, Int.reduceLE, Int.reduceLT, Int.reduceEq, Int.reduceNeg, Int.reduceToNat, Int.reduceMul, Int.reduceAdd, Int.reduceSub, Int.reduceBEq, Int.reduceBNe, reduceCtorEq, RD, hb]
    refine hKr _ _ ?_
    clear hKr Kr
    try simp only [RN, if_true, if_false, Bool.false_eq_true, if_pos, reduceIte]
    by_cases hg0 : 0 < gs.length
    · refine T_cseq (t := true) (by simp (disch := omega) only [RF, RO, RC, bodyQ, resAll, resOf, tup, ↓reduceIte, Nat.reduceEqDiff, Nat.reduceSub, Nat.reduceAdd, Nat.reduceMul, Nat.reduceLT, Nat.reduceLeDiff, Int.reduceLE, Int.reduceLT, Int.reduceEq, Int.reduceNeg, Int.reduceToNat, Int.reduceMul, Int.reduceAdd, Int.reduceSub, Int.reduceBEq, Int.reduceBNe, reduceCtorEq, decT, decF]) ?_
      try simp only [RN, if_true, if_false, Bool.false_eq_true, if_pos, reduceIte]
      first | refine T_bfree rfl ?_ | refine T_bfree' rfl ?_
      try simp only [RN, if_true, if_false, Bool.false_eq_true, if_pos, reduceIte]
      refine T_rseq fun Kr hKr => ?_
      simp (disch := omega) only [RF, RO, RC, bodyQ, resAll, resOf, tup, ↓reduceIte, Nat.reduceEqDiff, Nat.reduceSub, Nat.reduceAdd, Nat.reduceMul, Nat.reduceLT, Nat.reduceLeDiff, Int.reduceLE, Int.reduceLT, Int.reduceEq, Int.reduceNeg, Int.reduceToNat, Int.reduceMul, Int.reduceAdd, Int.reduceSub, Int.reduceBEq, Int.reduceBNe, reduceCtorEq, RD, ha, hb]
      refine l06Divide_spec hfs hrf hlf hgs hrg hg0 hlg fun q w H2 he2 ho2 => ?_
      simp (disch := omega) only [RF, RO, RC, bodyQ, resAll, resOf, tup, ↓reduceIte, Nat.reduceEqDiff, Nat.reduceSub, Nat.reduceAdd, Nat.reduceMul, Nat.reduceLT, Nat.reduceLeDiff, Int.reduceLE, Int.reduceLT, Int.reduceEq, Int.reduceNeg, Int.reduceToNat, Int.reduceMul, Int.reduceAdd, Int.reduceSub, Int.reduceBEq, Int.reduceBNe, reduceCtorEq, RD]
      refine hKr _ _ ?_
      clear hKr Kr
      try simp only [blkQ, thenQ, loopQ]
      try simp only [RN, if_true, if_false, Bool.false_eq_true, if_pos, reduceIte]
      refine T_rseq fun Kr hKr => ?_
      simp (disch := omega) only [RF, RO, RC, bodyQ, resAll, resOf, tup, ↓reduceIte, Nat.reduceEqDiff, Nat.reduceSub, Nat.reduceAdd, Nat.reduceMul, Nat.reduceLT, Nat.reduceLeDiff, Int.reduceLE, Int.reduceLT, Int.reduceEq, Int.reduceNeg, Int.reduceToNat, Int.reduceMul, Int.reduceAdd, Int.reduceSub, Int.reduceBEq, Int.reduceBNe, reduceCtorEq, RD, hb]
      refine hKr _ _ ?_
      clear hKr Kr
      try simp only [RN, if_true, if_false, Bool.false_eq_true, if_pos, reduceIte]
      refine T_reg_k fun Kr hKr => ?_
      simp (disch := omega) only [RF, RO, RC, bodyQ, resAll, resOf, tup, ↓reduceIte, Nat.reduceEqDiff, Nat.reduceSub, Nat.reduceAdd, Nat.reduceMul, Nat.reduceLT, Nat.reduceLeDiff, Int.reduceLE, Int.reduceLT, Int.reduceEq, Int.reduceNeg, Int.reduceToNat, Int.reduceMul, Int.reduceAdd, Int.reduceSub, Int.reduceBEq, Int.reduceBNe, reduceCtorEq, RD]
      refine hKr _ _ ?_
      clear hKr Kr
      have hr := rem_red hrg hg0 fs.length fs (Nat.le_refl _) hrf
      exact hN _ _ _ hr.2 ⟨_, w, gs, rem fs gs, rfl, he.trans' he2, by simp [RF], by simp [RF], hgs.ext he2, ho2.is, hrg, hr.1, hlg, by omega, .inl hg0, by rw [← euclid_step hrf hrg hg0]; exact heu⟩
    · refine T_cseq (t := false) (by simp (disch := omega) only [RF, RO, RC, bodyQ, resAll, resOf, tup, ↓reduceIte, Nat.reduceEqDiff, Nat.reduceSub, Nat.reduceAdd, Nat.reduceMul, Nat.reduceLT, Nat.reduceLeDiff, Int.reduceLE, Int.reduceLT, Int.reduceEq, Int.reduceNeg, Int.reduceToNat, Int.reduceMul, Int.reduceAdd, Int.reduceSub, Int.reduceBEq, Int.reduceBNe, reduceCtorEq, decT, decF]) ?_
      try simp only [RN, if_true, if_false, Bool.false_eq_true, if_pos, reduceIte]
      refine hX _ _ ?_
      have hgz : gs.length = 0 := by omega
      rw [euclid_nil hgz] at heu
      refine T_rseq fun Kr hKr => ?_
      simp (disch := omega) only [RF, RO, RC, bodyQ, resAll, resOf, tup, ↓reduceIte, Nat.reduceEqDiff, Nat.reduceSub, Nat.reduceAdd, Nat.reduceMul, Nat.reduceLT, Nat.reduceLeDiff, Int.reduceLE, Int.reduceLT, Int.reduceEq, Int.reduceNeg, Int.reduceToNat, Int.reduceMul, Int.reduceAdd, Int.reduceSub, Int.reduceBEq, Int.reduceBNe, reduceCtorEq, RD, ha]
      refine l06Monic_spec hfs hrf (by omega) hlf fun w H2 he2 ho2 => ?_
      simp (disch := omega) only [RF, RO, RC, bodyQ, resAll, resOf, tup, ↓reduceIte, Nat.reduceEqDiff, Nat.reduceSub, Nat.reduceAdd, Nat.reduceMul, Nat.reduceLT, Nat.reduceLeDiff, Int.reduceLE, Int.reduceLT, Int.reduceEq, Int.reduceNeg, Int.reduceToNat, Int.reduceMul, Int.reduceAdd, Int.reduceSub, Int.reduceBEq, Int.reduceBNe, reduceCtorEq, RD]
      refine hKr _ _ ?_
      clear hKr Kr
      try simp only [blkQ, thenQ, loopQ]
      try simp only [RN, if_true, if_false, Bool.false_eq_true, if_pos, reduceIte]
      refine ⟨_, rfl, ?_⟩
      simp only [RF, ev_t, ev_c, tup, ↓reduceIte, Nat.reduceEqDiff]
      refine hK _ _ (he.trans' he2) ?_
      rw [common, ← heu]
      exact ho2.weak he.n (Nat.le_refl _)
theorem common_spec {H : AHeap} {v u : Value} {xs ys : List Int} {K : Value → AHeap → Prop} (hx : IsI H v xs) (hrx : Red xs) (hlx : xs.length < 1000) (hy : IsI H u ys) (hry : Red ys) (hly : ys.length < 1000) (h0 : 0 < xs.length ∨ 0 < ys.length)
    (hK : ∀ v' H', Ext H H' → OwnI H.n H'.n H' v' (common xs ys) → K v' H') : CallT F_impl_common [v, u] H K := by
  refine CallT_body Γ_impl_common ?_
  simp only [A_impl_common, T_aiff]
  refine T_rseq fun Kr hKr => ?_
  simp (disch := omega) only [RF, RO, RC, bodyQ, resAll, resOf, tup, ↓reduceIte, Nat.reduceEqDiff, Nat.reduceSub, Nat.reduceAdd, Nat.reduceMul, Nat.reduceLT, Nat.reduceLeDiff, Int.reduceLE, Int.reduceLT, Int.reduceEq, Int.reduceNeg, Int.reduceToNat, Int.reduceMul, Int.reduceAdd, Int.reduceSub, Int.reduceBEq, Int.reduceBNe, reduceCtorEq, RD]
  refine hKr _ _ ?_
  clear hKr Kr
  try simp only [RN, if_true, if_false, Bool.false_eq_true, if_pos, reduceIte]
  refine T_wloop (fun n f H' => ∃ a b fs gs, n = gs.length ∧ Ext H H' ∧ f 0 = a ∧ f 1 = b ∧ IsI H' a fs ∧ IsI H' b gs ∧ Red fs ∧ Red gs ∧ fs.length < 1000 ∧ gs.length < 1000 ∧ (0 < fs.length ∨ 0 < gs.length) ∧ euclid fs gs = euclid xs ys) (ys.length) ?_ ?_
  · exact ⟨v, u, xs, ys, rfl, Ext.refl' _, by simp [RF], by simp [RF], hx, hy, hrx, hry, hlx, hly, h0, rfl⟩
  · rintro n f H' R ⟨a, b, fs, gs, rfl, he, ha, hb, hfs, hgs, hrf, hrg, hlf, hlg, hn0, heu⟩ hN hX hR
    simp only [A_impl_common.l0, T_aiff]
    obtain ⟨ga, ge, rfl⟩ := hgs.len
    refine T_rseq fun Kr hKr => ?_
    simp (disch := omega) only [RF, RO, RC, bodyQ, resAll, resOf, tup, ↓reduceIte, Nat.reduceEqDiff, Nat.reduceSub, Nat.reduceAdd, Nat.reduceMul, Nat.reduceLT, Nat.reduceLeDiff, Int.reduceLE, Int.reduceLT, Int.reduceEq, Int.reduceNeg, Int.reduceToNat, Int.reduceMul, Int.reduceAdd, Int.reduceSub, Int.reduceBEq, Int.reduceBNe, reduceCtorEq, RD, hb]
    refine hKr _ _ ?_
    clear hKr Kr
    try simp only [RN, if_true, if_false, Bool.false_eq_true, if_pos, reduceIte]
    by_cases hg0 : 0 < gs.length
    · refine T_cseq (t := true) (by simp (disch := omega) only [RF, RO, RC, bodyQ, resAll, resOf, tup, ↓reduceIte, Nat.reduceEqDiff, Nat.reduceSub, Nat.reduceAdd, Nat.reduceMul, Nat.reduceLT, Nat.reduceLeDiff, Int.reduceLE, Int.reduceLT, Int.reduceEq, Int.reduceNeg, Int.reduceToNat, Int.reduceMul, Int.reduceAdd, Int.reduceSub, Int.reduceBEq, Int.reduceBNe, reduceCtorEq, decT, decF]) ?_
      try simp only [RN, if_true, if_false, Bool.false_eq_true, if_pos, reduceIte]
      first | refine T_bfree rfl ?_ | refine T_bfree' rfl ?_
      try simp only [RN, if_true, if_false, Bool.false_eq_true, if_pos, reduceIte]
      refine T_rseq fun Kr hKr => ?_
      simp (disch := omega) only [RF, RO, RC, bodyQ, resAll, resOf, tup, ↓reduceIte, Nat.reduceEqDiff, Nat.reduceSub, Nat.reduceAdd, Nat.reduceMul, Nat.reduceLT, Nat.reduceLeDiff, Int.reduceLE, Int.reduceLT, Int.reduceEq, Int.reduceNeg, Int.reduceToNat, Int.reduceMul, Int.reduceAdd, Int.reduceSub, Int.reduceBEq, Int.reduceBNe, reduceCtorEq, RD, ha, hb]
      refine divide_spec hfs hrf hlf hgs hrg hg0 hlg fun q w H2 he2 ho2 => ?_
      simp (disch := omega) only [RF, RO, RC, bodyQ, resAll, resOf, tup, ↓reduceIte, Nat.reduceEqDiff, Nat.reduceSub, Nat.reduceAdd, Nat.reduceMul, Nat.reduceLT, Nat.reduceLeDiff, Int.reduceLE, Int.reduceLT, Int.reduceEq, Int.reduceNeg, Int.reduceToNat, Int.reduceMul, Int.reduceAdd, Int.reduceSub, Int.reduceBEq, Int.reduceBNe, reduceCtorEq, RD]
      refine hKr _ _ ?_
      clear hKr Kr
      try simp only [blkQ, thenQ, loopQ]
      try simp only [RN, if_true, if_false, Bool.false_eq_true, if_pos, reduceIte]
      refine T_reg_k fun Kr hKr => ?_
      simp (disch := omega) only [RF, RO, RC, bodyQ, resAll, resOf, tup, ↓reduceIte, Nat.reduceEqDiff, Nat.reduceSub, Nat.reduceAdd, Nat.reduceMul, Nat.reduceLT, Nat.reduceLeDiff, Int.reduceLE, Int.reduceLT, Int.reduceEq, Int.reduceNeg, Int.reduceToNat, Int.reduceMul, Int.reduceAdd, Int.reduceSub, Int.reduceBEq, Int.reduceBNe, reduceCtorEq, RD, hb]
      refine hKr _ _ ?_
      clear hKr Kr
      have hr := rem_red hrg hg0 fs.length fs (Nat.le_refl _) hrf
      exact hN _ _ _ hr.2 ⟨_, w, gs, rem fs gs, rfl, he.trans' he2, by simp [RF], by simp [RF], hgs.ext he2, ho2.is, hrg, hr.1, hlg, by omega, .inl hg0, by rw [← euclid_step hrf hrg hg0]; exact heu⟩
    · refine T_cseq (t := false) (by simp (disch := omega) only [RF, RO, RC, bodyQ, resAll, resOf, tup, ↓reduceIte, Nat.reduceEqDiff, Nat.reduceSub, Nat.reduceAdd, Nat.reduceMul, Nat.reduceLT, Nat.reduceLeDiff, Int.reduceLE, Int.reduceLT, Int.reduceEq, Int.reduceNeg, Int.reduceToNat, Int.reduceMul, Int.reduceAdd, Int.reduceSub, Int.reduceBEq, Int.reduceBNe, reduceCtorEq, decT, decF]) ?_
      try simp only [RN, if_true, if_false, Bool.false_eq_true, if_pos, reduceIte]
      refine hX _ _ ?_
      have hgz : gs.length = 0 := by omega
      rw [euclid_nil hgz] at heu
      obtain ⟨b', o, blk, rfl, hb', hg, hlen, hel⟩ := hfs.pos (by omega)
      have ht := hrf.top (by omega)
      have hiv := inv_bd (top fs)
      have hlast : (fs.length : Int) - 1 = ((fs.length - 1 : Nat) : Int) := by omega
      have hlt : fs.length - 1 < fs.length := by omega
      refine T_rseq fun Kr hKr => ?_
      simp (disch := omega) only [RF, RO, RC, bodyQ, resAll, resOf, tup, ↓reduceIte, Nat.reduceEqDiff, Nat.reduceSub, Nat.reduceAdd, Nat.reduceMul, Nat.reduceLT, Nat.reduceLeDiff, Int.reduceLE, Int.reduceLT, Int.reduceEq, Int.reduceNeg, Int.reduceToNat, Int.reduceMul, Int.reduceAdd, Int.reduceSub, Int.reduceBEq, Int.reduceBNe, reduceCtorEq, RD, ha, hlast, hlt, hg, hel]
      refine inverse_spec (by show 0 ≤ top fs; omega) (by show top fs ≤ 10007; omega) ?_
      simp (disch := omega) only [RF, RO, RC, bodyQ, resAll, resOf, tup, ↓reduceIte, Nat.reduceEqDiff, Nat.reduceSub, Nat.reduceAdd, Nat.reduceMul, Nat.reduceLT, Nat.reduceLeDiff, Int.reduceLE, Int.reduceLT, Int.reduceEq, Int.reduceNeg, Int.reduceToNat, Int.reduceMul, Int.reduceAdd, Int.reduceSub, Int.reduceBEq, Int.reduceBNe, reduceCtorEq, RD, ha]
      refine times_spec (hfs.ext (Ext.alloc _ _)) hrf.fit (by omega) (own_one _ (inv (el fs (fs.length - 1)))).is (fit_one _ (by show 0 ≤ inv (top fs) ∧ inv (top fs) ≤ 10007; omega)) (by simp) fun w H2 he2 ho2 => ?_
      simp (disch := omega) only [RF, RO, RC, bodyQ, resAll, resOf, tup, ↓reduceIte, Nat.reduceEqDiff, Nat.reduceSub, Nat.reduceAdd, Nat.reduceMul, Nat.reduceLT, Nat.reduceLeDiff, Int.reduceLE, Int.reduceLT, Int.reduceEq, Int.reduceNeg, Int.reduceToNat, Int.reduceMul, Int.reduceAdd, Int.reduceSub, Int.reduceBEq, Int.reduceBNe, reduceCtorEq, RD]
      refine hKr _ _ ?_
      clear hKr Kr
      try simp only [blkQ, thenQ, loopQ]
      try simp only [RN, if_true, if_false, Bool.false_eq_true, if_pos, reduceIte]
      refine ⟨_, rfl, ?_⟩
      simp only [RF, ev_t, ev_c, tup, ↓reduceIte, Nat.reduceEqDiff]
      refine hK _ _ (he.trans' ((Ext.alloc _ _).trans' he2)) ?_
      rw [common, ← heu, ← monic_is hrf]
      exact ho2.weak (Nat.le_trans he.n (Nat.le_succ _)) (Nat.le_refl _)

def resCommonDivisor (xs ys : List Int) : List Int × Int := if Poly xs ∧ Poly ys then if xs.length = 0 ∧ ys.length = 0 then ([], 5) else (common xs ys, 0) else ([], 1)
theorem monic_len (f : List Int) : (monic f).length ≤ f.length := by
  have := padd_len [] f (inv (top f))
  unfold monic
  simpa using this
theorem resCommonDivisor_len (xs ys : List Int) : (resCommonDivisor xs ys).1.length < 1000 := by
  unfold resCommonDivisor
  split
  · rename_i h
    split
    · simp
    · have := (euclid_red _ xs ys (Nat.le_refl _) h.1.red h.2.red ⟨by have := h.1.2.1; omega, by have := h.2.2.1; omega⟩).2.1
      have := monic_len (euclid xs ys)
      show (monic (euclid xs ys)).length < _
      omega
  · simp
theorem CommonDivisor_spec {H : AHeap} {v u : Value} {xs ys : List Int} {K : Value → AHeap → Prop} (hx : IsI H v xs) (hl : xs.length < 2 ^ 62) (hy : IsI H u ys) (hly : ys.length < 2 ^ 62)
    (hK : ∀ v' H', Ext H H' → OwnI H.n H'.n H' v' (resCommonDivisor xs ys).1 → K (.tuple ⟨[v', I (resCommonDivisor xs ys).2]⟩) H') : CallT F_spec_CommonDivisor [v, u] H K := by
  obtain ⟨a, e, rfl⟩ := hx.len
  obtain ⟨a', e', rfl⟩ := hy.len
  refine CallT_body Γ_spec_CommonDivisor ?_
  simp only [A_spec_CommonDivisor, T_aiff]
  refine T_rseq fun Kr hKr => ?_
  simp (disch := omega) only [RF, RO, RC, bodyQ, resAll, resOf, tup, ↓reduceIte, Nat.reduceEqDiff, Nat.reduceSub, Nat.reduceAdd, Nat.reduceMul, Nat.reduceLT, Nat.reduceLeDiff, Int.reduceLE, Int.reduceLT, Int.reduceEq, Int.reduceNeg, Int.reduceToNat, Int.reduceMul, Int.reduceAdd, Int.reduceSub, Int.reduceBEq, Int.reduceBNe, reduceCtorEq, RD]
  refine hKr _ _ ?_
  clear hKr Kr
  try simp only [RN, if_true, if_false, Bool.false_eq_true, if_pos, reduceIte]
  refine T_rseq fun Kr hKr => ?_
  simp (disch := omega) only [RF, RO, RC, bodyQ, resAll, resOf, tup, ↓reduceIte, Nat.reduceEqDiff, Nat.reduceSub, Nat.reduceAdd, Nat.reduceMul, Nat.reduceLT, Nat.reduceLeDiff, Int.reduceLE, Int.reduceLT, Int.reduceEq, Int.reduceNeg, Int.reduceToNat, Int.reduceMul, Int.reduceAdd, Int.reduceSub, Int.reduceBEq, Int.reduceBNe, reduceCtorEq, RD]
  refine l06Both_spec hx hl hy hly ?_
  by_cases hp : Poly xs ∧ Poly ys
  · simp only [resCommonDivisor, hp, and_self, if_true] at hK
    simp only [hp, and_self, if_true]
    have l1 := hp.1.2.1
    have l2 := hp.2.2.1
    simp (disch := omega) only [RF, RO, RC, bodyQ, resAll, resOf, tup, ↓reduceIte, Nat.reduceEqDiff, Nat.reduceSub, Nat.reduceAdd, Nat.reduceMul, Nat.reduceLT, Nat.reduceLeDiff, Int.reduceLE, Int.reduceLT, Int.reduceEq, Int.reduceNeg, Int.reduceToNat, Int.reduceMul, Int.reduceAdd, Int.reduceSub, Int.reduceBEq, Int.reduceBNe, reduceCtorEq, RD]
    refine hKr _ _ ?_
    clear hKr Kr
    try simp only [blkQ, thenQ, loopQ]
    try simp only [RN, if_true, if_false, Bool.false_eq_true, if_pos, reduceIte]
    by_cases hx0 : xs.length = 0
    · by_cases hy0 : ys.length = 0
      · simp only [hx0, hy0, and_self, if_true] at hK
        refine T_rseq fun Kr hKr => ?_
        simp (disch := omega) only [RF, RO, RC, bodyQ, resAll, resOf, tup, ↓reduceIte, Nat.reduceEqDiff, Nat.reduceSub, Nat.reduceAdd, Nat.reduceMul, Nat.reduceLT, Nat.reduceLeDiff, Int.reduceLE, Int.reduceLT, Int.reduceEq, Int.reduceNeg, Int.reduceToNat, Int.reduceMul, Int.reduceAdd, Int.reduceSub, Int.reduceBEq, Int.reduceBNe, reduceCtorEq, RD]
        refine hKr _ _ ?_
        clear hKr Kr
        try simp only [RN, if_true, if_false, Bool.false_eq_true, if_pos, reduceIte]
        refine T_cseq (t := true) (by simp (disch := omega) only [RF, RO, RC, bodyQ, resAll, resOf, tup, ↓reduceIte, Nat.reduceEqDiff, Nat.reduceSub, Nat.reduceAdd, Nat.reduceMul, Nat.reduceLT, Nat.reduceLeDiff, Int.reduceLE, Int.reduceLT, Int.reduceEq, Int.reduceNeg, Int.reduceToNat, Int.reduceMul, Int.reduceAdd, Int.reduceSub, Int.reduceBEq, Int.reduceBNe, reduceCtorEq, decT, decF]) ?_
        try simp only [RN, if_true, if_false, Bool.false_eq_true, if_pos, reduceIte]
        refine T_rseq fun Kr hKr => ?_
        simp (disch := omega) only [RF, RO, RC, bodyQ, resAll, resOf, tup, ↓reduceIte, Nat.reduceEqDiff, Nat.reduceSub, Nat.reduceAdd, Nat.reduceMul, Nat.reduceLT, Nat.reduceLeDiff, Int.reduceLE, Int.reduceLT, Int.reduceEq, Int.reduceNeg, Int.reduceToNat, Int.reduceMul, Int.reduceAdd, Int.reduceSub, Int.reduceBEq, Int.reduceBNe, reduceCtorEq, RD]
        refine hKr _ _ ?_
        clear hKr Kr
        try simp only [RN, if_true, if_false, Bool.false_eq_true, if_pos, reduceIte]
        refine T_rseq fun Kr hKr => ?_
        simp (disch := omega) only [RF, RO, RC, bodyQ, resAll, resOf, tup, ↓reduceIte, Nat.reduceEqDiff, Nat.reduceSub, Nat.reduceAdd, Nat.reduceMul, Nat.reduceLT, Nat.reduceLeDiff, Int.reduceLE, Int.reduceLT, Int.reduceEq, Int.reduceNeg, Int.reduceToNat, Int.reduceMul, Int.reduceAdd, Int.reduceSub, Int.reduceBEq, Int.reduceBNe, reduceCtorEq, RD]
        refine hKr _ _ ?_
        clear hKr Kr
        try simp only [RN, if_true, if_false, Bool.false_eq_true, if_pos, reduceIte]
        refine T_cseq (t := true) (by simp (disch := omega) only [RF, RO, RC, bodyQ, resAll, resOf, tup, ↓reduceIte, Nat.reduceEqDiff, Nat.reduceSub, Nat.reduceAdd, Nat.reduceMul, Nat.reduceLT, Nat.reduceLeDiff, Int.reduceLE, Int.reduceLT, Int.reduceEq, Int.reduceNeg, Int.reduceToNat, Int.reduceMul, Int.reduceAdd, Int.reduceSub, Int.reduceBEq, Int.reduceBNe, reduceCtorEq, decT, decF]) ?_
        try simp only [RN, if_true, if_false, Bool.false_eq_true, if_pos, reduceIte]
        refine T_rseq fun Kr hKr => ?_
        simp (disch := omega) only [RF, RO, RC, bodyQ, resAll, resOf, tup, ↓reduceIte, Nat.reduceEqDiff, Nat.reduceSub, Nat.reduceAdd, Nat.reduceMul, Nat.reduceLT, Nat.reduceLeDiff, Int.reduceLE, Int.reduceLT, Int.reduceEq, Int.reduceNeg, Int.reduceToNat, Int.reduceMul, Int.reduceAdd, Int.reduceSub, Int.reduceBEq, Int.reduceBNe, reduceCtorEq, RD]
        refine hKr _ _ ?_
        clear hKr Kr
        try simp only [RN, if_true, if_false, Bool.false_eq_true, if_pos, reduceIte]
        refine ⟨_, rfl, ?_⟩
        simp only [RF, ev_t, ev_c, tup, ↓reduceIte, Nat.reduceEqDiff]
        exact hK _ _ (Ext.refl' _) .nil
      · simp only [hy0, and_false, if_false] at hK
        refine T_rseq fun Kr hKr => ?_
        simp (disch := omega) only [RF, RO, RC, bodyQ, resAll, resOf, tup, ↓reduceIte, Nat.reduceEqDiff, Nat.reduceSub, Nat.reduceAdd, Nat.reduceMul, Nat.reduceLT, Nat.reduceLeDiff, Int.reduceLE, Int.reduceLT, Int.reduceEq, Int.reduceNeg, Int.reduceToNat, Int.reduceMul, Int.reduceAdd, Int.reduceSub, Int.reduceBEq, Int.reduceBNe, reduceCtorEq, RD]
        refine hKr _ _ ?_
        clear hKr Kr
        try simp only [RN, if_true, if_false, Bool.false_eq_true, if_pos, reduceIte]
        refine T_cseq (t := false) (by simp (disch := omega) only [RF, RO, RC, bodyQ, resAll, resOf, tup, ↓reduceIte, Nat.reduceEqDiff, Nat.reduceSub, Nat.reduceAdd, Nat.reduceMul, Nat.reduceLT, Nat.reduceLeDiff, Int.reduceLE, Int.reduceLT, Int.reduceEq, Int.reduceNeg, Int.reduceToNat, Int.reduceMul, Int.reduceAdd, Int.reduceSub, Int.reduceBEq, Int.reduceBNe, reduceCtorEq, decT, decF]) ?_
        try simp only [RN, if_true, if_false, Bool.false_eq_true, if_pos, reduceIte]
        refine T_rseq fun Kr hKr => ?_
        simp (disch := omega) only [RF, RO, RC, bodyQ, resAll, resOf, tup, ↓reduceIte, Nat.reduceEqDiff, Nat.reduceSub, Nat.reduceAdd, Nat.reduceMul, Nat.reduceLT, Nat.reduceLeDiff, Int.reduceLE, Int.reduceLT, Int.reduceEq, Int.reduceNeg, Int.reduceToNat, Int.reduceMul, Int.reduceAdd, Int.reduceSub, Int.reduceBEq, Int.reduceBNe, reduceCtorEq, RD]
        refine hKr _ _ ?_
        clear hKr Kr
        try simp only [RN, if_true, if_false, Bool.false_eq_true, if_pos, reduceIte]
        refine T_cseq (t := false) (by simp (disch := omega) only [RF, RO, RC, bodyQ, resAll, resOf, tup, ↓reduceIte, Nat.reduceEqDiff, Nat.reduceSub, Nat.reduceAdd, Nat.reduceMul, Nat.reduceLT, Nat.reduceLeDiff, Int.reduceLE, Int.reduceLT, Int.reduceEq, Int.reduceNeg, Int.reduceToNat, Int.reduceMul, Int.reduceAdd, Int.reduceSub, Int.reduceBEq, Int.reduceBNe, reduceCtorEq, decT, decF]) ?_
        try simp only [RN, if_true, if_false, Bool.false_eq_true, if_pos, reduceIte]
        refine T_rseq fun Kr hKr => ?_
        simp (disch := omega) only [RF, RO, RC, bodyQ, resAll, resOf, tup, ↓reduceIte, Nat.reduceEqDiff, Nat.reduceSub, Nat.reduceAdd, Nat.reduceMul, Nat.reduceLT, Nat.reduceLeDiff, Int.reduceLE, Int.reduceLT, Int.reduceEq, Int.reduceNeg, Int.reduceToNat, Int.reduceMul, Int.reduceAdd, Int.reduceSub, Int.reduceBEq, Int.reduceBNe, reduceCtorEq, RD]
        refine l06Common_spec hx hp.1.red (by omega) hy hp.2.red (by omega) (by omega) fun v' H' he ho => ?_
        simp (disch := omega) only [RF, RO, RC, bodyQ, resAll, resOf, tup, ↓reduceIte, Nat.reduceEqDiff, Nat.reduceSub, Nat.reduceAdd, Nat.reduceMul, Nat.reduceLT, Nat.reduceLeDiff, Int.reduceLE, Int.reduceLT, Int.reduceEq, Int.reduceNeg, Int.reduceToNat, Int.reduceMul, Int.reduceAdd, Int.reduceSub, Int.reduceBEq, Int.reduceBNe, reduceCtorEq, RD]
        refine hKr _ _ ?_
        clear hKr Kr
        try simp only [blkQ, thenQ, loopQ]
        try simp only [RN, if_true, if_false, Bool.false_eq_true, if_pos, reduceIte]
        refine ⟨_, rfl, ?_⟩
        simp only [RF, ev_t, ev_c, tup, ↓reduceIte, Nat.reduceEqDiff]
        exact hK _ _ he ho
    · simp only [hx0, false_and, if_false] at hK
      refine T_rseq fun Kr hKr => ?_
      simp (disch := omega) only [RF, RO, RC, bodyQ, resAll, resOf, tup, ↓reduceIte, Nat.reduceEqDiff, Nat.reduceSub, Nat.reduceAdd, Nat.reduceMul, Nat.reduceLT, Nat.reduceLeDiff, Int.reduceLE, Int.reduceLT, Int.reduceEq, Int.reduceNeg, Int.reduceToNat, Int.reduceMul, Int.reduceAdd, Int.reduceSub, Int.reduceBEq, Int.reduceBNe, reduceCtorEq, RD]
      refine hKr _ _ ?_
      clear hKr Kr
      try simp only [RN, if_true, if_false, Bool.false_eq_true, if_pos, reduceIte]
      refine T_cseq (t := false) (by simp (disch := omega) only [RF, RO, RC, bodyQ, resAll, resOf, tup, ↓reduceIte, Nat.reduceEqDiff, Nat.reduceSub, Nat.reduceAdd, Nat.reduceMul, Nat.reduceLT, Nat.reduceLeDiff, Int.reduceLE, Int.reduceLT, Int.reduceEq, Int.reduceNeg, Int.reduceToNat, Int.reduceMul, Int.reduceAdd, Int.reduceSub, Int.reduceBEq, Int.reduceBNe, reduceCtorEq, decT, decF]) ?_
      try simp only [RN, if_true, if_false, Bool.false_eq_true, if_pos, reduceIte]
      refine T_rseq fun Kr hKr => ?_
      simp (disch := omega) only [RF, RO, RC, bodyQ, resAll, resOf, tup, ↓reduceIte, Nat.reduceEqDiff, Nat.reduceSub, Nat.reduceAdd, Nat.reduceMul, Nat.reduceLT, Nat.reduceLeDiff, Int.reduceLE, Int.reduceLT, Int.reduceEq, Int.reduceNeg, Int.reduceToNat, Int.reduceMul, Int.reduceAdd, Int.reduceSub, Int.reduceBEq, Int.reduceBNe, reduceCtorEq, RD]
      refine hKr _ _ ?_
      clear hKr Kr
      try simp only [RN, if_true, if_false, Bool.false_eq_true, if_pos, reduceIte]
      refine T_cseq (t := false) (by simp (disch := omega) only [RF, RO, RC, bodyQ, resAll, resOf, tup, ↓reduceIte, Nat.reduceEqDiff, Nat.reduceSub, Nat.reduceAdd, Nat.reduceMul, Nat.reduceLT, Nat.reduceLeDiff, Int.reduceLE, Int.reduceLT, Int.reduceEq, Int.reduceNeg, Int.reduceToNat, Int.reduceMul, Int.reduceAdd, Int.reduceSub, Int.reduceBEq, Int.reduceBNe, reduceCtorEq, decT, decF]) ?_
      try simp only [RN, if_true, if_false, Bool.false_eq_true, if_pos, reduceIte]
      refine T_rseq fun Kr hKr => ?_
      simp (disch := omega) only [RF, RO, RC, bodyQ, resAll, resOf, tup, ↓reduceIte, Nat.reduceEqDiff, Nat.reduceSub, Nat.reduceAdd, Nat.reduceMul, Nat.reduceLT, Nat.reduceLeDiff, Int.reduceLE, Int.reduceLT, Int.reduceEq, Int.reduceNeg, Int.reduceToNat, Int.reduceMul, Int.reduceAdd, Int.reduceSub, Int.reduceBEq, Int.reduceBNe, reduceCtorEq, RD]
      refine l06Common_spec hx hp.1.red (by omega) hy hp.2.red (by omega) (by omega) fun v' H' he ho => ?_
      simp (disch := omega) only [RF, RO, RC, bodyQ, resAll, resOf, tup, ↓reduceIte, Nat.reduceEqDiff, Nat.reduceSub, Nat.reduceAdd, Nat.reduceMul, Nat.reduceLT, Nat.reduceLeDiff, Int.reduceLE, Int.reduceLT, Int.reduceEq, Int.reduceNeg, Int.reduceToNat, Int.reduceMul, Int.reduceAdd, Int.reduceSub, Int.reduceBEq, Int.reduceBNe, reduceCtorEq, RD]
      refine hKr _ _ ?_
      clear hKr Kr
      try simp only [blkQ, thenQ, loopQ]
      try simp only [RN, if_true, if_false, Bool.false_eq_true, if_pos, reduceIte]
      refine ⟨_, rfl, ?_⟩
      simp only [RF, ev_t, ev_c, tup, ↓reduceIte, Nat.reduceEqDiff]
      exact hK _ _ he ho
  · simp only [resCommonDivisor, hp, if_false] at hK
    simp only [hp, if_false]
    simp (disch := omega) only [RF, RO, RC, bodyQ, resAll, resOf, tup, ↓reduceIte, Nat.reduceEqDiff, Nat.reduceSub, Nat.reduceAdd, Nat.reduceMul, Nat.reduceLT, Nat.reduceLeDiff, Int.reduceLE, Int.reduceLT, Int.reduceEq, Int.reduceNeg, Int.reduceToNat, Int.reduceMul, Int.reduceAdd, Int.reduceSub, Int.reduceBEq, Int.reduceBNe, reduceCtorEq, RD]
    refine hKr _ _ ?_
    clear hKr Kr
    try simp only [blkQ, thenQ, loopQ]
    try simp only [RN, if_true, if_false, Bool.false_eq_true, if_pos, reduceIte]
    refine T_rseq fun Kr hKr => ?_
    simp (disch := omega) only [RF, RO, RC, bodyQ, resAll, resOf, tup, ↓reduceIte, Nat.reduceEqDiff, Nat.reduceSub, Nat.reduceAdd, Nat.reduceMul, Nat.reduceLT, Nat.reduceLeDiff, Int.reduceLE, Int.reduceLT, Int.reduceEq, Int.reduceNeg, Int.reduceToNat, Int.reduceMul, Int.reduceAdd, Int.reduceSub, Int.reduceBEq, Int.reduceBNe, reduceCtorEq, RD]
    refine hKr _ _ ?_
    clear hKr Kr
    try simp only [RN, if_true, if_false, Bool.false_eq_true, if_pos, reduceIte]
    refine T_cseq (t := false) (by simp (disch := omega) only [RF, RO, RC, bodyQ, resAll, resOf, tup, ↓reduceIte, Nat.reduceEqDiff, Nat.reduceSub, Nat.reduceAdd, Nat.reduceMul, Nat.reduceLT, Nat.reduceLeDiff, Int.reduceLE, Int.reduceLT, Int.reduceEq, Int.reduceNeg, Int.reduceToNat, Int.reduceMul, Int.reduceAdd, Int.reduceSub, Int.reduceBEq, Int.reduceBNe, reduceCtorEq, decT, decF]) ?_
    try simp only [RN, if_true, if_false, Bool.false_eq_true, if_pos, reduceIte]
    refine T_rseq fun Kr hKr => ?_
    simp (disch := omega) only [RF, RO, RC, bodyQ, resAll, resOf, tup, ↓reduceIte, Nat.reduceEqDiff, Nat.reduceSub, Nat.reduceAdd, Nat.reduceMul, Nat.reduceLT, Nat.reduceLeDiff, Int.reduceLE, Int.reduceLT, Int.reduceEq, Int.reduceNeg, Int.reduceToNat, Int.reduceMul, Int.reduceAdd, Int.reduceSub, Int.reduceBEq, Int.reduceBNe, reduceCtorEq, RD]
    refine hKr _ _ ?_
    clear hKr Kr
    try simp only [RN, if_true, if_false, Bool.false_eq_true, if_pos, reduceIte]
    refine T_cseq (t := true) (by simp (disch := omega) only [RF, RO, RC, bodyQ, resAll, resOf, tup, ↓reduceIte, Nat.reduceEqDiff, Nat.reduceSub, Nat.reduceAdd, Nat.reduceMul, Nat.reduceLT, Nat.reduceLeDiff, Int.reduceLE, Int.reduceLT, Int.reduceEq, Int.reduceNeg, Int.reduceToNat, Int.reduceMul, Int.reduceAdd, Int.reduceSub, Int.reduceBEq, Int.reduceBNe, reduceCtorEq, decT, decF]) ?_
    try simp only [RN, if_true, if_false, Bool.false_eq_true, if_pos, reduceIte]
    refine T_rseq fun Kr hKr => ?_
    simp (disch := omega) only [RF, RO, RC, bodyQ, resAll, resOf, tup, ↓reduceIte, Nat.reduceEqDiff, Nat.reduceSub, Nat.reduceAdd, Nat.reduceMul, Nat.reduceLT, Nat.reduceLeDiff, Int.reduceLE, Int.reduceLT, Int.reduceEq, Int.reduceNeg, Int.reduceToNat, Int.reduceMul, Int.reduceAdd, Int.reduceSub, Int.reduceBEq, Int.reduceBNe, reduceCtorEq, RD]
    refine hKr _ _ ?_
    clear hKr Kr
    try simp only [RN, if_true, if_false, Bool.false_eq_true, if_pos, reduceIte]
    refine ⟨_, rfl, ?_⟩
    simp only [RF, ev_t, ev_c, tup, ↓reduceIte, Nat.reduceEqDiff]
    exact hK _ _ (Ext.refl' _) .nil
theorem impl_CommonDivisor_spec {H : AHeap} {v u : Value} {xs ys : List Int} {K : Value → AHeap → Prop} (hx : IsI H v xs) (hl : xs.length < 2 ^ 62) (hy : IsI H u ys) (hly : ys.length < 2 ^ 62)
    (hK : ∀ v' H', Ext H H' → OwnI H.n H'.n H' v' (resCommonDivisor xs ys).1 → K (.tuple ⟨[v', I (resCommonDivisor xs ys).2]⟩) H') : CallT F_impl_CommonDivisor [v, u] H K := by
  obtain ⟨a, e, rfl⟩ := hx.len
  obtain ⟨a', e', rfl⟩ := hy.len
  refine CallT_body Γ_impl_CommonDivisor ?_
  simp only [A_impl_CommonDivisor, T_aiff]
  refine T_rseq fun Kr hKr => ?_
  simp (disch := omega) only [RF, RO, RC, bodyQ, resAll, resOf, tup, ↓reduceIte, Nat.reduceEqDiff, Nat.reduceSub, Nat.reduceAdd, Nat.reduceMul, Nat.reduceLT, Nat.reduceLeDiff, Int.reduceLE, Int.reduceLT, Int.reduceEq, Int.reduceNeg, Int.reduceToNat, Int.reduceMul, Int.reduceAdd, Int.reduceSub, Int.reduceBEq, Int.reduceBNe, reduceCtorEq, RD]
  refine hKr _ _ ?_
  clear hKr Kr
  try simp only [RN, if_true, if_false, Bool.false_eq_true, if_pos, reduceIte]
  first | refine T_bfree rfl ?_ | refine T_bfree' rfl ?_
  try simp only [RN, if_true, if_false, Bool.false_eq_true, if_pos, reduceIte]
  refine T_rseq fun Kr hKr => ?_
  simp (disch := omega) only [RF, RO, RC, bodyQ, resAll, resOf, tup, ↓reduceIte, Nat.reduceEqDiff, Nat.reduceSub, Nat.reduceAdd, Nat.reduceMul, Nat.reduceLT, Nat.reduceLeDiff, Int.reduceLE, Int.reduceLT, Int.reduceEq, Int.reduceNeg, Int.reduceToNat, Int.reduceMul, Int.reduceAdd, Int.reduceSub, Int.reduceBEq, Int.reduceBNe, reduceCtorEq, RD]
  refine impl_IsPolynomial_spec hx hl ?_
  by_cases hp : Poly xs
  · rw [decide_eq_true hp]
    simp (disch := omega) only [RF, RO, RC, bodyQ, resAll, resOf, tup, ↓reduceIte, Nat.reduceEqDiff, Nat.reduceSub, Nat.reduceAdd, Nat.reduceMul, Nat.reduceLT, Nat.reduceLeDiff, Int.reduceLE, Int.reduceLT, Int.reduceEq, Int.reduceNeg, Int.reduceToNat, Int.reduceMul, Int.reduceAdd, Int.reduceSub, Int.reduceBEq, Int.reduceBNe, reduceCtorEq, RD]
    refine impl_IsPolynomial_spec hy hly ?_
    by_cases hq : Poly ys
    · rw [decide_eq_true hq]
      have l1 := hp.2.1
      have l2 := hq.2.1
      simp only [resCommonDivisor, hp, hq, and_self, if_true] at hK
      simp (disch := omega) only [RF, RO, RC, bodyQ, resAll, resOf, tup, ↓reduceIte, Nat.reduceEqDiff, Nat.reduceSub, Nat.reduceAdd, Nat.reduceMul, Nat.reduceLT, Nat.reduceLeDiff, Int.reduceLE, Int.reduceLT, Int.reduceEq, Int.reduceNeg, Int.reduceToNat, Int.reduceMul, Int.reduceAdd, Int.reduceSub, Int.reduceBEq, Int.reduceBNe, reduceCtorEq, RD]
      refine hKr _ _ ?_
      clear hKr Kr
      try simp only [blkQ, thenQ, loopQ]
      try simp only [RN, if_true, if_false, Bool.false_eq_true, if_pos, reduceIte]
      refine T_cseq (t := false) (by simp (disch := omega) only [RF, RO, RC, bodyQ, resAll, resOf, tup, ↓reduceIte, Nat.reduceEqDiff, Nat.reduceSub, Nat.reduceAdd, Nat.reduceMul, Nat.reduceLT, Nat.reduceLeDiff, Int.reduceLE, Int.reduceLT, Int.reduceEq, Int.reduceNeg, Int.reduceToNat, Int.reduceMul, Int.reduceAdd, Int.reduceSub, Int.reduceBEq, Int.reduceBNe, reduceCtorEq, decT, decF]) ?_
      try simp only [RN, if_true, if_false, Bool.false_eq_true, if_pos, reduceIte]
      refine T_rseq fun Kr hKr => ?_
      simp (disch := omega) only [RF, RO, RC, bodyQ, resAll, resOf, tup, ↓reduceIte, Nat.reduceEqDiff, Nat.reduceSub, Nat.reduceAdd, Nat.reduceMul, Nat.reduceLT, Nat.reduceLeDiff, Int.reduceLE, Int.reduceLT, Int.reduceEq, Int.reduceNeg, Int.reduceToNat, Int.reduceMul, Int.reduceAdd, Int.reduceSub, Int.reduceBEq, Int.reduceBNe, reduceCtorEq, RD]
      refine hKr _ _ ?_
      clear hKr Kr
      try simp only [RN, if_true, if_false, Bool.false_eq_true, if_pos, reduceIte]
      by_cases h0 : xs.length = 0 ∧ ys.length = 0
      · rw [if_pos h0] at hK
        refine T_cseq (t := true) (by simp (disch := omega) only [RF, RO, RC, bodyQ, resAll, resOf, tup, ↓reduceIte, Nat.reduceEqDiff, Nat.reduceSub, Nat.reduceAdd, Nat.reduceMul, Nat.reduceLT, Nat.reduceLeDiff, Int.reduceLE, Int.reduceLT, Int.reduceEq, Int.reduceNeg, Int.reduceToNat, Int.reduceMul, Int.reduceAdd, Int.reduceSub, Int.reduceBEq, Int.reduceBNe, reduceCtorEq, decT, decF]) ?_
        try simp only [RN, if_true, if_false, Bool.false_eq_true, if_pos, reduceIte]
        refine T_rseq fun Kr hKr => ?_
        simp (disch := omega) only [RF, RO, RC, bodyQ, resAll, resOf, tup, ↓reduceIte, Nat.reduceEqDiff, Nat.reduceSub, Nat.reduceAdd, Nat.reduceMul, Nat.reduceLT, Nat.reduceLeDiff, Int.reduceLE, Int.reduceLT, Int.reduceEq, Int.reduceNeg, Int.reduceToNat, Int.reduceMul, Int.reduceAdd, Int.reduceSub, Int.reduceBEq, Int.reduceBNe, reduceCtorEq, RD]
        refine hKr _ _ ?_
        clear hKr Kr
        try simp only [RN, if_true, if_false, Bool.false_eq_true, if_pos, reduceIte]
        refine ⟨_, rfl, ?_⟩
        simp only [RF, ev_t, ev_c, tup, ↓reduceIte, Nat.reduceEqDiff]
        exact hK _ _ (Ext.refl' _) .nil
      · rw [if_neg h0] at hK
        refine T_cseq (t := false) (by simp (disch := omega) only [RF, RO, RC, bodyQ, resAll, resOf, tup, ↓reduceIte, Nat.reduceEqDiff, Nat.reduceSub, Nat.reduceAdd, Nat.reduceMul, Nat.reduceLT, Nat.reduceLeDiff, Int.reduceLE, Int.reduceLT, Int.reduceEq, Int.reduceNeg, Int.reduceToNat, Int.reduceMul, Int.reduceAdd, Int.reduceSub, Int.reduceBEq, Int.reduceBNe, reduceCtorEq, decT, decF]) ?_
        try simp only [RN, if_true, if_false, Bool.false_eq_true, if_pos, reduceIte]
        refine T_rseq fun Kr hKr => ?_
        simp (disch := omega) only [RF, RO, RC, bodyQ, resAll, resOf, tup, ↓reduceIte, Nat.reduceEqDiff, Nat.reduceSub, Nat.reduceAdd, Nat.reduceMul, Nat.reduceLT, Nat.reduceLeDiff, Int.reduceLE, Int.reduceLT, Int.reduceEq, Int.reduceNeg, Int.reduceToNat, Int.reduceMul, Int.reduceAdd, Int.reduceSub, Int.reduceBEq, Int.reduceBNe, reduceCtorEq, RD]
        refine common_spec hx hp.red (by omega) hy hq.red (by omega) (by omega) fun v' H' he ho => ?_
        simp (disch := omega) only [RF, RO, RC, bodyQ, resAll, resOf, tup, ↓reduceIte, Nat.reduceEqDiff, Nat.reduceSub, Nat.reduceAdd, Nat.reduceMul, Nat.reduceLT, Nat.reduceLeDiff, Int.reduceLE, Int.reduceLT, Int.reduceEq, Int.reduceNeg, Int.reduceToNat, Int.reduceMul, Int.reduceAdd, Int.reduceSub, Int.reduceBEq, Int.reduceBNe, reduceCtorEq, RD]
        refine hKr _ _ ?_
        clear hKr Kr
        try simp only [blkQ, thenQ, loopQ]
        try simp only [RN, if_true, if_false, Bool.false_eq_true, if_pos, reduceIte]
        refine ⟨_, rfl, ?_⟩
        simp only [RF, ev_t, ev_c, tup, ↓reduceIte, Nat.reduceEqDiff]
        exact hK _ _ he ho
    · rw [decide_eq_false hq]
      simp only [resCommonDivisor, hq, and_false, if_false] at hK
      simp (disch := omega) only [RF, RO, RC, bodyQ, resAll, resOf, tup, ↓reduceIte, Nat.reduceEqDiff, Nat.reduceSub, Nat.reduceAdd, Nat.reduceMul, Nat.reduceLT, Nat.reduceLeDiff, Int.reduceLE, Int.reduceLT, Int.reduceEq, Int.reduceNeg, Int.reduceToNat, Int.reduceMul, Int.reduceAdd, Int.reduceSub, Int.reduceBEq, Int.reduceBNe, reduceCtorEq, RD]
      refine hKr _ _ ?_
      clear hKr Kr
      try simp only [blkQ, thenQ, loopQ]
      try simp only [RN, if_true, if_false, Bool.false_eq_true, if_pos, reduceIte]
      refine T_cseq (t := true) (by simp (disch := omega) only [RF, RO, RC, bodyQ, resAll, resOf, tup, ↓reduceIte, Nat.reduceEqDiff, Nat.reduceSub, Nat.reduceAdd, Nat.reduceMul, Nat.reduceLT, Nat.reduceLeDiff, Int.reduceLE, Int.reduceLT, Int.reduceEq, Int.reduceNeg, Int.reduceToNat, Int.reduceMul, Int.reduceAdd, Int.reduceSub, Int.reduceBEq, Int.reduceBNe, reduceCtorEq, decT, decF]) ?_
      try simp only [RN, if_true, if_false, Bool.false_eq_true, if_pos, reduceIte]
      refine T_rseq fun Kr hKr => ?_
      simp (disch := omega) only [RF, RO, RC, bodyQ, resAll, resOf, tup, ↓reduceIte, Nat.reduceEqDiff, Nat.reduceSub, Nat.reduceAdd, Nat.reduceMul, Nat.reduceLT, Nat.reduceLeDiff, Int.reduceLE, Int.reduceLT, Int.reduceEq, Int.reduceNeg, Int.reduceToNat, Int.reduceMul, Int.reduceAdd, Int.reduceSub, Int.reduceBEq, Int.reduceBNe, reduceCtorEq, RD]
      refine hKr _ _ ?_
      clear hKr Kr
      try simp only [RN, if_true, if_false, Bool.false_eq_true, if_pos, reduceIte]
      refine ⟨_, rfl, ?_⟩
      simp only [RF, ev_t, ev_c, tup, ↓reduceIte, Nat.reduceEqDiff]
      exact hK _ _ (Ext.refl' _) .nil
  · rw [decide_eq_false hp]
    simp only [resCommonDivisor, hp, false_and, if_false] at hK
    simp (disch := omega) only [RF, RO, RC, bodyQ, resAll, resOf, tup, ↓reduceIte, Nat.reduceEqDiff, Nat.reduceSub, Nat.reduceAdd, Nat.reduceMul, Nat.reduceLT, Nat.reduceLeDiff, Int.reduceLE, Int.reduceLT, Int.reduceEq, Int.reduceNeg, Int.reduceToNat, Int.reduceMul, Int.reduceAdd, Int.reduceSub, Int.reduceBEq, Int.reduceBNe, reduceCtorEq, RD]
    refine hKr _ _ ?_
    clear hKr Kr
    try simp only [blkQ, thenQ, loopQ]
    try simp only [RN, if_true, if_false, Bool.false_eq_true, if_pos, reduceIte]
    refine T_cseq (t := true) (by simp (disch := omega) only [RF, RO, RC, bodyQ, resAll, resOf, tup, ↓reduceIte, Nat.reduceEqDiff, Nat.reduceSub, Nat.reduceAdd, Nat.reduceMul, Nat.reduceLT, Nat.reduceLeDiff, Int.reduceLE, Int.reduceLT, Int.reduceEq, Int.reduceNeg, Int.reduceToNat, Int.reduceMul, Int.reduceAdd, Int.reduceSub, Int.reduceBEq, Int.reduceBNe, reduceCtorEq, decT, decF]) ?_
    try simp only [RN, if_true, if_false, Bool.false_eq_true, if_pos, reduceIte]
    refine T_rseq fun Kr hKr => ?_
    simp (disch := omega) only [RF, RO, RC, bodyQ, resAll, resOf, tup, ↓reduceIte, Nat.reduceEqDiff, Nat.reduceSub, Nat.reduceAdd, Nat.reduceMul, Nat.reduceLT, Nat.reduceLeDiff, Int.reduceLE, Int.reduceLT, Int.reduceEq, Int.reduceNeg, Int.reduceToNat, Int.reduceMul, Int.reduceAdd, Int.reduceSub, Int.reduceBEq, Int.reduceBNe, reduceCtorEq, RD]
    refine hKr _ _ ?_
    clear hKr Kr
    try simp only [RN, if_true, if_false, Bool.false_eq_true, if_pos, reduceIte]
    refine ⟨_, rfl, ?_⟩
    simp only [RF, ev_t, ev_c, tup, ↓reduceIte, Nat.reduceEqDiff]
    exact hK _ _ (Ext.refl' _) .nil
end Go.Am

/- Multiplicities. -/
set_option linter.unusedVariables false
set_option linter.unusedSimpArgs false
namespace Go.Am
open Go

/-! ### Codes -/
def AllNum (vs : List Int) : Prop := ∀ i, i < vs.length → 0 ≤ el vs i ∧ el vs i ≤ 10006
instance (vs : List Int) : Decidable (AllNum vs) := by unfold AllNum; infer_instance
/-! ### Slopes are shorter, and not 0 -/
theorem el_slope (f : List Int) (i : Nat) : el (slope f) i = md (el f (i + 1) * ((i : Int) + 1)) := by
  rw [slope, el_trim, el_gen_md (g := fun i => el f (i + 1) * ((i : Int) + 1)) fun i hi => ?_]
  show el f (i + 1) * _ = 0
  rw [el_out (by omega)]; simp
theorem red_slope (f : List Int) : Red (slope f) := by
  refine Red.trim fun i => ?_
  rw [el_gen_md (g := fun i => el f (i + 1) * ((i : Int) + 1)) fun i hi => ?_]
  · exact ⟨md_lo _, md_hi _⟩
  · show el f (i + 1) * _ = 0
    rw [el_out (by omega)]; simp
theorem md_prime {a b : Int} (ha : 1 ≤ a ∧ a ≤ 10006) (hb : 1 ≤ b ∧ b ≤ 10006) : md (a * b) ≠ 0 := by
  intro h
  have hi := inv_mul hb.1 hb.2
  unfold md at h hi
  have h1 : a * b = 10007 * (a * b / 10007) := by omega
  have h2 : b * inv b = 1 + 10007 * (b * inv b / 10007) := by omega
  generalize a * b / 10007 = q at h1
  generalize b * inv b / 10007 = t at h2
  have h3 : a = 10007 * (q * inv b - a * t) := by
    have e : a * (b * inv b) = 10007 * q * inv b := by rw [← Int.mul_assoc, h1]
    rw [h2, Int.mul_add, Int.mul_one, Int.mul_left_comm, Int.mul_assoc 10007 q] at e
    rw [Int.mul_sub]
    omega
  generalize q * inv b - a * t = z at h3
  omega
theorem monic_pos {f : List Int} (hf : Red f) (h0 : 0 < f.length) : (monic f).length = f.length := by
  have hle := monic_len f
  have ht := hf.top h0
  have hi := inv_mul ht.1 ht.2
  have h1 : el (monic f) (f.length - 1) = 1 := by
    rw [monic, el_padd]
    have h2 : el [] (f.length - 1) = 0 := by simp [el]
    rw [h2, Int.zero_add, Int.mul_comm]
    exact hi
  rcases Nat.lt_or_ge (monic f).length f.length with h | h
  · rw [el_out (by omega)] at h1; omega
  · omega
/-! ### Counts -/
end Go.Am

/- Multiplicities, walked. -/
set_option linter.unusedVariables false
set_option linter.unusedSimpArgs false
namespace Go.Am
open Go

theorem own_one' (H : AHeap) (a : Int) : IsI (H.alloc [I a]) (S H.n 0 1 1) [a] := (own_one H a).is
end Go.Am

/- Multiplicities, the program's own; the laws' functions. -/
set_option linter.unusedVariables false
set_option linter.unusedSimpArgs false
namespace Go.Am
open Go

end Go.Am

/- The laws' functions over multiplicities. -/
set_option linter.unusedVariables false
set_option linter.unusedSimpArgs false
namespace Go.Am
open Go

end Go.Am

/- Shabat polynomials: the laws' functions. -/
set_option linter.unusedVariables false
set_option linter.unusedSimpArgs false
namespace Go.Am
open Go

end Go.Am

