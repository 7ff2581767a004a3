/- Division with a remainder. -/
import Derived.Test.YtgmpjlbdommhaaaSp9
set_option linter.unusedVariables false
set_option linter.unusedSimpArgs false
namespace Go.Am
open Go

def pad0 (n : Nat) (g : List Int) : List Int := List.replicate n 0 ++ g
theorem pad0_len (n : Nat) (g : List Int) : (pad0 n g).length = n + g.length := by simp [pad0]
theorem el_pad0_lo {n i : Nat} {g : List Int} (h : i < n) : el (pad0 n g) i = 0 := by simp [el, pad0, List.getD, List.getElem?_append_left, h]
theorem el_pad0_hi (n i : Nat) (g : List Int) : el (pad0 n g) (n + i) = el g i := by simp [el, pad0, List.getD, List.getElem?_append_right]
def top (r : List Int) : Int := el r (r.length - 1)
def lastq (r g : List Int) : Int := md (top r * inv (top g))
def dstep (r g : List Int) (c : Int) : List Int := padd r (pad0 (r.length - g.length) g) (-c)
theorem cancel {a b c : Int} (h : md (b * inv b) = 1) (hc : c = md (a * inv b)) : md (a + -c * b) = 0 := by
  unfold md at *
  have h1 : b * inv b = 1 + 10007 * (b * inv b / 10007) := by omega
  have h2 : a * inv b = c + 10007 * (a * inv b / 10007) := by omega
  generalize b * inv b / 10007 = q2 at h1
  generalize a * inv b / 10007 = q1 at h2
  have h3 : a + -c * b = 10007 * (q1 * b - a * q2) := by
    have e1 : c = a * inv b - 10007 * q1 := by omega
    have e2 : a * inv b * b = a * (1 + 10007 * q2) := by rw [← h1, Int.mul_assoc, Int.mul_comm (inv b) b]
    rw [e1, Int.neg_mul, Int.sub_mul, e2, Int.mul_add, Int.mul_one, Int.mul_sub, Int.mul_assoc 10007 q1 b, Int.mul_left_comm a 10007 q2]
    omega
  rw [h3]
  exact Int.mul_emod_right _ _
theorem Red.top {r : List Int} (h : Red r) (hp : 0 < r.length) : 1 ≤ top r ∧ top r ≤ 10006 := by
  have h1 := h.1 (r.length - 1)
  rcases h.2 with h2 | h2
  · omega
  · unfold Am.top; omega
theorem dstep_len {r g : List Int} (hr : Red r) (hg : Red g) (hg0 : 0 < g.length) (hl : g.length ≤ r.length) : (dstep r g (lastq r g)).length < r.length := by
  have hle := padd_len r (pad0 (r.length - g.length) g) (-lastq r g)
  rw [pad0_len] at hle
  have hred : Red (dstep r g (lastq r g)) := red_padd _ _ _
  have hle' : (dstep r g (lastq r g)).length ≤ r.length := by unfold dstep; omega
  rcases Nat.lt_or_ge (dstep r g (lastq r g)).length r.length with h | h
  · exact h
  · have heq : (dstep r g (lastq r g)).length = r.length := by omega
    rcases hred.2 with h0 | h0
    · omega
    · exfalso
      apply h0
      rw [heq]
      unfold dstep
      rw [el_padd]
      have e : el (pad0 (r.length - g.length) g) (r.length - 1) = top g := by
        rw [show r.length - 1 = (r.length - g.length) + (g.length - 1) by omega, el_pad0_hi]; rfl
      rw [e]
      have ht := hg.top hg0
      exact cancel (inv_mul ht.1 ht.2) rfl
def prem (g : List Int) : Nat → List Int → List Int
  | 0, r => r
  | n + 1, r => if r.length < g.length then r else prem g n (dstep r g (lastq r g))
theorem prem_stable {g : List Int} (hg : Red g) (hg0 : 0 < g.length) : ∀ (n m : Nat) (r : List Int), Red r → r.length < n → r.length < m → prem g n r = prem g m r
  | 0, _, _, _, h, _ => by omega
  | _, 0, _, _, _, h => by omega
  | n + 1, m + 1, r, hr, hn, hm => by
    simp only [prem]
    split
    · rfl
    · have hl := dstep_len hr hg hg0 (by omega)
      exact prem_stable hg hg0 n m _ (red_padd _ _ _) (by omega) (by omega)
/-- The remainder. -/
def rem (f g : List Int) : List Int := prem g (f.length + 1) f
theorem rem_small {f g : List Int} (h : f.length < g.length) : rem f g = f := by simp [rem, prem, h]
theorem rem_step {f g : List Int} (hf : Red f) (hg : Red g) (hg0 : 0 < g.length) (hl : g.length ≤ f.length) : rem f g = rem (dstep f g (lastq f g)) g := by
  have hd := dstep_len hf hg hg0 hl
  show (if f.length < g.length then f else prem g f.length (dstep f g (lastq f g))) = _
  rw [if_neg (by omega)]
  exact prem_stable hg hg0 _ _ _ (red_padd _ _ _) (by omega) (by omega)
theorem rem_red {g : List Int} (hg : Red g) (hg0 : 0 < g.length) : ∀ (n : Nat) (f : List Int), f.length ≤ n → Red f → Red (rem f g) ∧ (rem f g).length < g.length
  | n, f, hn, hf => by
    by_cases h : f.length < g.length
    · rw [rem_small h]; exact ⟨hf, h⟩
    · have hd := dstep_len hf hg hg0 (by omega)
      rw [rem_step hf hg hg0 (by omega)]
      match n, hn with
      | 0, hn => omega
      | n + 1, hn => exact rem_red hg hg0 n _ (by omega) (red_padd _ _ _)
theorem fit_pad0 {n : Nat} {g : List Int} (h : Fit g) : Fit (pad0 n g) := fun i hi => by
  by_cases h1 : i < n
  · rw [el_pad0_lo h1]; omega
  · rw [show i = n + (i - n) by omega, el_pad0_hi]; exact h.el _

theorem l06Divide_spec {H : AHeap} {v u : Value} {xs ys : List Int} {K : Value → AHeap → Prop} (hx : IsI H v xs) (hrx : Red xs) (hlx : xs.length < 1000) (hy : IsI H u ys) (hry : Red ys) (hy0 : 0 < ys.length) (hly : ys.length < 1000)
    (hK : ∀ q v' H', Ext H H' → OwnI H.n H'.n H' v' (rem xs ys) → K (.tuple ⟨[q, v']⟩) H') : CallT F_spec_l06Divide [v, u] H K := by
  obtain ⟨a, e, rfl⟩ := hx.len
  obtain ⟨b, o, blk, rfl, hb, hg, hlen, hel⟩ := hy.pos hy0
  have ht := hry.top hy0
  have hiv := inv_bd (top ys)
  have hlast : (ys.length : Int) - 1 = ((ys.length - 1 : Nat) : Int) := by omega
  have hlt : ys.length - 1 < ys.length := by omega
  refine CallT_body Γ_spec_l06Divide ?_
  simp only [A_spec_l06Divide, T_aiff]
  refine T_rseq fun Kr hKr => ?_
  simp (disch := omega) only [RF, RO, RC, bodyQ, resAll, resOf, tup, ↓reduceIte, Nat.reduceEqDiff, Nat.reduceSub, Nat.reduceAdd, Nat.reduceMul, Nat.reduceLT, Nat.reduceLeDiff, Int.reduceLE, Int.reduceLT, Int.reduceEq, Int.reduceNeg, Int.reduceToNat, Int.reduceMul, Int.reduceAdd, Int.reduceSub, Int.reduceBEq, Int.reduceBNe, reduceCtorEq, RD]
  refine hKr _ _ ?_
  clear hKr Kr
  try simp only [RN, if_true, if_false, Bool.false_eq_true, if_pos, reduceIte]
  refine T_rseq fun Kr hKr => ?_
  simp (disch := omega) only [RF, RO, RC, bodyQ, resAll, resOf, tup, ↓reduceIte, Nat.reduceEqDiff, Nat.reduceSub, Nat.reduceAdd, Nat.reduceMul, Nat.reduceLT, Nat.reduceLeDiff, Int.reduceLE, Int.reduceLT, Int.reduceEq, Int.reduceNeg, Int.reduceToNat, Int.reduceMul, Int.reduceAdd, Int.reduceSub, Int.reduceBEq, Int.reduceBNe, reduceCtorEq, RD]
  refine l01Own_spec hx (by omega) fun r0 H1 he1 ho1 => ?_
  have hg1 : H1.get b = some blk := by rw [he1.get b hb]; exact hg
  simp (disch := omega) only [RF, RO, RC, bodyQ, resAll, resOf, tup, ↓reduceIte, Nat.reduceEqDiff, Nat.reduceSub, Nat.reduceAdd, Nat.reduceMul, Nat.reduceLT, Nat.reduceLeDiff, Int.reduceLE, Int.reduceLT, Int.reduceEq, Int.reduceNeg, Int.reduceToNat, Int.reduceMul, Int.reduceAdd, Int.reduceSub, Int.reduceBEq, Int.reduceBNe, reduceCtorEq, RD, he1, hlast, hlt, hg1, hel]
  refine l06Inverse_spec (by show 0 ≤ top ys; omega) (by show top ys ≤ 10007; omega) ?_
  simp (disch := omega) only [RF, RO, RC, bodyQ, resAll, resOf, tup, ↓reduceIte, Nat.reduceEqDiff, Nat.reduceSub, Nat.reduceAdd, Nat.reduceMul, Nat.reduceLT, Nat.reduceLeDiff, Int.reduceLE, Int.reduceLT, Int.reduceEq, Int.reduceNeg, Int.reduceToNat, Int.reduceMul, Int.reduceAdd, Int.reduceSub, Int.reduceBEq, Int.reduceBNe, reduceCtorEq, RD, Ext.refl']
  refine hKr _ _ ?_
  clear hKr Kr
  try simp only [blkQ, thenQ, loopQ]
  try simp only [RN, if_true, if_false, Bool.false_eq_true, if_pos, reduceIte]
  have ho1' := ho1.ext (Ext.alloc H1 [])
  have hmain : ∀ (f' : Fr) (H2 : AHeap) (q0 : Value) (qs0 : List Int), Ext H1 H2 → f' 1 = S b o ys.length 1 → f' 6 = r0 → f' 7 = I (inv (top ys)) → f' 8 = q0 → OwnI H1.n H2.n H2 q0 qs0 → (ys.length ≤ xs.length → qs0.length = xs.length - ys.length + 1) →
      T (.seq (.block 0 (.loop A_spec_l06Divide.l0)) (.seq A_spec_l06Divide.r8 .ret)) (bodyQ [ARes.tmp 4, ARes.tmp 5] K) f' H2 := by
    intro f' H2 q0 qs0 he2 h1 h6 h7 h8 hq hql
    refine T_wloop (fun n f H' => ∃ r rs q qs rlo rhi qlo qhi, n = rs.length ∧ Ext H H' ∧ f 1 = S b o ys.length 1 ∧ f 6 = r ∧ f 7 = I (inv (top ys)) ∧ f 8 = q ∧ OwnI rlo rhi H' r rs ∧ OwnI qlo qhi H' q qs ∧ H.n ≤ rlo ∧ H.n ≤ qlo ∧ rhi ≤ H'.n ∧ qhi ≤ H'.n ∧ (qhi ≤ rlo ∨ rhi ≤ qlo) ∧ Red rs ∧ rs.length ≤ xs.length ∧ rem rs ys = rem xs ys ∧ (ys.length ≤ xs.length → qs.length = xs.length - ys.length + 1)) (xs.length) ?_ ?_
    · exact ⟨r0, xs, q0, qs0, H.n, H1.n, H1.n, H2.n, rfl, he1.trans' he2, h1, h6, h7, h8, ho1.ext he2, hq, Nat.le_refl _, he1.n, he2.n, Nat.le_refl _, .inr (Nat.le_refl _), hrx, Nat.le_refl _, rfl, hql⟩
    · clear hq hql h1 h6 h7 h8 he2 ho1 ho1'
      rintro n f H' R ⟨r, rs, q, qs, rlo, rhi, qlo, qhi, rfl, he, h1, h6, h7, h8, hr, hq, hN1, hN2, hr2, hq2, hdis, hred, hrl, hrem, hql⟩ hN hX hR
      simp only [A_spec_l06Divide.l0, T_aiff]
      obtain ⟨ra, re, rfl⟩ := hr.len
      refine T_rseq fun Kr hKr => ?_
      simp (disch := omega) only [RF, RO, RC, bodyQ, resAll, resOf, tup, ↓reduceIte, Nat.reduceEqDiff, Nat.reduceSub, Nat.reduceAdd, Nat.reduceMul, Nat.reduceLT, Nat.reduceLeDiff, Int.reduceLE, Int.reduceLT, Int.reduceEq, Int.reduceNeg, Int.reduceToNat, Int.reduceMul, Int.reduceAdd, Int.reduceSub, Int.reduceBEq, Int.reduceBNe, reduceCtorEq, RD, h1, h6]
      refine hKr _ _ ?_
      clear hKr Kr
      try simp only [RN, if_true, if_false, Bool.false_eq_true, if_pos, reduceIte]
      by_cases hge : ys.length ≤ rs.length
      · refine T_cseq (t := true) (by simp (disch := omega) only [RF, RO, RC, bodyQ, resAll, resOf, tup, ↓reduceIte, Nat.reduceEqDiff, Nat.reduceSub, Nat.reduceAdd, Nat.reduceMul, Nat.reduceLT, Nat.reduceLeDiff, Int.reduceLE, Int.reduceLT, Int.reduceEq, Int.reduceNeg, Int.reduceToNat, Int.reduceMul, Int.reduceAdd, Int.reduceSub, Int.reduceBEq, Int.reduceBNe, reduceCtorEq, decT, decF]) ?_
        try simp only [RN, if_true, if_false, Bool.false_eq_true, if_pos, reduceIte]
        first | refine T_bfree rfl ?_ | refine T_bfree' rfl ?_
        try simp only [RN, if_true, if_false, Bool.false_eq_true, if_pos, reduceIte]
        obtain ⟨rb, rrest, heq, hb1, hb2, hb3, hgr⟩ := hr.pos (by omega)
        cases heq
        have hi : (rs.length : Int) - 1 = ((rs.length - 1 : Nat) : Int) := by omega
        have hs : (rs.length : Int) - (ys.length : Int) = ((rs.length - ys.length : Nat) : Int) := by omega
        have hn1 : rs.length - 1 < rs.length := by omega
        have htr := hred.top (by omega)
        have hm := mulb (a := el rs (rs.length - 1)) (b := inv (top ys)) (by show 0 ≤ top rs; omega) (by show top rs ≤ _; omega) hiv.1 (by omega)
        refine T_rseq fun Kr hKr => ?_
        simp (disch := omega) only [RF, RO, RC, bodyQ, resAll, resOf, tup, ↓reduceIte, Nat.reduceEqDiff, Nat.reduceSub, Nat.reduceAdd, Nat.reduceMul, Nat.reduceLT, Nat.reduceLeDiff, Int.reduceLE, Int.reduceLT, Int.reduceEq, Int.reduceNeg, Int.reduceToNat, Int.reduceMul, Int.reduceAdd, Int.reduceSub, Int.reduceBEq, Int.reduceBNe, reduceCtorEq, RD, h1, h6, h7, hi, hs, hn1, hgr]
        refine l06Mod_spec (by omega) (by omega) ?_
        simp (disch := omega) only [RF, RO, RC, bodyQ, resAll, resOf, tup, ↓reduceIte, Nat.reduceEqDiff, Nat.reduceSub, Nat.reduceAdd, Nat.reduceMul, Nat.reduceLT, Nat.reduceLeDiff, Int.reduceLE, Int.reduceLT, Int.reduceEq, Int.reduceNeg, Int.reduceToNat, Int.reduceMul, Int.reduceAdd, Int.reduceSub, Int.reduceBEq, Int.reduceBNe, reduceCtorEq, RD]
        refine hKr _ _ ?_
        clear hKr Kr
        try simp only [blkQ, thenQ, loopQ]
        try simp only [RN, if_true, if_false, Bool.false_eq_true, if_pos, reduceIte]
        have hqlen := hql (by omega)
        obtain ⟨qb, qrest, heq, hc1, hc2, hc3, hgq⟩ := hq.pos (by omega)
        cases heq
        refine T_rseq fun Kr hKr => ?_
        simp (disch := omega) only [RF, RO, RC, bodyQ, resAll, resOf, tup, ↓reduceIte, Nat.reduceEqDiff, Nat.reduceSub, Nat.reduceAdd, Nat.reduceMul, Nat.reduceLT, Nat.reduceLeDiff, Int.reduceLE, Int.reduceLT, Int.reduceEq, Int.reduceNeg, Int.reduceToNat, Int.reduceMul, Int.reduceAdd, Int.reduceSub, Int.reduceBEq, Int.reduceBNe, reduceCtorEq, RD, h8, hgq]
        refine hKr _ _ ?_
        clear hKr Kr
        try simp only [RN, if_true, if_false, Bool.false_eq_true, if_pos, reduceIte]
        have hlq1 := md_lo (el rs (rs.length - 1) * inv (top ys))
        have hlq2 := md_hi (el rs (rs.length - 1) * inv (top ys))
        have hout : Out qlo qhi H' (H'.set qb (List.map I (qs.set (rs.length - ys.length) (md (el rs (rs.length - 1) * inv (top ys)))) ++ qrest)) := Out.set (.refl) ⟨hc1, hc2⟩ _
        have hE0 := he.out hout hN2
        have hr' := hr.out hout (by omega)
        have hq' : OwnI qlo qhi (H'.set qb (List.map I (qs.set (rs.length - ys.length) (md (el rs (rs.length - 1) * inv (top ys)))) ++ qrest)) (S qb 0 qs.length 1) (qs.set (rs.length - ys.length) (md (el rs (rs.length - 1) * inv (top ys)))) := .inr ⟨qb, qrest, by rw [List.length_set], hc1, hc2, hc3, get_set_same _ _ _⟩
        simp only [List.map_set] at hout hE0 hr' hq' ⊢
        generalize hH2 : H'.set qb ((List.map I qs).set (rs.length - ys.length) (I (md (el rs (rs.length - 1) * inv (top ys)))) ++ qrest) = H2 at hout hE0 hr' hq' ⊢
        obtain ⟨p', H4, ha, hop, hout4⟩ := appendS (own_make H2 (rs.length - ys.length)) ((hy.ext hE0).ext (Ext.alloc H2 _)) (by simp; omega) (by omega)
        have hE4 : Ext H2 H4 := (Ext.alloc H2 (repl [.int .i64 0] (rs.length - ys.length))).out hout4 (Nat.le_refl _)
        refine T_reg_k fun Kr hKr => ?_
        simp (disch := omega) only [RF, RO, RC, bodyQ, resAll, resOf, tup, ↓reduceIte, Nat.reduceEqDiff, Nat.reduceSub, Nat.reduceAdd, Nat.reduceMul, Nat.reduceLT, Nat.reduceLeDiff, Int.reduceLE, Int.reduceLT, Int.reduceEq, Int.reduceNeg, Int.reduceToNat, Int.reduceMul, Int.reduceAdd, Int.reduceSub, Int.reduceBEq, Int.reduceBNe, reduceCtorEq, RD, h6, h1, ha]
        refine l06Add_spec (hr'.ext hE4).is hred.fit (by omega) hop.is (fit_pad0 hry.fit) (by rw [show List.replicate (rs.length - ys.length) 0 ++ ys = pad0 (rs.length - ys.length) ys from rfl, pad0_len]; omega) (by omega) (by omega) fun w H5 he5 ho5 => ?_
        simp (disch := omega) only [RF, RO, RC, bodyQ, resAll, resOf, tup, ↓reduceIte, Nat.reduceEqDiff, Nat.reduceSub, Nat.reduceAdd, Nat.reduceMul, Nat.reduceLT, Nat.reduceLeDiff, Int.reduceLE, Int.reduceLT, Int.reduceEq, Int.reduceNeg, Int.reduceToNat, Int.reduceMul, Int.reduceAdd, Int.reduceSub, Int.reduceBEq, Int.reduceBNe, reduceCtorEq, RD]
        refine hKr _ _ ?_
        clear hKr Kr
        try simp only [blkQ, thenQ, loopQ]
        try simp only [RN, if_true, if_false, Bool.false_eq_true, if_pos, reduceIte]
        have hE5 := hE4.trans' he5
        have hstep : padd rs (List.replicate (rs.length - ys.length) 0 ++ ys) (0 - md (el rs (rs.length - 1) * inv (top ys))) = dstep rs ys (lastq rs ys) := by
          rw [Int.zero_sub]; rfl
        rw [hstep] at ho5
        have hlt2 := dstep_len hred hry hy0 hge
        have hqq := hq'.ext hE5
        have n1 := hout.n
        have n2 := hE4.n
        have n3 := he5.n
        refine hN _ _ _ hlt2 ⟨w, dstep rs ys (lastq rs ys), S qb 0 qs.length 1, _, H4.n, H5.n, qlo, qhi, rfl, hE0.trans' hE5, by simp [RF, h1], by simp [RF], by simp [RF, h7], by simp [RF, h8], ho5, hqq, ?_, hN2, Nat.le_refl _, by omega, .inl (by omega), red_padd _ _ _, by omega, by rw [← rem_step hred hry hy0 hge]; exact hrem, fun h => by rw [List.length_set]; exact hql h⟩
        have := he.n
        omega
      · refine T_cseq (t := false) (by simp (disch := omega) only [RF, RO, RC, bodyQ, resAll, resOf, tup, ↓reduceIte, Nat.reduceEqDiff, Nat.reduceSub, Nat.reduceAdd, Nat.reduceMul, Nat.reduceLT, Nat.reduceLeDiff, Int.reduceLE, Int.reduceLT, Int.reduceEq, Int.reduceNeg, Int.reduceToNat, Int.reduceMul, Int.reduceAdd, Int.reduceSub, Int.reduceBEq, Int.reduceBNe, reduceCtorEq, decT, decF]) ?_
        try simp only [RN, if_true, if_false, Bool.false_eq_true, if_pos, reduceIte]
        refine hX _ _ ?_
        refine T_rseq fun Kr hKr => ?_
        simp (disch := omega) only [RF, RO, RC, bodyQ, resAll, resOf, tup, ↓reduceIte, Nat.reduceEqDiff, Nat.reduceSub, Nat.reduceAdd, Nat.reduceMul, Nat.reduceLT, Nat.reduceLeDiff, Int.reduceLE, Int.reduceLT, Int.reduceEq, Int.reduceNeg, Int.reduceToNat, Int.reduceMul, Int.reduceAdd, Int.reduceSub, Int.reduceBEq, Int.reduceBNe, reduceCtorEq, RD, h6, h8]
        refine hKr _ _ ?_
        clear hKr Kr
        try simp only [RN, if_true, if_false, Bool.false_eq_true, if_pos, reduceIte]
        refine ⟨_, rfl, ?_⟩
        simp only [RF, ev_t, ev_c, tup, ↓reduceIte, Nat.reduceEqDiff]
        refine hK _ _ _ he ?_
        rw [← hrem, rem_small (by omega)]
        exact hr.weak hN1 hr2
  refine T_rseq fun Kr hKr => ?_
  simp (disch := omega) only [RF, RO, RC, bodyQ, resAll, resOf, tup, ↓reduceIte, Nat.reduceEqDiff, Nat.reduceSub, Nat.reduceAdd, Nat.reduceMul, Nat.reduceLT, Nat.reduceLeDiff, Int.reduceLE, Int.reduceLT, Int.reduceEq, Int.reduceNeg, Int.reduceToNat, Int.reduceMul, Int.reduceAdd, Int.reduceSub, Int.reduceBEq, Int.reduceBNe, reduceCtorEq, RD]
  refine hKr _ _ ?_
  clear hKr Kr
  try simp only [RN, if_true, if_false, Bool.false_eq_true, if_pos, reduceIte]
  by_cases hge : ys.length ≤ xs.length
  · have hs : (xs.length : Int) - (ys.length : Int) + 1 = ((xs.length - ys.length + 1 : Nat) : Int) := by omega
    have hw : IntKind.i64.wrap ((xs.length : Int) - (ys.length : Int)) = (xs.length : Int) - (ys.length : Int) := w64 (by omega) (by omega)
    refine T_cseq (t := true) (by simp (disch := omega) only [RF, RO, RC, bodyQ, resAll, resOf, tup, ↓reduceIte, Nat.reduceEqDiff, Nat.reduceSub, Nat.reduceAdd, Nat.reduceMul, Nat.reduceLT, Nat.reduceLeDiff, Int.reduceLE, Int.reduceLT, Int.reduceEq, Int.reduceNeg, Int.reduceToNat, Int.reduceMul, Int.reduceAdd, Int.reduceSub, Int.reduceBEq, Int.reduceBNe, reduceCtorEq, decT, decF]) ?_
    try simp only [RN, if_true, if_false, Bool.false_eq_true, if_pos, reduceIte]
    refine T_rseq fun Kr hKr => ?_
    simp (disch := omega) only [RF, RO, RC, bodyQ, resAll, resOf, tup, ↓reduceIte, Nat.reduceEqDiff, Nat.reduceSub, Nat.reduceAdd, Nat.reduceMul, Nat.reduceLT, Nat.reduceLeDiff, Int.reduceLE, Int.reduceLT, Int.reduceEq, Int.reduceNeg, Int.reduceToNat, Int.reduceMul, Int.reduceAdd, Int.reduceSub, Int.reduceBEq, Int.reduceBNe, reduceCtorEq, RD, hw, hs]
    refine hKr _ _ ?_
    clear hKr Kr
    try simp only [RN, if_true, if_false, Bool.false_eq_true, if_pos, reduceIte]
    exact hmain _ _ _ (List.replicate (xs.length - ys.length + 1) 0) ((Ext.alloc _ _).alloc' _) (by simp [RF]) (by simp [RF]) (by first | (simp [RF]; done) | (simp [RF]; rfl)) (by first | (simp [RF]; done) | (simp [RF]; rfl)) ((own_make _ _).weak (Nat.le_succ _) (Nat.le_refl _)) (by simp)
  · refine T_cseq (t := false) (by simp (disch := omega) only [RF, RO, RC, bodyQ, resAll, resOf, tup, ↓reduceIte, Nat.reduceEqDiff, Nat.reduceSub, Nat.reduceAdd, Nat.reduceMul, Nat.reduceLT, Nat.reduceLeDiff, Int.reduceLE, Int.reduceLT, Int.reduceEq, Int.reduceNeg, Int.reduceToNat, Int.reduceMul, Int.reduceAdd, Int.reduceSub, Int.reduceBEq, Int.reduceBNe, reduceCtorEq, decT, decF]) ?_
    try simp only [RN, if_true, if_false, Bool.false_eq_true, if_pos, reduceIte]
    exact hmain _ _ _ [] (Ext.alloc _ _) (by simp [RF]) (by simp [RF]) (by first | (simp [RF]; done) | (simp [RF]; rfl)) (by first | (simp [RF]; done) | (simp [RF]; rfl)) (own_empty _) (fun h => absurd h hge)
end Go.Am
