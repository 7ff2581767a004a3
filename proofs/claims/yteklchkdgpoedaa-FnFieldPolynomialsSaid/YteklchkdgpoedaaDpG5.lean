/- SpI, DpMb, DpMh, DpMg, SpJ, SpK, DpMa, DpMc, DpMd -/
import Derived.KernelRfl
import Derived.Test.YteklchkdgpoedaaBmL
import Derived.Test.YteklchkdgpoedaaDpG0
import Derived.Test.YteklchkdgpoedaaDpG4
/- Compositions. -/
set_option linter.unusedVariables false
set_option linter.unusedSimpArgs false
namespace Go.Am
open Go

def comp (f g : List Int) : List Int := f.foldr (fun a out => padd (ptimes out g) (trim [a]) 1) []
theorem comp_cons (a : Int) (f g : List Int) : comp (a :: f) g = padd (ptimes (comp f g) g) (trim [a]) 1 := rfl
theorem comp_red (f g : List Int) : Red (comp f g) := by
  cases f with
  | nil => exact .nil
  | cons a f => exact red_padd _ _ _
theorem comp_len {g : List Int} (hg : g.length ≤ 17) : ∀ f : List Int, (comp f g).length ≤ 16 * f.length + 1
  | [] => by simp [comp]
  | a :: f => by
    have ih := comp_len hg f
    rw [comp_cons]
    have h1 := padd_len (ptimes (comp f g) g) (trim [a]) 1
    have h2 := ptimes_len (comp f g) g
    have h3 := trim_le [a]
    simp only [List.length_cons, List.length_nil] at h3 ⊢
    omega
theorem plain_one (xs : List Int) (a : Int) : padd xs [a] 1 = padd xs (trim [a]) 1 := by
  refine Red.ext (red_padd _ _ _) (red_padd _ _ _) fun i => ?_
  rw [el_padd, el_padd, el_trim]

theorem l06Compose_spec {H : AHeap} {v u : Value} {xs ys : List Int} {K : Value → AHeap → Prop} (hx : IsI H v xs) (hpx : Poly xs) (hy : IsI H u ys) (hpy : Poly ys)
    (hK : ∀ v' H', Ext H H' → OwnI H.n H'.n H' v' (comp xs ys) → K v' H') : CallT F_spec_l06Compose [v, u] H K := by
  obtain ⟨a, e, rfl⟩ := hx.len
  have l1 := hpx.2.1
  have l2 := hpy.2.1
  refine CallT_body Γ_spec_l06Compose ?_
  simp only [A_spec_l06Compose, T_aiff]
  refine T_rseq fun Kr hKr => ?_
  simp (disch := omega) only [RF, RO, RC, bodyQ, resAll, resOf, tup, ↓reduceIte, Nat.reduceEqDiff, Nat.reduceSub, Nat.reduceAdd, Nat.reduceMul, Nat.reduceLT, Nat.reduceLeDiff, Int.reduceLE, Int.reduceLT, Int.reduceEq, Int.reduceNeg, Int.reduceToNat, Int.reduceMul, Int.reduceAdd, Int.reduceSub, Int.reduceBEq, Int.reduceBNe, reduceCtorEq, RD]
  refine hKr _ _ ?_
  clear hKr Kr
  try simp only [RN, if_true, if_false, Bool.false_eq_true, if_pos, reduceIte]
  refine T_rseq fun Kr hKr => ?_
  simp (disch := omega) only [RF, RO, RC, bodyQ, resAll, resOf, tup, ↓reduceIte, Nat.reduceEqDiff, Nat.reduceSub, Nat.reduceAdd, Nat.reduceMul, Nat.reduceLT, Nat.reduceLeDiff, Int.reduceLE, Int.reduceLT, Int.reduceEq, Int.reduceNeg, Int.reduceToNat, Int.reduceMul, Int.reduceAdd, Int.reduceSub, Int.reduceBEq, Int.reduceBNe, reduceCtorEq, RD]
  refine hKr _ _ ?_
  clear hKr Kr
  try simp only [RN, if_true, if_false, Bool.false_eq_true, if_pos, reduceIte]
  refine T_rseq fun Kr hKr => ?_
  simp (disch := omega) only [RF, RO, RC, bodyQ, resAll, resOf, tup, ↓reduceIte, Nat.reduceEqDiff, Nat.reduceSub, Nat.reduceAdd, Nat.reduceMul, Nat.reduceLT, Nat.reduceLeDiff, Int.reduceLE, Int.reduceLT, Int.reduceEq, Int.reduceNeg, Int.reduceToNat, Int.reduceMul, Int.reduceAdd, Int.reduceSub, Int.reduceBEq, Int.reduceBNe, reduceCtorEq, RD]
  refine hKr _ _ ?_
  clear hKr Kr
  try simp only [RN, if_true, if_false, Bool.false_eq_true, if_pos, reduceIte]
  refine T_wloop (fun n f H' => ∃ w, n ≤ xs.length ∧ Ext H H' ∧ f 0 = .slice a xs.length e ∧ f 1 = u ∧ f 5 = w ∧ f 6 = I ((n : Int) - 1) ∧ OwnI H.n H'.n H' w (comp (xs.drop n) ys)) (xs.length) ?_ ?_
  · exact ⟨S H.n 0 0 1, Nat.le_refl _, Ext.alloc _ _, by simp [RF], by simp [RF], by simp [RF], by simp [RF], by rw [List.drop_length]; exact own_empty H⟩
  · rintro n f H' R ⟨w, hk, he, h0, h1, h5, h6, ho⟩ hN hX hR
    simp only [A_spec_l06Compose.l0, T_aiff]
    refine T_rseq fun Kr hKr => ?_
    simp (disch := omega) only [RF, RO, RC, bodyQ, resAll, resOf, tup, ↓reduceIte, Nat.reduceEqDiff, Nat.reduceSub, Nat.reduceAdd, Nat.reduceMul, Nat.reduceLT, Nat.reduceLeDiff, Int.reduceLE, Int.reduceLT, Int.reduceEq, Int.reduceNeg, Int.reduceToNat, Int.reduceMul, Int.reduceAdd, Int.reduceSub, Int.reduceBEq, Int.reduceBNe, reduceCtorEq, RD, h0, h6]
    refine hKr _ _ ?_
    clear hKr Kr
    try simp only [RN, if_true, if_false, Bool.false_eq_true, if_pos, reduceIte]
    by_cases hlt : 0 < n
    · refine T_cseq (t := true) (by simp (disch := omega) only [RF, RO, RC, bodyQ, resAll, resOf, tup, ↓reduceIte, Nat.reduceEqDiff, Nat.reduceSub, Nat.reduceAdd, Nat.reduceMul, Nat.reduceLT, Nat.reduceLeDiff, Int.reduceLE, Int.reduceLT, Int.reduceEq, Int.reduceNeg, Int.reduceToNat, Int.reduceMul, Int.reduceAdd, Int.reduceSub, Int.reduceBEq, Int.reduceBNe, reduceCtorEq, decT, decF]) ?_
      try simp only [RN, if_true, if_false, Bool.false_eq_true, if_pos, reduceIte]
      first | refine T_bfree rfl ?_ | refine T_bfree' rfl ?_
      try simp only [RN, if_true, if_false, Bool.false_eq_true, if_pos, reduceIte]
      have hi : (n : Int) - 1 = ((n - 1 : Nat) : Int) := by omega
      have hn1 : n - 1 < xs.length := by omega
      have hcl := comp_len l2 (xs.drop n)
      rw [List.length_drop] at hcl
      have hfk := hpx.fit (n - 1) hn1
      obtain ⟨b, o, blk, heq, hb, hg, hlen, hel⟩ := hx.pos (by omega)
      cases heq
      refine T_rseq fun Kr hKr => ?_
      simp (disch := omega) only [RF, RO, RC, bodyQ, resAll, resOf, tup, ↓reduceIte, Nat.reduceEqDiff, Nat.reduceSub, Nat.reduceAdd, Nat.reduceMul, Nat.reduceLT, Nat.reduceLeDiff, Int.reduceLE, Int.reduceLT, Int.reduceEq, Int.reduceNeg, Int.reduceToNat, Int.reduceMul, Int.reduceAdd, Int.reduceSub, Int.reduceBEq, Int.reduceBNe, reduceCtorEq, RD, h0, h1, h5]
      refine l06Times_spec ho.is (comp_red _ _).fit (by omega) (hy.ext he) hpy.fit (by omega) fun p H1 he1 ho1 => ?_
      have hg1 : H1.get b = some blk := by rw [(he.trans' he1).get b hb]; exact hg
      simp (disch := omega) only [RF, RO, RC, bodyQ, resAll, resOf, tup, ↓reduceIte, Nat.reduceEqDiff, Nat.reduceSub, Nat.reduceAdd, Nat.reduceMul, Nat.reduceLT, Nat.reduceLeDiff, Int.reduceLE, Int.reduceLT, Int.reduceEq, Int.reduceNeg, Int.reduceToNat, Int.reduceMul, Int.reduceAdd, Int.reduceSub, Int.reduceBEq, Int.reduceBNe, reduceCtorEq, RD, he1, h0, h6, hi, hn1, hg1, hel]
      refine l06Trim_spec (own_one' H1 (el xs (n - 1))) (by simp) fun q H2 he2 ho2 => ?_
      simp (disch := omega) only [RF, RO, RC, bodyQ, resAll, resOf, tup, ↓reduceIte, Nat.reduceEqDiff, Nat.reduceSub, Nat.reduceAdd, Nat.reduceMul, Nat.reduceLT, Nat.reduceLeDiff, Int.reduceLE, Int.reduceLT, Int.reduceEq, Int.reduceNeg, Int.reduceToNat, Int.reduceMul, Int.reduceAdd, Int.reduceSub, Int.reduceBEq, Int.reduceBNe, reduceCtorEq, RD, he2]
      have h3 := trim_le [el xs (n - 1)]
      have h4 := ptimes_len (comp (xs.drop n) ys) ys
      simp only [List.length_cons, List.length_nil] at h3
      refine l06Add_spec ((ho1.ext (Ext.alloc H1 _)).ext he2).is (red_ptimes _ _).fit (by omega) ho2.is (fun i hi => by rw [el_trim]; exact fit_one _ (by omega) i (by simp; omega)) (by omega) (by omega) (by omega) fun z H3 he3 ho3 => ?_
      simp (disch := omega) only [RF, RO, RC, bodyQ, resAll, resOf, tup, ↓reduceIte, Nat.reduceEqDiff, Nat.reduceSub, Nat.reduceAdd, Nat.reduceMul, Nat.reduceLT, Nat.reduceLeDiff, Int.reduceLE, Int.reduceLT, Int.reduceEq, Int.reduceNeg, Int.reduceToNat, Int.reduceMul, Int.reduceAdd, Int.reduceSub, Int.reduceBEq, Int.reduceBNe, reduceCtorEq, RD, he3]
      refine hKr _ _ ?_
      clear hKr Kr
      try simp only [blkQ, thenQ, loopQ]
      try simp only [RN, if_true, if_false, Bool.false_eq_true, if_pos, reduceIte]
      have hE := ((he1.trans' (Ext.alloc H1 [I (el xs (n - 1))])).trans' he2).trans' he3
      refine T_reg_k fun Kr hKr => ?_
      simp (disch := omega) only [RF, RO, RC, bodyQ, resAll, resOf, tup, ↓reduceIte, Nat.reduceEqDiff, Nat.reduceSub, Nat.reduceAdd, Nat.reduceMul, Nat.reduceLT, Nat.reduceLeDiff, Int.reduceLE, Int.reduceLT, Int.reduceEq, Int.reduceNeg, Int.reduceToNat, Int.reduceMul, Int.reduceAdd, Int.reduceSub, Int.reduceBEq, Int.reduceBNe, reduceCtorEq, RD, h6]
      refine hKr _ _ ?_
      clear hKr Kr
      refine hN (n - 1) _ _ (by omega) ⟨z, by omega, he.trans' hE, by simp [RF, h0], by simp [RF, h1], by simp [RF], by simp [RF]; omega, ?_⟩
      rw [drop_el hn1, comp_cons, Nat.sub_add_cancel (by omega)]
      exact ho3.weak (Nat.le_trans he.n (Nat.le_trans he1.n (Nat.le_trans (Nat.le_succ _) he2.n))) (Nat.le_refl _)
    · refine T_cseq (t := false) (by simp (disch := omega) only [RF, RO, RC, bodyQ, resAll, resOf, tup, ↓reduceIte, Nat.reduceEqDiff, Nat.reduceSub, Nat.reduceAdd, Nat.reduceMul, Nat.reduceLT, Nat.reduceLeDiff, Int.reduceLE, Int.reduceLT, Int.reduceEq, Int.reduceNeg, Int.reduceToNat, Int.reduceMul, Int.reduceAdd, Int.reduceSub, Int.reduceBEq, Int.reduceBNe, reduceCtorEq, decT, decF]) ?_
      try simp only [RN, if_true, if_false, Bool.false_eq_true, if_pos, reduceIte]
      refine hX _ _ ?_
      refine T_rseq fun Kr hKr => ?_
      simp (disch := omega) only [RF, RO, RC, bodyQ, resAll, resOf, tup, ↓reduceIte, Nat.reduceEqDiff, Nat.reduceSub, Nat.reduceAdd, Nat.reduceMul, Nat.reduceLT, Nat.reduceLeDiff, Int.reduceLE, Int.reduceLT, Int.reduceEq, Int.reduceNeg, Int.reduceToNat, Int.reduceMul, Int.reduceAdd, Int.reduceSub, Int.reduceBEq, Int.reduceBNe, reduceCtorEq, RD, h5]
      refine hKr _ _ ?_
      clear hKr Kr
      try simp only [RN, if_true, if_false, Bool.false_eq_true, if_pos, reduceIte]
      refine ⟨_, rfl, ?_⟩
      simp only [RF, ev_t, ev_c, tup, ↓reduceIte, Nat.reduceEqDiff]
      have : n = 0 := by omega
      subst this
      exact hK _ _ he (by simpa using ho)
def resComposePolynomials (xs ys : List Int) : List Int × Int := if Poly xs ∧ Poly ys then if 16 < ((xs.length : Int) - 1) * ((ys.length : Int) - 1) then ([], 3) else (comp xs ys, 0) else ([], 1)
theorem resComposePolynomials_len (xs ys : List Int) : (resComposePolynomials xs ys).1.length < 1000 := by
  unfold resComposePolynomials
  split
  · rename_i h
    split
    · simp
    · have := comp_len h.2.2.1 xs; have := h.1.2.1; show (comp xs ys).length < _; omega
  · simp
theorem prod_bd {m n : Nat} (hm : m ≤ 17) (hn : n ≤ 17) : -1000 ≤ ((m : Int) - 1) * ((n : Int) - 1) ∧ ((m : Int) - 1) * ((n : Int) - 1) ≤ 1000 ∧ (¬ (1 < m ∧ 1 < n) → ¬ 16 < ((m : Int) - 1) * ((n : Int) - 1)) := by
  have key : ∀ m : Nat, m < 18 → ∀ n : Nat, n < 18 → -1000 ≤ ((m : Int) - 1) * ((n : Int) - 1) ∧ ((m : Int) - 1) * ((n : Int) - 1) ≤ 1000 ∧ (¬ (1 < m ∧ 1 < n) → ¬ 16 < ((m : Int) - 1) * ((n : Int) - 1)) := by decide +kernel
  exact key m (by omega) n (by omega)
theorem ComposePolynomials_spec {H : AHeap} {v u : Value} {xs ys : List Int} {K : Value → AHeap → Prop} (hx : IsI H v xs) (hl : xs.length < 2 ^ 62) (hy : IsI H u ys) (hly : ys.length < 2 ^ 62)
    (hK : ∀ v' H', Ext H H' → OwnI H.n H'.n H' v' (resComposePolynomials xs ys).1 → K (.tuple ⟨[v', I (resComposePolynomials xs ys).2]⟩) H') : CallT F_spec_ComposePolynomials [v, u] H K := by
  obtain ⟨a, e, rfl⟩ := hx.len
  obtain ⟨a', e', rfl⟩ := hy.len
  refine CallT_body Γ_spec_ComposePolynomials ?_
  simp only [A_spec_ComposePolynomials, T_aiff]
  refine T_rseq fun Kr hKr => ?_
  simp (disch := omega) only [RF, RO, RC, bodyQ, resAll, resOf, tup, ↓reduceIte, Nat.reduceEqDiff, Nat.reduceSub, Nat.reduceAdd, Nat.reduceMul, Nat.reduceLT, Nat.reduceLeDiff, Int.reduceLE, Int.reduceLT, Int.reduceEq, Int.reduceNeg, Int.reduceToNat, Int.reduceMul, Int.reduceAdd, Int.reduceSub, Int.reduceBEq, Int.reduceBNe, reduceCtorEq, RD]
  refine hKr _ _ ?_
  clear hKr Kr
  try simp only [RN, if_true, if_false, Bool.false_eq_true, if_pos, reduceIte]
  first | refine T_bfree rfl ?_ | refine T_bfree' rfl ?_
  try simp only [RN, if_true, if_false, Bool.false_eq_true, if_pos, reduceIte]
  refine T_rseq fun Kr hKr => ?_
  simp (disch := omega) only [RF, RO, RC, bodyQ, resAll, resOf, tup, ↓reduceIte, Nat.reduceEqDiff, Nat.reduceSub, Nat.reduceAdd, Nat.reduceMul, Nat.reduceLT, Nat.reduceLeDiff, Int.reduceLE, Int.reduceLT, Int.reduceEq, Int.reduceNeg, Int.reduceToNat, Int.reduceMul, Int.reduceAdd, Int.reduceSub, Int.reduceBEq, Int.reduceBNe, reduceCtorEq, RD]
  refine l06Is_spec hx hl ?_
  by_cases hp : Poly xs
  · rw [decide_eq_true hp]
    simp (disch := omega) only [RF, RO, RC, bodyQ, resAll, resOf, tup, ↓reduceIte, Nat.reduceEqDiff, Nat.reduceSub, Nat.reduceAdd, Nat.reduceMul, Nat.reduceLT, Nat.reduceLeDiff, Int.reduceLE, Int.reduceLT, Int.reduceEq, Int.reduceNeg, Int.reduceToNat, Int.reduceMul, Int.reduceAdd, Int.reduceSub, Int.reduceBEq, Int.reduceBNe, reduceCtorEq, RD]
    refine l06Is_spec hy hly ?_
    by_cases hq : Poly ys
    · rw [decide_eq_true hq]
      have l1 := hp.2.1
      have l2 := hq.2.1
      have hpb := prod_bd l1 l2
      have hw1 : IntKind.i64.wrap ((xs.length : Int) - 1) = (xs.length : Int) - 1 := w64 (by omega) (by omega)
      have hw2 : IntKind.i64.wrap ((ys.length : Int) - 1) = (ys.length : Int) - 1 := w64 (by omega) (by omega)
      have hw3 : IntKind.i64.wrap (((xs.length : Int) - 1) * ((ys.length : Int) - 1)) = ((xs.length : Int) - 1) * ((ys.length : Int) - 1) := w64 (by omega) (by omega)
      simp only [resComposePolynomials, hp, hq, and_self, if_true] at hK
      simp (disch := omega) only [RF, RO, RC, bodyQ, resAll, resOf, tup, ↓reduceIte, Nat.reduceEqDiff, Nat.reduceSub, Nat.reduceAdd, Nat.reduceMul, Nat.reduceLT, Nat.reduceLeDiff, Int.reduceLE, Int.reduceLT, Int.reduceEq, Int.reduceNeg, Int.reduceToNat, Int.reduceMul, Int.reduceAdd, Int.reduceSub, Int.reduceBEq, Int.reduceBNe, reduceCtorEq, RD]
      refine hKr _ _ ?_
      clear hKr Kr
      try simp only [blkQ, thenQ, loopQ]
      try simp only [RN, if_true, if_false, Bool.false_eq_true, if_pos, reduceIte]
      refine T_cseq (t := false) (by simp (disch := omega) only [RF, RO, RC, bodyQ, resAll, resOf, tup, ↓reduceIte, Nat.reduceEqDiff, Nat.reduceSub, Nat.reduceAdd, Nat.reduceMul, Nat.reduceLT, Nat.reduceLeDiff, Int.reduceLE, Int.reduceLT, Int.reduceEq, Int.reduceNeg, Int.reduceToNat, Int.reduceMul, Int.reduceAdd, Int.reduceSub, Int.reduceBEq, Int.reduceBNe, reduceCtorEq, decT, decF]) ?_
      try simp only [RN, if_true, if_false, Bool.false_eq_true, if_pos, reduceIte]
      have hgo : ∀ f' : Fr, f' 0 = .slice a xs.length e → f' 1 = .slice a' ys.length e' → ¬ 16 < ((xs.length : Int) - 1) * ((ys.length : Int) - 1) → T (.seq A_spec_ComposePolynomials.r5 .ret) (bodyQ [ARes.tmp 4, ARes.tmp 5] K) f' H := by
        intro f' h0 h1 hno
        rw [if_neg hno] at hK
        refine T_rseq fun Kr hKr => ?_
        simp (disch := omega) only [RF, RO, RC, bodyQ, resAll, resOf, tup, ↓reduceIte, Nat.reduceEqDiff, Nat.reduceSub, Nat.reduceAdd, Nat.reduceMul, Nat.reduceLT, Nat.reduceLeDiff, Int.reduceLE, Int.reduceLT, Int.reduceEq, Int.reduceNeg, Int.reduceToNat, Int.reduceMul, Int.reduceAdd, Int.reduceSub, Int.reduceBEq, Int.reduceBNe, reduceCtorEq, RD, h0, h1]
        refine l06Compose_spec hx hp hy hq fun v' H' he ho => ?_
        simp (disch := omega) only [RF, RO, RC, bodyQ, resAll, resOf, tup, ↓reduceIte, Nat.reduceEqDiff, Nat.reduceSub, Nat.reduceAdd, Nat.reduceMul, Nat.reduceLT, Nat.reduceLeDiff, Int.reduceLE, Int.reduceLT, Int.reduceEq, Int.reduceNeg, Int.reduceToNat, Int.reduceMul, Int.reduceAdd, Int.reduceSub, Int.reduceBEq, Int.reduceBNe, reduceCtorEq, RD]
        refine hKr _ _ ?_
        clear hKr Kr
        try simp only [blkQ, thenQ, loopQ]
        try simp only [RN, if_true, if_false, Bool.false_eq_true, if_pos, reduceIte]
        refine ⟨_, rfl, ?_⟩
        simp only [RF, ev_t, ev_c, tup, ↓reduceIte, Nat.reduceEqDiff]
        exact hK _ _ he ho
      by_cases hbig : 16 < ((xs.length : Int) - 1) * ((ys.length : Int) - 1)
      · have hc : 1 < xs.length ∧ 1 < ys.length := Decidable.byContradiction fun h => hpb.2.2 h hbig
        have hc1 := hc.1
        have hc2 := hc.2
        rw [if_pos hbig] at hK
        refine T_rseq fun Kr hKr => ?_
        simp (disch := omega) only [RF, RO, RC, bodyQ, resAll, resOf, tup, ↓reduceIte, Nat.reduceEqDiff, Nat.reduceSub, Nat.reduceAdd, Nat.reduceMul, Nat.reduceLT, Nat.reduceLeDiff, Int.reduceLE, Int.reduceLT, Int.reduceEq, Int.reduceNeg, Int.reduceToNat, Int.reduceMul, Int.reduceAdd, Int.reduceSub, Int.reduceBEq, Int.reduceBNe, reduceCtorEq, RD, hw1, hw2, hw3, hbig]
        refine hKr _ _ ?_
        clear hKr Kr
        try simp only [RN, if_true, if_false, Bool.false_eq_true, if_pos, reduceIte]
        refine T_cseq (t := true) (by simp (disch := omega) only [RF, RO, RC, bodyQ, resAll, resOf, tup, ↓reduceIte, Nat.reduceEqDiff, Nat.reduceSub, Nat.reduceAdd, Nat.reduceMul, Nat.reduceLT, Nat.reduceLeDiff, Int.reduceLE, Int.reduceLT, Int.reduceEq, Int.reduceNeg, Int.reduceToNat, Int.reduceMul, Int.reduceAdd, Int.reduceSub, Int.reduceBEq, Int.reduceBNe, reduceCtorEq, decT, decF]) ?_
        try simp only [RN, if_true, if_false, Bool.false_eq_true, if_pos, reduceIte]
        refine T_rseq fun Kr hKr => ?_
        simp (disch := omega) only [RF, RO, RC, bodyQ, resAll, resOf, tup, ↓reduceIte, Nat.reduceEqDiff, Nat.reduceSub, Nat.reduceAdd, Nat.reduceMul, Nat.reduceLT, Nat.reduceLeDiff, Int.reduceLE, Int.reduceLT, Int.reduceEq, Int.reduceNeg, Int.reduceToNat, Int.reduceMul, Int.reduceAdd, Int.reduceSub, Int.reduceBEq, Int.reduceBNe, reduceCtorEq, RD]
        refine hKr _ _ ?_
        clear hKr Kr
        try simp only [RN, if_true, if_false, Bool.false_eq_true, if_pos, reduceIte]
        refine ⟨_, rfl, ?_⟩
        simp only [RF, ev_t, ev_c, tup, ↓reduceIte, Nat.reduceEqDiff]
        exact hK _ _ (Ext.refl' _) .nil
      · by_cases hc1 : 1 < xs.length
        · by_cases hc2 : 1 < ys.length
          · refine T_rseq fun Kr hKr => ?_
            simp (disch := omega) only [RF, RO, RC, bodyQ, resAll, resOf, tup, ↓reduceIte, Nat.reduceEqDiff, Nat.reduceSub, Nat.reduceAdd, Nat.reduceMul, Nat.reduceLT, Nat.reduceLeDiff, Int.reduceLE, Int.reduceLT, Int.reduceEq, Int.reduceNeg, Int.reduceToNat, Int.reduceMul, Int.reduceAdd, Int.reduceSub, Int.reduceBEq, Int.reduceBNe, reduceCtorEq, RD, hw1, hw2, hw3, hbig]
            refine hKr _ _ ?_
            clear hKr Kr
            try simp only [RN, if_true, if_false, Bool.false_eq_true, if_pos, reduceIte]
            refine T_cseq (t := false) (by simp (disch := omega) only [RF, RO, RC, bodyQ, resAll, resOf, tup, ↓reduceIte, Nat.reduceEqDiff, Nat.reduceSub, Nat.reduceAdd, Nat.reduceMul, Nat.reduceLT, Nat.reduceLeDiff, Int.reduceLE, Int.reduceLT, Int.reduceEq, Int.reduceNeg, Int.reduceToNat, Int.reduceMul, Int.reduceAdd, Int.reduceSub, Int.reduceBEq, Int.reduceBNe, reduceCtorEq, decT, decF]) ?_
            try simp only [RN, if_true, if_false, Bool.false_eq_true, if_pos, reduceIte]
            exact hgo _ (by simp [RF]) (by simp [RF]) hbig
          · refine T_rseq fun Kr hKr => ?_
            simp (disch := omega) only [RF, RO, RC, bodyQ, resAll, resOf, tup, ↓reduceIte, Nat.reduceEqDiff, Nat.reduceSub, Nat.reduceAdd, Nat.reduceMul, Nat.reduceLT, Nat.reduceLeDiff, Int.reduceLE, Int.reduceLT, Int.reduceEq, Int.reduceNeg, Int.reduceToNat, Int.reduceMul, Int.reduceAdd, Int.reduceSub, Int.reduceBEq, Int.reduceBNe, reduceCtorEq, RD]
            refine hKr _ _ ?_
            clear hKr Kr
            try simp only [RN, if_true, if_false, Bool.false_eq_true, if_pos, reduceIte]
            refine T_cseq (t := false) (by simp (disch := omega) only [RF, RO, RC, bodyQ, resAll, resOf, tup, ↓reduceIte, Nat.reduceEqDiff, Nat.reduceSub, Nat.reduceAdd, Nat.reduceMul, Nat.reduceLT, Nat.reduceLeDiff, Int.reduceLE, Int.reduceLT, Int.reduceEq, Int.reduceNeg, Int.reduceToNat, Int.reduceMul, Int.reduceAdd, Int.reduceSub, Int.reduceBEq, Int.reduceBNe, reduceCtorEq, decT, decF]) ?_
            try simp only [RN, if_true, if_false, Bool.false_eq_true, if_pos, reduceIte]
            exact hgo _ (by simp [RF]) (by simp [RF]) hbig
        · refine T_rseq fun Kr hKr => ?_
          simp (disch := omega) only [RF, RO, RC, bodyQ, resAll, resOf, tup, ↓reduceIte, Nat.reduceEqDiff, Nat.reduceSub, Nat.reduceAdd, Nat.reduceMul, Nat.reduceLT, Nat.reduceLeDiff, Int.reduceLE, Int.reduceLT, Int.reduceEq, Int.reduceNeg, Int.reduceToNat, Int.reduceMul, Int.reduceAdd, Int.reduceSub, Int.reduceBEq, Int.reduceBNe, reduceCtorEq, RD]
          refine hKr _ _ ?_
          clear hKr Kr
          try simp only [RN, if_true, if_false, Bool.false_eq_true, if_pos, reduceIte]
          refine T_cseq (t := false) (by simp (disch := omega) only [RF, RO, RC, bodyQ, resAll, resOf, tup, ↓reduceIte, Nat.reduceEqDiff, Nat.reduceSub, Nat.reduceAdd, Nat.reduceMul, Nat.reduceLT, Nat.reduceLeDiff, Int.reduceLE, Int.reduceLT, Int.reduceEq, Int.reduceNeg, Int.reduceToNat, Int.reduceMul, Int.reduceAdd, Int.reduceSub, Int.reduceBEq, Int.reduceBNe, reduceCtorEq, decT, decF]) ?_
          try simp only [RN, if_true, if_false, Bool.false_eq_true, if_pos, reduceIte]
          exact hgo _ (by simp [RF]) (by simp [RF]) hbig
    · rw [decide_eq_false hq]
      simp only [resComposePolynomials, hq, and_false, if_false] at hK
      simp (disch := omega) only [RF, RO, RC, bodyQ, resAll, resOf, tup, ↓reduceIte, Nat.reduceEqDiff, Nat.reduceSub, Nat.reduceAdd, Nat.reduceMul, Nat.reduceLT, Nat.reduceLeDiff, Int.reduceLE, Int.reduceLT, Int.reduceEq, Int.reduceNeg, Int.reduceToNat, Int.reduceMul, Int.reduceAdd, Int.reduceSub, Int.reduceBEq, Int.reduceBNe, reduceCtorEq, RD]
      refine hKr _ _ ?_
      clear hKr Kr
      try simp only [blkQ, thenQ, loopQ]
      try simp only [RN, if_true, if_false, Bool.false_eq_true, if_pos, reduceIte]
      refine T_cseq (t := true) (by simp (disch := omega) only [RF, RO, RC, bodyQ, resAll, resOf, tup, ↓reduceIte, Nat.reduceEqDiff, Nat.reduceSub, Nat.reduceAdd, Nat.reduceMul, Nat.reduceLT, Nat.reduceLeDiff, Int.reduceLE, Int.reduceLT, Int.reduceEq, Int.reduceNeg, Int.reduceToNat, Int.reduceMul, Int.reduceAdd, Int.reduceSub, Int.reduceBEq, Int.reduceBNe, reduceCtorEq, decT, decF]) ?_
      try simp only [RN, if_true, if_false, Bool.false_eq_true, if_pos, reduceIte]
      refine T_rseq fun Kr hKr => ?_
      simp (disch := omega) only [RF, RO, RC, bodyQ, resAll, resOf, tup, ↓reduceIte, Nat.reduceEqDiff, Nat.reduceSub, Nat.reduceAdd, Nat.reduceMul, Nat.reduceLT, Nat.reduceLeDiff, Int.reduceLE, Int.reduceLT, Int.reduceEq, Int.reduceNeg, Int.reduceToNat, Int.reduceMul, Int.reduceAdd, Int.reduceSub, Int.reduceBEq, Int.reduceBNe, reduceCtorEq, RD]
      refine hKr _ _ ?_
      clear hKr Kr
      try simp only [RN, if_true, if_false, Bool.false_eq_true, if_pos, reduceIte]
      refine ⟨_, rfl, ?_⟩
      simp only [RF, ev_t, ev_c, tup, ↓reduceIte, Nat.reduceEqDiff]
      exact hK _ _ (Ext.refl' _) .nil
  · rw [decide_eq_false hp]
    simp only [resComposePolynomials, hp, false_and, if_false] at hK
    simp (disch := omega) only [RF, RO, RC, bodyQ, resAll, resOf, tup, ↓reduceIte, Nat.reduceEqDiff, Nat.reduceSub, Nat.reduceAdd, Nat.reduceMul, Nat.reduceLT, Nat.reduceLeDiff, Int.reduceLE, Int.reduceLT, Int.reduceEq, Int.reduceNeg, Int.reduceToNat, Int.reduceMul, Int.reduceAdd, Int.reduceSub, Int.reduceBEq, Int.reduceBNe, reduceCtorEq, RD]
    refine hKr _ _ ?_
    clear hKr Kr
    try simp only [blkQ, thenQ, loopQ]
    try simp only [RN, if_true, if_false, Bool.false_eq_true, if_pos, reduceIte]
    refine T_cseq (t := true) (by simp (disch := omega) only [RF, RO, RC, bodyQ, resAll, resOf, tup, ↓reduceIte, Nat.reduceEqDiff, Nat.reduceSub, Nat.reduceAdd, Nat.reduceMul, Nat.reduceLT, Nat.reduceLeDiff, Int.reduceLE, Int.reduceLT, Int.reduceEq, Int.reduceNeg, Int.reduceToNat, Int.reduceMul, Int.reduceAdd, Int.reduceSub, Int.reduceBEq, Int.reduceBNe, reduceCtorEq, decT, decF]) ?_
    try simp only [RN, if_true, if_false, Bool.false_eq_true, if_pos, reduceIte]
    refine T_rseq fun Kr hKr => ?_
    simp (disch := omega) only [RF, RO, RC, bodyQ, resAll, resOf, tup, ↓reduceIte, Nat.reduceEqDiff, Nat.reduceSub, Nat.reduceAdd, Nat.reduceMul, Nat.reduceLT, Nat.reduceLeDiff, Int.reduceLE, Int.reduceLT, Int.reduceEq, Int.reduceNeg, Int.reduceToNat, Int.reduceMul, Int.reduceAdd, Int.reduceSub, Int.reduceBEq, Int.reduceBNe, reduceCtorEq, RD]
    refine hKr _ _ ?_
    clear hKr Kr
    try simp only [RN, if_true, if_false, Bool.false_eq_true, if_pos, reduceIte]
    refine ⟨_, rfl, ?_⟩
    simp only [RF, ev_t, ev_c, tup, ↓reduceIte, Nat.reduceEqDiff]
    exact hK _ _ (Ext.refl' _) .nil
theorem impl_ComposePolynomials_spec {H : AHeap} {v u : Value} {xs ys : List Int} {K : Value → AHeap → Prop} (hx : IsI H v xs) (hl : xs.length < 2 ^ 62) (hy : IsI H u ys) (hly : ys.length < 2 ^ 62)
    (hK : ∀ v' H', Ext H H' → OwnI H.n H'.n H' v' (resComposePolynomials xs ys).1 → K (.tuple ⟨[v', I (resComposePolynomials xs ys).2]⟩) H') : CallT F_impl_ComposePolynomials [v, u] H K := by
  obtain ⟨a, e, rfl⟩ := hx.len
  obtain ⟨a', e', rfl⟩ := hy.len
  refine CallT_body Γ_impl_ComposePolynomials ?_
  simp only [A_impl_ComposePolynomials, T_aiff]
  refine T_rseq fun Kr hKr => ?_
  simp (disch := omega) only [RF, RO, RC, bodyQ, resAll, resOf, tup, ↓reduceIte, Nat.reduceEqDiff, Nat.reduceSub, Nat.reduceAdd, Nat.reduceMul, Nat.reduceLT, Nat.reduceLeDiff, Int.reduceLE, Int.reduceLT, Int.reduceEq, Int.reduceNeg, Int.reduceToNat, Int.reduceMul, Int.reduceAdd, Int.reduceSub, Int.reduceBEq, Int.reduceBNe, reduceCtorEq, RD]
  refine hKr _ _ ?_
  clear hKr Kr
  try simp only [RN, if_true, if_false, Bool.false_eq_true, if_pos, reduceIte]
  refine T_rseq fun Kr hKr => ?_
  simp (disch := omega) only [RF, RO, RC, bodyQ, resAll, resOf, tup, ↓reduceIte, Nat.reduceEqDiff, Nat.reduceSub, Nat.reduceAdd, Nat.reduceMul, Nat.reduceLT, Nat.reduceLeDiff, Int.reduceLE, Int.reduceLT, Int.reduceEq, Int.reduceNeg, Int.reduceToNat, Int.reduceMul, Int.reduceAdd, Int.reduceSub, Int.reduceBEq, Int.reduceBNe, reduceCtorEq, RD]
  refine impl_IsPolynomial_spec hx hl ?_
  by_cases hp : Poly xs
  · rw [decide_eq_true hp]
    simp (disch := omega) only [RF, RO, RC, bodyQ, resAll, resOf, tup, ↓reduceIte, Nat.reduceEqDiff, Nat.reduceSub, Nat.reduceAdd, Nat.reduceMul, Nat.reduceLT, Nat.reduceLeDiff, Int.reduceLE, Int.reduceLT, Int.reduceEq, Int.reduceNeg, Int.reduceToNat, Int.reduceMul, Int.reduceAdd, Int.reduceSub, Int.reduceBEq, Int.reduceBNe, reduceCtorEq, RD]
    refine impl_IsPolynomial_spec hy hly ?_
    by_cases hq : Poly ys
    · rw [decide_eq_true hq]
      have l1 := hp.2.1
      have l2 := hq.2.1
      have hpb := prod_bd l1 l2
      have hw1 : IntKind.i64.wrap ((xs.length : Int) - 1) = (xs.length : Int) - 1 := w64 (by omega) (by omega)
      have hw2 : IntKind.i64.wrap ((ys.length : Int) - 1) = (ys.length : Int) - 1 := w64 (by omega) (by omega)
      have hw3 : IntKind.i64.wrap (((xs.length : Int) - 1) * ((ys.length : Int) - 1)) = ((xs.length : Int) - 1) * ((ys.length : Int) - 1) := w64 (by omega) (by omega)
      simp only [resComposePolynomials, hp, hq, and_self, if_true] at hK
      simp (disch := omega) only [RF, RO, RC, bodyQ, resAll, resOf, tup, ↓reduceIte, Nat.reduceEqDiff, Nat.reduceSub, Nat.reduceAdd, Nat.reduceMul, Nat.reduceLT, Nat.reduceLeDiff, Int.reduceLE, Int.reduceLT, Int.reduceEq, Int.reduceNeg, Int.reduceToNat, Int.reduceMul, Int.reduceAdd, Int.reduceSub, Int.reduceBEq, Int.reduceBNe, reduceCtorEq, RD]
      refine hKr _ _ ?_
      clear hKr Kr
      try simp only [blkQ, thenQ, loopQ]
      try simp only [RN, if_true, if_false, Bool.false_eq_true, if_pos, reduceIte]
      refine T_cseq (t := false) (by simp (disch := omega) only [RF, RO, RC, bodyQ, resAll, resOf, tup, ↓reduceIte, Nat.reduceEqDiff, Nat.reduceSub, Nat.reduceAdd, Nat.reduceMul, Nat.reduceLT, Nat.reduceLeDiff, Int.reduceLE, Int.reduceLT, Int.reduceEq, Int.reduceNeg, Int.reduceToNat, Int.reduceMul, Int.reduceAdd, Int.reduceSub, Int.reduceBEq, Int.reduceBNe, reduceCtorEq, decT, decF]) ?_
      try simp only [RN, if_true, if_false, Bool.false_eq_true, if_pos, reduceIte]
      by_cases hbig : 16 < ((xs.length : Int) - 1) * ((ys.length : Int) - 1)
      · rw [if_pos hbig] at hK
        refine T_rseq fun Kr hKr => ?_
        simp (disch := omega) only [RF, RO, RC, bodyQ, resAll, resOf, tup, ↓reduceIte, Nat.reduceEqDiff, Nat.reduceSub, Nat.reduceAdd, Nat.reduceMul, Nat.reduceLT, Nat.reduceLeDiff, Int.reduceLE, Int.reduceLT, Int.reduceEq, Int.reduceNeg, Int.reduceToNat, Int.reduceMul, Int.reduceAdd, Int.reduceSub, Int.reduceBEq, Int.reduceBNe, reduceCtorEq, RD, hw1, hw2, hw3, hbig]
        refine hKr _ _ ?_
        clear hKr Kr
        try simp only [RN, if_true, if_false, Bool.false_eq_true, if_pos, reduceIte]
        refine T_cseq (t := true) (by simp (disch := omega) only [RF, RO, RC, bodyQ, resAll, resOf, tup, ↓reduceIte, Nat.reduceEqDiff, Nat.reduceSub, Nat.reduceAdd, Nat.reduceMul, Nat.reduceLT, Nat.reduceLeDiff, Int.reduceLE, Int.reduceLT, Int.reduceEq, Int.reduceNeg, Int.reduceToNat, Int.reduceMul, Int.reduceAdd, Int.reduceSub, Int.reduceBEq, Int.reduceBNe, reduceCtorEq, decT, decF]) ?_
        try simp only [RN, if_true, if_false, Bool.false_eq_true, if_pos, reduceIte]
        refine T_rseq fun Kr hKr => ?_
        simp (disch := omega) only [RF, RO, RC, bodyQ, resAll, resOf, tup, ↓reduceIte, Nat.reduceEqDiff, Nat.reduceSub, Nat.reduceAdd, Nat.reduceMul, Nat.reduceLT, Nat.reduceLeDiff, Int.reduceLE, Int.reduceLT, Int.reduceEq, Int.reduceNeg, Int.reduceToNat, Int.reduceMul, Int.reduceAdd, Int.reduceSub, Int.reduceBEq, Int.reduceBNe, reduceCtorEq, RD]
        refine hKr _ _ ?_
        clear hKr Kr
        try simp only [RN, if_true, if_false, Bool.false_eq_true, if_pos, reduceIte]
        refine ⟨_, rfl, ?_⟩
        simp only [RF, ev_t, ev_c, tup, ↓reduceIte, Nat.reduceEqDiff]
        exact hK _ _ (Ext.refl' _) .nil
      · rw [if_neg hbig] at hK
        refine T_rseq fun Kr hKr => ?_
        simp (disch := omega) only [RF, RO, RC, bodyQ, resAll, resOf, tup, ↓reduceIte, Nat.reduceEqDiff, Nat.reduceSub, Nat.reduceAdd, Nat.reduceMul, Nat.reduceLT, Nat.reduceLeDiff, Int.reduceLE, Int.reduceLT, Int.reduceEq, Int.reduceNeg, Int.reduceToNat, Int.reduceMul, Int.reduceAdd, Int.reduceSub, Int.reduceBEq, Int.reduceBNe, reduceCtorEq, RD, hw1, hw2, hw3, hbig]
        refine hKr _ _ ?_
        clear hKr Kr
        try simp only [RN, if_true, if_false, Bool.false_eq_true, if_pos, reduceIte]
        refine T_cseq (t := false) (by simp (disch := omega) only [RF, RO, RC, bodyQ, resAll, resOf, tup, ↓reduceIte, Nat.reduceEqDiff, Nat.reduceSub, Nat.reduceAdd, Nat.reduceMul, Nat.reduceLT, Nat.reduceLeDiff, Int.reduceLE, Int.reduceLT, Int.reduceEq, Int.reduceNeg, Int.reduceToNat, Int.reduceMul, Int.reduceAdd, Int.reduceSub, Int.reduceBEq, Int.reduceBNe, reduceCtorEq, decT, decF]) ?_
        try simp only [RN, if_true, if_false, Bool.false_eq_true, if_pos, reduceIte]
        refine T_rseq fun Kr hKr => ?_
        simp (disch := omega) only [RF, RO, RC, bodyQ, resAll, resOf, tup, ↓reduceIte, Nat.reduceEqDiff, Nat.reduceSub, Nat.reduceAdd, Nat.reduceMul, Nat.reduceLT, Nat.reduceLeDiff, Int.reduceLE, Int.reduceLT, Int.reduceEq, Int.reduceNeg, Int.reduceToNat, Int.reduceMul, Int.reduceAdd, Int.reduceSub, Int.reduceBEq, Int.reduceBNe, reduceCtorEq, RD]
        refine hKr _ _ ?_
        clear hKr Kr
        try simp only [RN, if_true, if_false, Bool.false_eq_true, if_pos, reduceIte]
        refine T_rseq fun Kr hKr => ?_
        simp (disch := omega) only [RF, RO, RC, bodyQ, resAll, resOf, tup, ↓reduceIte, Nat.reduceEqDiff, Nat.reduceSub, Nat.reduceAdd, Nat.reduceMul, Nat.reduceLT, Nat.reduceLeDiff, Int.reduceLE, Int.reduceLT, Int.reduceEq, Int.reduceNeg, Int.reduceToNat, Int.reduceMul, Int.reduceAdd, Int.reduceSub, Int.reduceBEq, Int.reduceBNe, reduceCtorEq, RD]
        refine hKr _ _ ?_
        clear hKr Kr
        try simp only [RN, if_true, if_false, Bool.false_eq_true, if_pos, reduceIte]
        refine T_wloop (fun n f H' => ∃ w, n ≤ xs.length ∧ Ext H H' ∧ f 0 = .slice a xs.length e ∧ f 1 = .slice a' ys.length e' ∧ f 6 = w ∧ f 7 = I ((n : Int) - 1) ∧ OwnI H.n H'.n H' w (comp (xs.drop n) ys)) (xs.length) ?_ ?_
        · exact ⟨S H.n 0 0 1, Nat.le_refl _, Ext.alloc _ _, by simp [RF], by simp [RF], by simp [RF], by simp [RF], by rw [List.drop_length]; exact own_empty H⟩
        · rintro n f H' R ⟨w, hk, he, h0, h1, h5, h6, ho⟩ hN hX hR
          simp only [A_impl_ComposePolynomials.l0, T_aiff]
          refine T_rseq fun Kr hKr => ?_
          simp (disch := omega) only [RF, RO, RC, bodyQ, resAll, resOf, tup, ↓reduceIte, Nat.reduceEqDiff, Nat.reduceSub, Nat.reduceAdd, Nat.reduceMul, Nat.reduceLT, Nat.reduceLeDiff, Int.reduceLE, Int.reduceLT, Int.reduceEq, Int.reduceNeg, Int.reduceToNat, Int.reduceMul, Int.reduceAdd, Int.reduceSub, Int.reduceBEq, Int.reduceBNe, reduceCtorEq, RD, h0, h6]
          refine hKr _ _ ?_
          clear hKr Kr
          try simp only [RN, if_true, if_false, Bool.false_eq_true, if_pos, reduceIte]
          by_cases hlt : 0 < n
          · refine T_cseq (t := true) (by simp (disch := omega) only [RF, RO, RC, bodyQ, resAll, resOf, tup, ↓reduceIte, Nat.reduceEqDiff, Nat.reduceSub, Nat.reduceAdd, Nat.reduceMul, Nat.reduceLT, Nat.reduceLeDiff, Int.reduceLE, Int.reduceLT, Int.reduceEq, Int.reduceNeg, Int.reduceToNat, Int.reduceMul, Int.reduceAdd, Int.reduceSub, Int.reduceBEq, Int.reduceBNe, reduceCtorEq, decT, decF]) ?_
            try simp only [RN, if_true, if_false, Bool.false_eq_true, if_pos, reduceIte]
            first | refine T_bfree rfl ?_ | refine T_bfree' rfl ?_
            try simp only [RN, if_true, if_false, Bool.false_eq_true, if_pos, reduceIte]
            have hi : (n : Int) - 1 = ((n - 1 : Nat) : Int) := by omega
            have hn1 : n - 1 < xs.length := by omega
            have hcl := comp_len l2 (xs.drop n)
            rw [List.length_drop] at hcl
            have hfk := hp.fit (n - 1) hn1
            obtain ⟨b, o, blk, heq, hb, hg, hlen, hel⟩ := hx.pos (by omega)
            cases heq
            refine T_rseq fun Kr hKr => ?_
            simp (disch := omega) only [RF, RO, RC, bodyQ, resAll, resOf, tup, ↓reduceIte, Nat.reduceEqDiff, Nat.reduceSub, Nat.reduceAdd, Nat.reduceMul, Nat.reduceLT, Nat.reduceLeDiff, Int.reduceLE, Int.reduceLT, Int.reduceEq, Int.reduceNeg, Int.reduceToNat, Int.reduceMul, Int.reduceAdd, Int.reduceSub, Int.reduceBEq, Int.reduceBNe, reduceCtorEq, RD, h0, h1, h5]
            refine times_spec ho.is (comp_red _ _).fit (by omega) (hy.ext he) hq.fit (by omega) fun p H1 he1 ho1 => ?_
            have hg1 : H1.get b = some blk := by rw [(he.trans' he1).get b hb]; exact hg
            simp (disch := omega) only [RF, RO, RC, bodyQ, resAll, resOf, tup, ↓reduceIte, Nat.reduceEqDiff, Nat.reduceSub, Nat.reduceAdd, Nat.reduceMul, Nat.reduceLT, Nat.reduceLeDiff, Int.reduceLE, Int.reduceLT, Int.reduceEq, Int.reduceNeg, Int.reduceToNat, Int.reduceMul, Int.reduceAdd, Int.reduceSub, Int.reduceBEq, Int.reduceBNe, reduceCtorEq, RD, he1, h0, h6, hi, hn1, hg1, hel]
            have h4 := ptimes_len (comp (xs.drop n) ys) ys
            refine addAll_spec (ho1.ext (Ext.alloc H1 _)).is (red_ptimes _ _).fit (by omega) (own_one' H1 (el xs (n - 1))) (fit_one _ (by omega)) (by simp) fun z H3 he3 ho3 => ?_
            simp (disch := omega) only [RF, RO, RC, bodyQ, resAll, resOf, tup, ↓reduceIte, Nat.reduceEqDiff, Nat.reduceSub, Nat.reduceAdd, Nat.reduceMul, Nat.reduceLT, Nat.reduceLeDiff, Int.reduceLE, Int.reduceLT, Int.reduceEq, Int.reduceNeg, Int.reduceToNat, Int.reduceMul, Int.reduceAdd, Int.reduceSub, Int.reduceBEq, Int.reduceBNe, reduceCtorEq, RD, he3]
            refine hKr _ _ ?_
            clear hKr Kr
            try simp only [blkQ, thenQ, loopQ]
            try simp only [RN, if_true, if_false, Bool.false_eq_true, if_pos, reduceIte]
            rw [plain_one] at ho3
            have hE := (he1.trans' (Ext.alloc H1 [I (el xs (n - 1))])).trans' he3
            refine T_reg_k fun Kr hKr => ?_
            simp (disch := omega) only [RF, RO, RC, bodyQ, resAll, resOf, tup, ↓reduceIte, Nat.reduceEqDiff, Nat.reduceSub, Nat.reduceAdd, Nat.reduceMul, Nat.reduceLT, Nat.reduceLeDiff, Int.reduceLE, Int.reduceLT, Int.reduceEq, Int.reduceNeg, Int.reduceToNat, Int.reduceMul, Int.reduceAdd, Int.reduceSub, Int.reduceBEq, Int.reduceBNe, reduceCtorEq, RD, h6]
            refine hKr _ _ ?_
            clear hKr Kr
            refine hN (n - 1) _ _ (by omega) ⟨z, by omega, he.trans' hE, by simp [RF, h0], by simp [RF, h1], by simp [RF], by simp [RF]; omega, ?_⟩
            rw [drop_el hn1, comp_cons, Nat.sub_add_cancel (by omega)]
            exact ho3.weak (Nat.le_trans he.n (Nat.le_trans he1.n (Nat.le_succ _))) (Nat.le_refl _)
          · refine T_cseq (t := false) (by simp (disch := omega) only [RF, RO, RC, bodyQ, resAll, resOf, tup, ↓reduceIte, Nat.reduceEqDiff, Nat.reduceSub, Nat.reduceAdd, Nat.reduceMul, Nat.reduceLT, Nat.reduceLeDiff, Int.reduceLE, Int.reduceLT, Int.reduceEq, Int.reduceNeg, Int.reduceToNat, Int.reduceMul, Int.reduceAdd, Int.reduceSub, Int.reduceBEq, Int.reduceBNe, reduceCtorEq, decT, decF]) ?_
            try simp only [RN, if_true, if_false, Bool.false_eq_true, if_pos, reduceIte]
            refine hX _ _ ?_
            refine T_rseq fun Kr hKr => ?_
            simp (disch := omega) only [RF, RO, RC, bodyQ, resAll, resOf, tup, ↓reduceIte, Nat.reduceEqDiff, Nat.reduceSub, Nat.reduceAdd, Nat.reduceMul, Nat.reduceLT, Nat.reduceLeDiff, Int.reduceLE, Int.reduceLT, Int.reduceEq, Int.reduceNeg, Int.reduceToNat, Int.reduceMul, Int.reduceAdd, Int.reduceSub, Int.reduceBEq, Int.reduceBNe, reduceCtorEq, RD, h5]
            refine hKr _ _ ?_
            clear hKr Kr
            try simp only [RN, if_true, if_false, Bool.false_eq_true, if_pos, reduceIte]
            refine ⟨_, rfl, ?_⟩
            simp only [RF, ev_t, ev_c, tup, ↓reduceIte, Nat.reduceEqDiff]
            have : n = 0 := by omega
            subst this
            exact hK _ _ he (by simpa using ho)
    · rw [decide_eq_false hq]
      simp only [resComposePolynomials, hq, and_false, if_false] at hK
      simp (disch := omega) only [RF, RO, RC, bodyQ, resAll, resOf, tup, ↓reduceIte, Nat.reduceEqDiff, Nat.reduceSub, Nat.reduceAdd, Nat.reduceMul, Nat.reduceLT, Nat.reduceLeDiff, Int.reduceLE, Int.reduceLT, Int.reduceEq, Int.reduceNeg, Int.reduceToNat, Int.reduceMul, Int.reduceAdd, Int.reduceSub, Int.reduceBEq, Int.reduceBNe, reduceCtorEq, RD]
      refine hKr _ _ ?_
      clear hKr Kr
      try simp only [blkQ, thenQ, loopQ]
      try simp only [RN, if_true, if_false, Bool.false_eq_true, if_pos, reduceIte]
      refine T_cseq (t := true) (by simp (disch := omega) only [RF, RO, RC, bodyQ, resAll, resOf, tup, ↓reduceIte, Nat.reduceEqDiff, Nat.reduceSub, Nat.reduceAdd, Nat.reduceMul, Nat.reduceLT, Nat.reduceLeDiff, Int.reduceLE, Int.reduceLT, Int.reduceEq, Int.reduceNeg, Int.reduceToNat, Int.reduceMul, Int.reduceAdd, Int.reduceSub, Int.reduceBEq, Int.reduceBNe, reduceCtorEq, decT, decF]) ?_
      try simp only [RN, if_true, if_false, Bool.false_eq_true, if_pos, reduceIte]
      refine T_rseq fun Kr hKr => ?_
      simp (disch := omega) only [RF, RO, RC, bodyQ, resAll, resOf, tup, ↓reduceIte, Nat.reduceEqDiff, Nat.reduceSub, Nat.reduceAdd, Nat.reduceMul, Nat.reduceLT, Nat.reduceLeDiff, Int.reduceLE, Int.reduceLT, Int.reduceEq, Int.reduceNeg, Int.reduceToNat, Int.reduceMul, Int.reduceAdd, Int.reduceSub, Int.reduceBEq, Int.reduceBNe, reduceCtorEq, RD]
      refine hKr _ _ ?_
      clear hKr Kr
      try simp only [RN, if_true, if_false, Bool.false_eq_true, if_pos, reduceIte]
      refine ⟨_, rfl, ?_⟩
      simp only [RF, ev_t, ev_c, tup, ↓reduceIte, Nat.reduceEqDiff]
      exact hK _ _ (Ext.refl' _) .nil
  · rw [decide_eq_false hp]
    simp only [resComposePolynomials, hp, false_and, if_false] at hK
    simp (disch := omega) only [RF, RO, RC, bodyQ, resAll, resOf, tup, ↓reduceIte, Nat.reduceEqDiff, Nat.reduceSub, Nat.reduceAdd, Nat.reduceMul, Nat.reduceLT, Nat.reduceLeDiff, Int.reduceLE, Int.reduceLT, Int.reduceEq, Int.reduceNeg, Int.reduceToNat, Int.reduceMul, Int.reduceAdd, Int.reduceSub, Int.reduceBEq, Int.reduceBNe, reduceCtorEq, RD]
    refine hKr _ _ ?_
    clear hKr Kr
    try simp only [blkQ, thenQ, loopQ]
    try simp only [RN, if_true, if_false, Bool.false_eq_true, if_pos, reduceIte]
    refine T_cseq (t := true) (by simp (disch := omega) only [RF, RO, RC, bodyQ, resAll, resOf, tup, ↓reduceIte, Nat.reduceEqDiff, Nat.reduceSub, Nat.reduceAdd, Nat.reduceMul, Nat.reduceLT, Nat.reduceLeDiff, Int.reduceLE, Int.reduceLT, Int.reduceEq, Int.reduceNeg, Int.reduceToNat, Int.reduceMul, Int.reduceAdd, Int.reduceSub, Int.reduceBEq, Int.reduceBNe, reduceCtorEq, decT, decF]) ?_
    try simp only [RN, if_true, if_false, Bool.false_eq_true, if_pos, reduceIte]
    refine T_rseq fun Kr hKr => ?_
    simp (disch := omega) only [RF, RO, RC, bodyQ, resAll, resOf, tup, ↓reduceIte, Nat.reduceEqDiff, Nat.reduceSub, Nat.reduceAdd, Nat.reduceMul, Nat.reduceLT, Nat.reduceLeDiff, Int.reduceLE, Int.reduceLT, Int.reduceEq, Int.reduceNeg, Int.reduceToNat, Int.reduceMul, Int.reduceAdd, Int.reduceSub, Int.reduceBEq, Int.reduceBNe, reduceCtorEq, RD]
    refine hKr _ _ ?_
    clear hKr Kr
    try simp only [RN, if_true, if_false, Bool.false_eq_true, if_pos, reduceIte]
    refine ⟨_, rfl, ?_⟩
    simp only [RF, ev_t, ev_c, tup, ↓reduceIte, Nat.reduceEqDiff]
    exact hK _ _ (Ext.refl' _) .nil
end Go.Am

/- Derivatives of products, values of sums and products (plain). -/
set_option linter.unusedVariables false
set_option linter.unusedSimpArgs false
namespace Go.Am
open Go

def dfn (x : Nat → Int) (i : Nat) : Int := x (i + 1) * ((i : Int) + 1)
theorem cvp_der {x y : Nat → Int} {n : Nat} : ∀ k, k ≤ n → ((n : Int) + 1) * cvp x y (k + 1) (n + 1) = cvp (dfn x) y k n + cvp x (dfn y) (k + 1) n
  | 0, _ => by
    simp only [cvp, Nat.zero_le, if_true, Nat.sub_zero, dfn]
    rw [Int.zero_add, Int.zero_add, Int.zero_add, Int.mul_comm, Int.mul_assoc]
  | k + 1, hk => by
    have ih := cvp_der (x := x) (y := y) (n := n) k (by omega)
    rw [cvp, Int.mul_add, ih, if_pos (by omega)]
    rw [show cvp (dfn x) y (k + 1) n = cvp (dfn x) y k n + dfn x k * y (n - k) by rw [cvp, if_pos (by omega)]]
    rw [show cvp x (dfn y) (k + 1 + 1) n = cvp x (dfn y) (k + 1) n + x (k + 1) * dfn y (n - (k + 1)) by rw [cvp, if_pos (by omega)]]
    have h1 : n + 1 - (k + 1) = n - k := by omega
    have h2 : n - (k + 1) + 1 = n - k := by omega
    have h3 : ((n : Int) + 1) = ((k : Int) + 1) + (((n - (k + 1) : Nat) : Int) + 1) := by omega
    rw [h1, dfn, dfn, h2, h3, Int.add_mul]
    have e1 : ((k : Int) + 1) * (x (k + 1) * y (n - k)) = x (k + 1) * ((k : Int) + 1) * y (n - k) := by rw [← Int.mul_assoc, Int.mul_comm (_ + 1)]
    have e2 : (((n - (k + 1) : Nat) : Int) + 1) * (x (k + 1) * y (n - k)) = x (k + 1) * (y (n - k) * (((n - (k + 1) : Nat) : Int) + 1)) := by rw [Int.mul_comm, Int.mul_assoc]
    rw [e1, e2]
    omega
/-- The rule of the product, coefficient by coefficient. -/
theorem cv_der (x y : Nat → Int) (n : Nat) : ((n : Int) + 1) * cv x y (n + 1) = cv (dfn x) y n + cv x (dfn y) n := by
  unfold cv
  have h := cvp_der (x := x) (y := y) (n := n) n (Nat.le_refl _)
  rw [show cvp x y (n + 1 + 1) (n + 1) = cvp x y (n + 1) (n + 1) + x (n + 1) * y 0 by rw [cvp, if_pos (Nat.le_refl _), Nat.sub_self], Int.mul_add, h]
  rw [show cvp (dfn x) y (n + 1) n = cvp (dfn x) y n n + dfn x n * y 0 by rw [cvp, if_pos (Nat.le_refl _), Nat.sub_self], dfn]
  have : ((n : Int) + 1) * (x (n + 1) * y 0) = x (n + 1) * ((n : Int) + 1) * y 0 := by rw [← Int.mul_assoc, Int.mul_comm (_ + 1)]
  rw [this]
  omega
theorem md_md (a : Int) : md (md a) = md a := by unfold md; omega
theorem md_mul_l (a b : Int) : md (md a * b) = md (a * b) := by
  unfold md
  rw [Int.mul_emod (a % 10007), Int.emod_emod_of_dvd _ (Int.dvd_refl _), ← Int.mul_emod]
theorem md_mul_r (a b : Int) : md (a * md b) = md (a * b) := by rw [Int.mul_comm, md_mul_l, Int.mul_comm]
theorem md_add_r (a b : Int) : md (a + md b) = md (a + b) := by unfold md; omega
theorem cvp_md {x y x' y' : Nat → Int} (hx : ∀ i, md (x i) = md (x' i)) (hy : ∀ i, md (y i) = md (y' i)) (n : Nat) : ∀ k, md (cvp x y k n) = md (cvp x' y' k n)
  | 0 => rfl
  | k + 1 => by
    have ih := cvp_md hx hy n k
    rw [cvp, cvp]
    by_cases h : k ≤ n
    · rw [if_pos h, if_pos h, ← md_add, ih, md_add, ← md_add_r, ← md_mul_l, hx, md_mul_l, ← md_mul_r, hy, md_mul_r, md_add_r]
    · rw [if_neg h, if_neg h, Int.add_zero, Int.add_zero, ih]
theorem cv_md {x y x' y' : Nat → Int} (hx : ∀ i, md (x i) = md (x' i)) (hy : ∀ i, md (y i) = md (y' i)) (n : Nat) : md (cv x y n) = md (cv x' y' n) := cvp_md hx hy n (n + 1)
/-- The derivative of a product. -/
theorem slope_ptimes (f g : List Int) : slope (ptimes f g) = padd (ptimes (slope f) g) (ptimes f (slope g)) 1 := by
  refine Red.ext (red_slope _) (red_padd _ _ _) fun i => ?_
  have h1 : md (cv (el (slope f)) (el g) i) = md (cv (dfn (el f)) (el g) i) := cv_md (fun i => by rw [el_slope, md_md]; rfl) (fun _ => rfl) i
  have h2 : md (cv (el f) (el (slope g)) i) = md (cv (el f) (dfn (el g)) i) := cv_md (fun _ => rfl) (fun i => by rw [el_slope, md_md]; rfl) i
  have h3 := cv_der (el f) (el g) i
  rw [el_slope, el_padd, el_ptimes, el_ptimes, el_ptimes, md_mul_l, Int.one_mul, md_add, md_add_r, ← md_add, h1, md_add, ← md_add_r, h2, md_add_r, ← h3, Int.mul_comm]
/-! ### Values -/
def sumx (y : Nat → Int) (x : Int) : Nat → Int
  | 0 => 0
  | n + 1 => sumx y x n + y n * x ^ n
theorem sumx_md {y y' : Nat → Int} {x : Int} (h : ∀ i, md (y i) = md (y' i)) : ∀ n, md (sumx y x n) = md (sumx y' x n)
  | 0 => rfl
  | n + 1 => by
    have ih := sumx_md (x := x) h n
    rw [sumx, sumx, ← md_add, ih, md_add, ← md_add_r, ← md_mul_l, h, md_mul_l, md_add_r]
theorem sumx_add {y z : Nat → Int} {x k : Int} : ∀ n, sumx (fun i => y i + k * z i) x n = sumx y x n + k * sumx z x n
  | 0 => by simp [sumx]
  | n + 1 => by
    rw [sumx, sumx, sumx, sumx_add n, Int.add_mul, Int.mul_add, Int.mul_assoc]
    omega
theorem sumx_out {y : Nat → Int} {x : Int} {m : Nat} (h : ∀ j, m ≤ j → y j = 0) : ∀ d, sumx y x (m + d) = sumx y x m
  | 0 => rfl
  | d + 1 => by
    show sumx y x (m + d) + y (m + d) * x ^ (m + d) = _
    rw [sumx_out h d, h _ (by omega), Int.zero_mul, Int.add_zero]
theorem sumx_shift {y : Nat → Int} {x c : Int} {k : Nat} : ∀ L, sumx (fun n => if k ≤ n then c * y (n - k) else 0) x (k + L) = c * x ^ k * sumx y x L
  | 0 => by
    have : ∀ j, j ≤ k → sumx (fun n => if k ≤ n then c * y (n - k) else 0) x j = 0 := by
      intro j
      induction j with
      | zero => intro _; rfl
      | succ j ih => intro hj; rw [sumx, ih (by omega), if_neg (by omega)]; simp
    rw [Nat.add_zero, this k (Nat.le_refl _)]
    simp [sumx]
  | L + 1 => by
    show sumx _ x (k + L) + (if k ≤ k + L then c * y (k + L - k) else 0) * x ^ (k + L) = _
    rw [sumx_shift L, if_pos (by omega), Nat.add_sub_cancel_left, sumx, Int.mul_add, Int.pow_add]
    congr 1
    simp only [Int.mul_assoc, Int.mul_comm, Int.mul_left_comm]
theorem sumx_cvp {y z : Nat → Int} {x : Int} {M N : Nat} (hz : ∀ j, M ≤ j → z j = 0) : ∀ k, k + M ≤ N → sumx (cvp y z k) x N = sumx y x k * sumx z x M
  | 0, _ => by
    have : ∀ n, sumx (cvp y z 0) x n = 0 := by
      intro n
      induction n with
      | zero => rfl
      | succ n ih => rw [sumx, ih]; simp [cvp]
    rw [this]
    simp [sumx]
  | k + 1, h => by
    have ih := sumx_cvp (y := y) (x := x) (N := N) hz k (by omega)
    have h1 : sumx (cvp y z (k + 1)) x N = sumx (cvp y z k) x N + 1 * sumx (fun n => if k ≤ n then y k * z (n - k) else 0) x N := by
      rw [← sumx_add]
      congr 1
      funext n
      rw [cvp, Int.one_mul]
    have h2 : sumx (fun n => if k ≤ n then y k * z (n - k) else 0) x N = y k * x ^ k * sumx z x M := by
      have := sumx_shift (y := z) (x := x) (c := y k) (k := k) (N - k)
      rw [show k + (N - k) = N by omega] at this
      rw [this]
      congr 1
      have := sumx_out (x := x) hz (N - k - M)
      rw [show M + (N - k - M) = N - k by omega] at this
      exact this
    rw [h1, ih, h2, sumx, Int.one_mul, Int.add_mul]
theorem sumx_cons {a : Int} {l : List Int} {x : Int} : ∀ n, sumx (el (a :: l)) x (n + 1) = a + x * sumx (el l) x n
  | 0 => by simp [sumx, el]
  | n + 1 => by
    rw [sumx, sumx_cons n, sumx, Int.mul_add, Int.add_assoc]
    congr 2
    have : el (a :: l) (n + 1) = el l n := by simp [el]
    rw [this, Int.pow_succ]
    simp only [Int.mul_assoc, Int.mul_comm, Int.mul_left_comm]
theorem value_sumx {x : Int} : ∀ xs : List Int, value xs x = md (sumx (el xs) x xs.length)
  | [] => rfl
  | a :: l => by
    rw [List.length_cons, sumx_cons, ← md_add_r, ← md_mul_r, ← value_sumx l, md_add_r]
    show md (value l x * x + a) = _
    rw [Int.add_comm, Int.mul_comm]
theorem value_at {x : Int} {xs : List Int} {n : Nat} (h : xs.length ≤ n) : value xs x = md (sumx (el xs) x n) := by
  have := sumx_out (x := x) (y := el xs) (m := xs.length) (fun j hj => el_out hj) (n - xs.length)
  rw [show xs.length + (n - xs.length) = n by omega] at this
  rw [value_sumx, this]
theorem value_padd {xs ys : List Int} {k x : Int} : value (padd xs ys k) x = md (value xs x + k * value ys x) := by
  have hl := padd_len xs ys k
  rw [value_at (n := max xs.length ys.length) hl, value_at (xs := xs) (n := max xs.length ys.length) (by omega), value_at (xs := ys) (n := max xs.length ys.length) (by omega)]
  rw [sumx_md (y' := fun i => el xs i + k * el ys i) (fun i => by rw [el_padd, md_md]), sumx_add, md_add]
  generalize sumx (el xs) x (max xs.length ys.length) = A
  generalize sumx (el ys) x (max xs.length ys.length) = B
  have e : md (A + k * md B) = md (A + k * B) := by rw [← md_add_r, md_mul_r, md_add_r]
  exact e.symm
theorem value_ptimes {xs ys : List Int} {x : Int} : value (ptimes xs ys) x = md (value xs x * value ys x) := by
  have hl := ptimes_len xs ys
  have hN : (ptimes xs ys).length ≤ xs.length + ys.length := by omega
  rw [value_at (n := xs.length + ys.length) hN, value_sumx xs, value_sumx ys, md_mul_l, md_mul_r]
  rw [sumx_md (y' := cvp (el xs) (el ys) xs.length) (fun i => by rw [el_ptimes, md_md, cvp_all i fun j hj => el_out hj])]
  rw [sumx_cvp (fun j hj => el_out hj) _ (Nat.le_refl _)]
theorem value_one {a x : Int} : value (trim [a]) x = md a := by
  have hl : (trim [a]).length ≤ 1 := trim_le [a]
  rw [value_at hl, sumx_md (y' := el [a]) (fun i => by rw [el_trim])]
  simp [sumx, el]
/-- The value of a composition. -/
theorem value_comp {g : List Int} {x : Int} : ∀ f : List Int, value (comp f g) x = value f (value g x)
  | [] => rfl
  | a :: l => by
    show value (padd (ptimes (comp l g) g) (trim [a]) 1) x = md (value l (value g x) * value g x + a)
    rw [value_padd, value_ptimes, value_one, value_comp l, Int.one_mul, md_add, md_add_r]
end Go.Am

/- Polynomials over the field: products, divisors, and that multiplicities go down (plain). -/
set_option linter.unusedVariables false
set_option linter.unusedSimpArgs false
namespace Go.Am
open Go

theorem cv_at0 (x y : Nat → Int) : cv x y 0 = x 0 * y 0 := by simp [cv, cvp]
theorem cvp_left {x y : Nat → Int} {n : Nat} : ∀ k, cvp x y (k + 1) (n + 1) = x 0 * y (n + 1) + cvp (fun i => x (i + 1)) y k n
  | 0 => by simp [cvp]
  | k + 1 => by
    have ih := cvp_left (x := x) (y := y) (n := n) k
    rw [cvp, ih, cvp, Int.add_assoc]
    congr 2
    by_cases h : k ≤ n
    · rw [if_pos (by omega), if_pos h, Nat.add_sub_add_right]
    · rw [if_neg (by omega), if_neg h]
theorem cv_left (x y : Nat → Int) (n : Nat) : cv x y (n + 1) = x 0 * y (n + 1) + cv (fun i => x (i + 1)) y n := cvp_left (n + 1)
theorem cvp_right {x y : Nat → Int} {n : Nat} : ∀ k, k ≤ n + 1 → cvp x y k (n + 1) = cvp x (fun i => y (i + 1)) k n
  | 0, _ => rfl
  | k + 1, h => by
    rw [cvp, cvp, cvp_right k (by omega), if_pos (by omega), if_pos (by omega), show n + 1 - k = n - k + 1 by omega]
theorem cv_right (x y : Nat → Int) (n : Nat) : cv x y (n + 1) = cv x (fun i => y (i + 1)) n + x (n + 1) * y 0 := by
  show cvp x y (n + 1 + 1) (n + 1) = _
  rw [cvp, cvp_right (n + 1) (Nat.le_refl _), if_pos (Nat.le_refl _), Nat.sub_self]
  rfl
theorem cv_comm (x y : Nat → Int) : ∀ n, cv x y n = cv y x n := by
  intro n
  induction n generalizing x y with
  | zero => rw [cv_at0, cv_at0, Int.mul_comm]
  | succ n ih => rw [cv_right, ih, cv_left, Int.add_comm, Int.mul_comm (y 0)]
theorem ptimes_comm (a b : List Int) : ptimes a b = ptimes b a := Red.ext (red_ptimes _ _) (red_ptimes _ _) fun i => by rw [el_ptimes, el_ptimes, cv_comm]
theorem one_ptimes {a : List Int} (h : Red a) : ptimes [1] a = a := Red.ext (red_ptimes _ _) h fun i => by
  have hb := h.1 i
  rw [ptimes_comm, el_ptimes, cv_one _ _ _ (el_one _)]
  show md (el a i * 1) = _
  rw [Int.mul_one, md_id hb.1 hb.2]
theorem ptimes_nil (a : List Int) : ptimes [] a = [] := by simp [ptimes]
/-- Degrees add up. -/
theorem ptimes_deg {a b : List Int} (ha : Red a) (hb : Red b) (ha0 : 0 < a.length) (hb0 : 0 < b.length) : (ptimes a b).length = a.length + b.length - 1 := by
  have hle := ptimes_len a b
  rcases Nat.lt_or_ge (ptimes a b).length (a.length + b.length - 1) with h | h
  · exfalso
    have h1 := el_ptimes a b (a.length + b.length - 2)
    rw [el_out (by omega), ← cvp_all (L := a.length) _ fun j hj => el_out hj] at h1
    obtain ⟨m, hm⟩ : ∃ m, a.length = m + 1 := ⟨a.length - 1, by omega⟩
    rw [hm, cvp, cvp_nought m fun j hj hn => by rw [el_out (xs := b) (by omega), Int.mul_zero], if_pos (by omega), Int.zero_add] at h1
    have t1 := ha.top ha0
    have t2 := hb.top hb0
    refine md_prime t1 t2 ?_
    unfold top
    rw [show a.length - 1 = m by omega, show b.length - 1 = m + 1 + b.length - 2 - m by omega]
    exact h1.symm
  · omega
theorem len0 {a : List Int} (h : a.length = 0) : a = [] := List.eq_nil_of_length_eq_zero h
/-! ### Ideals -/
structure Ideal (P : List Int → Prop) : Prop where
  red : ∀ {a}, P a → Red a
  add : ∀ {a b}, P a → P b → P (padd a b 1)
  sub : ∀ {a b}, P a → P b → P (padd a b (-1))
  mul : ∀ {a} q, P a → P (ptimes q a)
theorem el_pad0c {n : Nat} {c : Int} {g : List Int} : ∀ i, cv (el (pad0 n [c])) (el g) i = c * el (pad0 n g) i := by
  induction n with
  | zero =>
    intro i
    show cv (el [c]) (el g) i = c * el g i
    rw [cv_comm, cv_one _ _ _ (fun j hj => el_one c j hj), Int.mul_comm]
    rfl
  | succ n ih =>
    intro i
    have e0 : ∀ g : List Int, el (pad0 (n + 1) g) 0 = 0 := fun g => rfl
    have es : ∀ (g : List Int) i, el (pad0 (n + 1) g) (i + 1) = el (pad0 n g) i := fun g i => by simp [pad0, List.replicate_succ, el]
    cases i with
    | zero => rw [cv_at0, e0, e0]; simp
    | succ i =>
      rw [cv_left, e0, Int.zero_mul, Int.zero_add, es]
      have : (fun i => el (pad0 (n + 1) [c]) (i + 1)) = el (pad0 n [c]) := funext (es [c])
      rw [this, ih]
theorem dstep_is (r g : List Int) (c : Int) : dstep r g c = padd r (ptimes (pad0 (r.length - g.length) [c]) g) (-1) := Red.ext (red_padd _ _ _) (red_padd _ _ _) fun i => by
  rw [dstep, el_padd, el_padd, el_ptimes, el_pad0c, Int.neg_mul, Int.neg_mul, Int.one_mul]
  unfold md
  omega
theorem Ideal.rem {P : List Int → Prop} (hP : Ideal P) {g : List Int} (hg : P g) (hg0 : 0 < g.length) : ∀ (n : Nat) (f : List Int), f.length ≤ n → P f → P (rem f g)
  | n, f, hn, hf => by
    by_cases h : f.length < g.length
    · rw [rem_small h]; exact hf
    · have hd := dstep_len (hP.red hf) (hP.red hg) hg0 (by omega)
      rw [rem_step (hP.red hf) (hP.red hg) hg0 (by omega)]
      match n, hn with
      | 0, hn => omega
      | n + 1, hn => exact hP.rem hg hg0 n (dstep f g (lastq f g)) (by omega) (by rw [dstep_is]; exact hP.sub hf (hP.mul _ hg))
theorem Ideal.euclid {P : List Int → Prop} (hP : Ideal P) : ∀ (n : Nat) (f g : List Int), g.length ≤ n → P f → P g → P (euclid f g)
  | n, f, g, hn, hf, hg => by
    by_cases h : g.length = 0
    · rw [euclid_nil h]; exact hf
    · have hr := rem_red (hP.red hg) (by omega) f.length f (Nat.le_refl _) (hP.red hf)
      rw [euclid_step (hP.red hf) (hP.red hg) (by omega)]
      match n, hn with
      | 0, hn => omega
      | n + 1, hn => exact hP.euclid n g _ (by omega) hg (hP.rem hg (by omega) f.length f (Nat.le_refl _) hf)
theorem Ideal.nil {P : List Int → Prop} (hP : Ideal P) {f : List Int} (hf : P f) : P [] := by
  have := hP.mul [] hf
  rwa [ptimes_nil] at this
/-- Sums of multiples of two. -/
def Two (f g x : List Int) : Prop := ∃ a b, Red a ∧ Red b ∧ x = padd (ptimes a f) (ptimes b g) 1
theorem padd_nil {f : List Int} (h : Red f) : padd f [] 1 = f := Red.ext (red_padd _ _ _) h fun i => by
  have hb := h.1 i
  have : el [] i = 0 := by simp [el]
  rw [el_padd, this]
  unfold md
  omega
theorem nil_padd {f : List Int} (h : Red f) : padd [] f 1 = f := Red.ext (red_padd _ _ _) h fun i => by
  have hb := h.1 i
  have : el [] i = 0 := by simp [el]
  rw [el_padd, this]
  unfold md
  omega
theorem Two.l {f g : List Int} (hf : Red f) : Two f g f := ⟨[1], [], red_1, .nil, by rw [one_ptimes hf, ptimes_nil, padd_nil hf]⟩
theorem Two.r {f g : List Int} (hg : Red g) : Two f g g := ⟨[], [1], .nil, red_1, by rw [one_ptimes hg, ptimes_nil, nil_padd hg]⟩
theorem Ideal.monic {P : List Int → Prop} (hP : Ideal P) {f : List Int} (hf : P f) : P (monic f) := by
  rw [← monic_is (hP.red hf), ptimes_comm]
  exact hP.mul _ hf
/-! ### Sums -/
end Go.Am

/- What the law of polynomials asks, of their lists (plain). -/
set_option linter.unusedVariables false
set_option linter.unusedSimpArgs false
namespace Go.Am
open Go

theorem monic_top {f : List Int} (hf : Red f) (h0 : 0 < f.length) : (monic f).length = f.length ∧ el (monic f) (f.length - 1) = 1 := by
  have ht := hf.top h0
  have hi := inv_mul ht.1 ht.2
  have h2 : el [] (f.length - 1) = 0 := by simp [el]
  refine ⟨monic_pos hf h0, ?_⟩
  rw [monic, el_padd, h2, Int.zero_add, Int.mul_comm]
  exact hi
theorem common_top {f g : List Int} (hf : Poly f) (hg : Poly g) (h0 : 0 < f.length ∨ 0 < g.length) : 0 < (common f g).length ∧ (common f g).length < 1000 ∧ el (common f g) ((common f g).length - 1) = 1 := by
  have he := euclid_red _ f g (Nat.le_refl _) hf.red hg.red ⟨by have := hf.2.1; omega, by have := hg.2.1; omega⟩
  have hp := he.2.2 h0
  have ht := monic_top he.1 hp
  unfold common
  rw [ht.1]
  exact ⟨hp, he.2.1, ht.2⟩
theorem comp_deg {g : List Int} : ∀ f : List Int, (comp f g).length ≤ (f.length - 1) * (g.length - 1) + 1
  | [] => by simp [comp]
  | a :: l => by
    have h1 := padd_len (ptimes (comp l g) g) (trim [a]) 1
    have h2 := trim_le [a]
    have h3 := ptimes_len (comp l g) g
    rw [comp_cons]
    simp only [List.length_cons, List.length_nil] at h1 h2 ⊢
    rcases Nat.eq_zero_or_pos g.length with hg | hg
    · have : ptimes (comp l g) g = [] := by simp [ptimes, hg]
      rw [this] at h1 ⊢
      simp only [List.length_nil] at h1
      omega
    · cases l with
      | nil =>
        have : ptimes (comp [] g) g = [] := by simp [ptimes, comp]
        rw [this] at h1 ⊢
        simp only [List.length_nil] at h1
        omega
      | cons b l =>
        have ih := comp_deg (g := g) (b :: l)
        simp only [List.length_cons, Nat.add_sub_cancel] at ih ⊢
        have e : (l.length + 1) * (g.length - 1) = l.length * (g.length - 1) + (g.length - 1) := by rw [Nat.add_mul, Nat.one_mul]
        generalize l.length * (g.length - 1) = z at *
        omega
theorem comp_small {f g : List Int} (hf : Poly f) (hg : Poly g) (h : ¬ 16 < ((f.length : Int) - 1) * ((g.length : Int) - 1)) : Poly (comp f g) := by
  refine (comp_red f g).poly ?_
  have hd := comp_deg (g := g) f
  rcases Nat.eq_zero_or_pos f.length with h0 | h0
  · rw [h0] at hd; simp at hd; omega
  rcases Nat.eq_zero_or_pos g.length with h1 | h1
  · rw [h1] at hd; simp at hd; omega
  have e : (((f.length - 1) * (g.length - 1) : Nat) : Int) = ((f.length : Int) - 1) * ((g.length : Int) - 1) := by
    rw [Int.natCast_mul]
    congr 1 <;> omega
  omega
theorem slope_poly {f : List Int} (h : Poly f) : Poly (slope f) := (red_slope f).poly (by have := slope_len f; have := h.2.1; omega)
theorem slope_nil {f : List Int} (h : f.length = 0) : slope f = [] := by
  have := slope_len f
  exact len0 (by omega)
/-- Products with a derivative are short where the product is. -/
theorem times_slope {f g : List Int} (hf : Poly f) (hg : Poly g) (hl : (ptimes f g).length ≤ 17) : (ptimes (slope f) g).length ≤ 17 := by
  have h1 := ptimes_len (slope f) g
  have h2 := slope_len f
  rcases Nat.eq_zero_or_pos f.length with h0 | h0
  · rw [slope_nil h0, ptimes_nil]; simp
  rcases Nat.eq_zero_or_pos g.length with h3 | h3
  · rw [len0 h3, ptimes_comm, ptimes_nil]; simp
  have h4 := ptimes_deg hf.red hg.red h0 h3
  omega
/-- The rule of the product, as the law asks. -/
theorem leibniz {f g : List Int} (hf : Poly f) (hg : Poly g) (hl : (ptimes f g).length ≤ 17) :
    resDerivativeOf f = (slope f, 0) ∧ resDerivativeOf g = (slope g, 0) ∧ resMultiplyPolynomials (slope f) g = (ptimes (slope f) g, 0) ∧ resMultiplyPolynomials f (slope g) = (ptimes f (slope g), 0) ∧
    resAddPolynomials (ptimes (slope f) g) (ptimes f (slope g)) = (padd (ptimes (slope f) g) (ptimes f (slope g)) 1, 0) ∧ resDerivativeOf (ptimes f g) = (padd (ptimes (slope f) g) (ptimes f (slope g)) 1, 0) := by
  have l1 := times_slope hf hg hl
  have l2 := times_slope hg hf (by rw [ptimes_comm]; exact hl)
  rw [ptimes_comm] at l2
  refine ⟨if_pos hf, if_pos hg, ?_, ?_, ?_, ?_⟩
  · rw [resMultiplyPolynomials, if_pos ⟨slope_poly hf, hg⟩, if_pos l1]
  · rw [resMultiplyPolynomials, if_pos ⟨hf, slope_poly hg⟩, if_pos l2]
  · rw [resAddPolynomials, if_pos ⟨(red_ptimes _ _).poly l1, (red_ptimes _ _).poly l2⟩]
  · rw [resDerivativeOf, if_pos ((red_ptimes _ _).poly hl), slope_ptimes]
/-- Values of compositions, as the law asks. -/
theorem value_rule {a b : List Int} {x : Int} (ha : Poly a) (hb : Poly b) (h : ¬ 16 < ((a.length : Int) - 1) * ((b.length : Int) - 1)) (hx : 0 ≤ x ∧ x ≤ 10006) :
    valueOf b x = (value b x, 0) ∧ valueOf a (value b x) = (value a (value b x), 0) ∧ valueOf (comp a b) x = (value a (value b x), 0) := by
  have v1 := value_lo b x
  have v2 := value_hi b x
  refine ⟨?_, ?_, ?_⟩
  · rw [valueOf, if_pos hb, if_pos hx]
  · rw [valueOf, if_pos ha, if_pos ⟨v1, v2⟩]
  · rw [valueOf, if_pos (comp_small ha hb h), if_pos hx, value_comp]
end Go.Am

/- Forks. -/
set_option linter.unusedVariables false
set_option linter.unusedSimpArgs false
namespace Go.Am
open Go

def mulBy (q : List Int) (o : List Int) : Nat → List Int
  | 0 => o
  | n + 1 => ptimes (mulBy q o n) q
def pw (x : Int) : Nat → Int
  | 0 => 1
  | k + 1 => md (pw x k * x)
def forkBase (m n : Nat) : List Int := mulBy [1, 10006] (monom 1 m) n
def scale (m n : Nat) : Int := md (pw ((m : Int) + n) (m + n) * inv (md (pw m m * pw n n)))
def fork (m n : Nat) : List Int := ptimes (forkBase m n) [scale m n]
def forkOne (m n : Nat) : Bool := decide (17 ≤ m + n) || decide (m = 0) || decide (n = 0) || decide (inv (value (forkBase m n) (md ((m : Int) * inv ((m : Int) + n)))) = scale m n)
def forkAll : Bool := (List.range 17).all fun m => (List.range 17).all fun n => forkOne m n
theorem forkAll_ok : forkAll = true := by kernel_rfl
theorem fork_value {m n : Nat} (hm : 1 ≤ m) (hn : 1 ≤ n) (h : m + n ≤ 16) : inv (value (forkBase m n) (md ((m : Int) * inv ((m : Int) + n)))) = scale m n := by
  have h1 := List.all_eq_true.1 (List.all_eq_true.1 forkAll_ok m (by simp; omega)) n (by simp; omega)
  simp only [forkOne, Bool.or_eq_true, decide_eq_true_eq] at h1
  omega
theorem scale_is {f : List Int} (c : Int) : ptimes f [c] = padd [] f c := by
  refine Red.ext (red_ptimes _ _) (red_padd _ _ _) fun i => ?_
  rw [el_ptimes, cv_one _ _ _ (el_one _), el_padd]
  have h1 : el [c] 0 = c := rfl
  have h2 : el [] i = 0 := by simp [el]
  rw [h1, h2, Int.zero_add, Int.mul_comm]
theorem monom_red (m : Nat) : Red (monom 1 m) := by
  have hl : (monom 1 m).length = m + 1 := by simp [monom]
  have e1 : ∀ i, i < m → el (monom 1 m) i = 0 := fun i h => el_pad0_lo (g := [1]) h
  have e2 : el (monom 1 m) m = 1 := el_pad0_hi m 0 [1]
  refine ⟨fun i => ?_, .inr ?_⟩
  · rcases Nat.lt_trichotomy i m with h | h | h
    · rw [e1 i h]; omega
    · subst h; rw [e2]; omega
    · rw [el_out (by omega)]; omega
  · rw [hl, Nat.add_sub_cancel, e2]; omega
theorem mulBy_red {q o : List Int} (h : Red o) : ∀ n, Red (mulBy q o n)
  | 0 => h
  | n + 1 => red_ptimes _ _
theorem mulBy_len {q o : List Int} (hq : q.length = 2) : ∀ n, (mulBy q o n).length ≤ o.length + n
  | 0 => Nat.le_refl _
  | n + 1 => by
    have ih := mulBy_len (o := o) hq n
    have := ptimes_len (mulBy q o n) q
    show (ptimes _ _).length ≤ _
    omega
theorem l06Fork_spec {H : AHeap} {m n : Nat} {K : Value → AHeap → Prop} (hm : 1 ≤ m) (hn : 1 ≤ n) (hmn : m + n ≤ 16) (hK : ∀ v' H', Ext H H' → OwnI H.n H'.n H' v' (fork m n) → K v' H') : CallT F_spec_l06Fork [I m, I n] H K := by
  have hml : (monom 1 m).length = m + 1 := by simp [monom]
  refine CallT_body Γ_spec_l06Fork ?_
  simp only [A_spec_l06Fork, T_aiff]
  refine T_rseq fun Kr hKr => ?_
  simp (disch := omega) only [RF, RO, RC, bodyQ, resAll, resOf, tup, ↓reduceIte, Nat.reduceEqDiff, Nat.reduceSub, Nat.reduceAdd, Nat.reduceMul, Nat.reduceLT, Nat.reduceLeDiff, Int.reduceLE, Int.reduceLT, Int.reduceEq, Int.reduceNeg, Int.reduceToNat, Int.reduceMul, Int.reduceAdd, Int.reduceSub, Int.reduceBEq, Int.reduceBNe, reduceCtorEq, RD]
  refine hKr _ _ ?_
  clear hKr Kr
  try simp only [RN, if_true, if_false, Bool.false_eq_true, if_pos, reduceIte]
  refine T_rseq fun Kr hKr => ?_
  simp (disch := omega) only [RF, RO, RC, bodyQ, resAll, resOf, tup, ↓reduceIte, Nat.reduceEqDiff, Nat.reduceSub, Nat.reduceAdd, Nat.reduceMul, Nat.reduceLT, Nat.reduceLeDiff, Int.reduceLE, Int.reduceLT, Int.reduceEq, Int.reduceNeg, Int.reduceToNat, Int.reduceMul, Int.reduceAdd, Int.reduceSub, Int.reduceBEq, Int.reduceBNe, reduceCtorEq, RD]
  refine l06Monomial_spec (by omega) fun p H1 he1 ho1 => ?_
  simp (disch := omega) only [RF, RO, RC, bodyQ, resAll, resOf, tup, ↓reduceIte, Nat.reduceEqDiff, Nat.reduceSub, Nat.reduceAdd, Nat.reduceMul, Nat.reduceLT, Nat.reduceLeDiff, Int.reduceLE, Int.reduceLT, Int.reduceEq, Int.reduceNeg, Int.reduceToNat, Int.reduceMul, Int.reduceAdd, Int.reduceSub, Int.reduceBEq, Int.reduceBNe, reduceCtorEq, RD]
  refine hKr _ _ ?_
  clear hKr Kr
  try simp only [blkQ, thenQ, loopQ]
  try simp only [RN, if_true, if_false, Bool.false_eq_true, if_pos, reduceIte]
  refine T_rseq fun Kr hKr => ?_
  simp (disch := omega) only [RF, RO, RC, bodyQ, resAll, resOf, tup, ↓reduceIte, Nat.reduceEqDiff, Nat.reduceSub, Nat.reduceAdd, Nat.reduceMul, Nat.reduceLT, Nat.reduceLeDiff, Int.reduceLE, Int.reduceLT, Int.reduceEq, Int.reduceNeg, Int.reduceToNat, Int.reduceMul, Int.reduceAdd, Int.reduceSub, Int.reduceBEq, Int.reduceBNe, reduceCtorEq, RD]
  refine hKr _ _ ?_
  clear hKr Kr
  try simp only [RN, if_true, if_false, Bool.false_eq_true, if_pos, reduceIte]
  refine T_wloop (fun l f H' => ∃ w k, k ≤ n ∧ l = n - k ∧ Ext H H' ∧ f 0 = I m ∧ f 1 = I n ∧ f 5 = w ∧ f 6 = I k ∧ OwnI H.n H'.n H' w (mulBy [1, 10006] (monom 1 m) k)) (n) ?_ ?_
  · exact ⟨p, 0, by omega, by omega, he1, by simp [RF], by simp [RF], by simp [RF], by simp [RF], ho1⟩
  · rintro l f H' R ⟨w, k, hk, rfl, he, h0, h1, h5, h6, ho⟩ hN hX hR
    simp only [A_spec_l06Fork.l0, T_aiff]
    have hl := mulBy_len (q := [1, 10006]) (o := monom 1 m) rfl k
    have hr := mulBy_red (q := [1, 10006]) (monom_red m) k
    refine T_rseq fun Kr hKr => ?_
    simp (disch := omega) only [RF, RO, RC, bodyQ, resAll, resOf, tup, ↓reduceIte, Nat.reduceEqDiff, Nat.reduceSub, Nat.reduceAdd, Nat.reduceMul, Nat.reduceLT, Nat.reduceLeDiff, Int.reduceLE, Int.reduceLT, Int.reduceEq, Int.reduceNeg, Int.reduceToNat, Int.reduceMul, Int.reduceAdd, Int.reduceSub, Int.reduceBEq, Int.reduceBNe, reduceCtorEq, RD, h1, h6]
    refine hKr _ _ ?_
    clear hKr Kr
    try simp only [RN, if_true, if_false, Bool.false_eq_true, if_pos, reduceIte]
    by_cases hlt : k < n
    · refine T_cseq (t := true) (by simp (disch := omega) only [RF, RO, RC, bodyQ, resAll, resOf, tup, ↓reduceIte, Nat.reduceEqDiff, Nat.reduceSub, Nat.reduceAdd, Nat.reduceMul, Nat.reduceLT, Nat.reduceLeDiff, Int.reduceLE, Int.reduceLT, Int.reduceEq, Int.reduceNeg, Int.reduceToNat, Int.reduceMul, Int.reduceAdd, Int.reduceSub, Int.reduceBEq, Int.reduceBNe, reduceCtorEq, decT, decF]) ?_
      try simp only [RN, if_true, if_false, Bool.false_eq_true, if_pos, reduceIte]
      first | refine T_bfree rfl ?_ | refine T_bfree' rfl ?_
      try simp only [RN, if_true, if_false, Bool.false_eq_true, if_pos, reduceIte]
      refine T_rseq fun Kr hKr => ?_
      simp (disch := omega) only [RF, RO, RC, bodyQ, resAll, resOf, tup, ↓reduceIte, Nat.reduceEqDiff, Nat.reduceSub, Nat.reduceAdd, Nat.reduceMul, Nat.reduceLT, Nat.reduceLeDiff, Int.reduceLE, Int.reduceLT, Int.reduceEq, Int.reduceNeg, Int.reduceToNat, Int.reduceMul, Int.reduceAdd, Int.reduceSub, Int.reduceBEq, Int.reduceBNe, reduceCtorEq, RD, h5]
      refine l06Times_spec (ho.ext (Ext.alloc H' _)).is hr.fit (by omega) (own_two H' 1 10006).is (fit_two _ _ (by omega) (by omega)) (by simp) fun q H2 he2 ho2 => ?_
      simp (disch := omega) only [RF, RO, RC, bodyQ, resAll, resOf, tup, ↓reduceIte, Nat.reduceEqDiff, Nat.reduceSub, Nat.reduceAdd, Nat.reduceMul, Nat.reduceLT, Nat.reduceLeDiff, Int.reduceLE, Int.reduceLT, Int.reduceEq, Int.reduceNeg, Int.reduceToNat, Int.reduceMul, Int.reduceAdd, Int.reduceSub, Int.reduceBEq, Int.reduceBNe, reduceCtorEq, RD]
      refine hKr _ _ ?_
      clear hKr Kr
      try simp only [blkQ, thenQ, loopQ]
      try simp only [RN, if_true, if_false, Bool.false_eq_true, if_pos, reduceIte]
      refine T_reg_k fun Kr hKr => ?_
      simp (disch := omega) only [RF, RO, RC, bodyQ, resAll, resOf, tup, ↓reduceIte, Nat.reduceEqDiff, Nat.reduceSub, Nat.reduceAdd, Nat.reduceMul, Nat.reduceLT, Nat.reduceLeDiff, Int.reduceLE, Int.reduceLT, Int.reduceEq, Int.reduceNeg, Int.reduceToNat, Int.reduceMul, Int.reduceAdd, Int.reduceSub, Int.reduceBEq, Int.reduceBNe, reduceCtorEq, RD, h6]
      refine hKr _ _ ?_
      clear hKr Kr
      exact hN (n - (k + 1)) _ _ (by omega) ⟨q, k + 1, by omega, rfl, he.trans' ((Ext.alloc H' _).trans' he2), by simp [RF, h0], by simp [RF, h1], by simp [RF], by simp [RF], ho2.weak (Nat.le_trans he.n (Nat.le_succ _)) (Nat.le_refl _)⟩
    · refine T_cseq (t := false) (by simp (disch := omega) only [RF, RO, RC, bodyQ, resAll, resOf, tup, ↓reduceIte, Nat.reduceEqDiff, Nat.reduceSub, Nat.reduceAdd, Nat.reduceMul, Nat.reduceLT, Nat.reduceLeDiff, Int.reduceLE, Int.reduceLT, Int.reduceEq, Int.reduceNeg, Int.reduceToNat, Int.reduceMul, Int.reduceAdd, Int.reduceSub, Int.reduceBEq, Int.reduceBNe, reduceCtorEq, decT, decF]) ?_
      try simp only [RN, if_true, if_false, Bool.false_eq_true, if_pos, reduceIte]
      refine hX _ _ ?_
      have hkk : k = n := by omega
      subst hkk
      have hi := inv_bd ((m : Int) + (k : Int))
      have hm2 := mulb (a := (m : Int)) (b := inv ((m : Int) + (k : Int))) (by omega) (by omega) hi.1 (by omega)
      refine T_rseq fun Kr hKr => ?_
      simp (disch := omega) only [RF, RO, RC, bodyQ, resAll, resOf, tup, ↓reduceIte, Nat.reduceEqDiff, Nat.reduceSub, Nat.reduceAdd, Nat.reduceMul, Nat.reduceLT, Nat.reduceLeDiff, Int.reduceLE, Int.reduceLT, Int.reduceEq, Int.reduceNeg, Int.reduceToNat, Int.reduceMul, Int.reduceAdd, Int.reduceSub, Int.reduceBEq, Int.reduceBNe, reduceCtorEq, RD, h0, h1]
      refine l06Inverse_spec (by omega) (by omega) ?_
      simp (disch := omega) only [RF, RO, RC, bodyQ, resAll, resOf, tup, ↓reduceIte, Nat.reduceEqDiff, Nat.reduceSub, Nat.reduceAdd, Nat.reduceMul, Nat.reduceLT, Nat.reduceLeDiff, Int.reduceLE, Int.reduceLT, Int.reduceEq, Int.reduceNeg, Int.reduceToNat, Int.reduceMul, Int.reduceAdd, Int.reduceSub, Int.reduceBEq, Int.reduceBNe, reduceCtorEq, RD]
      refine l06Mod_spec (by omega) (by omega) ?_
      simp (disch := omega) only [RF, RO, RC, bodyQ, resAll, resOf, tup, ↓reduceIte, Nat.reduceEqDiff, Nat.reduceSub, Nat.reduceAdd, Nat.reduceMul, Nat.reduceLT, Nat.reduceLeDiff, Int.reduceLE, Int.reduceLT, Int.reduceEq, Int.reduceNeg, Int.reduceToNat, Int.reduceMul, Int.reduceAdd, Int.reduceSub, Int.reduceBEq, Int.reduceBNe, reduceCtorEq, RD]
      refine hKr _ _ ?_
      clear hKr Kr
      try simp only [blkQ, thenQ, loopQ]
      try simp only [RN, if_true, if_false, Bool.false_eq_true, if_pos, reduceIte]
      have h1' := md_lo ((m : Int) * inv ((m : Int) + (k : Int)))
      have h2' := md_hi ((m : Int) * inv ((m : Int) + (k : Int)))
      refine T_rseq fun Kr hKr => ?_
      simp (disch := omega) only [RF, RO, RC, bodyQ, resAll, resOf, tup, ↓reduceIte, Nat.reduceEqDiff, Nat.reduceSub, Nat.reduceAdd, Nat.reduceMul, Nat.reduceLT, Nat.reduceLeDiff, Int.reduceLE, Int.reduceLT, Int.reduceEq, Int.reduceNeg, Int.reduceToNat, Int.reduceMul, Int.reduceAdd, Int.reduceSub, Int.reduceBEq, Int.reduceBNe, reduceCtorEq, RD, h5]
      refine l06Value_spec ho.is hr.fit (by omega) h1' (by omega) ?_
      simp (disch := omega) only [RF, RO, RC, bodyQ, resAll, resOf, tup, ↓reduceIte, Nat.reduceEqDiff, Nat.reduceSub, Nat.reduceAdd, Nat.reduceMul, Nat.reduceLT, Nat.reduceLeDiff, Int.reduceLE, Int.reduceLT, Int.reduceEq, Int.reduceNeg, Int.reduceToNat, Int.reduceMul, Int.reduceAdd, Int.reduceSub, Int.reduceBEq, Int.reduceBNe, reduceCtorEq, RD]
      have v1 := value_lo (mulBy [1, 10006] (monom 1 m) k) (md ((m : Int) * inv ((m : Int) + (k : Int))))
      have v2 := value_hi (mulBy [1, 10006] (monom 1 m) k) (md ((m : Int) * inv ((m : Int) + (k : Int))))
      refine l06Inverse_spec v1 (by omega) ?_
      have hfv : inv (value (mulBy [1, 10006] (monom 1 m) k) (md ((m : Int) * inv ((m : Int) + (k : Int))))) = scale m k := fork_value hm hn hmn
      rw [hfv]
      have hsc1 : 0 ≤ scale m k := md_lo _
      have hsc2 : scale m k ≤ 10006 := md_hi _
      simp (disch := omega) only [RF, RO, RC, bodyQ, resAll, resOf, tup, ↓reduceIte, Nat.reduceEqDiff, Nat.reduceSub, Nat.reduceAdd, Nat.reduceMul, Nat.reduceLT, Nat.reduceLeDiff, Int.reduceLE, Int.reduceLT, Int.reduceEq, Int.reduceNeg, Int.reduceToNat, Int.reduceMul, Int.reduceAdd, Int.reduceSub, Int.reduceBEq, Int.reduceBNe, reduceCtorEq, RD, h5]
      refine l06Add_spec .nil (fun i hi => by simp at hi) (by simp) ho.is hr.fit (by omega) (q := scale m k) (by omega) (by omega) fun z H2 he2 ho2 => ?_
      simp (disch := omega) only [RF, RO, RC, bodyQ, resAll, resOf, tup, ↓reduceIte, Nat.reduceEqDiff, Nat.reduceSub, Nat.reduceAdd, Nat.reduceMul, Nat.reduceLT, Nat.reduceLeDiff, Int.reduceLE, Int.reduceLT, Int.reduceEq, Int.reduceNeg, Int.reduceToNat, Int.reduceMul, Int.reduceAdd, Int.reduceSub, Int.reduceBEq, Int.reduceBNe, reduceCtorEq, RD]
      refine hKr _ _ ?_
      clear hKr Kr
      try simp only [blkQ, thenQ, loopQ]
      try simp only [RN, if_true, if_false, Bool.false_eq_true, if_pos, reduceIte]
      refine ⟨_, rfl, ?_⟩
      simp only [RF, ev_t, ev_c, tup, ↓reduceIte, Nat.reduceEqDiff]
      refine hK _ _ (he.trans' he2) ?_
      rw [fork, scale_is]
      exact ho2.weak he.n (Nat.le_refl _)
def okFork (a b : Int) : Prop := 1 ≤ a ∧ 1 ≤ b ∧ a + b ≤ 16
instance (a b : Int) : Decidable (okFork a b) := by unfold okFork; infer_instance
theorem fork_len {m n : Nat} : (fork m n).length ≤ m + n + 1 := by
  have h1 := ptimes_len (forkBase m n) [scale m n]
  have h2 := mulBy_len (q := [1, 10006]) (o := monom 1 m) rfl n
  have h3 : (monom 1 m).length = m + 1 := by simp [monom]
  simp only [List.length_cons, List.length_nil] at h1
  unfold fork forkBase at *
  omega
end Go.Am

/- Forks, the program's own. -/
set_option linter.unusedVariables false
set_option linter.unusedSimpArgs false
namespace Go.Am
open Go
end Go.Am

/- The functions on polynomials, carried over to the second machine. -/
set_option linter.unusedVariables false
set_option linter.unusedSimpArgs false
namespace Go.Bm
open Go Go.Am
section
variable {x : Bool} {H : BH} {K : Value → BH → Prop} {xs ys : List Int} {a b : Int}
theorem spec_IsPolynomial_L (hlxs : xs.length < 2 ^ 62) (hK : K (.bool (decide (Poly xs))) H) : CallX x F_spec_IsPolynomial [FI xs] H K := by
  refine lift_P (fun _ => .plain rfl) (fun ρ Z as HA hv hr => ?_) hK
  obtain ⟨u, rfl, e0⟩ := vl1 hv
  exact Am.IsPolynomial_spec (isI_of hr e0) hlxs (⟨ext_refl, rfl⟩)
theorem impl_IsPolynomial_L (hlxs : xs.length < 2 ^ 62) (hK : K (.bool (decide (Poly xs))) H) : CallX x F_impl_IsPolynomial [FI xs] H K := by
  refine lift_P (fun _ => .plain rfl) (fun ρ Z as HA hv hr => ?_) hK
  obtain ⟨u, rfl, e0⟩ := vl1 hv
  exact Am.impl_IsPolynomial_spec (isI_of hr e0) hlxs (⟨ext_refl, rfl⟩)
theorem spec_ValueOf_L (hlxs : xs.length < 2 ^ 62) (hK : K (.tuple ⟨[I (valueOf xs a).1, I (valueOf xs a).2]⟩) H) : CallX x F_spec_ValueOf [FI xs, I a] H K := by
  refine lift_P (vz_p2 rfl rfl) (fun ρ Z as HA hv hr => ?_) hK
  obtain ⟨u, v, rfl, e0, e1⟩ := vl2 hv
  obtain rfl := vr_I e1
  exact Am.ValueOf_spec (isI_of hr e0) hlxs (⟨ext_refl, rfl⟩)
theorem impl_ValueOf_L (hlxs : xs.length < 2 ^ 62) (hK : K (.tuple ⟨[I (valueOf xs a).1, I (valueOf xs a).2]⟩) H) : CallX x F_impl_ValueOf [FI xs, I a] H K := by
  refine lift_P (vz_p2 rfl rfl) (fun ρ Z as HA hv hr => ?_) hK
  obtain ⟨u, v, rfl, e0, e1⟩ := vl2 hv
  obtain rfl := vr_I e1
  exact Am.impl_ValueOf_spec (isI_of hr e0) hlxs (⟨ext_refl, rfl⟩)
theorem spec_DerivativeOf_L (hlxs : xs.length < 2 ^ 62) (hK : K (.tuple ⟨[FI (resDerivativeOf xs).1, I (resDerivativeOf xs).2]⟩) H) : CallX x F_spec_DerivativeOf [FI xs] H K := by
  refine lift_S (fun ρ Z as HA hv hr => ?_) hK
  obtain ⟨u, rfl, e0⟩ := vl1 hv
  exact Am.DerivativeOf_spec (isI_of hr e0) hlxs (fun v' HA' he ho => ⟨he, v', ho, rfl⟩)
theorem impl_DerivativeOf_L (hlxs : xs.length < 2 ^ 62) (hK : K (.tuple ⟨[FI (resDerivativeOf xs).1, I (resDerivativeOf xs).2]⟩) H) : CallX x F_impl_DerivativeOf [FI xs] H K := by
  refine lift_S (fun ρ Z as HA hv hr => ?_) hK
  obtain ⟨u, rfl, e0⟩ := vl1 hv
  exact Am.impl_DerivativeOf_spec (isI_of hr e0) hlxs (fun v' HA' he ho => ⟨he, v', ho, rfl⟩)
theorem spec_AddPolynomials_L (hlxs : xs.length < 2 ^ 62) (hlys : ys.length < 2 ^ 62) (hK : K (.tuple ⟨[FI (resAddPolynomials xs ys).1, I (resAddPolynomials xs ys).2]⟩) H) : CallX x F_spec_AddPolynomials [FI xs, FI ys] H K := by
  refine lift_S (fun ρ Z as HA hv hr => ?_) hK
  obtain ⟨u, v, rfl, e0, e1⟩ := vl2 hv
  exact Am.AddPolynomials_spec (isI_of hr e0) hlxs (isI_of hr e1) hlys (fun v' HA' he ho => ⟨he, v', ho, rfl⟩)
theorem impl_AddPolynomials_L (hlxs : xs.length < 2 ^ 62) (hlys : ys.length < 2 ^ 62) (hK : K (.tuple ⟨[FI (resAddPolynomials xs ys).1, I (resAddPolynomials xs ys).2]⟩) H) : CallX x F_impl_AddPolynomials [FI xs, FI ys] H K := by
  refine lift_S (fun ρ Z as HA hv hr => ?_) hK
  obtain ⟨u, v, rfl, e0, e1⟩ := vl2 hv
  exact Am.impl_AddPolynomials_spec (isI_of hr e0) hlxs (isI_of hr e1) hlys (fun v' HA' he ho => ⟨he, v', ho, rfl⟩)
theorem spec_MultiplyPolynomials_L (hlxs : xs.length < 2 ^ 62) (hlys : ys.length < 2 ^ 62) (hK : K (.tuple ⟨[FI (resMultiplyPolynomials xs ys).1, I (resMultiplyPolynomials xs ys).2]⟩) H) : CallX x F_spec_MultiplyPolynomials [FI xs, FI ys] H K := by
  refine lift_S (fun ρ Z as HA hv hr => ?_) hK
  obtain ⟨u, v, rfl, e0, e1⟩ := vl2 hv
  exact Am.MultiplyPolynomials_spec (isI_of hr e0) hlxs (isI_of hr e1) hlys (fun v' HA' he ho => ⟨he, v', ho, rfl⟩)
theorem impl_MultiplyPolynomials_L (hlxs : xs.length < 2 ^ 62) (hlys : ys.length < 2 ^ 62) (hK : K (.tuple ⟨[FI (resMultiplyPolynomials xs ys).1, I (resMultiplyPolynomials xs ys).2]⟩) H) : CallX x F_impl_MultiplyPolynomials [FI xs, FI ys] H K := by
  refine lift_S (fun ρ Z as HA hv hr => ?_) hK
  obtain ⟨u, v, rfl, e0, e1⟩ := vl2 hv
  exact Am.impl_MultiplyPolynomials_spec (isI_of hr e0) hlxs (isI_of hr e1) hlys (fun v' HA' he ho => ⟨he, v', ho, rfl⟩)
theorem spec_ComposePolynomials_L (hlxs : xs.length < 2 ^ 62) (hlys : ys.length < 2 ^ 62) (hK : K (.tuple ⟨[FI (resComposePolynomials xs ys).1, I (resComposePolynomials xs ys).2]⟩) H) : CallX x F_spec_ComposePolynomials [FI xs, FI ys] H K := by
  refine lift_S (fun ρ Z as HA hv hr => ?_) hK
  obtain ⟨u, v, rfl, e0, e1⟩ := vl2 hv
  exact Am.ComposePolynomials_spec (isI_of hr e0) hlxs (isI_of hr e1) hlys (fun v' HA' he ho => ⟨he, v', ho, rfl⟩)
theorem impl_ComposePolynomials_L (hlxs : xs.length < 2 ^ 62) (hlys : ys.length < 2 ^ 62) (hK : K (.tuple ⟨[FI (resComposePolynomials xs ys).1, I (resComposePolynomials xs ys).2]⟩) H) : CallX x F_impl_ComposePolynomials [FI xs, FI ys] H K := by
  refine lift_S (fun ρ Z as HA hv hr => ?_) hK
  obtain ⟨u, v, rfl, e0, e1⟩ := vl2 hv
  exact Am.impl_ComposePolynomials_spec (isI_of hr e0) hlxs (isI_of hr e1) hlys (fun v' HA' he ho => ⟨he, v', ho, rfl⟩)
theorem spec_CommonDivisor_L (hlxs : xs.length < 2 ^ 62) (hlys : ys.length < 2 ^ 62) (hK : K (.tuple ⟨[FI (resCommonDivisor xs ys).1, I (resCommonDivisor xs ys).2]⟩) H) : CallX x F_spec_CommonDivisor [FI xs, FI ys] H K := by
  refine lift_S (fun ρ Z as HA hv hr => ?_) hK
  obtain ⟨u, v, rfl, e0, e1⟩ := vl2 hv
  exact Am.CommonDivisor_spec (isI_of hr e0) hlxs (isI_of hr e1) hlys (fun v' HA' he ho => ⟨he, v', ho, rfl⟩)
theorem impl_CommonDivisor_L (hlxs : xs.length < 2 ^ 62) (hlys : ys.length < 2 ^ 62) (hK : K (.tuple ⟨[FI (resCommonDivisor xs ys).1, I (resCommonDivisor xs ys).2]⟩) H) : CallX x F_impl_CommonDivisor [FI xs, FI ys] H K := by
  refine lift_S (fun ρ Z as HA hv hr => ?_) hK
  obtain ⟨u, v, rfl, e0, e1⟩ := vl2 hv
  exact Am.impl_CommonDivisor_spec (isI_of hr e0) hlxs (isI_of hr e1) hlys (fun v' HA' he ho => ⟨he, v', ho, rfl⟩)
end
end Go.Bm

/- The laws' own source of numbers: only its ranges. -/
set_option linter.unusedVariables false
set_option linter.unusedSimpArgs false
set_option linter.unusedSectionVars false
namespace Go.Bm
open Go Go.Am
section
variable {code : List Nat} {a b : Nat} {h : Int} {H : BH}
theorem below_one {n : Int} {K : Value → BH → Prop} (ha : a ≤ code.length) (hl : code.length ≤ 1048576) (hcd : ∀ i, nl code i < 256) (hn : n < 4611686018427387904)
    (hK : ∀ v a' h', a' ≤ code.length → 0 ≤ v → v ≤ 16777470 → (0 < n → v < n) → (n < 1 → v = 0) → K (I v) [some (SC code a' h')]) : CallX false F_laws_dice_below [P 0 0, I n] [some (SC code a h)] K := by
  refine CallX_body Γ_laws_dice_below ?_
  simp only [A_laws_dice_below, T_aiff]
  refine T_rseq fun Kr hKr => ?_
  simp (disch := omega) only [RA, ↓reduceIte, Nat.reduceEqDiff, RD]
  refine hKr _ _ ?_
  clear hKr Kr
  try simp only [RN, reduceIte]
  try refine T_e rfl ?_
  refine T_rseq fun Kr hKr => ?_
  simp (disch := omega) only [RA, ↓reduceIte, Nat.reduceEqDiff, RD]
  refine hKr _ _ ?_
  clear hKr Kr
  try simp only [RN, reduceIte]
  try refine T_e rfl ?_
  refine T_csplit (p := n < 1) (by simp only [RA, ↓reduceIte, Nat.reduceEqDiff] <;> rfl) (by (try simp only [RB]) <;> first | done | exact Iff.rfl | omega | simp) (fun hc => ?_) (fun hc => ?_) <;> (try simp only [RN, reduceIte]) <;> (try refine T_e rfl ?_)
  · refine T_rseq fun Kr hKr => ?_
    simp (disch := omega) only [RA, ↓reduceIte, Nat.reduceEqDiff, RD]
    refine hKr _ _ ?_
    clear hKr Kr
    try simp only [RN, reduceIte]
    try refine T_e rfl ?_
    refine bodyQ_ret (by simp (disch := omega) only [RA, ↓reduceIte, Nat.reduceEqDiff, Nat.reduceAdd, Nat.reduceMul, Int.reduceToNat, Nat.reduceLT, reduceCtorEq, RD, resAll, resOf]; rfl) GhV.refl ?_
    simp only [tup]
    exact hK 0 a h ha (by omega) (by omega) (fun h => by omega) (fun _ => rfl)
  · refine T_rseq fun Kr hKr => ?_
    simp (disch := omega) only [RA, ↓reduceIte, Nat.reduceEqDiff, Nat.reduceAdd, Nat.reduceMul, Int.reduceToNat, Nat.reduceLT, reduceCtorEq, RD, sc_2, sc_s2]
    refine hKr _ _ ?_
    clear hKr Kr
    try simp only [RN, reduceIte]
    try refine T_e rfl ?_
    generalize IntKind.u64.wrap (IntKind.u64.wrap (h * 6364136223846793005) + 1442695040888963407) = h2
    refine T_rseq fun Kr hKr => ?_
    simp (disch := omega) only [RA, ↓reduceIte, Nat.reduceEqDiff, Nat.reduceAdd, Nat.reduceMul, Int.reduceToNat, Nat.reduceLT, reduceCtorEq, RD, sc_2, sc_s2]
    refine hKr _ _ ?_
    clear hKr Kr
    try simp only [RN, reduceIte]
    try refine T_e rfl ?_
    obtain ⟨y, hy, hy0, hy1⟩ : ∃ y, IntKind.u64.wrap ((BitVec.ofInt IntKind.u64.bits (h2.fdiv (2 ^ min 33 IntKind.u64.bits)) &&& BitVec.ofInt IntKind.u64.bits 16777215).toNat : Int) = y ∧ 0 ≤ y ∧ y ≤ 16777215 := ⟨_, rfl, and24.1, and24.2⟩
    rw [hy]
    have hyw : IntKind.i64.wrap y = y := w64 (by omega) (by omega)
    rw [hyw]
    have hend : ∀ f' y' a', 0 ≤ y' → y' ≤ 16777470 → a' ≤ code.length → f' 1 = I n → f' 5 = I y' → T 1 (.seq A_laws_dice_below.r8 .ret) (bodyQ 1 [.tmp 4] K) f' [some (SC code a' h2)] := by
      intro f' y' a' k1 k2 k3 g1 g5
      have hn0 : n ≠ 0 := by omega
      refine T_rseq fun Kr hKr => ?_
      simp (disch := omega) only [RA, ↓reduceIte, Nat.reduceEqDiff, RD, g1, g5, hn0]
      refine hKr _ _ ?_
      clear hKr Kr
      try simp only [RN, reduceIte]
      try refine T_e rfl ?_
      refine bodyQ_ret (by simp (disch := omega) only [RA, ↓reduceIte, Nat.reduceEqDiff, Nat.reduceAdd, Nat.reduceMul, Int.reduceToNat, Nat.reduceLT, reduceCtorEq, RD, resAll, resOf]; rfl) GhV.refl ?_
      simp only [tup]
      have t1 := Int.tmod_nonneg n k1
      have t2 := Int.tmod_lt_of_pos y' (show 0 < n by omega)
      have t3 : y'.tmod n ≤ y' := by
        rw [Int.tmod_eq_emod_of_nonneg k1]
        have q := Int.mul_ediv_add_emod y' n
        have q2 := Int.mul_nonneg (show 0 ≤ n by omega) (Int.ediv_nonneg k1 (show 0 ≤ n by omega))
        omega
      exact hK _ a' h2 k3 t1 (by omega) (fun _ => t2) (fun h => by omega)
    refine T_rseq fun Kr hKr => ?_
    simp (disch := omega) only [RA, ↓reduceIte, Nat.reduceEqDiff, RD, sc_1, sc_0]
    refine hKr _ _ ?_
    clear hKr Kr
    try simp only [RN, reduceIte]
    try refine T_e rfl ?_
    refine T_csplit (p := a < code.length) (by simp only [RA, ↓reduceIte, Nat.reduceEqDiff] <;> rfl) (by (try simp only [RB]) <;> first | done | exact Iff.rfl | omega | simp) (fun hc => ?_) (fun hc => ?_) <;> (try simp only [RN, reduceIte]) <;> (try refine T_e rfl ?_)
    · have hcc := hcd a
      refine T_rseq fun Kr hKr => ?_
      simp (disch := omega) only [RA, ↓reduceIte, Nat.reduceEqDiff, RD, sc_1, sc_0]
      refine hKr _ _ ?_
      clear hKr Kr
      try simp only [RN, reduceIte]
      try refine T_e rfl ?_
      have e1 : ((a : Nat) : Int) + 1 = ((a + 1 : Nat) : Int) := by omega
      refine T_rseq fun Kr hKr => ?_
      simp (disch := omega) only [RA, ↓reduceIte, Nat.reduceEqDiff, RD, sc_1, e1, sc_s1]
      refine hKr _ _ ?_
      clear hKr Kr
      try simp only [RN, reduceIte]
      try refine T_e rfl ?_
      refine hend _ (y + nl code a) (a + 1) (by omega) (by omega) (by omega) ?_ ?_
      any_goals (simp (disch := omega) only [RA, ↓reduceIte, Nat.reduceEqDiff, RD, RE, *] <;> rfl)
    · refine hend _ y a (by omega) (by omega) ha ?_ ?_
      any_goals (simp (disch := omega) only [RA, ↓reduceIte, Nat.reduceEqDiff, RD, RE, *] <;> rfl)
theorem below_spec {n : Int} {i : Nat} {K : Value → BH → Prop} (hb : blk H i = some (SC code a h)) (ha : a ≤ code.length) (hl : code.length ≤ 1048576) (hcd : ∀ i, nl code i < 256) (hn : n < 4611686018427387904)
    (hK : ∀ v a' h', a' ≤ code.length → 0 ≤ v → v ≤ 16777470 → (0 < n → v < n) → (n < 1 → v = 0) → K (I v) (H.set i (some (SC code a' h')))) : CallX false F_laws_dice_below [P i 0, I n] H K := by
  refine call1 hb NN_SC ?_
  have e : ([P i 0, I n] : List Value).map (ren [i]) = [P 0 0, I n] := by simp [ren, ren1, nm]
  rw [e]
  exact below_one ha hl hcd hn fun v a' h' k1 k2 k3 k4 k5 => ⟨.int, HN.cons NN_SC HN.nil, hK v a' h' k1 k2 k3 k4 k5⟩
theorem roll_run {z : Int} (hl : code.length ≤ 1048576) (hcd : ∀ i, nl code i < 256) : CallX false F_laws_roll [Fz code.length 1 (code.map N8), U64 z] [] fun v H1 => ∃ j h, v = P j 0 ∧ blk H1 j = some (SC code 0 h) := by
  refine CallX_body Γ_laws_roll ?_
  simp only [A_laws_roll, T_aiff]
  refine T_rseq fun Kr hKr => ?_
  simp (disch := omega) only [RA, ↓reduceIte, Nat.reduceEqDiff, RD]
  refine hKr _ _ ?_
  clear hKr Kr
  try simp only [RN, reduceIte]
  try refine T_e rfl ?_
  refine T_rseq fun Kr hKr => ?_
  simp (disch := omega) only [RA, ↓reduceIte, Nat.reduceEqDiff, RD, sc_f]
  refine hKr _ _ ?_
  clear hKr Kr
  try simp only [RN, reduceIte]
  try refine T_e rfl ?_
  refine T_rseq fun Kr hKr => ?_
  simp (disch := omega) only [RA, ↓reduceIte, Nat.reduceEqDiff, RD]
  refine hKr _ _ ?_
  clear hKr Kr
  try simp only [RN, reduceIte]
  try refine T_e rfl ?_
  refine T_wloop (fun d f H' => ∃ i h, i ≤ code.length ∧ d = code.length - i ∧ f 0 = Fz code.length 1 (code.map N8) ∧ f 5 = P 0 0 ∧ f 6 = I i ∧ H' = [some (SC code 0 h)]) (code.length) ?_ ?_
  · refine ⟨_, _, Gh.refl, 0, _, by omega, by omega, ?_, ?_, ?_, rfl⟩
    any_goals (simp (disch := omega) only [RA, ↓reduceIte, Nat.reduceEqDiff, RD, RE, *] <;> rfl)
  · rintro d f H' R ⟨i, h, hi, rfl, g0, g5, g6, rfl⟩ hN hX hR hE
    simp only [A_laws_roll.l0, T_aiff]
    refine T_rseq fun Kr hKr => ?_
    simp (disch := omega) only [RA, ↓reduceIte, Nat.reduceEqDiff, RD, g0, g6]
    refine hKr _ _ ?_
    clear hKr Kr
    try simp only [RN, reduceIte]
    try refine T_e rfl ?_
    refine T_csplit (p := i < code.length) (by simp only [RA, ↓reduceIte, Nat.reduceEqDiff] <;> rfl) (by (try simp only [RB]) <;> first | done | exact Iff.rfl | omega | simp) (fun hc => ?_) (fun hc => ?_) <;> (try simp only [RN, reduceIte]) <;> (try refine T_e rfl ?_)
    · have hcc := hcd i
      first | refine T_bfree rfl ?_ | refine T_bfree' rfl ?_
      try simp only [RN, reduceIte]
      try refine T_e rfl ?_
      refine T_rseq fun Kr hKr => ?_
      simp (disch := omega) only [RA, ↓reduceIte, Nat.reduceEqDiff, RD, g0, g5, g6, sc_2, sc_s2]
      refine hKr _ _ ?_
      clear hKr Kr
      try simp only [RN, reduceIte]
      try refine T_e rfl ?_
      refine T_reg_k fun Kr hKr => ?_
      simp (disch := omega) only [RA, ↓reduceIte, Nat.reduceEqDiff, RD, g6]
      refine hKr _ _ ?_
      clear hKr Kr
      refine hN (code.length - (i + 1)) _ _ _ _ (by omega) Gh.refl ⟨i + 1, _, by omega, rfl, ?_, ?_, ?_, rfl⟩
      any_goals (simp (disch := omega) only [RA, ↓reduceIte, Nat.reduceEqDiff, RD, RE, *] <;> rfl)
    · refine hX _ _ ?_
      refine T_rseq fun Kr hKr => ?_
      simp (disch := omega) only [RA, ↓reduceIte, Nat.reduceEqDiff, RD, g5]
      refine hKr _ _ ?_
      clear hKr Kr
      try simp only [RN, reduceIte]
      try refine T_e rfl ?_
      refine bodyQ_ret (by simp (disch := omega) only [RA, ↓reduceIte, Nat.reduceEqDiff, RD, resAll, resOf]; rfl) GhV.refl ?_
      simp only [tup]
      exact ⟨0, h, rfl, rfl⟩
theorem roll_spec {x : Bool} {z : Int} {K : Value → BH → Prop} (hl : code.length ≤ 1048576) (hcd : ∀ i, nl code i < 256) (hK : ∀ h, K (P H.length 0) (H ++ [some (SC code 0 h)])) :
    CallX x F_laws_roll [Fz code.length 1 (code.map N8), U64 z] H K :=
  callR2 (.cons .fz (.cons .int .nil)) ((roll_run hl hcd).mono fun v H1 ⟨j, h, h1, h2⟩ => ⟨j, _, _, fun ρ ρ' Z u hr hv => by
    rw [h1] at hv
    obtain ⟨b, hb, rfl⟩ := hv.ptr_inv
    exact .ptr (by rw [hr]; exact hb), h2, NN_SC, hK h⟩)
end
end Go.Bm

/- Draws of polynomials: only that they are short and their numbers are numbers. -/
set_option linter.unusedVariables false
set_option linter.unusedSimpArgs false
set_option linter.unusedSectionVars false
namespace Go.Bm
open Go Go.Am
/-- A call of the small machine that gives a new slice, which is only read from now on. -/
theorem lift_1 {x : Bool} {g : Nat} {vals : List Value} {H : BH} {K : Value → BH → Prop} {xs : List Int} (h : ∀ ρ Z as HA, VL ρ Z vals as → Rel ρ Z H HA → Am.CallT g as HA fun v' HA' => Ext HA HA' ∧ OwnI HA.n HA'.n HA' v' xs) (hK : K (FI xs) H) : CallX x g vals H K := by
  intro ρ Z as HA h1 h2
  obtain ⟨v', HA', hc, he, ho⟩ := h ρ Z as HA h1 h2
  obtain ⟨Z', hv, hr, hf⟩ := own_fz h2 he ho
  exact ⟨_, HA', hc, fun _ => he, ρ, Z', _, H, hv, hr, Nat.le_refl _, fun _ _ => rfl, hf, hK⟩
section
variable {x : Bool} {H : BH} {K : Value → BH → Prop} {xs ys : List Int}
theorem l06Is_L (hl : xs.length < 2 ^ 62) (hK : K (.bool (decide (Poly xs))) H) : CallX x F_spec_l06Is [FI xs] H K := by
  refine lift_P (fun _ => .plain rfl) (fun ρ Z as HA hv hr => ?_) hK
  obtain ⟨u, rfl, e0⟩ := vl1 hv
  exact Am.l06Is_spec (isI_of hr e0) hl ⟨ext_refl, rfl⟩
theorem l06Trim_L (hl : xs.length < 100000) (hK0 : trim xs = [] → K (.slice none 0 0) H) (hK : ∀ m, K (S H.length 0 (trim xs).length 1) (H ++ [some ((trim xs).map I ++ List.replicate m .nilIface)])) : CallX x F_spec_l06Trim [FI xs] H K := by
  refine lift_O (fun ρ Z as HA hv hr => ?_) hK0 hK
  obtain ⟨u, rfl, e0⟩ := vl1 hv
  exact Am.l06Trim_spec (isI_of hr e0) hl fun v' HA' he ho => ⟨he, ho⟩
theorem l06Times_L (hf : Fit xs) (hl : xs.length < 1000) (hg : Fit ys) (hm : ys.length < 1000) (hK : K (FI (ptimes xs ys)) H) : CallX x F_spec_l06Times [FI xs, FI ys] H K := by
  refine lift_1 (fun ρ Z as HA hv hr => ?_) hK
  obtain ⟨u, v, rfl, e0, e1⟩ := vl2 hv
  exact Am.l06Times_spec (isI_of hr e0) hf hl (isI_of hr e1) hg hm fun v' HA' he ho => ⟨he, ho⟩
theorem l06Monomial_L {k : Int} {n : Nat} (hn : n < 1000) (hK : K (FI (monom k n)) H) : CallX x F_spec_l06Monomial [I k, I n] H K := by
  refine lift_1 (fun ρ Z as HA hv hr => ?_) hK
  obtain ⟨u, v, rfl, e0, e1⟩ := vl2 hv
  obtain rfl := vr_I e0
  obtain rfl := vr_I e1
  exact Am.l06Monomial_spec hn fun v' HA' he ho => ⟨he, ho⟩
theorem l06Chain_L {n : Nat} (hn : n + 1 ≤ 16) (hK : K (FI (chain n).2) H) : CallX x F_spec_l06Chain [I ((n + 1 : Nat) : Int)] H K := by
  refine lift_1 (fun ρ Z as HA hv hr => ?_) hK
  obtain ⟨u, rfl, e0⟩ := vl1 hv
  obtain rfl := vr_I e0
  exact Am.l06Chain_spec hn fun v' HA' he ho => ⟨he, ho⟩
theorem l06Fork_L {m n : Nat} (hm : 1 ≤ m) (hn : 1 ≤ n) (hmn : m + n ≤ 16) (hK : K (FI (fork m n)) H) : CallX x F_spec_l06Fork [I m, I n] H K := by
  refine lift_1 (fun ρ Z as HA hv hr => ?_) hK
  obtain ⟨u, v, rfl, e0, e1⟩ := vl2 hv
  obtain rfl := vr_I e0
  obtain rfl := vr_I e1
  exact Am.l06Fork_spec hm hn hmn fun v' HA' he ho => ⟨he, ho⟩
theorem l06Compose_L (hf : Poly xs) (hg : Poly ys) (hK : K (FI (comp xs ys)) H) : CallX x F_spec_l06Compose [FI xs, FI ys] H K := by
  refine lift_1 (fun ρ Z as HA hv hr => ?_) hK
  obtain ⟨u, v, rfl, e0, e1⟩ := vl2 hv
  exact Am.l06Compose_spec (isI_of hr e0) hf (isI_of hr e1) hg fun v' HA' he ho => ⟨he, ho⟩
end
section
variable {code : List Nat} {a : Nat} {h : Int} {H : BH}
theorem l06DrawValue_one {K : Value → BH → Prop} (ha : a ≤ code.length) (hl : code.length ≤ 1048576) (hcd : ∀ i, nl code i < 256)
    (hK : ∀ v a' h', a' ≤ code.length → 0 ≤ v → v ≤ 10007 → K (I v) [some (SC code a' h')]) : CallX false F_spec_l06DrawValue [P 0 0] [some (SC code a h)] K := by
  refine CallX_body Γ_spec_l06DrawValue ?_
  simp only [A_spec_l06DrawValue, T_aiff]
  refine T_rseq fun Kr hKr => ?_
  simp (disch := omega) only [RA, ↓reduceIte, Nat.reduceEqDiff, RD]
  refine hKr _ _ ?_
  clear hKr Kr
  try simp only [RN, reduceIte]
  try refine T_e rfl ?_
  refine T_rseq fun Kr hKr => ?_
  simp (disch := omega) only [RA, ↓reduceIte, Nat.reduceEqDiff, Nat.reduceBEq, Nat.reduceSub, Nat.reduceAdd, Nat.reduceMul, Nat.reduceLT, Nat.reduceLeDiff, Int.reduceLE, Int.reduceLT, Int.reduceEq, Int.reduceNeg, Int.reduceToNat, Int.reduceMul, Int.reduceAdd, Int.reduceSub, Int.reduceBEq, Int.reduceBNe, reduceCtorEq, RD]
  refine l01Next_spec (i := 0) rfl ha hl hcd (by omega) fun v a1 h1 k1 k2 k3 k4 k5 => ?_
  have hv := k4 (by omega)
  simp (disch := omega) only [RA, ↓reduceIte, Nat.reduceEqDiff, Nat.reduceBEq, Nat.reduceSub, Nat.reduceAdd, Nat.reduceMul, Nat.reduceLT, Nat.reduceLeDiff, Int.reduceLE, Int.reduceLT, Int.reduceEq, Int.reduceNeg, Int.reduceToNat, Int.reduceMul, Int.reduceAdd, Int.reduceSub, Int.reduceBEq, Int.reduceBNe, reduceCtorEq, RD]
  refine l01Next_spec (i := 0) rfl k1 hl hcd (by omega) fun w a2 h2 m1 m2 m3 m4 m5 => ?_
  have hw := m4 (by omega)
  simp (disch := omega) only [RA, ↓reduceIte, Nat.reduceEqDiff, Nat.reduceBEq, Nat.reduceSub, Nat.reduceAdd, Nat.reduceMul, Nat.reduceLT, Nat.reduceLeDiff, Int.reduceLE, Int.reduceLT, Int.reduceEq, Int.reduceNeg, Int.reduceToNat, Int.reduceMul, Int.reduceAdd, Int.reduceSub, Int.reduceBEq, Int.reduceBNe, reduceCtorEq, RD]
  refine callFz 1 rfl (by simp only [RH]) ?_
  simp only [RZ, frz_all ]
  refine l01Pick_spec (xs := [0, 0, 1, 1, 10006, v, w]) (i := 0) rfl m1 hl hcd (by simp) (by simp) fun j a3 h3 hj hA => ?_
  have hm := el_mem hj
  generalize el [0, 0, 1, 1, 10006, v, w] j = y at hm ⊢
  have hy : 0 ≤ y ∧ y ≤ 10007 := by simp at hm; omega
  simp (disch := omega) only [RA, ↓reduceIte, Nat.reduceEqDiff, Nat.reduceBEq, Nat.reduceSub, Nat.reduceAdd, Nat.reduceMul, Nat.reduceLT, Nat.reduceLeDiff, Int.reduceLE, Int.reduceLT, Int.reduceEq, Int.reduceNeg, Int.reduceToNat, Int.reduceMul, Int.reduceAdd, Int.reduceSub, Int.reduceBEq, Int.reduceBNe, reduceCtorEq, RD]
  refine hKr _ _ ?_
  clear hKr Kr
  try simp only [blkQ, thenQ, loopQ]
  try simp only [RN, reduceIte]
  try refine T_e rfl ?_
  refine bodyQ_ret (by simp (disch := omega) only [RA, ↓reduceIte, Nat.reduceEqDiff, RD, resAll, resOf, hl]; rfl) (GhV.nrm [0] rfl rfl (by simp only [RH, NNL_SC]) (by simp only [tup, RH])) ?_
  simp only [tup]
  exact hK y _ _ hA hy.1 hy.2
end
end Go.Bm

