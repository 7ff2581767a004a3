/- Sp5, Sp6, Sp7, Sp8, Sp9, SpA -/
import Derived.KernelRfl
import Derived.Test.YteklchkdgpoedaaDpG1
/- Sums of polynomials. -/
set_option linter.unusedVariables false
set_option linter.unusedSimpArgs false
namespace Go.Am
open Go

def padd (xs ys : List Int) (k : Int) : List Int := trim (gen (max xs.length ys.length) fun i => md (el xs i + k * el ys i))
theorem padd_len (xs ys : List Int) (k : Int) : (padd xs ys k).length ≤ max xs.length ys.length := by
  have := trim_le (gen (max xs.length ys.length) fun i => md (el xs i + k * el ys i))
  rwa [gen_len] at this
theorem Fit.el {xs : List Int} (h : Fit xs) (i : Nat) : 0 ≤ el xs i ∧ el xs i ≤ 10007 := by
  by_cases hi : i < xs.length
  · exact h i hi
  · rw [el_out (by omega)]; omega

theorem l06Add_spec {H : AHeap} {v u : Value} {xs ys : List Int} {q : Int} {K : Value → AHeap → Prop} (hx : IsI H v xs) (hfx : Fit xs) (hlx : xs.length < 1000) (hy : IsI H u ys) (hfy : Fit ys) (hly : ys.length < 1000)
    (hq1 : -20000 ≤ q) (hq2 : q ≤ 20000) (hK : ∀ v' H', Ext H H' → OwnI H.n H'.n H' v' (padd xs ys q) → K v' H') : CallT F_spec_l06Add [v, u, I q] H K := by
  obtain ⟨a, e, rfl⟩ := hx.len
  obtain ⟨a', e', rfl⟩ := hy.len
  refine CallT_body Γ_spec_l06Add ?_; simp only [A_spec_l06Add, T_aiff]
  refine T_rseq fun Kr hKr => ?_; simp (disch := omega) only [RF, RO, RC, tup, ↓reduceIte, Nat.reduceEqDiff, RD]; refine hKr _ _ ?_; clear hKr Kr; try simp only [RN, Bool.false_eq_true, reduceIte]
  refine T_rseq fun Kr hKr => ?_; simp (disch := omega) only [RF, RO, RC, tup, ↓reduceIte, Nat.reduceEqDiff, RD]; refine hKr _ _ ?_; clear hKr Kr; try simp only [RN, Bool.false_eq_true, reduceIte]
  refine T_rseq fun Kr hKr => ?_; simp (disch := omega) only [RF, RO, RC, tup, ↓reduceIte, Nat.reduceEqDiff, RD]; refine hKr _ _ ?_; clear hKr Kr; try simp only [RN, Bool.false_eq_true, reduceIte]
  refine T_wloop (fun n f H' => ∃ k lo hi w, k ≤ max xs.length ys.length ∧ n = max xs.length ys.length - k ∧ Ext H H' ∧ H.n ≤ lo ∧ hi ≤ H'.n ∧ f 0 = .slice a xs.length e ∧ f 1 = .slice a' ys.length e' ∧ f 2 = I q ∧ f 7 = w ∧ f 8 = I k ∧ OwnI lo hi H' w (gen k fun i => md (el xs i + q * el ys i))) (max xs.length ys.length) ?_ ?_
  · exact ⟨0, H.n, H.n + 1, S H.n 0 0 1, by omega, by omega, Ext.alloc _ _, Nat.le_refl _, Nat.le_refl _, by simp [RF], by simp [RF], by simp [RF], by simp [RF], by simp [RF], own_empty H⟩
  · rintro n f H' R ⟨k, lo, hi, w, hk, rfl, he, hlo, hhi, h0, h1, h2, h7, h8, ho⟩ hN hX hR
    simp only [A_spec_l06Add.l0, T_aiff]
    have hfin : ∀ f' : Fr, f' 0 = .slice a xs.length e → f' 1 = .slice a' ys.length e' → f' 2 = I q → f' 7 = w → f' 8 = I k → f' 9 = I (el xs k + q * el ys k) → k < max xs.length ys.length → T (ACode.seq A_spec_l06Add.r10 A_spec_l06Add.r4) R f' H' := by
      intro f' h0 h1 h2 h7 h8 h9 hkm
      have b1 := hfx.el k
      have b2 := hfy.el k
      have hm := mulb' (a := q) (b := el ys k) (by omega) (by omega) b2.1 (by omega)
      obtain ⟨v', H2, ha, ho2, hout⟩ := append1 (md (el xs k + q * el ys k)) ho (by rw [gen_len]; omega)
      refine T_rseq fun Kr hKr => ?_; simp (disch := omega) only [RF, RO, RC, tup, ↓reduceIte, Nat.reduceEqDiff, RD, h7, h9]
      refine l06Mod_spec (by omega) (by omega) ?_
      simp (disch := omega) only [RF, RO, RC, tup, ↓reduceIte, Nat.reduceEqDiff, RD, ha]
      refine hKr _ _ ?_; clear hKr Kr; (try simp only [blkQ, thenQ, loopQ]); try simp only [RN, Bool.false_eq_true, reduceIte]
      refine T_reg_k fun Kr hKr => ?_; simp (disch := omega) only [RF, RO, RC, tup, ↓reduceIte, Nat.reduceEqDiff, RD, h8]; refine hKr _ _ ?_; clear hKr Kr
      refine hN (max xs.length ys.length - (k + 1)) _ _ (by omega) ⟨k + 1, _, _, v', by omega, rfl, he.out hout hlo, Nat.le_trans he.n (Nat.le_refl _), Nat.le_refl _, by simp [RF, h0], by simp [RF, h1], by simp [RF, h2], by simp [RF], by simp [RF], ?_⟩
      rw [gen_succ]
      exact ho2
    have hmid : ∀ f' : Fr, f' 0 = .slice a xs.length e → f' 1 = .slice a' ys.length e' → f' 2 = I q → f' 7 = w → f' 8 = I k → f' 9 = I (el xs k) → k < max xs.length ys.length →
        T (ACode.seq A_spec_l06Add.r8 (.seq (.cond (.t 34) A_spec_l06Add.r9 .skip) (.seq A_spec_l06Add.r10 A_spec_l06Add.r4))) R f' H' := by
      intro f' h0 h1 h2 h7 h8 h9 hkm
      refine T_rseq fun Kr hKr => ?_; simp (disch := omega) only [RF, RO, RC, tup, ↓reduceIte, Nat.reduceEqDiff, RD, h1, h8]; refine hKr _ _ ?_; clear hKr Kr; try simp only [RN, Bool.false_eq_true, reduceIte]
      by_cases hly' : k < ys.length
      · refine T_cseq (t := true) (by simp (disch := omega) only [RF, RO, RC, tup, ↓reduceIte, Nat.reduceEqDiff, decT, decF]) ?_; try simp only [RN, Bool.false_eq_true, reduceIte]
        obtain ⟨b, o, blk, heq, hb, hg, hlen, hel⟩ := (hy.ext he).pos (by omega)
        cases heq
        have b1 := hfx.el k
        have b2 := hfy.el k
        have hm := mulb' (a := q) (b := el ys k) (by omega) (by omega) b2.1 (by omega)
        refine T_rseq fun Kr hKr => ?_; simp (disch := omega) only [RF, RO, RC, tup, ↓reduceIte, Nat.reduceEqDiff, RD, h1, h2, h8, h9, hly', hg, hel]; refine hKr _ _ ?_; clear hKr Kr; try simp only [RN, Bool.false_eq_true, reduceIte]
        exact hfin _ (by simp [RF, h0]) (by simp [RF, h1]) (by simp [RF, h2]) (by simp [RF, h7]) (by simp [RF, h8]) (by simp [RF]) hkm
      · refine T_cseq (t := false) (by simp (disch := omega) only [RF, RO, RC, tup, ↓reduceIte, Nat.reduceEqDiff, decT, decF]) ?_; try simp only [RN, Bool.false_eq_true, reduceIte]
        exact hfin _ (by simp [RF, h0]) (by simp [RF, h1]) (by simp [RF, h2]) (by simp [RF, h7]) (by simp [RF, h8]) (by simp [RF, h9, el_out (show ys.length ≤ k by omega)]) hkm
    have htop : k < max xs.length ys.length → ∀ f' : Fr, f' 0 = .slice a xs.length e → f' 1 = .slice a' ys.length e' → f' 2 = I q → f' 7 = w → f' 8 = I k → f' 20 = .bool true →
        T (ACode.seq (.cond (.t 20) .skip (.exit 0)) (.seq (.block 1 (.seq A_spec_l06Add.r5 (.seq (.seq A_spec_l06Add.r6 (.cond (.t 26) A_spec_l06Add.r7 .skip)) (.seq (.seq A_spec_l06Add.r8 (.cond (.t 34) A_spec_l06Add.r9 .skip)) A_spec_l06Add.r10)))) A_spec_l06Add.r4)) R f' H' := by
      intro hkm f' h0 h1 h2 h7 h8 h20
      refine T_cseq (t := true) (by simp (disch := omega) only [RF, RO, RC, tup, ↓reduceIte, Nat.reduceEqDiff, decT, decF, h20]) ?_; try simp only [RN, Bool.false_eq_true, reduceIte]
      (first | refine T_bfree rfl ?_ | refine T_bfree' rfl ?_); try simp only [RN, Bool.false_eq_true, reduceIte]
      refine T_rseq fun Kr hKr => ?_; simp (disch := omega) only [RF, RO, RC, tup, ↓reduceIte, Nat.reduceEqDiff, RD]; refine hKr _ _ ?_; clear hKr Kr; try simp only [RN, Bool.false_eq_true, reduceIte]
      refine T_rseq fun Kr hKr => ?_; simp (disch := omega) only [RF, RO, RC, tup, ↓reduceIte, Nat.reduceEqDiff, RD, h0, h8]; refine hKr _ _ ?_; clear hKr Kr; try simp only [RN, Bool.false_eq_true, reduceIte]
      by_cases hlx' : k < xs.length
      · refine T_cseq (t := true) (by simp (disch := omega) only [RF, RO, RC, tup, ↓reduceIte, Nat.reduceEqDiff, decT, decF]) ?_; try simp only [RN, Bool.false_eq_true, reduceIte]
        obtain ⟨b, o, blk, heq, hb, hg, hlen, hel⟩ := (hx.ext he).pos (by omega)
        cases heq
        refine T_rseq fun Kr hKr => ?_; simp (disch := omega) only [RF, RO, RC, tup, ↓reduceIte, Nat.reduceEqDiff, RD, h0, h8, hlx', hg, hel]; refine hKr _ _ ?_; clear hKr Kr; try simp only [RN, Bool.false_eq_true, reduceIte]
        exact hmid _ (by simp [RF, h0]) (by simp [RF, h1]) (by simp [RF, h2]) (by simp [RF, h7]) (by simp [RF, h8]) (by simp [RF]) hkm
      · refine T_cseq (t := false) (by simp (disch := omega) only [RF, RO, RC, tup, ↓reduceIte, Nat.reduceEqDiff, decT, decF]) ?_; try simp only [RN, Bool.false_eq_true, reduceIte]
        exact hmid _ (by simp [RF, h0]) (by simp [RF, h1]) (by simp [RF, h2]) (by simp [RF, h7]) (by simp [RF, h8]) (by simp [RF, el_out (show xs.length ≤ k by omega)]) hkm
    by_cases hlx' : k < xs.length
    · refine T_rseq fun Kr hKr => ?_; simp (disch := omega) only [RF, RO, RC, tup, ↓reduceIte, Nat.reduceEqDiff, RD, h0, h1, h8]
      refine hKr _ _ (htop (by omega) _ (by simp [RF, h0]) (by simp [RF, h1]) (by simp [RF, h2]) (by simp [RF, h7]) (by simp [RF, h8]) (by simp [RF]))
    · by_cases hly' : k < ys.length
      · refine T_rseq fun Kr hKr => ?_; simp (disch := omega) only [RF, RO, RC, tup, ↓reduceIte, Nat.reduceEqDiff, RD, h0, h1, h8]
        refine hKr _ _ (htop (by omega) _ (by simp [RF, h0]) (by simp [RF, h1]) (by simp [RF, h2]) (by simp [RF, h7]) (by simp [RF, h8]) (by simp [RF]))
      · refine T_rseq fun Kr hKr => ?_; simp (disch := omega) only [RF, RO, RC, tup, ↓reduceIte, Nat.reduceEqDiff, reduceCtorEq, RD, h0, h1, h8]; refine hKr _ _ ?_; clear hKr Kr; try simp only [RN, Bool.false_eq_true, reduceIte]
        refine T_cseq (t := false) (by simp (disch := omega) only [RF, RO, RC, tup, ↓reduceIte, Nat.reduceEqDiff, decT, decF]) ?_; try simp only [RN, Bool.false_eq_true, reduceIte]
        refine hX _ _ ?_
        have hkk : k = max xs.length ys.length := by omega
        subst hkk
        refine T_rseq fun Kr hKr => ?_; simp (disch := omega) only [RF, RO, RC, tup, ↓reduceIte, Nat.reduceEqDiff, RD, h7]
        refine l06Trim_spec ho.is (by rw [gen_len]; omega) fun v' H2 he2 ho2 => ?_
        simp (disch := omega) only [RF, RO, RC, tup, ↓reduceIte, Nat.reduceEqDiff, RD]
        refine hKr _ _ ?_; clear hKr Kr; (try simp only [blkQ, thenQ, loopQ]); try simp only [RN, Bool.false_eq_true, reduceIte]
        refine ⟨_, rfl, ?_⟩; simp only [RF, ev_t, ev_c, tup, ↓reduceIte, Nat.reduceEqDiff]
        exact hK _ _ (he.trans' he2) (ho2.weak he.n (Nat.le_refl _))
end Go.Am

/- Sums of polynomials, the program's own; the law's two functions. -/
set_option linter.unusedVariables false
set_option linter.unusedSimpArgs false
namespace Go.Am
open Go

theorem el_make (n i : Nat) : el (List.replicate n 0) i = 0 := by
  by_cases h : i < n
  · simp [el, List.getD, h]
  · rw [el_out (by simp; omega)]
theorem gen_ext {n : Nat} {g : Nat → Int} {xs : List Int} (hl : xs.length = n) (h : ∀ i, i < n → el xs i = g i) : xs = gen n g :=
  el_ext (by rw [hl, gen_len]) fun i hi => by rw [h i (by omega), el_gen (by omega)]

theorem addAll_spec {H : AHeap} {v u : Value} {xs ys : List Int} {K : Value → AHeap → Prop} (hx : IsI H v xs) (hfx : Fit xs) (hlx : xs.length < 1000) (hy : IsI H u ys) (hfy : Fit ys) (hly : ys.length < 1000)
    (hK : ∀ v' H', Ext H H' → OwnI H.n H'.n H' v' (padd xs ys 1) → K v' H') : CallT F_impl_addAll [v, u] H K := by
  obtain ⟨a, e, rfl⟩ := hx.len
  obtain ⟨a', e', rfl⟩ := hy.len
  have hmax : (if xs.length < ys.length then (ys.length : Int) else (xs.length : Int)) = ((max xs.length ys.length : Nat) : Int) := by split <;> omega
  generalize hM : max xs.length ys.length = M at hmax
  refine CallT_body Γ_impl_addAll ?_; simp only [A_impl_addAll, T_aiff]
  refine T_rseq fun Kr hKr => ?_; simp (disch := omega) only [RF, RO, RC, tup, ↓reduceIte, Nat.reduceEqDiff, RD]; refine hKr _ _ ?_; clear hKr Kr; try simp only [RN, Bool.false_eq_true, reduceIte]
  refine T_rseq fun Kr hKr => ?_; simp (disch := omega) only [RF, RO, RC, tup, ↓reduceIte, Nat.reduceEqDiff, RD, hmax]; refine hKr _ _ ?_; clear hKr Kr; try simp only [RN, Bool.false_eq_true, reduceIte]
  refine T_rseq fun Kr hKr => ?_; simp (disch := omega) only [RF, RO, RC, tup, ↓reduceIte, Nat.reduceEqDiff, RD]; refine hKr _ _ ?_; clear hKr Kr; try simp only [RN, Bool.false_eq_true, reduceIte]
  refine T_wloop (fun n f H' => ∃ k zs, k ≤ M ∧ n = M - k ∧ Ext H H' ∧ H'.n = H.n + 1 ∧ f 0 = .slice a xs.length e ∧ f 1 = .slice a' ys.length e' ∧ f 5 = S H.n 0 M 1 ∧ f 14 = I M ∧ f 15 = I k ∧ OwnI H.n (H.n + 1) H' (S H.n 0 M 1) zs ∧ zs.length = M ∧ (∀ i, i < k → el zs i = md (el xs i + 1 * el ys i)) ∧ (∀ i, k ≤ i → el zs i = 0)) (M) ?_ ?_
  · exact ⟨0, _, by omega, by omega, Ext.alloc _ _, rfl, by simp [RF], by simp [RF], by simp [RF], by simp [RF], by simp [RF], own_make H M, by simp, by simp, fun i _ => el_make _ _⟩
  · rintro n f H' R ⟨k, zs, hk, rfl, he, hn, h0, h1, h5, h14, h15, ho, hz, hz1, hz2⟩ hN hX hR
    simp only [A_impl_addAll.l0, T_aiff]
    by_cases hlt : k < M
    · have b1 := hfx.el k
      have b2 := hfy.el k
      have hfin : ∀ (f' : Fr) (H2 : AHeap) (ws : List Int), Ext H H2 → H2.n = H.n + 1 → f' 0 = .slice a xs.length e → f' 1 = .slice a' ys.length e' → f' 5 = S H.n 0 M 1 → f' 14 = I M → f' 15 = I k → f' 6 = I k → OwnI H.n (H.n + 1) H2 (S H.n 0 M 1) ws → ws.length = M →
          (∀ i, i ≠ k → el ws i = el zs i) → el ws k = el xs k + el ys k → T (ACode.seq A_impl_addAll.r9 A_impl_addAll.r10) R f' H2 := by
        intro f' H2 ws he2 hn2 h0 h1 h5 h14 h15 h6 ho2 hw hw1 hw2
        obtain ⟨b', rest, heq, hb1, hb2, hb3, hg'⟩ := ho2.pos (by omega)
        rw [hw] at heq
        cases heq
        refine T_rseq fun Kr hKr => ?_; simp (disch := omega) only [RF, RO, RC, tup, ↓reduceIte, Nat.reduceEqDiff, RD, h5, h6, hg', hw2, ifz, tmodm]; refine hKr _ _ ?_; clear hKr Kr; try simp only [RN, Bool.false_eq_true, reduceIte]
        refine T_reg_k fun Kr hKr => ?_; simp (disch := omega) only [RF, RO, RC, tup, ↓reduceIte, Nat.reduceEqDiff, RD, h15]; refine hKr _ _ ?_; clear hKr Kr
        refine hN (M - (k + 1)) _ _ (by omega) ⟨k + 1, ws.set k (md (el xs k + el ys k)), by omega, rfl, he2.set (Nat.le_refl _) _, hn2, by simp [RF, h0], by simp [RF, h1], by simp [RF, h5], by simp [RF, h14], by simp [RF], .inr ⟨_, rest, by rw [List.length_set, hw], hb1, hb2, hb3, by rw [List.map_set, get_set_same]⟩, by simpa using hw, fun i hi => ?_, fun i hi => ?_⟩
        · by_cases h : i = k
          · subst h; rw [el_set_same (by omega), Int.one_mul]
          · rw [el_set_ne (by omega), hw1 i h]; exact hz1 i (by omega)
        · rw [el_set_ne (by omega), hw1 i (by omega)]; exact hz2 i (by omega)
      have hmid : ∀ (f' : Fr) (H2 : AHeap) (ws : List Int), Ext H H2 → H2.n = H.n + 1 → f' 0 = .slice a xs.length e → f' 1 = .slice a' ys.length e' → f' 5 = S H.n 0 M 1 → f' 14 = I M → f' 15 = I k → f' 6 = I k → OwnI H.n (H.n + 1) H2 (S H.n 0 M 1) ws → ws.length = M →
          (∀ i, i ≠ k → el ws i = el zs i) → el ws k = el xs k → T (ACode.seq A_impl_addAll.r7 (.seq (.cond (.t 35) A_impl_addAll.r8 .skip) (.seq A_impl_addAll.r9 A_impl_addAll.r10))) R f' H2 := by
        intro f' H2 ws he2 hn2 h0 h1 h5 h14 h15 h6 ho2 hw hw1 hw2
        refine T_rseq fun Kr hKr => ?_; simp (disch := omega) only [RF, RO, RC, tup, ↓reduceIte, Nat.reduceEqDiff, RD, h1, h6]; refine hKr _ _ ?_; clear hKr Kr; try simp only [RN, Bool.false_eq_true, reduceIte]
        by_cases hly' : k < ys.length
        · refine T_cseq (t := true) (by simp (disch := omega) only [RF, RO, RC, tup, ↓reduceIte, Nat.reduceEqDiff, decT, decF]) ?_; try simp only [RN, Bool.false_eq_true, reduceIte]
          obtain ⟨b, o, blk, heq, hb, hg, hlen, hel⟩ := (hy.ext he2).pos (by omega)
          cases heq
          obtain ⟨b', rest, heq, hb1, hb2, hb3, hg'⟩ := ho2.pos (by omega)
          rw [hw] at heq
          cases heq
          refine T_rseq fun Kr hKr => ?_; simp (disch := omega) only [RF, RO, RC, tup, ↓reduceIte, Nat.reduceEqDiff, RD, h1, h5, h6, hg, hel, hg', hw2]; refine hKr _ _ ?_; clear hKr Kr; try simp only [RN, Bool.false_eq_true, reduceIte]
          refine hfin _ _ (ws.set k (el xs k + el ys k)) (he2.set (Nat.le_refl _) _) hn2 (by simp [RF, h0]) (by simp [RF, h1]) (by simp [RF, h5]) (by simp [RF, h14]) (by simp [RF, h15]) (by simp [RF, h6]) (.inr ⟨_, rest, by rw [List.length_set, hw], hb1, hb2, hb3, by rw [List.map_set, get_set_same]⟩) (by simpa using hw) (fun i hi => ?_) (el_set_same (by omega))
          rw [el_set_ne (by omega)]; exact hw1 i hi
        · refine T_cseq (t := false) (by simp (disch := omega) only [RF, RO, RC, tup, ↓reduceIte, Nat.reduceEqDiff, decT, decF]) ?_; try simp only [RN, Bool.false_eq_true, reduceIte]
          refine hfin _ _ ws he2 hn2 (by simp [RF, h0]) (by simp [RF, h1]) (by simp [RF, h5]) (by simp [RF, h14]) (by simp [RF, h15]) (by simp [RF, h6]) ho2 hw hw1 ?_
          rw [hw2, el_out (show ys.length ≤ k by omega), Int.add_zero]
      refine T_rseq fun Kr hKr => ?_; simp (disch := omega) only [RF, RO, RC, tup, ↓reduceIte, Nat.reduceEqDiff, RD, h14, h15]; refine hKr _ _ ?_; clear hKr Kr; try simp only [RN, Bool.false_eq_true, reduceIte]
      refine T_cseq (t := true) (by simp (disch := omega) only [RF, RO, RC, tup, ↓reduceIte, Nat.reduceEqDiff, decT, decF]) ?_; try simp only [RN, Bool.false_eq_true, reduceIte]
      (first | refine T_bfree rfl ?_ | refine T_bfree' rfl ?_); try simp only [RN, Bool.false_eq_true, reduceIte]
      refine T_rseq fun Kr hKr => ?_; simp (disch := omega) only [RF, RO, RC, tup, ↓reduceIte, Nat.reduceEqDiff, RD, h15]; refine hKr _ _ ?_; clear hKr Kr; try simp only [RN, Bool.false_eq_true, reduceIte]
      refine T_rseq fun Kr hKr => ?_; simp (disch := omega) only [RF, RO, RC, tup, ↓reduceIte, Nat.reduceEqDiff, RD, h0]; refine hKr _ _ ?_; clear hKr Kr; try simp only [RN, Bool.false_eq_true, reduceIte]
      by_cases hlx' : k < xs.length
      · refine T_cseq (t := true) (by simp (disch := omega) only [RF, RO, RC, tup, ↓reduceIte, Nat.reduceEqDiff, decT, decF]) ?_; try simp only [RN, Bool.false_eq_true, reduceIte]
        obtain ⟨b, o, blk, heq, hb, hg, hlen, hel⟩ := (hx.ext he).pos (by omega)
        cases heq
        obtain ⟨b', rest, heq, hb1, hb2, hb3, hg'⟩ := ho.pos (by omega)
        rw [hz] at heq
        cases heq
        have hzk := hz2 k (Nat.le_refl _)
        refine T_rseq fun Kr hKr => ?_; simp (disch := omega) only [RF, RO, RC, tup, ↓reduceIte, Nat.reduceEqDiff, RD, h0, h5, hg, hel, hg', hzk, Int.zero_add]; refine hKr _ _ ?_; clear hKr Kr; try simp only [RN, Bool.false_eq_true, reduceIte]
        refine hmid _ _ (zs.set k (el xs k)) (he.set (Nat.le_refl _) _) hn (by simp [RF, h0]) (by simp [RF, h1]) (by simp [RF, h5]) (by simp [RF, h14]) (by simp [RF, h15]) (by simp [RF]) (.inr ⟨_, rest, by rw [List.length_set, hz], hb1, hb2, hb3, by rw [List.map_set, get_set_same]⟩) (by simpa using hz) (fun i hi => el_set_ne (by omega)) (el_set_same (by omega))
      · refine T_cseq (t := false) (by simp (disch := omega) only [RF, RO, RC, tup, ↓reduceIte, Nat.reduceEqDiff, decT, decF]) ?_; try simp only [RN, Bool.false_eq_true, reduceIte]
        refine hmid _ _ zs he hn (by simp [RF, h0]) (by simp [RF, h1]) (by simp [RF, h5]) (by simp [RF, h14]) (by simp [RF, h15]) (by simp [RF]) ho hz (fun i hi => rfl) ?_
        rw [hz2 k (Nat.le_refl _), el_out (show xs.length ≤ k by omega)]
    · refine T_rseq fun Kr hKr => ?_; simp (disch := omega) only [RF, RO, RC, tup, ↓reduceIte, Nat.reduceEqDiff, RD, h14, h15]; refine hKr _ _ ?_; clear hKr Kr; try simp only [RN, Bool.false_eq_true, reduceIte]
      refine T_cseq (t := false) (by simp (disch := omega) only [RF, RO, RC, tup, ↓reduceIte, Nat.reduceEqDiff, decT, decF]) ?_; try simp only [RN, Bool.false_eq_true, reduceIte]
      refine hX _ _ ?_
      have hkk : k = M := by omega
      subst hkk
      refine T_rseq fun Kr hKr => ?_; simp (disch := omega) only [RF, RO, RC, tup, ↓reduceIte, Nat.reduceEqDiff, RD, h5]
      refine cut_spec ho (by omega) fun v' ho2 => ?_
      simp (disch := omega) only [RF, RO, RC, tup, ↓reduceIte, Nat.reduceEqDiff, RD]
      refine hKr _ _ ?_; clear hKr Kr; (try simp only [blkQ, thenQ, loopQ]); try simp only [RN, Bool.false_eq_true, reduceIte]
      refine ⟨_, rfl, ?_⟩; simp only [RF, ev_t, ev_c, tup, ↓reduceIte, Nat.reduceEqDiff]
      refine hK _ _ he ?_
      rw [hn]
      have : zs = gen k fun i => md (el xs i + 1 * el ys i) := gen_ext hz hz1
      rw [padd, hM, ← this]
      exact ho2

end Go.Am

/- Products of polynomials. -/
set_option linter.unusedVariables false
set_option linter.unusedSimpArgs false
namespace Go.Am
open Go

def cvp (x y : Nat → Int) : Nat → Nat → Int
  | 0, _ => 0
  | i + 1, n => cvp x y i n + (if i ≤ n then x i * y (n - i) else 0)
/-- The coefficients of a product. -/
def cv (x y : Nat → Int) (n : Nat) : Int := cvp x y (n + 1) n
theorem cvp_zero {x y : Nat → Int} {i : Nat} (n : Nat) (h : ∀ j, i ≤ j → x j = 0) : ∀ d, cvp x y (i + d) n = cvp x y i n
  | 0 => rfl
  | d + 1 => by
    show cvp x y (i + d) n + (if i + d ≤ n then x (i + d) * y (n - (i + d)) else 0) = _
    rw [cvp_zero n h d, h (i + d) (by omega)]
    simp
theorem cvp_past {x y : Nat → Int} (n : Nat) : ∀ d, cvp x y (n + 1 + d) n = cvp x y (n + 1) n
  | 0 => rfl
  | d + 1 => by
    show cvp x y (n + 1 + d) n + (if n + 1 + d ≤ n then x (n + 1 + d) * y (n - (n + 1 + d)) else 0) = _
    rw [cvp_past n d, if_neg (by omega)]
    simp
theorem cvp_all {x y : Nat → Int} {L : Nat} (n : Nat) (h : ∀ j, L ≤ j → x j = 0) : cvp x y L n = cv x y n := by
  unfold cv
  rw [← cvp_zero n h (n + 1), ← cvp_past n L]
  congr 1
  omega
def pin (x y : Nat → Int) (i k n : Nat) : Int := cvp x y i n + (if i ≤ n ∧ n < i + k then x i * y (n - i) else 0)
theorem pin_zero (x y : Nat → Int) (i n : Nat) : pin x y i 0 n = cvp x y i n := by
  unfold pin; rw [if_neg (by omega)]; simp
theorem pin_at (x y : Nat → Int) (i k : Nat) : pin x y i k (i + k) = cvp x y i (i + k) := by
  unfold pin; rw [if_neg (by omega)]; simp
theorem pin_new (x y : Nat → Int) (i k : Nat) : pin x y i (k + 1) (i + k) = cvp x y i (i + k) + x i * y k := by
  unfold pin; rw [if_pos (by omega), Nat.add_sub_cancel_left]
theorem pin_other (x y : Nat → Int) {i k n : Nat} (h : n ≠ i + k) : pin x y i (k + 1) n = pin x y i k n := by
  unfold pin
  by_cases h1 : i ≤ n ∧ n < i + k
  · rw [if_pos h1, if_pos (by omega)]
  · rw [if_neg h1, if_neg (by omega)]
theorem pin_end {x y : Nat → Int} {i k : Nat} (n : Nat) (h : ∀ j, k ≤ j → y j = 0) : pin x y i k n = cvp x y (i + 1) n := by
  unfold pin
  show _ = cvp x y i n + _
  by_cases h1 : i ≤ n
  · by_cases h2 : n < i + k
    · rw [if_pos ⟨h1, h2⟩, if_pos h1]
    · rw [if_neg (by omega), if_pos h1, h (n - i) (by omega)]; simp
  · rw [if_neg (by omega), if_neg h1]
theorem md_add (a b : Int) : md (md a + b) = md (a + b) := by unfold md; omega
def ptimes (xs ys : List Int) : List Int := if xs.length = 0 ∨ ys.length = 0 then [] else trim (gen (xs.length + ys.length - 1) fun n => md (cv (el xs) (el ys) n))
theorem ptimes_len (xs ys : List Int) : (ptimes xs ys).length ≤ xs.length + ys.length - 1 := by
  unfold ptimes
  split
  · simp
  · have := trim_le (gen (xs.length + ys.length - 1) fun n => md (cv (el xs) (el ys) n))
    rwa [gen_len] at this

theorem l06Times_spec {H : AHeap} {v u : Value} {xs ys : List Int} {K : Value → AHeap → Prop} (hx : IsI H v xs) (hfx : Fit xs) (hlx : xs.length < 1000) (hy : IsI H u ys) (hfy : Fit ys) (hly : ys.length < 1000)
    (hK : ∀ v' H', Ext H H' → OwnI H.n H'.n H' v' (ptimes xs ys) → K v' H') : CallT F_spec_l06Times [v, u] H K := by
  obtain ⟨a, e, rfl⟩ := hx.len
  obtain ⟨a', e', rfl⟩ := hy.len
  refine CallT_body Γ_spec_l06Times ?_; simp only [A_spec_l06Times, T_aiff]
  refine T_rseq fun Kr hKr => ?_; simp (disch := omega) only [RF, RO, RC, tup, ↓reduceIte, Nat.reduceEqDiff, reduceCtorEq, RD]; refine hKr _ _ ?_; clear hKr Kr; try simp only [RN, Bool.false_eq_true, reduceIte]
  by_cases hx0 : xs.length = 0
  · refine T_rseq fun Kr hKr => ?_; simp (disch := omega) only [RF, RO, RC, tup, ↓reduceIte, Nat.reduceEqDiff, RD, hx0]; refine hKr _ _ ?_; clear hKr Kr; try simp only [RN, Bool.false_eq_true, reduceIte]
    refine T_cseq (t := true) (by simp (disch := omega) only [RF, RO, RC, tup, ↓reduceIte, Nat.reduceEqDiff, decT, decF]) ?_; try simp only [RN, Bool.false_eq_true, reduceIte]
    refine T_rseq fun Kr hKr => ?_; simp (disch := omega) only [RF, RO, RC, tup, ↓reduceIte, Nat.reduceEqDiff, reduceCtorEq, RD]; refine hKr _ _ ?_; clear hKr Kr; try simp only [RN, Bool.false_eq_true, reduceIte]
    refine ⟨_, rfl, ?_⟩; simp only [RF, ev_t, ev_c, tup, ↓reduceIte, Nat.reduceEqDiff]
    exact hK _ _ (Ext.alloc _ _) (by rw [ptimes, if_pos (.inl hx0)]; exact own_empty H)
  by_cases hy0 : ys.length = 0
  · refine T_rseq fun Kr hKr => ?_; simp (disch := omega) only [RF, RO, RC, tup, ↓reduceIte, Nat.reduceEqDiff, RD, hx0, hy0]; refine hKr _ _ ?_; clear hKr Kr; try simp only [RN, Bool.false_eq_true, reduceIte]
    refine T_cseq (t := true) (by simp (disch := omega) only [RF, RO, RC, tup, ↓reduceIte, Nat.reduceEqDiff, decT, decF]) ?_; try simp only [RN, Bool.false_eq_true, reduceIte]
    refine T_rseq fun Kr hKr => ?_; simp (disch := omega) only [RF, RO, RC, tup, ↓reduceIte, Nat.reduceEqDiff, reduceCtorEq, RD]; refine hKr _ _ ?_; clear hKr Kr; try simp only [RN, Bool.false_eq_true, reduceIte]
    refine ⟨_, rfl, ?_⟩; simp only [RF, ev_t, ev_c, tup, ↓reduceIte, Nat.reduceEqDiff]
    exact hK _ _ (Ext.alloc _ _) (by rw [ptimes, if_pos (.inr hy0)]; exact own_empty H)
  generalize hM : xs.length + ys.length - 1 = M
  have hM' : (xs.length : Int) + (ys.length : Int) - 1 = (M : Int) := by omega
  refine T_rseq fun Kr hKr => ?_; simp (disch := omega) only [RF, RO, RC, tup, ↓reduceIte, Nat.reduceEqDiff, reduceCtorEq, RD]; refine hKr _ _ ?_; clear hKr Kr; try simp only [RN, Bool.false_eq_true, reduceIte]
  refine T_cseq (t := false) (by simp (disch := omega) only [RF, RO, RC, tup, ↓reduceIte, Nat.reduceEqDiff, decT, decF]) ?_; try simp only [RN, Bool.false_eq_true, reduceIte]
  refine T_rseq fun Kr hKr => ?_; simp (disch := omega) only [RF, RO, RC, tup, ↓reduceIte, Nat.reduceEqDiff, reduceCtorEq, RD, hM']; refine hKr _ _ ?_; clear hKr Kr; try simp only [RN, Bool.false_eq_true, reduceIte]
  refine T_rseq fun Kr hKr => ?_; simp (disch := omega) only [RF, RO, RC, tup, ↓reduceIte, Nat.reduceEqDiff, reduceCtorEq, RD]; refine hKr _ _ ?_; clear hKr Kr; try simp only [RN, Bool.false_eq_true, reduceIte]
  refine T_wloop (fun n f H' => ∃ i zs, i ≤ xs.length ∧ n = xs.length - i ∧ Ext H H' ∧ H'.n = H.n + 1 ∧ f 0 = .slice a xs.length e ∧ f 1 = .slice a' ys.length e' ∧ f 5 = S H.n 0 M 1 ∧ f 6 = I i ∧ OwnI H.n (H.n + 1) H' (S H.n 0 M 1) zs ∧ zs.length = M ∧ (∀ n, n < M → el zs n = md (cvp (el xs) (el ys) i n))) (xs.length) ?_ ?_
  · exact ⟨0, _, by omega, by omega, Ext.alloc _ _, rfl, by simp [RF], by simp [RF], by simp [RF], by simp [RF], own_make H M, by simp, fun n _ => el_make _ _⟩
  · rintro n f H' R ⟨i, zs, hi, rfl, he, hn, h0, h1, h5, h6, ho, hz, hzn⟩ hN hX hR
    simp only [A_spec_l06Times.l1, T_aiff]
    refine T_rseq fun Kr hKr => ?_; simp (disch := omega) only [RF, RO, RC, tup, ↓reduceIte, Nat.reduceEqDiff, RD, h0, h6]; refine hKr _ _ ?_; clear hKr Kr; try simp only [RN, Bool.false_eq_true, reduceIte]
    by_cases hlt : i < xs.length
    · refine T_cseq (t := true) (by simp (disch := omega) only [RF, RO, RC, tup, ↓reduceIte, Nat.reduceEqDiff, decT, decF]) ?_; try simp only [RN, Bool.false_eq_true, reduceIte]
      (first | refine T_bfree rfl ?_ | refine T_bfree' rfl ?_); try simp only [RN, Bool.false_eq_true, reduceIte]
      refine T_rseq fun Kr hKr => ?_; simp (disch := omega) only [RF, RO, RC, tup, ↓reduceIte, Nat.reduceEqDiff, reduceCtorEq, RD]; refine hKr _ _ ?_; clear hKr Kr; try simp only [RN, Bool.false_eq_true, reduceIte]
      refine T_wloop (fun n f H' => ∃ k zs, k ≤ ys.length ∧ n = ys.length - k ∧ Ext H H' ∧ H'.n = H.n + 1 ∧ f 0 = .slice a xs.length e ∧ f 1 = .slice a' ys.length e' ∧ f 5 = S H.n 0 M 1 ∧ f 6 = I i ∧ f 7 = I k ∧ OwnI H.n (H.n + 1) H' (S H.n 0 M 1) zs ∧ zs.length = M ∧ (∀ n, n < M → el zs n = md (pin (el xs) (el ys) i k n))) (ys.length) ?_ ?_
      · exact ⟨0, zs, by omega, by omega, he, hn, by simp [RF, h0], by simp [RF, h1], by simp [RF, h5], by simp [RF, h6], by simp [RF], ho, hz, fun n hn => by rw [pin_zero]; exact hzn n hn⟩
      · clear ho hz hzn he hn h0 h1 h5 h6 zs
        rintro n f H' R2 ⟨k, zs, hk, rfl, he, hn, h0, h1, h5, h6, h7, ho, hz, hzn⟩ hN2 hX2 hR2
        simp only [A_spec_l06Times.l0, T_aiff]
        refine T_rseq fun Kr hKr => ?_; simp (disch := omega) only [RF, RO, RC, tup, ↓reduceIte, Nat.reduceEqDiff, RD, h1, h7]; refine hKr _ _ ?_; clear hKr Kr; try simp only [RN, Bool.false_eq_true, reduceIte]
        by_cases hlt2 : k < ys.length
        · refine T_cseq (t := true) (by simp (disch := omega) only [RF, RO, RC, tup, ↓reduceIte, Nat.reduceEqDiff, decT, decF]) ?_; try simp only [RN, Bool.false_eq_true, reduceIte]
          (first | refine T_bfree rfl ?_ | refine T_bfree' rfl ?_); try simp only [RN, Bool.false_eq_true, reduceIte]
          obtain ⟨b, o, blk, heq, hb, hg, hlen, hel⟩ := (hx.ext he).pos (by omega)
          cases heq
          obtain ⟨b2, o2, blk2, heq, hbb, hg2, hlen2, hel2⟩ := (hy.ext he).pos (by omega)
          cases heq
          obtain ⟨b', rest, heq, hb1, hb2, hb3, hg'⟩ := ho.pos (by omega)
          rw [hz] at heq
          cases heq
          have hik : (i : Int) + (k : Int) = ((i + k : Nat) : Int) := by omega
          have c1 := hfx.el i
          have c2 := hfy.el k
          have hm := mulb c1.1 (by omega) c2.1 (by omega)
          have hz1 := hzn (i + k) (by omega)
          rw [pin_at] at hz1
          have d1 := md_lo (cvp (el xs) (el ys) i (i + k))
          have d2 := md_hi (cvp (el xs) (el ys) i (i + k))
          refine T_rseq fun Kr hKr => ?_; simp (disch := omega) only [RF, RO, RC, tup, ↓reduceIte, Nat.reduceEqDiff, RD, h0, h1, h5, h6, h7, hik, hg, hel, hg2, hel2, hg', hz1]
          refine l06Mod_spec (by omega) (by omega) ?_
          rw [md_add]
          simp (disch := omega) only [RF, RO, RC, tup, ↓reduceIte, Nat.reduceEqDiff, RD, hik, hg', Ext.refl']
          refine hKr _ _ ?_; clear hKr Kr; (try simp only [blkQ, thenQ, loopQ]); try simp only [RN, Bool.false_eq_true, reduceIte]
          refine T_reg_k fun Kr hKr => ?_; simp (disch := omega) only [RF, RO, RC, tup, ↓reduceIte, Nat.reduceEqDiff, RD, h7]; refine hKr _ _ ?_; clear hKr Kr
          refine hN2 (ys.length - (k + 1)) _ _ (by omega) ⟨k + 1, zs.set (i + k) (md (cvp (el xs) (el ys) i (i + k) + el xs i * el ys k)), by omega, rfl, he.set (Nat.le_refl _) _, hn, by simp [RF, h0], by simp [RF, h1], by simp [RF, h5], by simp [RF, h6], by simp [RF], .inr ⟨_, rest, by rw [List.length_set, hz], hb1, hb2, hb3, by rw [List.map_set, get_set_same]⟩, by simpa using hz, fun n hnM => ?_⟩
          by_cases h : n = i + k
          · subst h; rw [el_set_same (by omega), pin_new]
          · rw [el_set_ne (by omega), hzn n hnM, pin_other _ _ h]
        · refine T_cseq (t := false) (by simp (disch := omega) only [RF, RO, RC, tup, ↓reduceIte, Nat.reduceEqDiff, decT, decF]) ?_; try simp only [RN, Bool.false_eq_true, reduceIte]
          refine hX2 _ _ ?_
          have hkk : k = ys.length := by omega
          subst hkk
          refine T_reg_k fun Kr hKr => ?_; simp (disch := omega) only [RF, RO, RC, tup, ↓reduceIte, Nat.reduceEqDiff, RD, h6]; refine hKr _ _ ?_; clear hKr Kr
          refine hN (xs.length - (i + 1)) _ _ (by omega) ⟨i + 1, zs, by omega, rfl, he, hn, by simp [RF, h0], by simp [RF, h1], by simp [RF, h5], by simp [RF], ho, hz, fun n hnM => ?_⟩
          rw [hzn n hnM, pin_end n fun j hj => el_out hj]
    · refine T_cseq (t := false) (by simp (disch := omega) only [RF, RO, RC, tup, ↓reduceIte, Nat.reduceEqDiff, decT, decF]) ?_; try simp only [RN, Bool.false_eq_true, reduceIte]
      refine hX _ _ ?_
      have hkk : i = xs.length := by omega
      subst hkk
      refine T_rseq fun Kr hKr => ?_; simp (disch := omega) only [RF, RO, RC, tup, ↓reduceIte, Nat.reduceEqDiff, RD, h5]
      refine l06Trim_spec ho.is (by omega) fun v' H2 he2 ho2 => ?_
      simp (disch := omega) only [RF, RO, RC, tup, ↓reduceIte, Nat.reduceEqDiff, RD]
      refine hKr _ _ ?_; clear hKr Kr; (try simp only [blkQ, thenQ, loopQ]); try simp only [RN, Bool.false_eq_true, reduceIte]
      refine ⟨_, rfl, ?_⟩; simp only [RF, ev_t, ev_c, tup, ↓reduceIte, Nat.reduceEqDiff]
      refine hK _ _ (he.trans' he2) ?_
      have : zs = gen M fun n => md (cv (el xs) (el ys) n) := gen_ext hz fun n hnM => by rw [hzn n hnM, cvp_all n fun j hj => el_out hj]
      rw [ptimes, if_neg (by omega), hM, ← this]
      exact ho2.weak he.n (Nat.le_refl _)

theorem times_spec {H : AHeap} {v u : Value} {xs ys : List Int} {K : Value → AHeap → Prop} (hx : IsI H v xs) (hfx : Fit xs) (hlx : xs.length < 1000) (hy : IsI H u ys) (hfy : Fit ys) (hly : ys.length < 1000)
    (hK : ∀ v' H', Ext H H' → OwnI H.n H'.n H' v' (ptimes xs ys) → K v' H') : CallT F_impl_times [v, u] H K := by
  obtain ⟨a, e, rfl⟩ := hx.len
  obtain ⟨a', e', rfl⟩ := hy.len
  refine CallT_body Γ_impl_times ?_; simp only [A_impl_times, T_aiff]
  refine T_rseq fun Kr hKr => ?_; simp (disch := omega) only [RF, RO, RC, tup, ↓reduceIte, Nat.reduceEqDiff, reduceCtorEq, RD]; refine hKr _ _ ?_; clear hKr Kr; try simp only [RN, Bool.false_eq_true, reduceIte]
  by_cases hx0 : xs.length = 0
  · refine T_rseq fun Kr hKr => ?_; simp (disch := omega) only [RF, RO, RC, tup, ↓reduceIte, Nat.reduceEqDiff, RD, hx0]; refine hKr _ _ ?_; clear hKr Kr; try simp only [RN, Bool.false_eq_true, reduceIte]
    refine T_cseq (t := true) (by simp (disch := omega) only [RF, RO, RC, tup, ↓reduceIte, Nat.reduceEqDiff, decT, decF]) ?_; try simp only [RN, Bool.false_eq_true, reduceIte]
    refine T_rseq fun Kr hKr => ?_; simp (disch := omega) only [RF, RO, RC, tup, ↓reduceIte, Nat.reduceEqDiff, reduceCtorEq, RD]; refine hKr _ _ ?_; clear hKr Kr; try simp only [RN, Bool.false_eq_true, reduceIte]
    refine ⟨_, rfl, ?_⟩; simp only [RF, ev_t, ev_c, tup, ↓reduceIte, Nat.reduceEqDiff]
    exact hK _ _ (Ext.refl' _) (by rw [ptimes, if_pos (.inl hx0)]; exact .nil)
  by_cases hy0 : ys.length = 0
  · refine T_rseq fun Kr hKr => ?_; simp (disch := omega) only [RF, RO, RC, tup, ↓reduceIte, Nat.reduceEqDiff, RD, hx0, hy0]; refine hKr _ _ ?_; clear hKr Kr; try simp only [RN, Bool.false_eq_true, reduceIte]
    refine T_cseq (t := true) (by simp (disch := omega) only [RF, RO, RC, tup, ↓reduceIte, Nat.reduceEqDiff, decT, decF]) ?_; try simp only [RN, Bool.false_eq_true, reduceIte]
    refine T_rseq fun Kr hKr => ?_; simp (disch := omega) only [RF, RO, RC, tup, ↓reduceIte, Nat.reduceEqDiff, reduceCtorEq, RD]; refine hKr _ _ ?_; clear hKr Kr; try simp only [RN, Bool.false_eq_true, reduceIte]
    refine ⟨_, rfl, ?_⟩; simp only [RF, ev_t, ev_c, tup, ↓reduceIte, Nat.reduceEqDiff]
    exact hK _ _ (Ext.refl' _) (by rw [ptimes, if_pos (.inr hy0)]; exact .nil)
  generalize hM : xs.length + ys.length - 1 = M
  have hM' : (xs.length : Int) + (ys.length : Int) - 1 = (M : Int) := by omega
  refine T_rseq fun Kr hKr => ?_; simp (disch := omega) only [RF, RO, RC, tup, ↓reduceIte, Nat.reduceEqDiff, reduceCtorEq, RD]; refine hKr _ _ ?_; clear hKr Kr; try simp only [RN, Bool.false_eq_true, reduceIte]
  refine T_cseq (t := false) (by simp (disch := omega) only [RF, RO, RC, tup, ↓reduceIte, Nat.reduceEqDiff, decT, decF]) ?_; try simp only [RN, Bool.false_eq_true, reduceIte]
  refine T_rseq fun Kr hKr => ?_; simp (disch := omega) only [RF, RO, RC, tup, ↓reduceIte, Nat.reduceEqDiff, reduceCtorEq, RD, hM']; refine hKr _ _ ?_; clear hKr Kr; try simp only [RN, Bool.false_eq_true, reduceIte]
  refine T_rseq fun Kr hKr => ?_; simp (disch := omega) only [RF, RO, RC, tup, ↓reduceIte, Nat.reduceEqDiff, reduceCtorEq, RD]; refine hKr _ _ ?_; clear hKr Kr; try simp only [RN, Bool.false_eq_true, reduceIte]
  refine T_wloop (fun n f H' => ∃ i zs, i ≤ xs.length ∧ n = xs.length - i ∧ Ext H H' ∧ H'.n = H.n + 1 ∧ f 25 = .slice a xs.length e ∧ f 26 = I xs.length ∧ f 1 = .slice a' ys.length e' ∧ f 5 = S H.n 0 M 1 ∧ f 27 = I i ∧ OwnI H.n (H.n + 1) H' (S H.n 0 M 1) zs ∧ zs.length = M ∧ (∀ n, n < M → el zs n = md (cvp (el xs) (el ys) i n))) (xs.length) ?_ ?_
  · exact ⟨0, _, by omega, by omega, Ext.alloc _ _, rfl, by simp [RF], by simp [RF], by simp [RF], by simp [RF], by simp [RF], own_make H M, by simp, fun n _ => el_make _ _⟩
  · rintro n f H' R ⟨i, zs, hi, rfl, he, hn, h0, h26, h1, h5, h6, ho, hz, hzn⟩ hN hX hR
    simp only [A_impl_times.l1, T_aiff]
    refine T_rseq fun Kr hKr => ?_; simp (disch := omega) only [RF, RO, RC, tup, ↓reduceIte, Nat.reduceEqDiff, RD, h26, h6]; refine hKr _ _ ?_; clear hKr Kr; try simp only [RN, Bool.false_eq_true, reduceIte]
    by_cases hlt : i < xs.length
    · refine T_cseq (t := true) (by simp (disch := omega) only [RF, RO, RC, tup, ↓reduceIte, Nat.reduceEqDiff, decT, decF]) ?_; try simp only [RN, Bool.false_eq_true, reduceIte]
      (first | refine T_bfree rfl ?_ | refine T_bfree' rfl ?_); try simp only [RN, Bool.false_eq_true, reduceIte]
      obtain ⟨b, o, blk, heq, hb, hg, hlen, hel⟩ := (hx.ext he).pos (by omega)
      cases heq
      refine T_rseq fun Kr hKr => ?_; simp (disch := omega) only [RF, RO, RC, tup, ↓reduceIte, Nat.reduceEqDiff, RD, h0, h6, hg, hel]; refine hKr _ _ ?_; clear hKr Kr; try simp only [RN, Bool.false_eq_true, reduceIte]
      refine T_rseq fun Kr hKr => ?_; simp (disch := omega) only [RF, RO, RC, tup, ↓reduceIte, Nat.reduceEqDiff, RD, h1]; refine hKr _ _ ?_; clear hKr Kr; try simp only [RN, Bool.false_eq_true, reduceIte]
      refine T_wloop (fun n f H' => ∃ k zs, k ≤ ys.length ∧ n = ys.length - k ∧ Ext H H' ∧ H'.n = H.n + 1 ∧ f 25 = S b o xs.length 1 ∧ f 26 = I xs.length ∧ f 1 = .slice a' ys.length e' ∧ f 32 = .slice a' ys.length e' ∧ f 33 = I ys.length ∧ f 5 = S H.n 0 M 1 ∧ f 6 = I i ∧ f 27 = I i ∧ f 7 = I (el xs i) ∧ f 34 = I k ∧ OwnI H.n (H.n + 1) H' (S H.n 0 M 1) zs ∧ zs.length = M ∧ (∀ n, n < M → el zs n = md (pin (el xs) (el ys) i k n))) (ys.length) ?_ ?_
      · exact ⟨0, zs, by omega, by omega, he, hn, by simp [RF, h0], by simp [RF, h26], by simp [RF, h1], by simp [RF, h1], by simp [RF], by simp [RF, h5], by simp [RF], by simp [RF, h6], by simp [RF], by simp [RF], ho, hz, fun n hn => by rw [pin_zero]; exact hzn n hn⟩
      · clear ho hz hzn he hn h0 h26 h1 h5 h6 zs hg hb
        rintro n f H' R2 ⟨k, zs, hk, rfl, he, hn, h25, h26, h1, h32, h33, h5, h6, h27, h7, h34, ho, hz, hzn⟩ hN2 hX2 hR2
        simp only [A_impl_times.l0, T_aiff]
        refine T_rseq fun Kr hKr => ?_; simp (disch := omega) only [RF, RO, RC, tup, ↓reduceIte, Nat.reduceEqDiff, RD, h33, h34]; refine hKr _ _ ?_; clear hKr Kr; try simp only [RN, Bool.false_eq_true, reduceIte]
        by_cases hlt2 : k < ys.length
        · refine T_cseq (t := true) (by simp (disch := omega) only [RF, RO, RC, tup, ↓reduceIte, Nat.reduceEqDiff, decT, decF]) ?_; try simp only [RN, Bool.false_eq_true, reduceIte]
          (first | refine T_bfree rfl ?_ | refine T_bfree' rfl ?_); try simp only [RN, Bool.false_eq_true, reduceIte]
          obtain ⟨b2, o2, blk2, heq, hbb, hg2, hlen2, hel2⟩ := (hy.ext he).pos (by omega)
          cases heq
          obtain ⟨b', rest, heq, hb1, hb2, hb3, hg'⟩ := ho.pos (by omega)
          rw [hz] at heq
          cases heq
          have hik : (i : Int) + (k : Int) = ((i + k : Nat) : Int) := by omega
          have c1 := hfx.el i
          have c2 := hfy.el k
          have hm := mulb c1.1 (by omega) c2.1 (by omega)
          have hz1 := hzn (i + k) (by omega)
          rw [pin_at] at hz1
          have d1 := md_lo (cvp (el xs) (el ys) i (i + k))
          have d2 := md_hi (cvp (el xs) (el ys) i (i + k))
          refine T_rseq fun Kr hKr => ?_; simp (disch := omega) only [RF, RO, RC, tup, ↓reduceIte, Nat.reduceEqDiff, RD, h32, h34, hg2, hel2]; refine hKr _ _ ?_; clear hKr Kr; try simp only [RN, Bool.false_eq_true, reduceIte]
          refine T_rseq fun Kr hKr => ?_; simp (disch := omega) only [RF, RO, RC, tup, ↓reduceIte, Nat.reduceEqDiff, RD, h5, h6, h7, hik, hg', hz1, ifz, tmodm, md_add]; refine hKr _ _ ?_; clear hKr Kr; try simp only [RN, Bool.false_eq_true, reduceIte]
          refine T_reg_k fun Kr hKr => ?_; simp (disch := omega) only [RF, RO, RC, tup, ↓reduceIte, Nat.reduceEqDiff, RD, h34]; refine hKr _ _ ?_; clear hKr Kr
          refine hN2 (ys.length - (k + 1)) _ _ (by omega) ⟨k + 1, zs.set (i + k) (md (cvp (el xs) (el ys) i (i + k) + el xs i * el ys k)), by omega, rfl, he.set (Nat.le_refl _) _, hn, by simp [RF, h25], by simp [RF, h26], by simp [RF, h1], by simp [RF, h32], by simp [RF, h33], by simp [RF, h5], by simp [RF, h6], by simp [RF, h27], by simp [RF, h7], by simp [RF], .inr ⟨_, rest, by rw [List.length_set, hz], hb1, hb2, hb3, by rw [List.map_set, get_set_same]⟩, by simpa using hz, fun n hnM => ?_⟩
          by_cases h : n = i + k
          · subst h; rw [el_set_same (by omega), pin_new]
          · rw [el_set_ne (by omega), hzn n hnM, pin_other _ _ h]
        · refine T_cseq (t := false) (by simp (disch := omega) only [RF, RO, RC, tup, ↓reduceIte, Nat.reduceEqDiff, decT, decF]) ?_; try simp only [RN, Bool.false_eq_true, reduceIte]
          refine hX2 _ _ ?_
          have hkk : k = ys.length := by omega
          subst hkk
          refine T_reg_k fun Kr hKr => ?_; simp (disch := omega) only [RF, RO, RC, tup, ↓reduceIte, Nat.reduceEqDiff, RD, h27]; refine hKr _ _ ?_; clear hKr Kr
          refine hN (xs.length - (i + 1)) _ _ (by omega) ⟨i + 1, zs, by omega, rfl, he, hn, by simp [RF, h25], by simp [RF, h26], by simp [RF, h1], by simp [RF, h5], by simp [RF], ho, hz, fun n hnM => ?_⟩
          rw [hzn n hnM, pin_end n fun j hj => el_out hj]
    · refine T_cseq (t := false) (by simp (disch := omega) only [RF, RO, RC, tup, ↓reduceIte, Nat.reduceEqDiff, decT, decF]) ?_; try simp only [RN, Bool.false_eq_true, reduceIte]
      refine hX _ _ ?_
      have hkk : i = xs.length := by omega
      subst hkk
      refine T_rseq fun Kr hKr => ?_; simp (disch := omega) only [RF, RO, RC, tup, ↓reduceIte, Nat.reduceEqDiff, RD, h5]
      refine cut_spec ho (by omega) fun v' ho2 => ?_
      simp (disch := omega) only [RF, RO, RC, tup, ↓reduceIte, Nat.reduceEqDiff, RD]
      refine hKr _ _ ?_; clear hKr Kr; (try simp only [blkQ, thenQ, loopQ]); try simp only [RN, Bool.false_eq_true, reduceIte]
      refine ⟨_, rfl, ?_⟩; simp only [RF, ev_t, ev_c, tup, ↓reduceIte, Nat.reduceEqDiff]
      refine hK _ _ he ?_
      have : zs = gen M fun n => md (cv (el xs) (el ys) n) := gen_ext hz fun n hnM => by rw [hzn n hnM, cvp_all n fun j hj => el_out hj]
      rw [ptimes, if_neg (by omega), hM, ← this, hn]
      exact ho2
end Go.Am

/- The algebra of coefficients; products, chains and compositions, the law's functions. -/
set_option linter.unusedVariables false
set_option linter.unusedSimpArgs false
namespace Go.Am
open Go

/-! ### Coefficients -/
def Red (xs : List Int) : Prop := (∀ i, 0 ≤ el xs i ∧ el xs i ≤ 10006) ∧ (xs.length = 0 ∨ el xs (xs.length - 1) ≠ 0)
theorem Red.fit {xs : List Int} (h : Red xs) : Fit xs := fun i _ => by have := h.1 i; omega
theorem Poly.red {xs : List Int} (h : Poly xs) : Red xs := ⟨fun i => by
  by_cases hi : i < xs.length
  · exact h.1 i hi
  · rw [el_out (by omega)]; omega, h.2.2⟩
theorem Red.poly {xs : List Int} (h : Red xs) (hl : xs.length ≤ 17) : Poly xs := ⟨fun i _ => h.1 i, hl, h.2⟩
theorem Red.ext {xs ys : List Int} (hx : Red xs) (hy : Red ys) (h : ∀ i, el xs i = el ys i) : xs = ys := by
  have hl : xs.length = ys.length := by
    rcases Nat.lt_trichotomy xs.length ys.length with hlt | heq | hgt
    · rcases hy.2 with h0 | h0
      · omega
      · exact absurd ((h _).symm.trans (el_out (by omega))) h0
    · exact heq
    · rcases hx.2 with h0 | h0
      · omega
      · exact absurd ((h _).trans (el_out (by omega))) h0
  exact el_ext hl fun i _ => h i
theorem tl_last (xs : List Int) : ∀ n, tl xs n = 0 ∨ el xs (tl xs n - 1) ≠ 0
  | 0 => .inl rfl
  | n + 1 => by
    simp only [tl]
    split
    · exact tl_last xs n
    · rename_i h; exact .inr (by simpa using h)
theorem Red.trim {xs : List Int} (h : ∀ i, 0 ≤ el xs i ∧ el xs i ≤ 10006) : Red (trim xs) := by
  refine ⟨fun i => by rw [el_trim]; exact h i, ?_⟩
  rw [trim_len]
  rcases tl_last xs xs.length with h0 | h0
  · exact .inl h0
  · exact .inr (by rw [el_trim]; exact h0)
theorem Red.nil : Red [] := ⟨fun i => by simp [el], .inl rfl⟩
theorem md_id {x : Int} (h0 : 0 ≤ x) (h1 : x ≤ 10006) : md x = x := by unfold md; omega
theorem el_gen_md {n : Nat} {g : Nat → Int} (h : ∀ i, n ≤ i → g i = 0) (i : Nat) : el (gen n fun i => md (g i)) i = md (g i) := by
  by_cases hi : i < n
  · rw [el_gen hi]
  · rw [el_out (by rw [gen_len]; omega), h i (by omega)]; rfl
theorem el_padd (xs ys : List Int) (k : Int) (i : Nat) : el (padd xs ys k) i = md (el xs i + k * el ys i) := by
  rw [padd, el_trim, el_gen_md (g := fun i => el xs i + k * el ys i) fun i hi => ?_]
  show el xs i + k * el ys i = 0
  rw [el_out (by omega), el_out (by omega)]; simp
theorem red_padd (xs ys : List Int) (k : Int) : Red (padd xs ys k) := by
  refine Red.trim fun i => ?_
  rw [el_gen_md (g := fun i => el xs i + k * el ys i) fun i hi => ?_]
  · exact ⟨md_lo _, md_hi _⟩
  · show el xs i + k * el ys i = 0
    rw [el_out (by omega), el_out (by omega)]; simp
theorem cvp_nought {x y : Nat → Int} {n : Nat} : ∀ L, (∀ j, j < L → j ≤ n → x j * y (n - j) = 0) → cvp x y L n = 0
  | 0, _ => rfl
  | L + 1, h => by
    show cvp x y L n + (if L ≤ n then x L * y (n - L) else 0) = 0
    rw [cvp_nought L fun j hj hn => h j (by omega) hn]
    split
    · rename_i hL; rw [h L (by omega) hL]; rfl
    · rfl
theorem cv_out {xs ys : List Int} {n : Nat} (h : xs.length + ys.length ≤ n + 1) : cv (el xs) (el ys) n = 0 := by
  refine cvp_nought _ fun j hj hn => ?_
  by_cases hjx : j < xs.length
  · rw [el_out (xs := ys) (by omega)]; simp
  · rw [el_out (xs := xs) (by omega)]; simp
theorem cv_nil {xs ys : List Int} {n : Nat} (h : xs.length = 0 ∨ ys.length = 0) : cv (el xs) (el ys) n = 0 := by
  refine cvp_nought _ fun j hj hn => ?_
  rcases h with h | h
  · rw [el_out (xs := xs) (by omega)]; simp
  · rw [el_out (xs := ys) (by omega)]; simp
theorem el_ptimes (xs ys : List Int) (i : Nat) : el (ptimes xs ys) i = md (cv (el xs) (el ys) i) := by
  unfold ptimes
  split
  · rename_i h
    rw [cv_nil h]; simp [el, md]
  · rename_i h
    rw [el_trim, el_gen_md (g := fun n => cv (el xs) (el ys) n) fun n hn => cv_out (by omega)]
theorem red_ptimes (xs ys : List Int) : Red (ptimes xs ys) := by
  unfold ptimes
  split
  · exact .nil
  · rename_i h
    refine Red.trim fun i => ?_
    rw [el_gen_md (g := fun n => cv (el xs) (el ys) n) fun n hn => cv_out (by omega)]
    exact ⟨md_lo _, md_hi _⟩
theorem cv_one (x : Nat → Int) (y : Nat → Int) (n : Nat) (h : ∀ j, 0 < j → y j = 0) : cv x y n = x n * y 0 := by
  show cvp x y n n + (if n ≤ n then x n * y (n - n) else 0) = _
  rw [cvp_nought n fun j hj hn => by rw [h (n - j) (by omega)]; simp, if_pos (Nat.le_refl _), Nat.sub_self]
  simp
theorem el_one (c : Int) (j : Nat) (h : 0 < j) : el [c] j = 0 := el_out (by simp; omega)

/-! ### Products -/
/-! ### Chains -/
/-- The chain before and the chain now, n steps on. -/
def chain : Nat → List Int × List Int
  | 0 => ([1], [0, 1])
  | n + 1 => ((chain n).2, padd (ptimes [0, 2] (chain n).2) (chain n).1 (-1))
theorem chain_len : ∀ n, (chain n).1.length ≤ n + 2 ∧ (chain n).2.length ≤ n + 2
  | 0 => by decide
  | n + 1 => by
    have ih := chain_len n
    have h1 := padd_len (ptimes [0, 2] (chain n).2) (chain n).1 (-1)
    have h2 := ptimes_len [0, 2] (chain n).2
    simp only [List.length_cons, List.length_nil] at h2
    show (chain n).2.length ≤ _ ∧ (padd _ _ _).length ≤ _
    omega
theorem red_1 : Red [1] := ⟨fun i => by
  match i with
  | 0 => exact ⟨by decide, by decide⟩
  | i + 1 => rw [el_out (by simp)]; omega, .inr (by decide)⟩
theorem red_01 : Red [0, 1] := ⟨fun i => by
  match i with
  | 0 => exact ⟨by decide, by decide⟩
  | 1 => exact ⟨by decide, by decide⟩
  | i + 2 => rw [el_out (by simp)]; omega, .inr (by decide)⟩
theorem chain_red : ∀ n, Red (chain n).1 ∧ Red (chain n).2
  | 0 => ⟨red_1, red_01⟩
  | n + 1 => ⟨(chain_red n).2, red_padd _ _ _⟩
theorem fit_two (a b : Int) (ha : 0 ≤ a ∧ a ≤ 10007) (hb : 0 ≤ b ∧ b ≤ 10007) : Fit [a, b] := fun i hi => by
  match i with
  | 0 => exact ha
  | 1 => exact hb
  | i + 2 => simp at hi; omega
theorem fit_one (a : Int) (ha : 0 ≤ a ∧ a ≤ 10007) : Fit [a] := fun i hi => by
  match i with
  | 0 => exact ha
  | i + 1 => simp at hi
theorem own_one (H : AHeap) (a : Int) : OwnI H.n (H.n + 1) (H.alloc [I a]) (S H.n 0 1 1) [a] := .inr ⟨H.n, [], rfl, Nat.le_refl _, Nat.lt_succ_self _, Nat.lt_succ_self _, by rw [get_alloc_same]; rfl⟩
theorem own_two (H : AHeap) (a b : Int) : OwnI H.n (H.n + 1) (H.alloc [I a, I b]) (S H.n 0 2 1) [a, b] := .inr ⟨H.n, [], rfl, Nat.le_refl _, Nat.lt_succ_self _, Nat.lt_succ_self _, by rw [get_alloc_same]; rfl⟩
theorem minus_is {xs ys : List Int} (hy : Red ys) : padd xs (ptimes ys [10006]) 1 = padd xs ys (-1) := by
  refine Red.ext (red_padd _ _ _) (red_padd _ _ _) fun i => ?_
  rw [el_padd, el_padd, el_ptimes, cv_one _ _ _ (el_one _)]
  have : el [10006] 0 = 10006 := rfl
  rw [this]
  unfold md
  omega

theorem l06Chain_spec {H : AHeap} {n : Nat} {K : Value → AHeap → Prop} (hn : n + 1 ≤ 16) (hK : ∀ v' H', Ext H H' → OwnI H.n H'.n H' v' (chain n).2 → K v' H') : CallT F_spec_l06Chain [I ((n + 1 : Nat) : Int)] H K := by
  refine CallT_body Γ_spec_l06Chain ?_; simp only [A_spec_l06Chain, T_aiff]
  refine T_rseq fun Kr hKr => ?_; simp (disch := omega) only [RF, RO, RC, tup, ↓reduceIte, Nat.reduceEqDiff, RD]; refine hKr _ _ ?_; clear hKr Kr; try simp only [RN, Bool.false_eq_true, reduceIte]
  refine T_rseq fun Kr hKr => ?_; simp (disch := omega) only [RF, RO, RC, tup, ↓reduceIte, Nat.reduceEqDiff, RD]; refine hKr _ _ ?_; clear hKr Kr; try simp only [RN, Bool.false_eq_true, reduceIte]
  refine T_rseq fun Kr hKr => ?_; simp (disch := omega) only [RF, RO, RC, tup, ↓reduceIte, Nat.reduceEqDiff, RD]; refine hKr _ _ ?_; clear hKr Kr; try simp only [RN, Bool.false_eq_true, reduceIte]
  refine T_wloop (fun m f H' => ∃ k u w, k ≤ n ∧ m = n - k ∧ Ext H H' ∧ f 0 = I ((n + 1 : Nat) : Int) ∧ f 3 = u ∧ f 4 = w ∧ f 5 = I ((k + 1 : Nat) : Int) ∧ OwnI H.n H'.n H' u (chain k).1 ∧ OwnI H.n H'.n H' w (chain k).2) (n) ?_ ?_
  · exact ⟨0, S H.n 0 1 1, S (H.n + 1) 0 2 1, by omega, by omega, (Ext.alloc _ _).alloc' _, by simp [RF], by simp [RF], by simp [RF, n_alloc], by simp [RF], ((own_one H 1).ext (Ext.alloc _ _)).weak (Nat.le_refl _) (by simp [n_alloc]), (own_two (H.alloc [I 1]) 0 1).weak (by simp [n_alloc]) (by simp [n_alloc])⟩
  · rintro m f H' R ⟨k, u, w, hk, rfl, he, h0, h3, h4, h5, hu, hw⟩ hN hX hR
    simp only [A_spec_l06Chain.l0, T_aiff]
    refine T_rseq fun Kr hKr => ?_; simp (disch := omega) only [RF, RO, RC, tup, ↓reduceIte, Nat.reduceEqDiff, RD, h0, h5]; refine hKr _ _ ?_; clear hKr Kr; try simp only [RN, Bool.false_eq_true, reduceIte]
    by_cases hlt : k < n
    · refine T_cseq (t := true) (by simp (disch := omega) only [RF, RO, RC, tup, ↓reduceIte, Nat.reduceEqDiff, decT, decF]) ?_; try simp only [RN, Bool.false_eq_true, reduceIte]
      (first | refine T_bfree rfl ?_ | refine T_bfree' rfl ?_); try simp only [RN, Bool.false_eq_true, reduceIte]
      have l := chain_len k
      have r := chain_red k
      have hw1 := hw.ext (Ext.alloc H' [I 0, I 2])
      have hu1 := hu.ext (Ext.alloc H' [I 0, I 2])
      refine T_rseq fun Kr hKr => ?_; simp (disch := omega) only [RF, RO, RC, tup, ↓reduceIte, Nat.reduceEqDiff, RD, h3, h4]
      refine l06Times_spec (own_two H' 0 2).is (fit_two _ _ (by omega) (by omega)) (by simp) hw1.is r.2.fit (by omega) fun p H1 he1 ho1 => ?_
      simp (disch := omega) only [RF, RO, RC, tup, ↓reduceIte, Nat.reduceEqDiff, RD, h3]
      have l2 := ptimes_len [0, 2] (chain k).2
      simp only [List.length_cons, List.length_nil] at l2
      refine l06Add_spec ho1.is (red_ptimes _ _).fit (by omega) (hu1.ext he1).is r.1.fit (by omega) (by omega) (by omega) fun q H2 he2 ho2 => ?_
      simp (disch := omega) only [RF, RO, RC, tup, ↓reduceIte, Nat.reduceEqDiff, RD]
      refine hKr _ _ ?_; clear hKr Kr; (try simp only [blkQ, thenQ, loopQ]); try simp only [RN, Bool.false_eq_true, reduceIte]
      have hE := ((Ext.alloc H' [I 0, I 2]).trans' he1).trans' he2
      refine T_rseq fun Kr hKr => ?_; simp (disch := omega) only [RF, RO, RC, tup, ↓reduceIte, Nat.reduceEqDiff, RD, h4]; refine hKr _ _ ?_; clear hKr Kr; try simp only [RN, Bool.false_eq_true, reduceIte]
      refine T_rseq fun Kr hKr => ?_; simp (disch := omega) only [RF, RO, RC, tup, ↓reduceIte, Nat.reduceEqDiff, RD]; refine hKr _ _ ?_; clear hKr Kr; try simp only [RN, Bool.false_eq_true, reduceIte]
      refine T_reg_k fun Kr hKr => ?_; simp (disch := omega) only [RF, RO, RC, tup, ↓reduceIte, Nat.reduceEqDiff, RD, h5]; refine hKr _ _ ?_; clear hKr Kr
      refine hN (n - (k + 1)) _ _ (by omega) ⟨k + 1, w, q, by omega, rfl, he.trans' hE, by simp [RF, h0], by simp [RF], by simp [RF], by simp [RF], (hw.ext hE).weak (Nat.le_refl _) hE.n, ho2.weak (Nat.le_trans he.n (Nat.le_trans (Nat.le_succ _) he1.n)) (Nat.le_refl _)⟩
    · refine T_cseq (t := false) (by simp (disch := omega) only [RF, RO, RC, tup, ↓reduceIte, Nat.reduceEqDiff, decT, decF]) ?_; try simp only [RN, Bool.false_eq_true, reduceIte]
      refine hX _ _ ?_
      have hkk : k = n := by omega
      subst hkk
      refine T_rseq fun Kr hKr => ?_; simp (disch := omega) only [RF, RO, RC, tup, ↓reduceIte, Nat.reduceEqDiff, RD, h4]; refine hKr _ _ ?_; clear hKr Kr; try simp only [RN, Bool.false_eq_true, reduceIte]
      refine ⟨_, rfl, ?_⟩; simp only [RF, ev_t, ev_c, tup, ↓reduceIte, Nat.reduceEqDiff]
      exact hK _ _ he hw
def resChainPolynomial (a : Int) : List Int × Int := if 1 ≤ a ∧ a ≤ 16 then ((chain (a.toNat - 1)).2, 0) else ([], 2)
theorem resChainPolynomial_len (a : Int) : (resChainPolynomial a).1.length < 1000 := by
  unfold resChainPolynomial
  split
  · have := (chain_len (a.toNat - 1)).2; show (chain _).2.length < _; omega
  · simp
theorem ChainPolynomial_spec {H : AHeap} {a : Int} {K : Value → AHeap → Prop} (hb : -9223372036854775808 ≤ a ∧ a < 9223372036854775808)
    (hK : ∀ v' H', Ext H H' → OwnI H.n H'.n H' v' (resChainPolynomial a).1 → K (.tuple ⟨[v', I (resChainPolynomial a).2]⟩) H') : CallT F_spec_ChainPolynomial [I a] H K := by
  refine CallT_body Γ_spec_ChainPolynomial ?_; simp only [A_spec_ChainPolynomial, T_aiff]
  refine T_rseq fun Kr hKr => ?_; simp (disch := omega) only [RF, RO, RC, tup, ↓reduceIte, Nat.reduceEqDiff, RD]; refine hKr _ _ ?_; clear hKr Kr; try simp only [RN, Bool.false_eq_true, reduceIte]
  refine T_rseq fun Kr hKr => ?_; simp (disch := omega) only [RF, RO, RC, tup, ↓reduceIte, Nat.reduceEqDiff, reduceCtorEq, RD]
  refine l01In_spec ?_
  by_cases hp : 1 ≤ a ∧ a ≤ 16
  · rw [decide_eq_true hp]
    simp only [resChainPolynomial, hp, and_self, if_true] at hK
    simp (disch := omega) only [RF, RO, RC, tup, ↓reduceIte, Nat.reduceEqDiff, RD]
    refine hKr _ _ ?_; clear hKr Kr; (try simp only [blkQ, thenQ, loopQ]); try simp only [RN, Bool.false_eq_true, reduceIte]
    refine T_cseq (t := false) (by simp (disch := omega) only [RF, RO, RC, tup, ↓reduceIte, Nat.reduceEqDiff, decT, decF]) ?_; try simp only [RN, Bool.false_eq_true, reduceIte]
    obtain ⟨n, rfl⟩ : ∃ n : Nat, a = ((n + 1 : Nat) : Int) := ⟨a.toNat - 1, by omega⟩
    refine T_rseq fun Kr hKr => ?_; simp (disch := omega) only [RF, RO, RC, tup, ↓reduceIte, Nat.reduceEqDiff, reduceCtorEq, RD]
    refine l06Chain_spec (by omega) fun v' H' he ho => ?_
    simp (disch := omega) only [RF, RO, RC, tup, ↓reduceIte, Nat.reduceEqDiff, RD]
    refine hKr _ _ ?_; clear hKr Kr; (try simp only [blkQ, thenQ, loopQ]); try simp only [RN, Bool.false_eq_true, reduceIte]
    refine ⟨_, rfl, ?_⟩; simp only [RF, ev_t, ev_c, tup, ↓reduceIte, Nat.reduceEqDiff]
    exact hK _ _ he ho
  · rw [decide_eq_false hp]
    simp only [resChainPolynomial, hp, if_false] at hK
    simp (disch := omega) only [RF, RO, RC, tup, ↓reduceIte, Nat.reduceEqDiff, RD]
    refine hKr _ _ ?_; clear hKr Kr; (try simp only [blkQ, thenQ, loopQ]); try simp only [RN, Bool.false_eq_true, reduceIte]
    refine T_cseq (t := true) (by simp (disch := omega) only [RF, RO, RC, tup, ↓reduceIte, Nat.reduceEqDiff, decT, decF]) ?_; try simp only [RN, Bool.false_eq_true, reduceIte]
    refine T_rseq fun Kr hKr => ?_; simp (disch := omega) only [RF, RO, RC, tup, ↓reduceIte, Nat.reduceEqDiff, RD]; refine hKr _ _ ?_; clear hKr Kr; try simp only [RN, Bool.false_eq_true, reduceIte]
    refine ⟨_, rfl, ?_⟩; simp only [RF, ev_t, ev_c, tup, ↓reduceIte, Nat.reduceEqDiff]
    exact hK _ _ (Ext.refl' _) .nil
theorem impl_ChainPolynomial_spec {H : AHeap} {a : Int} {K : Value → AHeap → Prop} (hb : -9223372036854775808 ≤ a ∧ a < 9223372036854775808)
    (hK : ∀ v' H', Ext H H' → OwnI H.n H'.n H' v' (resChainPolynomial a).1 → K (.tuple ⟨[v', I (resChainPolynomial a).2]⟩) H') : CallT F_impl_ChainPolynomial [I a] H K := by
  refine CallT_body Γ_impl_ChainPolynomial ?_; simp only [A_impl_ChainPolynomial, T_aiff]
  refine T_rseq fun Kr hKr => ?_; simp (disch := omega) only [RF, RO, RC, tup, ↓reduceIte, Nat.reduceEqDiff, RD]; refine hKr _ _ ?_; clear hKr Kr; try simp only [RN, Bool.false_eq_true, reduceIte]
  refine T_rseq fun Kr hKr => ?_; simp (disch := omega) only [RF, RO, RC, tup, ↓reduceIte, Nat.reduceEqDiff, RD]
  refine isPower_spec ?_
  by_cases hp : 1 ≤ a ∧ a ≤ 16
  · rw [decide_eq_true hp]
    simp only [resChainPolynomial, hp, and_self, if_true] at hK
    simp (disch := omega) only [RF, RO, RC, tup, ↓reduceIte, Nat.reduceEqDiff, RD]
    refine hKr _ _ ?_; clear hKr Kr; (try simp only [blkQ, thenQ, loopQ]); try simp only [RN, if_true, if_false, Bool.false_eq_true, if_pos, reduceIte]
    refine T_cseq (t := false) (by simp (disch := omega) only [RF, RO, RC, tup, ↓reduceIte, Nat.reduceEqDiff, decT, decF]) ?_; try simp only [RN, Bool.false_eq_true, reduceIte]
    obtain ⟨n, rfl⟩ : ∃ n : Nat, a = ((n + 1 : Nat) : Int) := ⟨a.toNat - 1, by omega⟩
    have hn1 : ((n + 1 : Nat) : Int) - 1 = (n : Int) := by omega
    refine T_rseq fun Kr hKr => ?_; simp (disch := omega) only [RF, RO, RC, tup, ↓reduceIte, Nat.reduceEqDiff, RD]; refine hKr _ _ ?_; clear hKr Kr; try simp only [RN, Bool.false_eq_true, reduceIte]
    refine T_rseq fun Kr hKr => ?_; simp (disch := omega) only [RF, RO, RC, tup, ↓reduceIte, Nat.reduceEqDiff, RD, hn1]; refine hKr _ _ ?_; clear hKr Kr; try simp only [RN, Bool.false_eq_true, reduceIte]
    refine T_wloop (fun m f H' => ∃ k u w, k ≤ n ∧ m = n - k ∧ Ext H H' ∧ f 13 = I n ∧ f 4 = u ∧ f 5 = w ∧ f 14 = I k ∧ OwnI H.n H'.n H' u (chain k).1 ∧ OwnI H.n H'.n H' w (chain k).2) (n) ?_ ?_
    · exact ⟨0, S H.n 0 1 1, S (H.n + 1) 0 2 1, by omega, by omega, (Ext.alloc _ _).alloc' _, by simp [RF], by simp [RF], by simp [RF, n_alloc], by simp [RF], ((own_one H 1).ext (Ext.alloc _ _)).weak (Nat.le_refl _) (by simp [n_alloc]), (own_two (H.alloc [I 1]) 0 1).weak (by simp [n_alloc]) (by simp [n_alloc])⟩
    · rintro m f H' R ⟨k, u, w, hk, rfl, he, h0, h3, h4, h5, hu, hw⟩ hN hX hR
      simp only [A_impl_ChainPolynomial.l0, T_aiff]
      refine T_rseq fun Kr hKr => ?_; simp (disch := omega) only [RF, RO, RC, tup, ↓reduceIte, Nat.reduceEqDiff, RD, h0, h5]; refine hKr _ _ ?_; clear hKr Kr; try simp only [RN, Bool.false_eq_true, reduceIte]
      by_cases hlt : k < n
      · refine T_cseq (t := true) (by simp (disch := omega) only [RF, RO, RC, tup, ↓reduceIte, Nat.reduceEqDiff, decT, decF]) ?_; try simp only [RN, Bool.false_eq_true, reduceIte]
        (first | refine T_bfree rfl ?_ | refine T_bfree' rfl ?_); try simp only [RN, Bool.false_eq_true, reduceIte]
        have l := chain_len k
        have r := chain_red k
        have hw1 := hw.ext (Ext.alloc H' [I 0, I 2])
        have hu1 := hu.ext (Ext.alloc H' [I 0, I 2])
        refine T_rseq fun Kr hKr => ?_; simp (disch := omega) only [RF, RO, RC, tup, ↓reduceIte, Nat.reduceEqDiff, RD, h3, h4]
        refine times_spec (own_two H' 0 2).is (fit_two _ _ (by omega) (by omega)) (by simp) hw1.is r.2.fit (by omega) fun p H1 he1 ho1 => ?_
        simp (disch := omega) only [RF, RO, RC, tup, ↓reduceIte, Nat.reduceEqDiff, RD, h3]
        refine times_spec ((hu1.ext he1).ext (Ext.alloc H1 [I 10006])).is r.1.fit (by omega) (own_one H1 10006).is (fit_one _ (by omega)) (by simp) fun p2 H2 he2 ho2 => ?_
        simp (disch := omega) only [RF, RO, RC, tup, ↓reduceIte, Nat.reduceEqDiff, RD]
        have l2 := ptimes_len [0, 2] (chain k).2
        have l3 := ptimes_len (chain k).1 [10006]
        simp only [List.length_cons, List.length_nil] at l2 l3
        refine addAll_spec ((ho1.ext (Ext.alloc H1 [I 10006])).ext he2).is (red_ptimes _ _).fit (by omega) ho2.is (red_ptimes _ _).fit (by omega) fun q H3 he3 ho3 => ?_
        simp (disch := omega) only [RF, RO, RC, tup, ↓reduceIte, Nat.reduceEqDiff, RD]
        refine hKr _ _ ?_; clear hKr Kr; (try simp only [blkQ, thenQ, loopQ]); try simp only [RN, if_true, if_false, Bool.false_eq_true, if_pos, reduceIte]
        have hE := (((Ext.alloc H' [I 0, I 2]).trans' he1).trans' ((Ext.alloc H1 [I 10006]).trans' he2)).trans' he3
        refine T_rseq fun Kr hKr => ?_; simp (disch := omega) only [RF, RO, RC, tup, ↓reduceIte, Nat.reduceEqDiff, RD, h4]; refine hKr _ _ ?_; clear hKr Kr; try simp only [RN, Bool.false_eq_true, reduceIte]
        refine T_reg_k fun Kr hKr => ?_; simp (disch := omega) only [RF, RO, RC, tup, ↓reduceIte, Nat.reduceEqDiff, RD, h5]; refine hKr _ _ ?_; clear hKr Kr
        rw [minus_is r.1] at ho3
        refine hN (n - (k + 1)) _ _ (by omega) ⟨k + 1, w, q, by omega, rfl, he.trans' hE, by simp [RF, h0], by simp [RF], by simp [RF], by simp [RF], (hw.ext hE).weak (Nat.le_refl _) hE.n, ho3.weak (Nat.le_trans he.n (Nat.le_trans (Nat.le_trans (Nat.le_succ _) he1.n) (Nat.le_trans (Nat.le_succ _) he2.n))) (Nat.le_refl _)⟩
      · refine T_cseq (t := false) (by simp (disch := omega) only [RF, RO, RC, tup, ↓reduceIte, Nat.reduceEqDiff, decT, decF]) ?_; try simp only [RN, Bool.false_eq_true, reduceIte]
        refine hX _ _ ?_
        have hkk : k = n := by omega
        subst hkk
        refine T_rseq fun Kr hKr => ?_; simp (disch := omega) only [RF, RO, RC, tup, ↓reduceIte, Nat.reduceEqDiff, RD, h4]; refine hKr _ _ ?_; clear hKr Kr; try simp only [RN, Bool.false_eq_true, reduceIte]
        refine ⟨_, rfl, ?_⟩; simp only [RF, ev_t, ev_c, tup, ↓reduceIte, Nat.reduceEqDiff]
        exact hK _ _ he hw
  · rw [decide_eq_false hp]
    simp only [resChainPolynomial, hp, if_false] at hK
    simp (disch := omega) only [RF, RO, RC, tup, ↓reduceIte, Nat.reduceEqDiff, RD]
    refine hKr _ _ ?_; clear hKr Kr; (try simp only [blkQ, thenQ, loopQ]); try simp only [RN, if_true, if_false, Bool.false_eq_true, if_pos, reduceIte]
    refine T_cseq (t := true) (by simp (disch := omega) only [RF, RO, RC, tup, ↓reduceIte, Nat.reduceEqDiff, decT, decF]) ?_; try simp only [RN, Bool.false_eq_true, reduceIte]
    refine T_rseq fun Kr hKr => ?_; simp (disch := omega) only [RF, RO, RC, tup, ↓reduceIte, Nat.reduceEqDiff, RD]; refine hKr _ _ ?_; clear hKr Kr; try simp only [RN, Bool.false_eq_true, reduceIte]
    refine ⟨_, rfl, ?_⟩; simp only [RF, ev_t, ev_c, tup, ↓reduceIte, Nat.reduceEqDiff]
    exact hK _ _ (Ext.refl' _) .nil
end Go.Am

/- Inverses in the field; division; common divisors. -/
set_option linter.unusedVariables false
set_option linter.unusedSimpArgs false
namespace Go.Am
open Go

/-! ### Inverses -/
def invF : Nat → Nat → Int → Int → Int
  | 0, _, out, _ => out
  | n + 1, k, out, sq => if k = 0 then out else invF n (k / 2) (if k % 2 = 1 then md (out * sq) else out) (md (sq * sq))
def inv (x : Int) : Int := invF 14 10005 1 x
theorem invF_zero (n : Nat) (out sq : Int) : invF n 0 out sq = out := by cases n <;> simp [invF]
/-- The same over natural numbers. -/
def invN : Nat → Nat → Nat → Nat → Nat
  | 0, _, out, _ => out
  | n + 1, k, out, sq => bif Nat.beq k 0 then out else invN n (k / 2) (bif Nat.beq (k % 2) 1 then (out * sq) % 10007 else out) ((sq * sq) % 10007)
theorem md_nat (n : Nat) : md (n : Int) = ((n % 10007 : Nat) : Int) := by unfold md; omega
theorem invF_nat : ∀ (n k out sq : Nat), invF n k out sq = ((invN n k out sq : Nat) : Int)
  | 0, _, _, _ => rfl
  | n + 1, k, out, sq => by
    simp only [invF, invN]
    have hb : ∀ a b : Nat, Nat.beq a b = decide (a = b) := fun a b => by
      by_cases h : a = b
      · subst h; simp
      · rw [decide_eq_false h]
        exact Bool.eq_false_iff.2 fun e => h (Nat.eq_of_beq_eq_true e)
    rw [hb, hb]
    by_cases h : k = 0
    · simp [h]
    · rw [if_neg h]
      have e1 : md ((sq : Int) * (sq : Int)) = ((sq * sq % 10007 : Nat) : Int) := by rw [← Int.natCast_mul, md_nat]
      have e2 : md ((out : Int) * (sq : Int)) = ((out * sq % 10007 : Nat) : Int) := by rw [← Int.natCast_mul, md_nat]
      rw [e1, e2]
      by_cases h2 : k % 2 = 1
      · simp only [h2, if_true, h, decide_true, decide_false, cond_true, cond_false]
        exact invF_nat n _ _ _
      · simp only [h2, if_false, h, decide_false, cond_false]
        exact invF_nat n _ _ _
def invAll : Nat → Nat → Bool
  | 0, s => Nat.beq (s % 10007) 0 || Nat.beq (s * invN 14 10005 1 s % 10007) 1
  | d + 1, s => invAll d s && invAll d (s + 2 ^ d)
theorem invAll_at : ∀ (d s : Nat), invAll d s = true → ∀ i, i < 2 ^ d → (Nat.beq ((s + i) % 10007) 0 || Nat.beq ((s + i) * invN 14 10005 1 (s + i) % 10007) 1) = true
  | 0, s, h, i, hi => by
    have : i = 0 := by simpa using hi
    subst this
    exact h
  | d + 1, s, h, i, hi => by
    simp only [invAll, Bool.and_eq_true] at h
    by_cases h2 : i < 2 ^ d
    · exact invAll_at d s h.1 i h2
    · have := invAll_at d (s + 2 ^ d) h.2 (i - 2 ^ d) (by rw [Nat.pow_succ] at hi; omega)
      rwa [show s + 2 ^ d + (i - 2 ^ d) = s + i by omega] at this
theorem invAll_ok : invAll 14 0 = true := by kernel_rfl
theorem invF_hi : ∀ (n k : Nat) (out sq : Int), 0 ≤ out ∧ out ≤ 10006 → 0 ≤ invF n k out sq ∧ invF n k out sq ≤ 10006
  | 0, _, _, _, h => h
  | n + 1, k, out, sq, h => by
    simp only [invF]
    split
    · exact h
    · refine invF_hi n _ _ _ ?_
      split
      · exact ⟨md_lo _, md_hi _⟩
      · exact h
theorem inv_bd (x : Int) : 0 ≤ inv x ∧ inv x ≤ 10006 := invF_hi _ _ _ _ (by omega)
theorem inv_mul {x : Int} (h1 : 1 ≤ x) (h2 : x ≤ 10006) : md (x * inv x) = 1 := by
  obtain ⟨n, rfl⟩ := Int.eq_ofNat_of_zero_le (show 0 ≤ x by omega)
  have h := invAll_at 14 0 invAll_ok n (by omega)
  rw [Nat.zero_add] at h
  have hi : inv (n : Int) = ((invN 14 10005 1 n : Nat) : Int) := invF_nat 14 10005 1 n
  rw [hi, ← Int.natCast_mul, md_nat]
  simp only [Bool.or_eq_true] at h
  rcases h with h | h
  · have := Nat.eq_of_beq_eq_true h; omega
  · rw [Nat.eq_of_beq_eq_true h]; rfl

theorem l06Inverse_spec {x : Int} {H : AHeap} {K : Value → AHeap → Prop} (h1 : 0 ≤ x) (h2 : x ≤ 10007) (hK : K (I (inv x)) H) : CallT F_spec_l06Inverse [I x] H K := by
  refine CallT_body Γ_spec_l06Inverse ?_; simp only [A_spec_l06Inverse, T_aiff]
  refine T_rseq fun Kr hKr => ?_; simp (disch := omega) only [RF, RO, RC, tup, ↓reduceIte, Nat.reduceEqDiff, RD]; refine hKr _ _ ?_; clear hKr Kr; try simp only [RN, Bool.false_eq_true, reduceIte]
  refine T_rseq fun Kr hKr => ?_; simp (disch := omega) only [RF, RO, RC, tup, ↓reduceIte, Nat.reduceEqDiff, RD]; refine hKr _ _ ?_; clear hKr Kr; try simp only [RN, Bool.false_eq_true, reduceIte]
  refine T_rseq fun Kr hKr => ?_; simp (disch := omega) only [RF, RO, RC, tup, ↓reduceIte, Nat.reduceEqDiff, RD]; refine hKr _ _ ?_; clear hKr Kr; try simp only [RN, Bool.false_eq_true, reduceIte]
  refine T_wloop (fun n f H' => ∃ (k : Nat) (out sq : Int), H' = H ∧ f 3 = I out ∧ f 4 = I sq ∧ f 5 = I k ∧ k < 2 ^ n ∧ k ≤ 10005 ∧ invF n k out sq = inv x ∧ (0 ≤ out ∧ out ≤ 10007) ∧ 0 ≤ sq ∧ sq ≤ 10007) (14) ?_ ?_
  · exact ⟨10005, 1, x, rfl, by simp [RF], by simp [RF], by simp [RF], by decide, by omega, rfl, by omega, h1, h2⟩
  · rintro n f H' R ⟨k, out, sq, rfl, h3, h4, h5, hk, hk2, hi, ho, hs⟩ hN hX hR
    simp only [A_spec_l06Inverse.l0, T_aiff]
    refine T_rseq fun Kr hKr => ?_; simp (disch := omega) only [RF, RO, RC, tup, ↓reduceIte, Nat.reduceEqDiff, RD, h5]; refine hKr _ _ ?_; clear hKr Kr; try simp only [RN, Bool.false_eq_true, reduceIte]
    by_cases hk0 : 0 < k
    · refine T_cseq (t := true) (by simp (disch := omega) only [RF, RO, RC, tup, ↓reduceIte, Nat.reduceEqDiff, decT, decF]) ?_; try simp only [RN, Bool.false_eq_true, reduceIte]
      (first | refine T_bfree rfl ?_ | refine T_bfree' rfl ?_); try simp only [RN, Bool.false_eq_true, reduceIte]
      have ht : ((k : Nat) : Int).tmod 2 = ((k % 2 : Nat) : Int) := (Int.ofNat_tmod k 2).symm
      have hd : ((k : Nat) : Int).tdiv 2 = ((k / 2 : Nat) : Int) := (Int.ofNat_tdiv k 2).symm
      obtain ⟨n, rfl⟩ : ∃ m, n = m + 1 := ⟨n - 1, by cases n with | zero => simp at hk; omega | succ n => rfl⟩
      simp only [invF] at hi
      rw [if_neg (by omega)] at hi
      have hsq := mulb hs.1 (by omega) hs.1 (by omega)
      have hos := mulb ho.1 (by omega) hs.1 (by omega)
      have hfin : ∀ (f' : Fr) (out' : Int), f' 3 = I out' → f' 4 = I sq → f' 5 = I k → out' = (if k % 2 = 1 then md (out * sq) else out) → (0 ≤ out' ∧ out' ≤ 10007) → T (ACode.seq A_spec_l06Inverse.r7 A_spec_l06Inverse.r4) R f' H' := by
        intro f' out' h3 h4 h5 he hb
        refine T_rseq fun Kr hKr => ?_; simp (disch := omega) only [RF, RO, RC, tup, ↓reduceIte, Nat.reduceEqDiff, RD, h4]
        refine l06Mod_spec (by omega) (by omega) ?_
        simp (disch := omega) only [RF, RO, RC, tup, ↓reduceIte, Nat.reduceEqDiff, RD]
        refine hKr _ _ ?_; clear hKr Kr; (try simp only [blkQ, thenQ, loopQ]); try simp only [RN, if_true, if_false, Bool.false_eq_true, if_pos, reduceIte]
        refine T_reg_k fun Kr hKr => ?_; simp (disch := omega) only [RF, RO, RC, tup, ↓reduceIte, Nat.reduceEqDiff, Int.reduceEq, RD, h5, hd]; refine hKr _ _ ?_; clear hKr Kr
        exact hN n _ _ (by omega) ⟨k / 2, out', md (sq * sq), rfl, by simp [RF, h3], by simp [RF], by simp [RF], by rw [Nat.pow_succ] at hk; omega, by omega, by rw [he]; exact hi, hb, md_lo _, by have := md_hi (sq * sq); omega⟩
      refine T_rseq fun Kr hKr => ?_; simp (disch := omega) only [RF, RO, RC, tup, ↓reduceIte, Nat.reduceEqDiff, Int.reduceEq, RD, h5, ht]; refine hKr _ _ ?_; clear hKr Kr; try simp only [RN, Bool.false_eq_true, reduceIte]
      by_cases hm : k % 2 = 1
      · refine T_cseq (t := true) (by simp (disch := omega) only [RF, RO, RC, tup, ↓reduceIte, Nat.reduceEqDiff, decT, decF, hm]) ?_; try simp only [RN, Bool.false_eq_true, reduceIte]
        refine T_rseq fun Kr hKr => ?_; simp (disch := omega) only [RF, RO, RC, tup, ↓reduceIte, Nat.reduceEqDiff, RD, h3, h4]
        refine l06Mod_spec (by omega) (by omega) ?_
        simp (disch := omega) only [RF, RO, RC, tup, ↓reduceIte, Nat.reduceEqDiff, RD]
        refine hKr _ _ ?_; clear hKr Kr; (try simp only [blkQ, thenQ, loopQ]); try simp only [RN, if_true, if_false, Bool.false_eq_true, if_pos, reduceIte]
        exact hfin _ (md (out * sq)) (by simp [RF]) (by simp [RF, h4]) (by simp [RF, h5]) (by rw [if_pos hm]) ⟨md_lo _, by have := md_hi (out * sq); omega⟩
      · refine T_cseq (t := false) (by simp (disch := omega) only [RF, RO, RC, tup, ↓reduceIte, Nat.reduceEqDiff, decT, decF, hm]) ?_; try simp only [RN, Bool.false_eq_true, reduceIte]
        exact hfin _ out (by simp [RF, h3]) (by simp [RF, h4]) (by simp [RF, h5]) (by rw [if_neg hm]) ho
    · refine T_cseq (t := false) (by simp (disch := omega) only [RF, RO, RC, tup, ↓reduceIte, Nat.reduceEqDiff, decT, decF]) ?_; try simp only [RN, Bool.false_eq_true, reduceIte]
      refine hX _ _ ?_
      have : k = 0 := by omega
      subst this
      rw [invF_zero] at hi
      subst hi
      refine T_rseq fun Kr hKr => ?_; simp (disch := omega) only [RF, RO, RC, tup, ↓reduceIte, Nat.reduceEqDiff, RD, h3]; refine hKr _ _ ?_; clear hKr Kr; try simp only [RN, Bool.false_eq_true, reduceIte]
      refine ⟨_, rfl, ?_⟩; simp only [RF, ev_t, ev_c, tup, ↓reduceIte, Nat.reduceEqDiff]
      exact hK
theorem inverse_spec {x : Int} {H : AHeap} {K : Value → AHeap → Prop} (h1 : 0 ≤ x) (h2 : x ≤ 10007) (hK : K (I (inv x)) H) : CallT F_impl_inverse [I x] H K := by
  refine CallT_body Γ_impl_inverse ?_; simp only [A_impl_inverse, T_aiff]
  refine T_rseq fun Kr hKr => ?_; simp (disch := omega) only [RF, RO, RC, tup, ↓reduceIte, Nat.reduceEqDiff, RD]; refine hKr _ _ ?_; clear hKr Kr; try simp only [RN, Bool.false_eq_true, reduceIte]
  refine T_rseq fun Kr hKr => ?_; simp (disch := omega) only [RF, RO, RC, tup, ↓reduceIte, Nat.reduceEqDiff, RD]; refine hKr _ _ ?_; clear hKr Kr; try simp only [RN, Bool.false_eq_true, reduceIte]
  refine T_rseq fun Kr hKr => ?_; simp (disch := omega) only [RF, RO, RC, tup, ↓reduceIte, Nat.reduceEqDiff, RD]; refine hKr _ _ ?_; clear hKr Kr; try simp only [RN, Bool.false_eq_true, reduceIte]
  refine T_wloop (fun n f H' => ∃ (k : Nat) (out sq : Int), H' = H ∧ f 3 = I out ∧ f 4 = I sq ∧ f 5 = I k ∧ k < 2 ^ n ∧ k ≤ 10005 ∧ invF n k out sq = inv x ∧ (0 ≤ out ∧ out ≤ 10007) ∧ 0 ≤ sq ∧ sq ≤ 10007) (14) ?_ ?_
  · exact ⟨10005, 1, x, rfl, by simp [RF], by simp [RF], by simp [RF], by decide, by omega, rfl, by omega, h1, h2⟩
  · rintro n f H' R ⟨k, out, sq, rfl, h3, h4, h5, hk, hk2, hi, ho, hs⟩ hN hX hR
    simp only [A_impl_inverse.l0, T_aiff]
    refine T_rseq fun Kr hKr => ?_; simp (disch := omega) only [RF, RO, RC, tup, ↓reduceIte, Nat.reduceEqDiff, RD, h5]; refine hKr _ _ ?_; clear hKr Kr; try simp only [RN, Bool.false_eq_true, reduceIte]
    by_cases hk0 : 0 < k
    · refine T_cseq (t := true) (by simp (disch := omega) only [RF, RO, RC, tup, ↓reduceIte, Nat.reduceEqDiff, decT, decF]) ?_; try simp only [RN, Bool.false_eq_true, reduceIte]
      (first | refine T_bfree rfl ?_ | refine T_bfree' rfl ?_); try simp only [RN, Bool.false_eq_true, reduceIte]
      have ht : ((k : Nat) : Int).tmod 2 = ((k % 2 : Nat) : Int) := (Int.ofNat_tmod k 2).symm
      have hd : ((k : Nat) : Int).tdiv 2 = ((k / 2 : Nat) : Int) := (Int.ofNat_tdiv k 2).symm
      obtain ⟨n, rfl⟩ : ∃ m, n = m + 1 := ⟨n - 1, by cases n with | zero => simp at hk; omega | succ n => rfl⟩
      simp only [invF] at hi
      rw [if_neg (by omega)] at hi
      have hsq := mulb hs.1 (by omega) hs.1 (by omega)
      have hos := mulb ho.1 (by omega) hs.1 (by omega)
      have hfin : ∀ (f' : Fr) (out' : Int), f' 3 = I out' → f' 4 = I sq → f' 5 = I k → out' = (if k % 2 = 1 then md (out * sq) else out) → (0 ≤ out' ∧ out' ≤ 10007) → T (ACode.seq A_impl_inverse.r7 A_impl_inverse.r4) R f' H' := by
        intro f' out' h3 h4 h5 he hb
        refine T_rseq fun Kr hKr => ?_; simp (disch := omega) only [RF, RO, RC, tup, ↓reduceIte, Nat.reduceEqDiff, Int.reduceEq, RD, h4, tmodm]; refine hKr _ _ ?_; clear hKr Kr; try simp only [RN, Bool.false_eq_true, reduceIte]
        refine T_reg_k fun Kr hKr => ?_; simp (disch := omega) only [RF, RO, RC, tup, ↓reduceIte, Nat.reduceEqDiff, Int.reduceEq, RD, h5, hd]; refine hKr _ _ ?_; clear hKr Kr
        exact hN n _ _ (by omega) ⟨k / 2, out', md (sq * sq), rfl, by simp [RF, h3], by simp [RF], by simp [RF], by rw [Nat.pow_succ] at hk; omega, by omega, by rw [he]; exact hi, hb, md_lo _, by have := md_hi (sq * sq); omega⟩
      refine T_rseq fun Kr hKr => ?_; simp (disch := omega) only [RF, RO, RC, tup, ↓reduceIte, Nat.reduceEqDiff, Int.reduceEq, RD, h5, ht]; refine hKr _ _ ?_; clear hKr Kr; try simp only [RN, Bool.false_eq_true, reduceIte]
      by_cases hm : k % 2 = 1
      · refine T_cseq (t := true) (by simp (disch := omega) only [RF, RO, RC, tup, ↓reduceIte, Nat.reduceEqDiff, decT, decF, hm]) ?_; try simp only [RN, Bool.false_eq_true, reduceIte]
        refine T_rseq fun Kr hKr => ?_; simp (disch := omega) only [RF, RO, RC, tup, ↓reduceIte, Nat.reduceEqDiff, Int.reduceEq, RD, h3, h4, tmodm]; refine hKr _ _ ?_; clear hKr Kr; try simp only [RN, Bool.false_eq_true, reduceIte]
        exact hfin _ (md (out * sq)) (by simp [RF]) (by simp [RF, h4]) (by simp [RF, h5]) (by rw [if_pos hm]) ⟨md_lo _, by have := md_hi (out * sq); omega⟩
      · refine T_cseq (t := false) (by simp (disch := omega) only [RF, RO, RC, tup, ↓reduceIte, Nat.reduceEqDiff, decT, decF, hm]) ?_; try simp only [RN, Bool.false_eq_true, reduceIte]
        exact hfin _ out (by simp [RF, h3]) (by simp [RF, h4]) (by simp [RF, h5]) (by rw [if_neg hm]) ho
    · refine T_cseq (t := false) (by simp (disch := omega) only [RF, RO, RC, tup, ↓reduceIte, Nat.reduceEqDiff, decT, decF]) ?_; try simp only [RN, Bool.false_eq_true, reduceIte]
      refine hX _ _ ?_
      have : k = 0 := by omega
      subst this
      rw [invF_zero] at hi
      subst hi
      refine T_rseq fun Kr hKr => ?_; simp (disch := omega) only [RF, RO, RC, tup, ↓reduceIte, Nat.reduceEqDiff, RD, h3]; refine hKr _ _ ?_; clear hKr Kr; try simp only [RN, Bool.false_eq_true, reduceIte]
      refine ⟨_, rfl, ?_⟩; simp only [RF, ev_t, ev_c, tup, ↓reduceIte, Nat.reduceEqDiff]
      exact hK
end Go.Am

/- Division with a remainder. -/
set_option linter.unusedVariables false
set_option linter.unusedSimpArgs false
namespace Go.Am
open Go

def pad0 (n : Nat) (g : List Int) : List Int := List.replicate n 0 ++ g
theorem pad0_len (n : Nat) (g : List Int) : (pad0 n g).length = n + g.length := by simp [pad0]
theorem el_pad0_lo {n i : Nat} {g : List Int} (h : i < n) : el (pad0 n g) i = 0 := by simp [el, pad0, List.getD, List.getElem?_append_left, h]
theorem el_pad0_hi (n i : Nat) (g : List Int) : el (pad0 n g) (n + i) = el g i := by simp [el, pad0, List.getD, List.getElem?_append_right]
def top (r : List Int) : Int := el r (r.length - 1)
def lastq (r g : List Int) : Int := md (top r * inv (top g))
def dstep (r g : List Int) (c : Int) : List Int := padd r (pad0 (r.length - g.length) g) (-c)
theorem cancel {a b c : Int} (h : md (b * inv b) = 1) (hc : c = md (a * inv b)) : md (a + -c * b) = 0 := by
  unfold md at *
  have h1 : b * inv b = 1 + 10007 * (b * inv b / 10007) := by omega
  have h2 : a * inv b = c + 10007 * (a * inv b / 10007) := by omega
  generalize b * inv b / 10007 = q2 at h1
  generalize a * inv b / 10007 = q1 at h2
  have h3 : a + -c * b = 10007 * (q1 * b - a * q2) := by
    have e1 : c = a * inv b - 10007 * q1 := by omega
    have e2 : a * inv b * b = a * (1 + 10007 * q2) := by rw [← h1, Int.mul_assoc, Int.mul_comm (inv b) b]
    rw [e1, Int.neg_mul, Int.sub_mul, e2, Int.mul_add, Int.mul_one, Int.mul_sub, Int.mul_assoc 10007 q1 b, Int.mul_left_comm a 10007 q2]
    omega
  rw [h3]
  exact Int.mul_emod_right _ _
theorem Red.top {r : List Int} (h : Red r) (hp : 0 < r.length) : 1 ≤ top r ∧ top r ≤ 10006 := by
  have h1 := h.1 (r.length - 1)
  rcases h.2 with h2 | h2
  · omega
  · unfold Am.top; omega
theorem dstep_len {r g : List Int} (hr : Red r) (hg : Red g) (hg0 : 0 < g.length) (hl : g.length ≤ r.length) : (dstep r g (lastq r g)).length < r.length := by
  have hle := padd_len r (pad0 (r.length - g.length) g) (-lastq r g)
  rw [pad0_len] at hle
  have hred : Red (dstep r g (lastq r g)) := red_padd _ _ _
  have hle' : (dstep r g (lastq r g)).length ≤ r.length := by unfold dstep; omega
  rcases Nat.lt_or_ge (dstep r g (lastq r g)).length r.length with h | h
  · exact h
  · have heq : (dstep r g (lastq r g)).length = r.length := by omega
    rcases hred.2 with h0 | h0
    · omega
    · exfalso
      apply h0
      rw [heq]
      unfold dstep
      rw [el_padd]
      have e : el (pad0 (r.length - g.length) g) (r.length - 1) = top g := by
        rw [show r.length - 1 = (r.length - g.length) + (g.length - 1) by omega, el_pad0_hi]; rfl
      rw [e]
      have ht := hg.top hg0
      exact cancel (inv_mul ht.1 ht.2) rfl
def prem (g : List Int) : Nat → List Int → List Int
  | 0, r => r
  | n + 1, r => if r.length < g.length then r else prem g n (dstep r g (lastq r g))
theorem prem_stable {g : List Int} (hg : Red g) (hg0 : 0 < g.length) : ∀ (n m : Nat) (r : List Int), Red r → r.length < n → r.length < m → prem g n r = prem g m r
  | 0, _, _, _, h, _ => by omega
  | _, 0, _, _, _, h => by omega
  | n + 1, m + 1, r, hr, hn, hm => by
    simp only [prem]
    split
    · rfl
    · have hl := dstep_len hr hg hg0 (by omega)
      exact prem_stable hg hg0 n m _ (red_padd _ _ _) (by omega) (by omega)
/-- The remainder. -/
def rem (f g : List Int) : List Int := prem g (f.length + 1) f
theorem rem_small {f g : List Int} (h : f.length < g.length) : rem f g = f := by simp [rem, prem, h]
theorem rem_step {f g : List Int} (hf : Red f) (hg : Red g) (hg0 : 0 < g.length) (hl : g.length ≤ f.length) : rem f g = rem (dstep f g (lastq f g)) g := by
  have hd := dstep_len hf hg hg0 hl
  show (if f.length < g.length then f else prem g f.length (dstep f g (lastq f g))) = _
  rw [if_neg (by omega)]
  exact prem_stable hg hg0 _ _ _ (red_padd _ _ _) (by omega) (by omega)
theorem rem_red {g : List Int} (hg : Red g) (hg0 : 0 < g.length) : ∀ (n : Nat) (f : List Int), f.length ≤ n → Red f → Red (rem f g) ∧ (rem f g).length < g.length
  | n, f, hn, hf => by
    by_cases h : f.length < g.length
    · rw [rem_small h]; exact ⟨hf, h⟩
    · have hd := dstep_len hf hg hg0 (by omega)
      rw [rem_step hf hg hg0 (by omega)]
      match n, hn with
      | 0, hn => omega
      | n + 1, hn => exact rem_red hg hg0 n _ (by omega) (red_padd _ _ _)
theorem fit_pad0 {n : Nat} {g : List Int} (h : Fit g) : Fit (pad0 n g) := fun i hi => by
  by_cases h1 : i < n
  · rw [el_pad0_lo h1]; omega
  · rw [show i = n + (i - n) by omega, el_pad0_hi]; exact h.el _

theorem l06Divide_spec {H : AHeap} {v u : Value} {xs ys : List Int} {K : Value → AHeap → Prop} (hx : IsI H v xs) (hrx : Red xs) (hlx : xs.length < 1000) (hy : IsI H u ys) (hry : Red ys) (hy0 : 0 < ys.length) (hly : ys.length < 1000)
    (hK : ∀ q v' H', Ext H H' → OwnI H.n H'.n H' v' (rem xs ys) → K (.tuple ⟨[q, v']⟩) H') : CallT F_spec_l06Divide [v, u] H K := by
  obtain ⟨a, e, rfl⟩ := hx.len
  obtain ⟨b, o, blk, rfl, hb, hg, hlen, hel⟩ := hy.pos hy0
  have ht := hry.top hy0
  have hiv := inv_bd (top ys)
  have hlast : (ys.length : Int) - 1 = ((ys.length - 1 : Nat) : Int) := by omega
  have hlt : ys.length - 1 < ys.length := by omega
  refine CallT_body Γ_spec_l06Divide ?_; simp only [A_spec_l06Divide, T_aiff]
  refine T_rseq fun Kr hKr => ?_; simp (disch := omega) only [RF, RO, RC, tup, ↓reduceIte, Nat.reduceEqDiff, RD]; refine hKr _ _ ?_; clear hKr Kr; try simp only [RN, Bool.false_eq_true, reduceIte]
  refine T_rseq fun Kr hKr => ?_; simp (disch := omega) only [RF, RO, RC, tup, ↓reduceIte, Nat.reduceEqDiff, RD]
  refine l01Own_spec hx (by omega) fun r0 H1 he1 ho1 => ?_
  have hg1 : H1.get b = some blk := by rw [he1.get b hb]; exact hg
  simp (disch := omega) only [RF, RO, RC, tup, ↓reduceIte, Nat.reduceEqDiff, RD, he1, hlast, hlt, hg1, hel]
  refine l06Inverse_spec (by show 0 ≤ top ys; omega) (by show top ys ≤ 10007; omega) ?_
  simp (disch := omega) only [RF, RO, RC, tup, ↓reduceIte, Nat.reduceEqDiff, RD, Ext.refl']
  refine hKr _ _ ?_; clear hKr Kr; (try simp only [blkQ, thenQ, loopQ]); try simp only [RN, Bool.false_eq_true, reduceIte]
  have ho1' := ho1.ext (Ext.alloc H1 [])
  have hmain : ∀ (f' : Fr) (H2 : AHeap) (q0 : Value) (qs0 : List Int), Ext H1 H2 → f' 1 = S b o ys.length 1 → f' 6 = r0 → f' 7 = I (inv (top ys)) → f' 8 = q0 → OwnI H1.n H2.n H2 q0 qs0 → (ys.length ≤ xs.length → qs0.length = xs.length - ys.length + 1) →
      T (.seq (.block 0 (.loop A_spec_l06Divide.l0)) (.seq A_spec_l06Divide.r8 .ret)) (bodyQ [ARes.tmp 4, ARes.tmp 5] K) f' H2 := by
    intro f' H2 q0 qs0 he2 h1 h6 h7 h8 hq hql
    refine T_wloop (fun n f H' => ∃ r rs q qs rlo rhi qlo qhi, n = rs.length ∧ Ext H H' ∧ f 1 = S b o ys.length 1 ∧ f 6 = r ∧ f 7 = I (inv (top ys)) ∧ f 8 = q ∧ OwnI rlo rhi H' r rs ∧ OwnI qlo qhi H' q qs ∧ H.n ≤ rlo ∧ H.n ≤ qlo ∧ rhi ≤ H'.n ∧ qhi ≤ H'.n ∧ (qhi ≤ rlo ∨ rhi ≤ qlo) ∧ Red rs ∧ rs.length ≤ xs.length ∧ rem rs ys = rem xs ys ∧ (ys.length ≤ xs.length → qs.length = xs.length - ys.length + 1)) (xs.length) ?_ ?_
    · exact ⟨r0, xs, q0, qs0, H.n, H1.n, H1.n, H2.n, rfl, he1.trans' he2, h1, h6, h7, h8, ho1.ext he2, hq, Nat.le_refl _, he1.n, he2.n, Nat.le_refl _, .inr (Nat.le_refl _), hrx, Nat.le_refl _, rfl, hql⟩
    · clear hq hql h1 h6 h7 h8 he2 ho1 ho1'
      rintro n f H' R ⟨r, rs, q, qs, rlo, rhi, qlo, qhi, rfl, he, h1, h6, h7, h8, hr, hq, hN1, hN2, hr2, hq2, hdis, hred, hrl, hrem, hql⟩ hN hX hR
      simp only [A_spec_l06Divide.l0, T_aiff]
      obtain ⟨ra, re, rfl⟩ := hr.len
      refine T_rseq fun Kr hKr => ?_; simp (disch := omega) only [RF, RO, RC, tup, ↓reduceIte, Nat.reduceEqDiff, RD, h1, h6]; refine hKr _ _ ?_; clear hKr Kr; try simp only [RN, Bool.false_eq_true, reduceIte]
      by_cases hge : ys.length ≤ rs.length
      · refine T_cseq (t := true) (by simp (disch := omega) only [RF, RO, RC, tup, ↓reduceIte, Nat.reduceEqDiff, decT, decF]) ?_; try simp only [RN, Bool.false_eq_true, reduceIte]
        (first | refine T_bfree rfl ?_ | refine T_bfree' rfl ?_); try simp only [RN, Bool.false_eq_true, reduceIte]
        obtain ⟨rb, rrest, heq, hb1, hb2, hb3, hgr⟩ := hr.pos (by omega)
        cases heq
        have hi : (rs.length : Int) - 1 = ((rs.length - 1 : Nat) : Int) := by omega
        have hs : (rs.length : Int) - (ys.length : Int) = ((rs.length - ys.length : Nat) : Int) := by omega
        have hn1 : rs.length - 1 < rs.length := by omega
        have htr := hred.top (by omega)
        have hm := mulb (a := el rs (rs.length - 1)) (b := inv (top ys)) (by show 0 ≤ top rs; omega) (by show top rs ≤ _; omega) hiv.1 (by omega)
        refine T_rseq fun Kr hKr => ?_; simp (disch := omega) only [RF, RO, RC, tup, ↓reduceIte, Nat.reduceEqDiff, RD, h1, h6, h7, hi, hs, hn1, hgr]
        refine l06Mod_spec (by omega) (by omega) ?_
        simp (disch := omega) only [RF, RO, RC, tup, ↓reduceIte, Nat.reduceEqDiff, RD]
        refine hKr _ _ ?_; clear hKr Kr; (try simp only [blkQ, thenQ, loopQ]); try simp only [RN, Bool.false_eq_true, reduceIte]
        have hqlen := hql (by omega)
        obtain ⟨qb, qrest, heq, hc1, hc2, hc3, hgq⟩ := hq.pos (by omega)
        cases heq
        refine T_rseq fun Kr hKr => ?_; simp (disch := omega) only [RF, RO, RC, tup, ↓reduceIte, Nat.reduceEqDiff, RD, h8, hgq]; refine hKr _ _ ?_; clear hKr Kr; try simp only [RN, Bool.false_eq_true, reduceIte]
        have hlq1 := md_lo (el rs (rs.length - 1) * inv (top ys))
        have hlq2 := md_hi (el rs (rs.length - 1) * inv (top ys))
        have hout : Out qlo qhi H' (H'.set qb (List.map I (qs.set (rs.length - ys.length) (md (el rs (rs.length - 1) * inv (top ys)))) ++ qrest)) := Out.set (.refl) ⟨hc1, hc2⟩ _
        have hE0 := he.out hout hN2
        have hr' := hr.out hout (by omega)
        have hq' : OwnI qlo qhi (H'.set qb (List.map I (qs.set (rs.length - ys.length) (md (el rs (rs.length - 1) * inv (top ys)))) ++ qrest)) (S qb 0 qs.length 1) (qs.set (rs.length - ys.length) (md (el rs (rs.length - 1) * inv (top ys)))) := .inr ⟨qb, qrest, by rw [List.length_set], hc1, hc2, hc3, get_set_same _ _ _⟩
        simp only [List.map_set] at hout hE0 hr' hq' ⊢
        generalize hH2 : H'.set qb ((List.map I qs).set (rs.length - ys.length) (I (md (el rs (rs.length - 1) * inv (top ys)))) ++ qrest) = H2 at hout hE0 hr' hq' ⊢
        obtain ⟨p', H4, ha, hop, hout4⟩ := appendS (own_make H2 (rs.length - ys.length)) ((hy.ext hE0).ext (Ext.alloc H2 _)) (by simp; omega) (by omega)
        have hE4 : Ext H2 H4 := (Ext.alloc H2 (repl [.int .i64 0] (rs.length - ys.length))).out hout4 (Nat.le_refl _)
        refine T_reg_k fun Kr hKr => ?_; simp (disch := omega) only [RF, RO, RC, tup, ↓reduceIte, Nat.reduceEqDiff, RD, h6, h1, ha]
        refine l06Add_spec (hr'.ext hE4).is hred.fit (by omega) hop.is (fit_pad0 hry.fit) (by rw [show List.replicate (rs.length - ys.length) 0 ++ ys = pad0 (rs.length - ys.length) ys from rfl, pad0_len]; omega) (by omega) (by omega) fun w H5 he5 ho5 => ?_
        simp (disch := omega) only [RF, RO, RC, tup, ↓reduceIte, Nat.reduceEqDiff, RD]
        refine hKr _ _ ?_; clear hKr Kr; (try simp only [blkQ, thenQ, loopQ]); try simp only [RN, Bool.false_eq_true, reduceIte]
        have hE5 := hE4.trans' he5
        have hstep : padd rs (List.replicate (rs.length - ys.length) 0 ++ ys) (0 - md (el rs (rs.length - 1) * inv (top ys))) = dstep rs ys (lastq rs ys) := by
          rw [Int.zero_sub]; rfl
        rw [hstep] at ho5
        have hlt2 := dstep_len hred hry hy0 hge
        have hqq := hq'.ext hE5
        have n1 := hout.n
        have n2 := hE4.n
        have n3 := he5.n
        refine hN _ _ _ hlt2 ⟨w, dstep rs ys (lastq rs ys), S qb 0 qs.length 1, _, H4.n, H5.n, qlo, qhi, rfl, hE0.trans' hE5, by simp [RF, h1], by simp [RF], by simp [RF, h7], by simp [RF, h8], ho5, hqq, ?_, hN2, Nat.le_refl _, by omega, .inl (by omega), red_padd _ _ _, by omega, by rw [← rem_step hred hry hy0 hge]; exact hrem, fun h => by rw [List.length_set]; exact hql h⟩
        have := he.n
        omega
      · refine T_cseq (t := false) (by simp (disch := omega) only [RF, RO, RC, tup, ↓reduceIte, Nat.reduceEqDiff, decT, decF]) ?_; try simp only [RN, Bool.false_eq_true, reduceIte]
        refine hX _ _ ?_
        refine T_rseq fun Kr hKr => ?_; simp (disch := omega) only [RF, RO, RC, tup, ↓reduceIte, Nat.reduceEqDiff, RD, h6, h8]; refine hKr _ _ ?_; clear hKr Kr; try simp only [RN, Bool.false_eq_true, reduceIte]
        refine ⟨_, rfl, ?_⟩; simp only [RF, ev_t, ev_c, tup, ↓reduceIte, Nat.reduceEqDiff]
        refine hK _ _ _ he ?_
        rw [← hrem, rem_small (by omega)]
        exact hr.weak hN1 hr2
  refine T_rseq fun Kr hKr => ?_; simp (disch := omega) only [RF, RO, RC, tup, ↓reduceIte, Nat.reduceEqDiff, RD]; refine hKr _ _ ?_; clear hKr Kr; try simp only [RN, Bool.false_eq_true, reduceIte]
  by_cases hge : ys.length ≤ xs.length
  · have hs : (xs.length : Int) - (ys.length : Int) + 1 = ((xs.length - ys.length + 1 : Nat) : Int) := by omega
    have hw : IntKind.i64.wrap ((xs.length : Int) - (ys.length : Int)) = (xs.length : Int) - (ys.length : Int) := w64 (by omega) (by omega)
    refine T_cseq (t := true) (by simp (disch := omega) only [RF, RO, RC, tup, ↓reduceIte, Nat.reduceEqDiff, decT, decF]) ?_; try simp only [RN, Bool.false_eq_true, reduceIte]
    refine T_rseq fun Kr hKr => ?_; simp (disch := omega) only [RF, RO, RC, tup, ↓reduceIte, Nat.reduceEqDiff, RD, hw, hs]; refine hKr _ _ ?_; clear hKr Kr; try simp only [RN, Bool.false_eq_true, reduceIte]
    exact hmain _ _ _ (List.replicate (xs.length - ys.length + 1) 0) ((Ext.alloc _ _).alloc' _) (by simp [RF]) (by simp [RF]) (by first | (simp [RF]; done) | (simp [RF]; rfl)) (by first | (simp [RF]; done) | (simp [RF]; rfl)) ((own_make _ _).weak (Nat.le_succ _) (Nat.le_refl _)) (by simp)
  · refine T_cseq (t := false) (by simp (disch := omega) only [RF, RO, RC, tup, ↓reduceIte, Nat.reduceEqDiff, decT, decF]) ?_; try simp only [RN, Bool.false_eq_true, reduceIte]
    exact hmain _ _ _ [] (Ext.alloc _ _) (by simp [RF]) (by simp [RF]) (by first | (simp [RF]; done) | (simp [RF]; rfl)) (by first | (simp [RF]; done) | (simp [RF]; rfl)) (own_empty _) (fun h => absurd h hge)
end Go.Am

