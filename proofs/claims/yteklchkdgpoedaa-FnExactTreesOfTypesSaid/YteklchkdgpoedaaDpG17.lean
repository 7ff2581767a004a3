/- SpU, DpMj, DpNi, DpNd, DpNg, DpKa, DpDe, DpDk, DpDl, DpKb, DpKc, DpKd, DpKe -/
import Derived.Test.YteklchkdgpoedaaBmV
import Derived.Test.YteklchkdgpoedaaDpG16
/- Counts of rooted trees: the reference's own. -/
set_option linter.unusedVariables false
set_option linter.unusedSimpArgs false
namespace Go.Am
open Go

theorem bsV_2s {z : Value} {H : AHeap} {a b : Option Addr} {n e n' e' : Nat} : bsV 1 2 [z] [(0, 1, .slice a n e), (1, 1, .slice b n' e')] H = some (S H.n 0 2 1, H.alloc [.slice a n e, .slice b n' e']) := rfl
theorem fillL_nil {z : List Value} : fillL z [] = some z := rfl
theorem stB_2 {H : AHeap} {q : Nat} {a b c d : Int} : stB (some ⟨[I a, I b], true⟩) H q 0 2 (aggL [I c, I d]) = some (undef, H.set q [I c, I d]) := rfl
def TyL (zs : List Int) : Prop := Ty zs ∧ zs.length ≤ 16
theorem okTypes_L {xs ys : List Int} (hx : TyL xs) (hy : TyL ys) : okTypes xs ys ↔ (sm xs xs.length = sm ys ys.length ∧ 1 ≤ sm xs xs.length ∧ sm xs xs.length ≤ 16) := ⟨fun h => h.2.2, fun h => ⟨hx.1, hy.1, h⟩⟩
theorem okTypes_TyL {xs ys : List Int} (h : okTypes xs ys) : TyL xs ∧ TyL ys := by
  have hl := okTypes_len h
  exact ⟨⟨h.1, hl.2.1⟩, h.2.1, hl.2.2.2⟩
theorem sm_hi {xs : List Int} {n : Nat} (h : ∀ i, i < n → okAt xs i) : sm xs n ≤ 16 * n := by
  induction n with
  | zero => exact Int.le_refl _
  | succ n ih =>
    have h1 := ih fun i hi => h i (by omega)
    have h2 := (h n (by omega)).2.1
    show sm xs n + el xs n ≤ _
    omega
/-- The sums so far: those of the lists before are done, those behind are 0. -/
def sums (xs ys : List Int) (q i : Nat) : List Value := if q = 0 then [I (sm xs i), I 0] else if q = 1 then [I (sm xs xs.length), I (sm ys i)] else [I (sm xs xs.length), I (sm ys ys.length)]
theorem stB_sum0 {H : AHeap} {q : Nat} {a b c : Int} : stB (some ⟨[I a, I b], true⟩) H q 0 1 (I c) = some (undef, H.set q [I c, I b]) := rfl
theorem stB_sum1 {H : AHeap} {q : Nat} {a b c : Int} : stB (some ⟨[I a, I b], true⟩) H q 1 1 (I c) = some (undef, H.set q [I a, I c]) := rfl
theorem l05Types_spec {H : AHeap} {v u : Value} {xs ys : List Int} {K : Value → AHeap → Prop} (hx : IsI H v xs) (hl : xs.length ≤ 2000000) (hy : IsI H u ys) (hly : ys.length ≤ 2000000)
    (hK : ∀ H' s, Ext H H' → (okTypes xs ys → s = sm xs xs.length) → K (.tuple ⟨[I s, .bool (decide (okTypes xs ys))]⟩) H') : CallT F_spec_l05Types [v, u] H K := by
  obtain ⟨a, e, rfl⟩ := hx.len
  obtain ⟨a', e', rfl⟩ := hy.len
  refine CallT_body Γ_spec_l05Types ?_; simp only [A_spec_l05Types, T_aiff]
  refine T_rseq fun Kr hKr => ?_; simp (disch := omega) only [RF, RO, RC, tup, ↓reduceIte, Nat.reduceEqDiff, RD]; refine hKr _ _ ?_; clear hKr Kr; try simp only [RN, Bool.false_eq_true, reduceIte]
  refine T_rseq fun Kr hKr => ?_; simp (disch := omega) only [RF, RO, RC, tup, ↓reduceIte, Nat.reduceEqDiff, RD, bsV_2s, opsT_build, fillL_nil, opsT_alloc, get_alloc_same, stB_2]; refine hKr _ _ ?_; clear hKr Kr; try simp only [RN, Bool.false_eq_true, reduceIte]
  refine T_rseq fun Kr hKr => ?_; simp (disch := omega) only [RF, RO, RC, tup, ↓reduceIte, Nat.reduceEqDiff, RD]; refine hKr _ _ ?_; clear hKr Kr; try simp only [RN, Bool.false_eq_true, reduceIte]
  refine T_wloop (fun n f H' => ∃ k, k ≤ 2 ∧ n = 2 - k ∧ Ext H H' ∧ H'.n = H.n + 2 ∧ H'.get H.n = some ⟨[.slice a xs.length e, .slice a' ys.length e'], true⟩ ∧ H'.get (H.n + 1) = some ⟨sums xs ys k 0, true⟩ ∧ f 6 = S H.n 0 2 1 ∧ f 7 = P (H.n + 1) 0 ∧ f 8 = I k ∧ (0 < k → TyL xs) ∧ (1 < k → TyL ys)) (2) ?_ ?_
  · refine ⟨0, by omega, by omega, ((Ext.alloc _ _).alloc' _).set (by simp [n_alloc]) _, rfl, ?_, get_set_same _ _ _, by simp [RF], by simp [RF, n_alloc], by simp [RF], by omega, by omega⟩
    rw [get_set_ne _ _ _ _ (by simp [n_alloc]), get_alloc_ne _ _ _ (by simp [n_alloc]), get_alloc_same]
  · rintro n f H' R ⟨k, hk, rfl, he, hn, hg1, hg2, h6, h7, h8, ht1, ht2⟩ hN hX hR
    simp only [A_spec_l05Types.l1, T_aiff]
    have hk3 : k = 0 ∨ k = 1 ∨ k = 2 := by omega
    rcases hk3 with rfl | rfl | rfl
    · refine T_rseq fun Kr hKr => ?_; simp (disch := omega) only [RF, RO, RC, tup, ↓reduceIte, Nat.reduceEqDiff, Int.reduceLT, RD, h8]; refine hKr _ _ ?_; clear hKr Kr; try simp only [RN, Bool.false_eq_true, reduceIte]
      refine T_cseq (t := true) (by simp (disch := omega) only [RF, RO, RC, tup, ↓reduceIte, Nat.reduceEqDiff, decT, decF]) ?_; try simp only [RN, Bool.false_eq_true, reduceIte]
      (first | refine T_bfree rfl ?_ | refine T_bfree' rfl ?_); try simp only [RN, Bool.false_eq_true, reduceIte]
      refine T_rseq fun Kr hKr => ?_; simp (disch := omega) only [RF, RO, RC, tup, ↓reduceIte, Nat.reduceEqDiff, RD]; refine hKr _ _ ?_; clear hKr Kr; try simp only [RN, Bool.false_eq_true, reduceIte]
      refine T_wloop (fun n f H' => ∃ i, i ≤ xs.length ∧ n = xs.length - i ∧ Ext H H' ∧ H'.n = H.n + 2 ∧ H'.get H.n = some ⟨[.slice a xs.length e, .slice a' ys.length e'], true⟩ ∧ H'.get (H.n + 1) = some ⟨[I (sm xs i), I 0], true⟩ ∧ f 6 = S H.n 0 2 1 ∧ f 7 = P (H.n + 1) 0 ∧ f 8 = I 0 ∧ f 9 = I i ∧ (∀ j, j < i → okAt xs j) ∧ i ≤ 16) (xs.length) ?_ ?_
      · exact ⟨0, by omega, by omega, he, hn, hg1, by simpa [sums, sm] using hg2, by simp [RF, h6], by simp [RF, h7], by simp [RF, h8], by simp [RF], by simp, by omega⟩
      · clear h6 h7 h8 he hg1 hg2 hn
        rintro n f H' R2 ⟨i, hi, rfl, he, hn, hg1, hg2, h6, h7, h8, h9, hok, hi16⟩ hN2 hX2 hR2
        simp only [A_spec_l05Types.l0, T_aiff]
        refine T_rseq fun Kr hKr => ?_; simp (disch := omega) only [RF, RO, RC, tup, ↓reduceIte, Nat.reduceEqDiff, RD, h6, h8, h9, hg1, List.getElem?_cons_zero, List.getElem?_cons_succ]; refine hKr _ _ ?_; clear hKr Kr; try simp only [RN, Bool.false_eq_true, reduceIte]
        by_cases hlt : i < xs.length
        · refine T_cseq (t := true) (by simp (disch := omega) only [RF, RO, RC, tup, ↓reduceIte, Nat.reduceEqDiff, decT, decF]) ?_; try simp only [RN, Bool.false_eq_true, reduceIte]
          (first | refine T_bfree rfl ?_ | refine T_bfree' rfl ?_); try simp only [RN, Bool.false_eq_true, reduceIte]
          obtain ⟨b, o, blk, heq, hb, hg, hlen, hel⟩ := (hx.ext he).pos (by omega)
          cases heq
          have hslo := sm_lo hok
          have hshi := sm_hi hok
          have hbad : ∀ (c : ACode) (f' : Fr), ¬ TyL xs → T (ACode.seq A_spec_l05Types.r9 (.seq .ret c)) R2 f' H' := by
            intro c f' hno
            refine T_rseq fun Kr hKr => ?_; simp (disch := omega) only [RF, RO, RC, tup, ↓reduceIte, Nat.reduceEqDiff, RD]; refine hKr _ _ ?_; clear hKr Kr; try simp only [RN, Bool.false_eq_true, reduceIte]
            refine hR2 _ _ (hR _ _ ?_)
            refine ⟨_, rfl, ?_⟩; simp only [RF, ev_t, ev_c, tup, ↓reduceIte, Nat.reduceEqDiff]
            have hno' : ¬ okTypes xs ys := fun h => hno (okTypes_TyL h).1
            have := hK H' 0 he (fun h => absurd h hno')
            simpa [hno'] using this
          have hgood : ∀ (f' : Fr), f' 6 = S H.n 0 2 1 → f' 7 = P (H.n + 1) 0 → f' 8 = I 0 → f' 9 = I i → okAt xs i → i < 16 → T (ACode.seq A_spec_l05Types.r10 A_spec_l05Types.r7) R2 f' H' := by
            intro f' h6 h7 h8 h9 hoi hi16
            have h1 := hoi.1
            have h2 := hoi.2.1
            have hss : sm xs i + el xs i = sm xs (i + 1) := rfl
            refine T_rseq fun Kr hKr => ?_; simp (disch := omega) only [RF, RO, RC, tup, ↓reduceIte, Nat.reduceEqDiff, RD, h6, h7, h8, h9, hg1, hg2, hg, hel, opsT_indexAddrA, idxA_p, List.getElem?_cons_zero, List.getElem?_cons_succ, hss, stB_sum0]; refine hKr _ _ ?_; clear hKr Kr; try simp only [RN, Bool.false_eq_true, reduceIte]
            refine T_reg_k fun Kr hKr => ?_; simp (disch := omega) only [RF, RO, RC, tup, ↓reduceIte, Nat.reduceEqDiff, RD, h9]; refine hKr _ _ ?_; clear hKr Kr
            refine hN2 (xs.length - (i + 1)) _ _ (by omega) ⟨i + 1, by omega, rfl, he.set (by omega) _, hn, ?_, get_set_same _ _ _, by simp [RF, h6], by simp [RF, h7], by simp [RF, h8], by simp [RF], fun j hj => ?_, by omega⟩
            · rw [get_set_ne _ _ _ _ (by omega)]; exact hg1
            · by_cases ej : j = i
              · subst ej; exact hoi
              · exact hok j (by omega)
          by_cases c1 : 1 ≤ el xs i ∧ el xs i ≤ 16
          · by_cases hi0 : i = 0
            · subst hi0
              have hel0 := hel 0 (by omega)
              rw [Nat.add_zero] at hel0
              refine T_rseq fun Kr hKr => ?_; simp (disch := omega) only [RF, RO, RC, tup, ↓reduceIte, Nat.reduceEqDiff, Int.reduceToNat, RD, h6, h8, h9, hg1, hg, hel0, List.getElem?_cons_zero, List.getElem?_cons_succ]
              refine l01In_spec ?_
              rw [decide_eq_true c1]
              simp (disch := omega) only [RF, RO, RC, tup, ↓reduceIte, Nat.reduceEqDiff, RD, h9, Ext.refl']
              refine hKr _ _ ?_; clear hKr Kr; (try simp only [blkQ, thenQ, loopQ]); try simp only [RN, Bool.false_eq_true, reduceIte]
              refine T_cseq (t := false) (by simp (disch := omega) only [RF, RO, RC, tup, ↓reduceIte, Nat.reduceEqDiff, decT, decF]) ?_; try simp only [RN, Bool.false_eq_true, reduceIte]
              exact hgood _ (by simp [RF, h6]) (by simp [RF, h7]) (by simp [RF, h8]) (by simp [RF, h9]) ⟨c1.1, c1.2, fun h => by omega⟩ (by omega)
            · obtain ⟨j, rfl⟩ : ∃ j, i = j + 1 := ⟨i - 1, by omega⟩
              have hj : ((j + 1 : Nat) : Int) - 1 = (j : Int) := by omega
              have hjl : j < xs.length := by omega
              refine T_rseq fun Kr hKr => ?_; simp (disch := omega) only [RF, RO, RC, tup, ↓reduceIte, Nat.reduceEqDiff, Nat.reduceSub, Int.reduceLE, Int.reduceToNat, RD, h6, h8, h9, hg1, hg, hel, List.getElem?_cons_zero, List.getElem?_cons_succ]
              refine l01In_spec ?_
              rw [decide_eq_true c1]
              by_cases c3 : el xs j < el xs (j + 1)
              · simp (disch := omega) only [RF, RO, RC, tup, ↓reduceIte, Nat.reduceEqDiff, Nat.reduceLT, Int.reduceToNat, RD, h6, h8, h9, hg1, hg, hel, hj, hjl, Ext.refl', List.getElem?_cons_zero, List.getElem?_cons_succ]
                refine hKr _ _ ?_; clear hKr Kr; (try simp only [blkQ, thenQ, loopQ]); try simp only [RN, Bool.false_eq_true, reduceIte]
                refine T_cseq (t := true) (by simp (disch := omega) only [RF, RO, RC, tup, ↓reduceIte, Nat.reduceEqDiff, decT, decF]) ?_; try simp only [RN, Bool.false_eq_true, reduceIte]
                exact hbad _ _ fun h => by have := (h.1 (j + 1) hlt).2.2 (by omega); simp only [Nat.add_sub_cancel] at this; omega
              · by_cases c4 : 16 ≤ j + 1
                · simp (disch := omega) only [RF, RO, RC, tup, ↓reduceIte, Nat.reduceEqDiff, Nat.reduceLT, Int.reduceToNat, RD, h6, h8, h9, hg1, hg, hel, hj, hjl, Ext.refl', List.getElem?_cons_zero, List.getElem?_cons_succ]
                  refine hKr _ _ ?_; clear hKr Kr; (try simp only [blkQ, thenQ, loopQ]); try simp only [RN, Bool.false_eq_true, reduceIte]
                  refine T_cseq (t := true) (by simp (disch := omega) only [RF, RO, RC, tup, ↓reduceIte, Nat.reduceEqDiff, decT, decF]) ?_; try simp only [RN, Bool.false_eq_true, reduceIte]
                  exact hbad _ _ fun h => by have := h.2; omega
                · simp (disch := omega) only [RF, RO, RC, tup, ↓reduceIte, Nat.reduceEqDiff, Nat.reduceLT, Int.reduceToNat, RD, h6, h8, h9, hg1, hg, hel, hj, hjl, Ext.refl', List.getElem?_cons_zero, List.getElem?_cons_succ]
                  refine hKr _ _ ?_; clear hKr Kr; (try simp only [blkQ, thenQ, loopQ]); try simp only [RN, Bool.false_eq_true, reduceIte]
                  refine T_cseq (t := false) (by simp (disch := omega) only [RF, RO, RC, tup, ↓reduceIte, Nat.reduceEqDiff, decT, decF]) ?_; try simp only [RN, Bool.false_eq_true, reduceIte]
                  exact hgood _ (by simp [RF, h6]) (by simp [RF, h7]) (by simp [RF, h8]) (by simp [RF, h9]) ⟨c1.1, c1.2, fun h => by simp only [Nat.add_sub_cancel]; omega⟩ (by omega)
          · refine T_rseq fun Kr hKr => ?_; simp (disch := omega) only [RF, RO, RC, tup, ↓reduceIte, Nat.reduceEqDiff, Int.reduceToNat, RD, h6, h8, h9, hg1, hg, hel, List.getElem?_cons_zero, List.getElem?_cons_succ]
            refine l01In_spec ?_
            rw [decide_eq_false c1]
            simp (disch := omega) only [RF, RO, RC, tup, ↓reduceIte, Nat.reduceEqDiff, RD, Ext.refl']
            refine hKr _ _ ?_; clear hKr Kr; (try simp only [blkQ, thenQ, loopQ]); try simp only [RN, Bool.false_eq_true, reduceIte]
            refine T_cseq (t := true) (by simp (disch := omega) only [RF, RO, RC, tup, ↓reduceIte, Nat.reduceEqDiff, decT, decF]) ?_; try simp only [RN, Bool.false_eq_true, reduceIte]
            exact hbad _ _ fun h => c1 ⟨(h.1 i hlt).1, (h.1 i hlt).2.1⟩
        · refine T_cseq (t := false) (by simp (disch := omega) only [RF, RO, RC, tup, ↓reduceIte, Nat.reduceEqDiff, Int.reduceToNat, decT, decF]) ?_; try simp only [RN, Bool.false_eq_true, reduceIte]
          refine hX2 _ _ ?_
          have hii : i = xs.length := by omega
          subst hii
          refine T_reg_k fun Kr hKr => ?_; simp (disch := omega) only [RF, RO, RC, tup, ↓reduceIte, Nat.reduceEqDiff, RD, h8]; refine hKr _ _ ?_; clear hKr Kr
          refine hN (2 - (0 + 1)) _ _ (by omega) ⟨0 + 1, by omega, rfl, he, hn, hg1, by simpa [sums, sm] using hg2, by simp [RF, h6], by simp [RF, h7], by simp [RF], fun _ => ⟨hok, hi16⟩, by omega⟩
    · refine T_rseq fun Kr hKr => ?_; simp (disch := omega) only [RF, RO, RC, tup, ↓reduceIte, Nat.reduceEqDiff, Int.reduceLT, RD, h8]; refine hKr _ _ ?_; clear hKr Kr; try simp only [RN, Bool.false_eq_true, reduceIte]
      refine T_cseq (t := true) (by simp (disch := omega) only [RF, RO, RC, tup, ↓reduceIte, Nat.reduceEqDiff, decT, decF]) ?_; try simp only [RN, Bool.false_eq_true, reduceIte]
      (first | refine T_bfree rfl ?_ | refine T_bfree' rfl ?_); try simp only [RN, Bool.false_eq_true, reduceIte]
      refine T_rseq fun Kr hKr => ?_; simp (disch := omega) only [RF, RO, RC, tup, ↓reduceIte, Nat.reduceEqDiff, RD]; refine hKr _ _ ?_; clear hKr Kr; try simp only [RN, Bool.false_eq_true, reduceIte]
      refine T_wloop (fun n f H' => ∃ i, i ≤ ys.length ∧ n = ys.length - i ∧ Ext H H' ∧ H'.n = H.n + 2 ∧ H'.get H.n = some ⟨[.slice a xs.length e, .slice a' ys.length e'], true⟩ ∧ H'.get (H.n + 1) = some ⟨[I (sm xs xs.length), I (sm ys i)], true⟩ ∧ f 6 = S H.n 0 2 1 ∧ f 7 = P (H.n + 1) 0 ∧ f 8 = I 1 ∧ f 9 = I i ∧ (∀ j, j < i → okAt ys j) ∧ i ≤ 16) (ys.length) ?_ ?_
      · exact ⟨0, by omega, by omega, he, hn, hg1, by simpa [sums, sm] using hg2, by simp [RF, h6], by simp [RF, h7], by simp [RF, h8], by simp [RF], by simp, by omega⟩
      · clear h6 h7 h8 he hg1 hg2 hn
        rintro n f H' R2 ⟨i, hi, rfl, he, hn, hg1, hg2, h6, h7, h8, h9, hok, hi16⟩ hN2 hX2 hR2
        simp only [A_spec_l05Types.l0, T_aiff]
        refine T_rseq fun Kr hKr => ?_; simp (disch := omega) only [RF, RO, RC, tup, ↓reduceIte, Nat.reduceEqDiff, RD, h6, h8, h9, hg1, List.getElem?_cons_zero, List.getElem?_cons_succ]; refine hKr _ _ ?_; clear hKr Kr; try simp only [RN, Bool.false_eq_true, reduceIte]
        by_cases hlt : i < ys.length
        · refine T_cseq (t := true) (by simp (disch := omega) only [RF, RO, RC, tup, ↓reduceIte, Nat.reduceEqDiff, decT, decF]) ?_; try simp only [RN, Bool.false_eq_true, reduceIte]
          (first | refine T_bfree rfl ?_ | refine T_bfree' rfl ?_); try simp only [RN, Bool.false_eq_true, reduceIte]
          obtain ⟨b, o, blk, heq, hb, hg, hlen, hel⟩ := (hy.ext he).pos (by omega)
          cases heq
          have hslo := sm_lo hok
          have hshi := sm_hi hok
          have hbad : ∀ (c : ACode) (f' : Fr), ¬ TyL ys → T (ACode.seq A_spec_l05Types.r9 (.seq .ret c)) R2 f' H' := by
            intro c f' hno
            refine T_rseq fun Kr hKr => ?_; simp (disch := omega) only [RF, RO, RC, tup, ↓reduceIte, Nat.reduceEqDiff, RD]; refine hKr _ _ ?_; clear hKr Kr; try simp only [RN, Bool.false_eq_true, reduceIte]
            refine hR2 _ _ (hR _ _ ?_)
            refine ⟨_, rfl, ?_⟩; simp only [RF, ev_t, ev_c, tup, ↓reduceIte, Nat.reduceEqDiff]
            have hno' : ¬ okTypes xs ys := fun h => hno (okTypes_TyL h).2
            have := hK H' 0 he (fun h => absurd h hno')
            simpa [hno'] using this
          have hgood : ∀ (f' : Fr), f' 6 = S H.n 0 2 1 → f' 7 = P (H.n + 1) 0 → f' 8 = I 1 → f' 9 = I i → okAt ys i → i < 16 → T (ACode.seq A_spec_l05Types.r10 A_spec_l05Types.r7) R2 f' H' := by
            intro f' h6 h7 h8 h9 hoi hi16
            have h1 := hoi.1
            have h2 := hoi.2.1
            have hss : sm ys i + el ys i = sm ys (i + 1) := rfl
            refine T_rseq fun Kr hKr => ?_; simp (disch := omega) only [RF, RO, RC, tup, ↓reduceIte, Nat.reduceEqDiff, Int.reduceToNat, RD, h6, h7, h8, h9, hg1, hg2, hg, hel, opsT_indexAddrA, idxA_p, List.getElem?_cons_zero, List.getElem?_cons_succ, hss, stB_sum1]; refine hKr _ _ ?_; clear hKr Kr; try simp only [RN, Bool.false_eq_true, reduceIte]
            refine T_reg_k fun Kr hKr => ?_; simp (disch := omega) only [RF, RO, RC, tup, ↓reduceIte, Nat.reduceEqDiff, RD, h9]; refine hKr _ _ ?_; clear hKr Kr
            refine hN2 (ys.length - (i + 1)) _ _ (by omega) ⟨i + 1, by omega, rfl, he.set (by omega) _, hn, ?_, get_set_same _ _ _, by simp [RF, h6], by simp [RF, h7], by simp [RF, h8], by simp [RF], fun j hj => ?_, by omega⟩
            · rw [get_set_ne _ _ _ _ (by omega)]; exact hg1
            · by_cases ej : j = i
              · subst ej; exact hoi
              · exact hok j (by omega)
          by_cases c1 : 1 ≤ el ys i ∧ el ys i ≤ 16
          · by_cases hi0 : i = 0
            · subst hi0
              have hel0 := hel 0 (by omega)
              rw [Nat.add_zero] at hel0
              refine T_rseq fun Kr hKr => ?_; simp (disch := omega) only [RF, RO, RC, tup, ↓reduceIte, Nat.reduceEqDiff, Int.reduceToNat, RD, h6, h8, h9, hg1, hg, hel0, List.getElem?_cons_zero, List.getElem?_cons_succ]
              refine l01In_spec ?_
              rw [decide_eq_true c1]
              simp (disch := omega) only [RF, RO, RC, tup, ↓reduceIte, Nat.reduceEqDiff, RD, h9, Ext.refl']
              refine hKr _ _ ?_; clear hKr Kr; (try simp only [blkQ, thenQ, loopQ]); try simp only [RN, Bool.false_eq_true, reduceIte]
              refine T_cseq (t := false) (by simp (disch := omega) only [RF, RO, RC, tup, ↓reduceIte, Nat.reduceEqDiff, decT, decF]) ?_; try simp only [RN, Bool.false_eq_true, reduceIte]
              exact hgood _ (by simp [RF, h6]) (by simp [RF, h7]) (by simp [RF, h8]) (by simp [RF, h9]) ⟨c1.1, c1.2, fun h => by omega⟩ (by omega)
            · obtain ⟨j, rfl⟩ : ∃ j, i = j + 1 := ⟨i - 1, by omega⟩
              have hj : ((j + 1 : Nat) : Int) - 1 = (j : Int) := by omega
              have hjl : j < ys.length := by omega
              refine T_rseq fun Kr hKr => ?_; simp (disch := omega) only [RF, RO, RC, tup, ↓reduceIte, Nat.reduceEqDiff, Nat.reduceSub, Int.reduceLE, Int.reduceToNat, RD, h6, h8, h9, hg1, hg, hel, List.getElem?_cons_zero, List.getElem?_cons_succ]
              refine l01In_spec ?_
              rw [decide_eq_true c1]
              by_cases c3 : el ys j < el ys (j + 1)
              · simp (disch := omega) only [RF, RO, RC, tup, ↓reduceIte, Nat.reduceEqDiff, Nat.reduceLT, Int.reduceToNat, RD, h6, h8, h9, hg1, hg, hel, hj, hjl, Ext.refl', List.getElem?_cons_zero, List.getElem?_cons_succ]
                refine hKr _ _ ?_; clear hKr Kr; (try simp only [blkQ, thenQ, loopQ]); try simp only [RN, Bool.false_eq_true, reduceIte]
                refine T_cseq (t := true) (by simp (disch := omega) only [RF, RO, RC, tup, ↓reduceIte, Nat.reduceEqDiff, decT, decF]) ?_; try simp only [RN, Bool.false_eq_true, reduceIte]
                exact hbad _ _ fun h => by have := (h.1 (j + 1) hlt).2.2 (by omega); simp only [Nat.add_sub_cancel] at this; omega
              · by_cases c4 : 16 ≤ j + 1
                · simp (disch := omega) only [RF, RO, RC, tup, ↓reduceIte, Nat.reduceEqDiff, Nat.reduceLT, Int.reduceToNat, RD, h6, h8, h9, hg1, hg, hel, hj, hjl, Ext.refl', List.getElem?_cons_zero, List.getElem?_cons_succ]
                  refine hKr _ _ ?_; clear hKr Kr; (try simp only [blkQ, thenQ, loopQ]); try simp only [RN, Bool.false_eq_true, reduceIte]
                  refine T_cseq (t := true) (by simp (disch := omega) only [RF, RO, RC, tup, ↓reduceIte, Nat.reduceEqDiff, decT, decF]) ?_; try simp only [RN, Bool.false_eq_true, reduceIte]
                  exact hbad _ _ fun h => by have := h.2; omega
                · simp (disch := omega) only [RF, RO, RC, tup, ↓reduceIte, Nat.reduceEqDiff, Nat.reduceLT, Int.reduceToNat, RD, h6, h8, h9, hg1, hg, hel, hj, hjl, Ext.refl', List.getElem?_cons_zero, List.getElem?_cons_succ]
                  refine hKr _ _ ?_; clear hKr Kr; (try simp only [blkQ, thenQ, loopQ]); try simp only [RN, Bool.false_eq_true, reduceIte]
                  refine T_cseq (t := false) (by simp (disch := omega) only [RF, RO, RC, tup, ↓reduceIte, Nat.reduceEqDiff, decT, decF]) ?_; try simp only [RN, Bool.false_eq_true, reduceIte]
                  exact hgood _ (by simp [RF, h6]) (by simp [RF, h7]) (by simp [RF, h8]) (by simp [RF, h9]) ⟨c1.1, c1.2, fun h => by simp only [Nat.add_sub_cancel]; omega⟩ (by omega)
          · refine T_rseq fun Kr hKr => ?_; simp (disch := omega) only [RF, RO, RC, tup, ↓reduceIte, Nat.reduceEqDiff, Int.reduceToNat, RD, h6, h8, h9, hg1, hg, hel, List.getElem?_cons_zero, List.getElem?_cons_succ]
            refine l01In_spec ?_
            rw [decide_eq_false c1]
            simp (disch := omega) only [RF, RO, RC, tup, ↓reduceIte, Nat.reduceEqDiff, RD, Ext.refl']
            refine hKr _ _ ?_; clear hKr Kr; (try simp only [blkQ, thenQ, loopQ]); try simp only [RN, Bool.false_eq_true, reduceIte]
            refine T_cseq (t := true) (by simp (disch := omega) only [RF, RO, RC, tup, ↓reduceIte, Nat.reduceEqDiff, decT, decF]) ?_; try simp only [RN, Bool.false_eq_true, reduceIte]
            exact hbad _ _ fun h => c1 ⟨(h.1 i hlt).1, (h.1 i hlt).2.1⟩
        · refine T_cseq (t := false) (by simp (disch := omega) only [RF, RO, RC, tup, ↓reduceIte, Nat.reduceEqDiff, Int.reduceToNat, decT, decF]) ?_; try simp only [RN, Bool.false_eq_true, reduceIte]
          refine hX2 _ _ ?_
          have hii : i = ys.length := by omega
          subst hii
          refine T_reg_k fun Kr hKr => ?_; simp (disch := omega) only [RF, RO, RC, tup, ↓reduceIte, Nat.reduceEqDiff, RD, h8]; refine hKr _ _ ?_; clear hKr Kr
          refine hN (2 - (1 + 1)) _ _ (by omega) ⟨1 + 1, by omega, rfl, he, hn, hg1, by simpa [sums, sm] using hg2, by simp [RF, h6], by simp [RF, h7], by simp [RF], fun _ => ht1 (by omega), fun _ => ⟨hok, hi16⟩⟩
    · refine T_rseq fun Kr hKr => ?_; simp (disch := omega) only [RF, RO, RC, tup, ↓reduceIte, Nat.reduceEqDiff, Int.reduceLT, RD, h8]; refine hKr _ _ ?_; clear hKr Kr; try simp only [RN, Bool.false_eq_true, reduceIte]
      refine T_cseq (t := false) (by simp (disch := omega) only [RF, RO, RC, tup, ↓reduceIte, Nat.reduceEqDiff, decT, decF]) ?_; try simp only [RN, Bool.false_eq_true, reduceIte]
      refine hX _ _ ?_
      have htx := ht1 (by omega)
      have hty := ht2 (by omega)
      have hiff := okTypes_L htx hty
      have hg3 : H'.get (H.n + 1) = some ⟨[I (sm xs xs.length), I (sm ys ys.length)], true⟩ := hg2
      by_cases hq : sm xs xs.length = sm ys ys.length
      · refine T_rseq fun Kr hKr => ?_; simp (disch := omega) only [RF, RO, RC, tup, ↓reduceIte, Nat.reduceEqDiff, Int.reduceToNat, RD, h7, hg3, opsT_indexAddrA, idxA_p, List.getElem?_cons_zero, List.getElem?_cons_succ, hq]
        refine l01In_spec ?_
        simp (disch := omega) only [RF, RO, RC, tup, ↓reduceIte, Nat.reduceEqDiff, RD, Ext.refl']
        refine hKr _ _ ?_; clear hKr Kr; (try simp only [blkQ, thenQ, loopQ]); try simp only [RN, Bool.false_eq_true, reduceIte]
        refine ⟨_, rfl, ?_⟩; simp only [RF, ev_t, ev_c, tup, ↓reduceIte, Nat.reduceEqDiff]
        have := hK H' (sm xs xs.length) he (fun _ => rfl)
        have e : okTypes xs ys ↔ (1 ≤ sm ys ys.length ∧ sm ys ys.length ≤ 16) := by rw [hiff, hq]; simp
        simpa only [e, hq] using this
      · refine T_rseq fun Kr hKr => ?_; simp (disch := omega) only [RF, RO, RC, tup, ↓reduceIte, Nat.reduceEqDiff, Int.reduceToNat, RD, h7, hg3, opsT_indexAddrA, idxA_p, List.getElem?_cons_zero, List.getElem?_cons_succ, hq]; refine hKr _ _ ?_; clear hKr Kr; try simp only [RN, Bool.false_eq_true, reduceIte]
        refine ⟨_, rfl, ?_⟩; simp only [RF, ev_t, ev_c, tup, ↓reduceIte, Nat.reduceEqDiff]
        have := hK H' (sm xs xs.length) he (fun _ => rfl)
        have e : ¬ okTypes xs ys := fun h => hq (hiff.1 h).1
        simpa [e] using this
end Go.Am

/- New slices of slices, carried over to the second machine; Shabat polynomials' functions. -/
set_option linter.unusedVariables false
set_option linter.unusedSimpArgs false
set_option linter.unusedSectionVars false
namespace Go.Bm
open Go Go.Am

section
variable {x : Bool} {H : BH} {K : Value → BH → Prop} {xs ys : List Int} {a b : Int}
end
end Go.Bm

/- Trees of two types: what both functions ask of the types. -/
set_option linter.unusedVariables false
set_option linter.unusedSimpArgs false
set_option linter.unusedSectionVars false
namespace Go.Bm
open Go Go.Am

/-- A call of the small machine whose result is plain and told of but in part. -/
theorem lift_E {α : Type} {x : Bool} {g : Nat} {vals : List Value} {H : BH} {K : Value → BH → Prop} {w : α → Value} {P : α → Prop} (hp : ∀ a Z, VZ Z (w a) (w a))
    (h : ∀ ρ Z as HA, VL ρ Z vals as → Rel ρ Z H HA → Am.CallT g as HA fun v' HA' => Ext HA HA' ∧ ∃ a, P a ∧ v' = w a) (hK : ∀ a, P a → K (w a) H) : CallX x g vals H K := by
  intro ρ Z as HA h1 h2
  obtain ⟨v', HA', hc, he, a, ha, rfl⟩ := h ρ Z as HA h1 h2
  obtain ⟨Z', _, hr, hf⟩ := own_fz (xs := []) h2 he (.inl ⟨rfl, rfl⟩)
  exact ⟨_, _, hc, fun _ => he, ρ, Z', _, H, .z (hp a _), hr, Nat.le_refl _, fun _ _ => rfl, hf, hK a ha⟩
section
variable {x : Bool} {xs ys : List Int} {H : BH} {K : Value → BH → Prop}
theorem sumK_is : ∀ n, sumK xs n = sm xs n
  | 0 => rfl
  | n + 1 => by rw [sumK, sm, sumK_is n]
/-- Types of one number up to 16. -/
def OkTs (xs ys : List Int) : Prop := TypeP xs ∧ TypeP ys ∧ sumI xs = sumI ys
instance : Decidable (OkTs xs ys) := by unfold OkTs; infer_instance
theorem okTs_iff : okTypes xs ys ↔ OkTs xs ys := by
  have e1 : sumI xs = sm xs xs.length := sumK_is _
  have e2 : sumI ys = sm ys ys.length := sumK_is _
  constructor
  · intro h
    obtain ⟨a1, a2, a3, a4⟩ := okTypes_len h
    obtain ⟨hx, hy, hs, h1, h2⟩ := h
    exact ⟨⟨⟨a1, a2⟩, fun i hi => ⟨⟨(hx i hi).1, (hx i hi).2.1⟩, (hx i hi).2.2⟩, by omega⟩, ⟨⟨a3, a4⟩, fun i hi => ⟨⟨(hy i hi).1, (hy i hi).2.1⟩, (hy i hi).2.2⟩, by omega⟩, by omega⟩
  · rintro ⟨hx, hy, hs⟩
    have := hx.pos
    exact ⟨fun i hi => ⟨(hx.2.1 i hi).1.1, (hx.2.1 i hi).1.2, (hx.2.1 i hi).2⟩, fun i hi => ⟨(hy.2.1 i hi).1.1, (hy.2.1 i hi).1.2, (hy.2.1 i hi).2⟩, by omega, by omega, by have := hx.2.2; omega⟩
theorem l05Types_L (hlxs : xs.length ≤ 1048576) (hlys : ys.length ≤ 1048576) (hK : ∀ s : Int, (OkTs xs ys → s = sumI xs) → K (.tuple ⟨[I s, .bool (decide (OkTs xs ys))]⟩) H) : CallX x F_spec_l05Types [FI xs, FI ys] H K := by
  refine lift_E (w := fun s : Int => .tuple ⟨[I s, .bool (decide (OkTs xs ys))]⟩) (P := fun s => OkTs xs ys → s = sumI xs) (fun s => vz_p2 rfl rfl) (fun ρ Z as HA hv hr => ?_) hK
  obtain ⟨u, v, rfl, e0, e1⟩ := vl2 hv
  refine Am.l05Types_spec (isI_of hr e0) (by omega) (isI_of hr e1) (by omega) fun HA' s he hs => ⟨he, s, fun h => ?_, ?_⟩
  · rw [hs (okTs_iff.2 h)]
    exact (sumK_is _).symm
  · rw [decide_eq_decide.2 okTs_iff]
def Ok8 (xs ys : List Int) : Prop := OkTs xs ys ∧ sumI xs ≤ 8
instance : Decidable (Ok8 xs ys) := by unfold Ok8; infer_instance
theorem areTypes_8 (hlxs : xs.length ≤ 1048576) (hlys : ys.length ≤ 1048576) (hK : K (.bool (decide (Ok8 xs ys))) H) : CallX x F_impl_areTypes [FI xs, FI ys, I 8] H K := by
  refine callP (.cons .fz (.cons .fz (.cons .int .nil))) ?_
  refine CallX_body Γ_impl_areTypes ?_; simp only [A_impl_areTypes, T_aiff]
  refine T_rseq fun Kr hKr => ?_; simp (disch := omega) only [RA, ↓reduceIte, Nat.reduceEqDiff, RD]; refine hKr _ _ ?_; clear hKr Kr; (try simp only [RN, reduceIte]); try refine T_e rfl ?_
  refine T_rseq fun Kr hKr => ?_; simp (disch := omega) only [RA, ↓reduceIte, Nat.reduceEqDiff, RD]
  refine sumOfType_spec hlxs ?_
  by_cases hx : TypeP xs
  · have hp := hx.pos
    rw [if_pos hx]
    simp (disch := omega) only [RA, ↓reduceIte, Nat.reduceEqDiff, RD]
    refine hKr _ _ ?_; clear hKr Kr; (try simp only [blkQ, thenQ, loopQ]); (try simp only [RN, reduceIte]); try refine T_e rfl ?_
    by_cases h8 : sumI xs ≤ 8
    · refine T_rseq fun Kr hKr => ?_; simp (disch := omega) only [RA, ↓reduceIte, Nat.reduceEqDiff, RD]
      refine sumOfType_spec hlys ?_
      by_cases hy : TypeP ys
      · have hq := hy.pos
        rw [if_pos hy]
        simp (disch := omega) only [RA, ↓reduceIte, Nat.reduceEqDiff, RD]
        refine hKr _ _ ?_; clear hKr Kr; (try simp only [blkQ, thenQ, loopQ]); (try simp only [RN, reduceIte]); try refine T_e rfl ?_
        refine bodyQ_ret (by simp (disch := omega) only [RA, ↓reduceIte, Nat.reduceEqDiff, RD, resAll, resOf]; rfl) GhV.refl ?_; simp only [tup]
        by_cases e : sumI ys = sumI xs
        · rw [show decide (Ok8 xs ys) = true from decide_eq_true ⟨⟨hx, hy, e.symm⟩, h8⟩] at hK
          exact ⟨.bool, by rw [show decide (sumI ys = sumI xs) = true from decide_eq_true e]; exact hK⟩
        · rw [show decide (Ok8 xs ys) = false from decide_eq_false fun h => e h.1.2.2.symm] at hK
          exact ⟨.bool, by rw [show decide (sumI ys = sumI xs) = false from decide_eq_false e]; exact hK⟩
      · rw [if_neg hy]
        rw [show decide (Ok8 xs ys) = false from decide_eq_false fun h => hy h.1.2.1] at hK
        simp (disch := omega) only [RA, ↓reduceIte, Nat.reduceEqDiff, RD]
        refine hKr _ _ ?_; clear hKr Kr; (try simp only [blkQ, thenQ, loopQ]); (try simp only [RN, reduceIte]); try refine T_e rfl ?_
        refine bodyQ_ret (by simp (disch := omega) only [RA, ↓reduceIte, Nat.reduceEqDiff, RD, resAll, resOf]; rfl) GhV.refl ?_; simp only [tup]
        exact ⟨.bool, hK⟩
    · rw [show decide (Ok8 xs ys) = false from decide_eq_false fun h => h8 h.2] at hK
      refine T_rseq fun Kr hKr => ?_; simp (disch := omega) only [RA, ↓reduceIte, Nat.reduceEqDiff, RD]; refine hKr _ _ ?_; clear hKr Kr; (try simp only [RN, reduceIte]); try refine T_e rfl ?_
      refine bodyQ_ret (by simp (disch := omega) only [RA, ↓reduceIte, Nat.reduceEqDiff, RD, resAll, resOf]; rfl) GhV.refl ?_; simp only [tup]
      exact ⟨.bool, hK⟩
  · rw [if_neg hx]
    rw [show decide (Ok8 xs ys) = false from decide_eq_false fun h => hx h.1.1] at hK
    simp (disch := omega) only [RA, ↓reduceIte, Nat.reduceEqDiff, RD]
    refine hKr _ _ ?_; clear hKr Kr; (try simp only [blkQ, thenQ, loopQ]); (try simp only [RN, reduceIte]); try refine T_e rfl ?_
    refine T_rseq fun Kr hKr => ?_; simp (disch := omega) only [RA, ↓reduceIte, Nat.reduceEqDiff, RD]; refine hKr _ _ ?_; clear hKr Kr; (try simp only [RN, reduceIte]); try refine T_e rfl ?_
    refine bodyQ_ret (by simp (disch := omega) only [RA, ↓reduceIte, Nat.reduceEqDiff, RD, resAll, resOf]; rfl) GhV.refl ?_; simp only [tup]
    exact ⟨.bool, hK⟩
/-- Two lists held against each other. -/
theorem l03Less_spec (hl : xs.length < 4611686018427387904) (hl' : ys.length < 4611686018427387904) (hK : ∀ c : Int, (c = 0 ↔ xs = ys) → K (I c) H) : CallX x F_spec_l03Less [FI xs, FI ys] H K := by
  refine callP (.cons .fz (.cons .fz .nil)) ?_
  refine CallX_body Γ_spec_l03Less ?_; simp only [A_spec_l03Less, T_aiff]
  refine T_rseq fun Kr hKr => ?_; simp (disch := omega) only [RA, ↓reduceIte, Nat.reduceEqDiff, RD]; refine hKr _ _ ?_; clear hKr Kr; (try simp only [RN, reduceIte]); try refine T_e rfl ?_
  refine T_rseq fun Kr hKr => ?_; simp (disch := omega) only [RA, ↓reduceIte, Nat.reduceEqDiff, RD]; refine hKr _ _ ?_; clear hKr Kr; (try simp only [RN, reduceIte]); try refine T_e rfl ?_
  refine T_wloop (fun m f H' => ∃ i, i ≤ xs.length ∧ i ≤ ys.length ∧ m = xs.length - i ∧ (∀ j, j < i → el xs j = el ys j) ∧ f 0 = FI xs ∧ f 1 = FI ys ∧ f 5 = I i ∧ H' = []) (xs.length) ?_ ?_
  · refine ⟨_, _, Gh.refl, 0, by omega, by omega, by omega, fun j hj => by omega, ?_, ?_, ?_, rfl⟩
    any_goals (simp (disch := omega) only [RA, ↓reduceIte, Nat.reduceEqDiff, RD, RE, *] <;> rfl)
  · rintro m f H' R ⟨i, hi, hi2, rfl, he, g0, g1, g5, rfl⟩ hN hX hR hE
    simp only [A_spec_l03Less.l0, T_aiff]
    have hend : ∀ f', f' 0 = FI xs → f' 1 = FI ys → (i = xs.length ∨ i = ys.length) → R (.exit 0) f' [] := by
      intro f' g0 g1 hii
      refine hX _ _ ?_
      (first | refine T_bfree rfl ?_ | refine T_bfree' rfl ?_); (try simp only [RN, reduceIte]); try refine T_e rfl ?_
      refine T_rseq fun Kr hKr => ?_; simp (disch := omega) only [RA, ↓reduceIte, Nat.reduceEqDiff, RD, g0, g1]; refine hKr _ _ ?_; clear hKr Kr; (try simp only [RN, reduceIte]); try refine T_e rfl ?_
      refine T_csplit (p := xs.length < ys.length) (by simp only [RA, ↓reduceIte, Nat.reduceEqDiff] <;> rfl) (by (try simp only [RB]) <;> first | done | exact Iff.rfl | omega | simp) (fun hc => ?_) (fun hc => ?_) <;> (try simp only [RN, reduceIte]) <;> (try refine T_e rfl ?_)
      · refine T_rseq fun Kr hKr => ?_; simp (disch := omega) only [RA, ↓reduceIte, Nat.reduceEqDiff, RD]; refine hKr _ _ ?_; clear hKr Kr; (try simp only [RN, reduceIte]); try refine T_e rfl ?_
        refine bodyQ_ret (by simp (disch := omega) only [RA, ↓reduceIte, Nat.reduceEqDiff, RD, resAll, resOf]; rfl) GhV.refl ?_; simp only [tup]
        exact ⟨.int, hK _ ⟨fun h => by omega, fun h => by rw [h] at hc; omega⟩⟩
      · refine T_rseq fun Kr hKr => ?_; simp (disch := omega) only [RA, ↓reduceIte, Nat.reduceEqDiff, RD, g0, g1]; refine hKr _ _ ?_; clear hKr Kr; (try simp only [RN, reduceIte]); try refine T_e rfl ?_
        refine T_csplit (p := ys.length < xs.length) (by simp only [RA, ↓reduceIte, Nat.reduceEqDiff] <;> rfl) (by (try simp only [RB]) <;> first | done | exact Iff.rfl | omega | simp) (fun hc => ?_) (fun hc => ?_) <;> (try simp only [RN, reduceIte]) <;> (try refine T_e rfl ?_)
        · refine T_rseq fun Kr hKr => ?_; simp (disch := omega) only [RA, ↓reduceIte, Nat.reduceEqDiff, RD]; refine hKr _ _ ?_; clear hKr Kr; (try simp only [RN, reduceIte]); try refine T_e rfl ?_
          refine bodyQ_ret (by simp (disch := omega) only [RA, ↓reduceIte, Nat.reduceEqDiff, RD, resAll, resOf]; rfl) GhV.refl ?_; simp only [tup]
          exact ⟨.int, hK _ ⟨fun h => by omega, fun h => by rw [h] at hc; omega⟩⟩
        · have hll : xs.length = ys.length := by omega
          have e : xs = ys := by
            apply List.ext_getElem hll
            intro j h1 h2
            have := he j (by omega)
            simpa [el, List.getD, h1, h2] using this
          refine T_rseq fun Kr hKr => ?_; simp (disch := omega) only [RA, ↓reduceIte, Nat.reduceEqDiff, RD]; refine hKr _ _ ?_; clear hKr Kr; (try simp only [RN, reduceIte]); try refine T_e rfl ?_
          refine bodyQ_ret (by simp (disch := omega) only [RA, ↓reduceIte, Nat.reduceEqDiff, RD, resAll, resOf]; rfl) GhV.refl ?_; simp only [tup]
          exact ⟨.int, hK _ ⟨fun _ => e, fun _ => rfl⟩⟩
    by_cases h1 : i < xs.length
    · by_cases h2 : i < ys.length
      · refine T_rseq fun Kr hKr => ?_; simp (disch := omega) only [RA, ↓reduceIte, Nat.reduceEqDiff, RD, g0, g1, g5]; refine hKr _ _ ?_; clear hKr Kr; (try simp only [RN, reduceIte]); try refine T_e rfl ?_
        refine T_cseq (t := true) (by simp (disch := omega) only [RA, ↓reduceIte, Nat.reduceEqDiff, RD]) ?_; (try simp only [RN, reduceIte]); try refine T_e rfl ?_
        (first | refine T_bfree rfl ?_ | refine T_bfree' rfl ?_); (try simp only [RN, reduceIte]); try refine T_e rfl ?_
        refine T_rseq fun Kr hKr => ?_; simp (disch := omega) only [RA, ↓reduceIte, Nat.reduceEqDiff, RD, g0, g1, g5]; refine hKr _ _ ?_; clear hKr Kr; (try simp only [RN, reduceIte]); try refine T_e rfl ?_
        refine T_csplit (p := el xs i < el ys i) (by simp only [RA, ↓reduceIte, Nat.reduceEqDiff] <;> rfl) (by (try simp only [RB]) <;> first | done | exact Iff.rfl | omega | simp) (fun hc => ?_) (fun hc => ?_) <;> (try simp only [RN, reduceIte]) <;> (try refine T_e rfl ?_)
        · refine T_rseq fun Kr hKr => ?_; simp (disch := omega) only [RA, ↓reduceIte, Nat.reduceEqDiff, RD]; refine hKr _ _ ?_; clear hKr Kr; (try simp only [RN, reduceIte]); try refine T_e rfl ?_
          refine hR _ _ ?_
          refine bodyQ_ret (by simp (disch := omega) only [RA, ↓reduceIte, Nat.reduceEqDiff, RD, resAll, resOf]; rfl) GhV.refl ?_; simp only [tup]
          exact ⟨.int, hK _ ⟨fun h => by omega, fun h => by rw [h] at hc; omega⟩⟩
        refine T_rseq fun Kr hKr => ?_; simp (disch := omega) only [RA, ↓reduceIte, Nat.reduceEqDiff, RD, g0, g1, g5]; refine hKr _ _ ?_; clear hKr Kr; (try simp only [RN, reduceIte]); try refine T_e rfl ?_
        refine T_csplit (p := el ys i < el xs i) (by simp only [RA, ↓reduceIte, Nat.reduceEqDiff] <;> rfl) (by (try simp only [RB]) <;> first | done | exact Iff.rfl | omega | simp) (fun hc => ?_) (fun hc => ?_) <;> (try simp only [RN, reduceIte]) <;> (try refine T_e rfl ?_)
        · refine T_rseq fun Kr hKr => ?_; simp (disch := omega) only [RA, ↓reduceIte, Nat.reduceEqDiff, RD]; refine hKr _ _ ?_; clear hKr Kr; (try simp only [RN, reduceIte]); try refine T_e rfl ?_
          refine hR _ _ ?_
          refine bodyQ_ret (by simp (disch := omega) only [RA, ↓reduceIte, Nat.reduceEqDiff, RD, resAll, resOf]; rfl) GhV.refl ?_; simp only [tup]
          exact ⟨.int, hK _ ⟨fun h => by omega, fun h => by rw [h] at hc; omega⟩⟩
        have he' : ∀ j, j < i + 1 → el xs j = el ys j := fun j hj => by
          by_cases e : j = i
          · rw [e]; omega
          · exact he j (by omega)
        refine T_reg_k fun Kr hKr => ?_; simp (disch := omega) only [RA, ↓reduceIte, Nat.reduceEqDiff, RD, g5]; refine hKr _ _ ?_; clear hKr Kr
        refine hN (xs.length - (i + 1)) _ _ _ _ (by omega) Gh.refl ⟨i + 1, by omega, by omega, rfl, he', ?_, ?_, ?_, rfl⟩
        any_goals (simp (disch := omega) only [RA, ↓reduceIte, Nat.reduceEqDiff, RD, RE, *] <;> rfl)
      · refine T_rseq fun Kr hKr => ?_; simp (disch := omega) only [RA, ↓reduceIte, Nat.reduceEqDiff, RD, g0, g1, g5]; refine hKr _ _ ?_; clear hKr Kr; (try simp only [RN, reduceIte]); try refine T_e rfl ?_
        refine T_cseq (t := false) (by simp (disch := omega) only [RA, ↓reduceIte, Nat.reduceEqDiff, RD]) ?_; (try simp only [RN, reduceIte]); try refine T_e rfl ?_
        refine hend _ ?_ ?_ (.inr (by omega))
        any_goals (simp (disch := omega) only [RA, ↓reduceIte, Nat.reduceEqDiff, RD, RE, *] <;> rfl)
    · refine T_rseq fun Kr hKr => ?_; simp (disch := omega) only [RA, ↓reduceIte, Nat.reduceEqDiff, RD, g0, g1, g5]; refine hKr _ _ ?_; clear hKr Kr; (try simp only [RN, reduceIte]); try refine T_e rfl ?_
      refine T_cseq (t := false) (by simp (disch := omega) only [RA, ↓reduceIte, Nat.reduceEqDiff, RD]) ?_; (try simp only [RN, reduceIte]); try refine T_e rfl ?_
      refine hend _ ?_ ?_ (.inl (by omega))
      any_goals (simp (disch := omega) only [RA, ↓reduceIte, Nat.reduceEqDiff, RD, RE, *] <;> rfl)
theorem l05Same_spec (hl : xs.length < 4611686018427387904) (hl' : ys.length < 4611686018427387904) (hK : K (.bool (decide (xs = ys))) H) : CallX x F_spec_l05Same [FI xs, FI ys] H K := by
  refine callP (.cons .fz (.cons .fz .nil)) ?_
  refine CallX_body Γ_spec_l05Same ?_; simp only [A_spec_l05Same, T_aiff]
  refine T_rseq fun Kr hKr => ?_; simp (disch := omega) only [RA, ↓reduceIte, Nat.reduceEqDiff, RD]; refine hKr _ _ ?_; clear hKr Kr; (try simp only [RN, reduceIte]); try refine T_e rfl ?_
  refine T_rseq fun Kr hKr => ?_; simp (disch := omega) only [RA, ↓reduceIte, Nat.reduceEqDiff, RD]
  refine l03Less_spec hl hl' fun c hc => ?_
  simp (disch := omega) only [RA, ↓reduceIte, Nat.reduceEqDiff, RD]
  refine hKr _ _ ?_; clear hKr Kr; (try simp only [blkQ, thenQ, loopQ]); (try simp only [RN, reduceIte]); try refine T_e rfl ?_
  refine bodyQ_ret (by simp (disch := omega) only [RA, ↓reduceIte, Nat.reduceEqDiff, RD, resAll, resOf]; rfl) GhV.refl ?_; simp only [tup]
  rw [decide_eq_decide.2 hc]
  exact ⟨.bool, hK⟩
end
end Go.Bm

/- All words of brackets: both functions that list them. -/
set_option linter.unusedVariables false
set_option linter.unusedSimpArgs false
set_option linter.unusedSectionVars false
namespace Go.Bm
open Go Go.Am

theorem nj_st {s : List UInt8} : nj (strV s) = true := rfl
theorem take_sg {ws : List (List UInt8)} {i : Nat} (h : i < ws.length) : ws.take (i + 1) = ws.take i ++ [sg ws i] := by
  rw [List.take_succ_eq_append_getElem h]
  simp [sg, List.getD, h]
theorem sg_mem {ws : List (List UInt8)} {i : Nat} (h : i < ws.length) : sg ws i ∈ ws := by simp [sg, List.getD, h]
def wlA (k o l : Nat) : List (List UInt8) := if 0 < l then (wlF k (o + 1) (l - 1)).map (40 :: ·) else []
def wlB (k o l : Nat) : List (List UInt8) := if 0 < o then (wlF k (o - 1) l).map (41 :: ·) else []
theorem wlF_s {k o l : Nat} : wlF (k + 1) o l = wlA k o l ++ wlB k o l := rfl
theorem wlA_len {k o l : Nat} (hk : k ≤ 16) : (wlA k o l).length ≤ 65536 := by
  unfold wlA
  have h1 := wlF_len k (o + 1) (l - 1)
  have h2 := Nat.pow_le_pow_right (n := 2) (by omega) hk
  split
  · rw [List.length_map]; omega
  · simp
theorem words_spec : ∀ (k : Nat) {x : Bool} {o l : Nat} {H : BH} {K : Value → BH → Prop}, k = o + 2 * l → k ≤ 16 → K (FSt (wlF k o l)) H → CallX x F_impl_words [I o, I l] H K
  | 0, x, o, l, H, K, h, hk, hK => by
    obtain rfl : o = 0 := by omega
    obtain rfl : l = 0 := by omega
    refine callP (.cons .int (.cons .int .nil)) ?_
    refine CallX_body Γ_impl_words ?_; simp only [A_impl_words, T_aiff]
    refine T_rseq fun Kr hKr => ?_; simp (disch := omega) only [RA, ↓reduceIte, Nat.reduceEqDiff, Nat.reduceLeDiff, reduceCtorEq, RD]; refine hKr _ _ ?_; clear hKr Kr; (try simp only [RN, reduceIte]); try refine T_e rfl ?_
    refine T_rseq fun Kr hKr => ?_; simp (disch := omega) only [RA, ↓reduceIte, Nat.reduceEqDiff, Nat.reduceLeDiff, reduceCtorEq, RD]; refine hKr _ _ ?_; clear hKr Kr; (try simp only [RN, reduceIte]); try refine T_e rfl ?_
    refine T_cseq (t := true) (by simp (disch := omega) only [RA, ↓reduceIte, Nat.reduceEqDiff, RD]) ?_; (try simp only [RN, reduceIte]); try refine T_e rfl ?_
    refine T_rseq fun Kr hKr => ?_; simp (disch := omega) only [RA, ↓reduceIte, Nat.reduceEqDiff, Nat.reduceLeDiff, reduceCtorEq, RD]; refine hKr _ _ ?_; clear hKr Kr; (try simp only [RN, reduceIte]); try refine T_e rfl ?_
    refine bodyQ_ret (by simp (disch := omega) only [RA, ↓reduceIte, Nat.reduceEqDiff, RD, resAll, resOf]; rfl) (GhV.fz (i := 0) (by simp (disch := omega) only [RA, ↓reduceIte, Nat.reduceEqDiff, RD]; rfl) (by simp only [RH])) ?_; simp only [tup, frzT]
    exact ⟨.fz, hK⟩
  | k + 1, x, o, l, H, K, h, hk, hK => by
    rw [wlF_s] at hK
    have hAl := @wlA_len k o l (by omega)
    refine callP (.cons .int (.cons .int .nil)) ?_
    refine CallX_body Γ_impl_words ?_; simp only [A_impl_words, T_aiff]
    refine T_rseq fun Kr hKr => ?_; simp (disch := omega) only [RA, ↓reduceIte, Nat.reduceEqDiff, Nat.reduceLeDiff, reduceCtorEq, RD]; refine hKr _ _ ?_; clear hKr Kr; (try simp only [RN, reduceIte]); try refine T_e rfl ?_
    have hlast : ∀ (f' : Fr) (ws : List (List UInt8)), f' 5 = S 0 0 ws.length 1 → ws = wlA k o l ++ wlB k o l → T 0 (.seq A_impl_words.r16 .ret) (bodyQ 0 [.tmp 4] fun v _ => NN v ∧ K v H) f' [some (ws.map strV)] := by
      intro f' ws g5 e
      refine T_rseq fun Kr hKr => ?_; simp (disch := omega) only [RA, ↓reduceIte, Nat.reduceEqDiff, RD, g5]; refine hKr _ _ ?_; clear hKr Kr; (try simp only [RN, reduceIte]); try refine T_e rfl ?_
      have hlm : ws.length * 1 = (ws.map strV).length := by simp
      refine bodyQ_ret (vs := [S 0 0 ws.length 1]) (by simp (disch := omega) only [RA, ↓reduceIte, Nat.reduceEqDiff, resAll, resOf, g5] <;> rfl) (GhV.fz (i := 0) rfl NNL_st) ?_
      simp only [tup, frzT, frz_all hlm]
      rw [e]
      exact ⟨.fz, hK⟩
    have hmid : ∀ f' : Fr, f' 0 = I o → f' 1 = I l → f' 5 = S 0 0 (wlA k o l).length 1 → T 0 (.seq A_impl_words.r10 (.seq (.cond (.t 37) (.seq A_impl_words.r11 (.block 2 (.loop A_impl_words.l1))) .skip) (.seq A_impl_words.r16 .ret))) (bodyQ 0 [.tmp 4] fun v _ => NN v ∧ K v H) f' [some ((wlA k o l).map strV)] := by
      intro f' g0 g1 g5
      refine T_rseq fun Kr hKr => ?_; simp (disch := omega) only [RA, ↓reduceIte, Nat.reduceEqDiff, RD, g0]; refine hKr _ _ ?_; clear hKr Kr; (try simp only [RN, reduceIte]); try refine T_e rfl ?_
      refine T_csplit (p := 0 < o) (by simp only [RA, ↓reduceIte, Nat.reduceEqDiff] <;> rfl) (by (try simp only [RB]) <;> first | done | exact Iff.rfl | omega | simp) (fun hc => ?_) (fun hc => ?_) <;> (try simp only [RN, reduceIte]) <;> (try refine T_e rfl ?_)
      · have e1 : (o : Int) - 1 = ((o - 1 : Nat) : Int) := by omega
        have hB : wlB k o l = (wlF k (o - 1) l).map (41 :: ·) := if_pos hc
        refine T_rseq fun Kr hKr => ?_; simp (disch := omega) only [RA, ↓reduceIte, Nat.reduceEqDiff, RD, g0, g1, e1]
        refine words_spec k (by omega) (by omega) ?_
        have hwl := wlF_len k (o - 1) l
        have hp := Nat.pow_le_pow_right (n := 2) (by omega) (show k ≤ 16 by omega)
        have hws := wlF_ok k (o - 1) l (by omega)
        generalize wlF k (o - 1) l = ws at hB hwl hws
        simp (disch := omega) only [RA, ↓reduceIte, Nat.reduceEqDiff, RD]
        refine hKr _ _ ?_; clear hKr Kr; (try simp only [blkQ, thenQ, loopQ]); (try simp only [RN, reduceIte]); try refine T_e rfl ?_
        refine T_wloop (fun m f H' => ∃ (i : Nat) (us : List (List UInt8)), i ≤ ws.length ∧ m = ws.length - i ∧ us = wlA k o l ++ (ws.take i).map (41 :: ·) ∧ us.length = (wlA k o l).length + i ∧ f 5 = S 0 0 us.length 1 ∧ f 41 = FSt ws ∧ f 42 = I ws.length ∧ f 43 = I i ∧ H' = [some (us.map strV)]) (ws.length) ?_ ?_
        · refine ⟨_, _, Gh.refl, 0, wlA k o l, by omega, by omega, by simp, by omega, ?_, ?_, ?_, ?_, rfl⟩
          any_goals (simp (disch := omega) only [RA, ↓reduceIte, Nat.reduceEqDiff, RD, RE, *] <;> rfl)
        · clear g0 g1 g5
          rintro m f H' R ⟨i, us, hi, rfl, he, hul, g5, g41, g42, g43, rfl⟩ hN hX hR hE
          simp only [A_impl_words.l1, T_aiff]
          refine T_rseq fun Kr hKr => ?_; simp (disch := omega) only [RA, ↓reduceIte, Nat.reduceEqDiff, RD, g42, g43]; refine hKr _ _ ?_; clear hKr Kr; (try simp only [RN, reduceIte]); try refine T_e rfl ?_
          refine T_csplit (p := i < ws.length) (by simp only [RA, ↓reduceIte, Nat.reduceEqDiff] <;> rfl) (by (try simp only [RB]) <;> first | done | exact Iff.rfl | omega | simp) (fun hc => ?_) (fun hc => ?_) <;> (try simp only [RN, reduceIte]) <;> (try refine T_e rfl ?_)
          · have hsl := (hws _ (sg_mem hc)).1
            have ha := sb_add41 (a := sg ws i) (by omega)
            (first | refine T_bfree rfl ?_ | refine T_bfree' rfl ?_); (try simp only [RN, reduceIte]); try refine T_e rfl ?_
            refine T_rseq fun Kr hKr => ?_; simp (disch := omega) only [RA, ↓reduceIte, Nat.reduceEqDiff, RD, g41, g43, getN_st]; refine hKr _ _ ?_; clear hKr Kr; (try simp only [RN, reduceIte]); try refine T_e rfl ?_
            refine T_rseq fun Kr hKr => ?_; simp (disch := omega) only [RA, ↓reduceIte, Nat.reduceEqDiff, Nat.reduceAdd, Nat.reduceLeDiff, RD, g5, ha, fl1_st, nj_st, app1_st]; refine hKr _ _ ?_; clear hKr Kr; (try simp only [RN, reduceIte]); try refine T_e rfl ?_
            refine T_reg_k fun Kr hKr => ?_; simp (disch := omega) only [RA, ↓reduceIte, Nat.reduceEqDiff, RD, g43]; refine hKr _ _ ?_; clear hKr Kr
            refine hN (ws.length - (i + 1)) _ _ _ _ (by omega) (Gh.nrm [2] rfl rfl (by simp only [RH, NNL_st, NN_strV])) ⟨i + 1, us ++ [41 :: sg ws i], by omega, rfl, ?_, ?_, ?_, ?_, ?_, ?_, ?_⟩
            · rw [he, take_sg hc]; simp
            · rw [List.length_append, List.length_singleton]; omega
            · rw [List.length_append, List.length_singleton]; exact (by simp (disch := omega) only [RA, ↓reduceIte, Nat.reduceEqDiff, RD, RE, *] <;> rfl)
            · exact (by simp (disch := omega) only [RA, ↓reduceIte, Nat.reduceEqDiff, RD, RE, *] <;> rfl)
            · exact (by simp (disch := omega) only [RA, ↓reduceIte, Nat.reduceEqDiff, RD, RE, *] <;> rfl)
            · exact (by simp (disch := omega) only [RA, ↓reduceIte, Nat.reduceEqDiff, RD, RE, *] <;> rfl)
            · rfl
          · refine hX _ _ ?_
            (try simp only [RN, reduceIte]); try refine T_e rfl ?_
            obtain rfl : i = ws.length := by omega
            rw [List.take_length, ← hB] at he
            exact hlast _ us (by simp (disch := omega) only [RA, ↓reduceIte, Nat.reduceEqDiff, RD, RE, *] <;> rfl) he
      · have hB : wlB k o l = [] := if_neg hc
        exact hlast _ (wlA k o l) (by simp (disch := omega) only [RA, ↓reduceIte, Nat.reduceEqDiff, RD, RE, *] <;> rfl) (by rw [hB, List.append_nil])
    have hfst : ∀ f' : Fr, f' 0 = I o → f' 1 = I l → T 0 (.seq A_impl_words.r3 (.seq (.seq A_impl_words.r4 (.cond (.t 19) (.seq A_impl_words.r5 (.block 0 (.loop A_impl_words.l0))) .skip)) (.seq (.seq A_impl_words.r10 (.cond (.t 37) (.seq A_impl_words.r11 (.block 2 (.loop A_impl_words.l1))) .skip)) (.seq A_impl_words.r16 .ret)))) (bodyQ 0 [.tmp 4] fun v _ => NN v ∧ K v H) f' [] := by
      intro f' g0 g1
      refine T_rseq fun Kr hKr => ?_; simp (disch := omega) only [RA, ↓reduceIte, Nat.reduceEqDiff, Nat.reduceLeDiff, reduceCtorEq, RD]; refine hKr _ _ ?_; clear hKr Kr; (try simp only [RN, reduceIte]); try refine T_e rfl ?_
      refine T_rseq fun Kr hKr => ?_; simp (disch := omega) only [RA, ↓reduceIte, Nat.reduceEqDiff, RD, g1]; refine hKr _ _ ?_; clear hKr Kr; (try simp only [RN, reduceIte]); try refine T_e rfl ?_
      refine T_csplit (p := 0 < l) (by simp only [RA, ↓reduceIte, Nat.reduceEqDiff] <;> rfl) (by (try simp only [RB]) <;> first | done | exact Iff.rfl | omega | simp) (fun hc => ?_) (fun hc => ?_) <;> (try simp only [RN, reduceIte]) <;> (try refine T_e rfl ?_)
      · have e1 : (l : Int) - 1 = ((l - 1 : Nat) : Int) := by omega
        have e2 : (o : Int) + 1 = ((o + 1 : Nat) : Int) := by omega
        have hA : wlA k o l = (wlF k (o + 1) (l - 1)).map (40 :: ·) := if_pos hc
        refine T_rseq fun Kr hKr => ?_; simp (disch := omega) only [RA, ↓reduceIte, Nat.reduceEqDiff, RD, g0, g1, e1, e2]
        refine words_spec k (by omega) (by omega) ?_
        have hwl := wlF_len k (o + 1) (l - 1)
        have hp := Nat.pow_le_pow_right (n := 2) (by omega) (show k ≤ 16 by omega)
        have hws := wlF_ok k (o + 1) (l - 1) (by omega)
        generalize wlF k (o + 1) (l - 1) = ws at hA hwl hws
        simp (disch := omega) only [RA, ↓reduceIte, Nat.reduceEqDiff, RD]
        refine hKr _ _ ?_; clear hKr Kr; (try simp only [blkQ, thenQ, loopQ]); (try simp only [RN, reduceIte]); try refine T_e rfl ?_
        refine T_wloop (fun m f H' => ∃ (i : Nat) (us : List (List UInt8)), i ≤ ws.length ∧ m = ws.length - i ∧ us = (ws.take i).map (40 :: ·) ∧ us.length = i ∧ f 0 = I o ∧ f 1 = I l ∧ f 5 = S 0 0 us.length 1 ∧ f 24 = FSt ws ∧ f 25 = I ws.length ∧ f 26 = I i ∧ H' = [some (us.map strV)]) (ws.length) ?_ ?_
        · refine ⟨_, _, Gh.refl, 0, [], by omega, by omega, by simp, rfl, ?_, ?_, ?_, ?_, ?_, ?_, rfl⟩
          any_goals (simp (disch := omega) only [RA, ↓reduceIte, Nat.reduceEqDiff, RD, RE, *] <;> rfl)
        · clear g0 g1
          rintro m f H' R ⟨i, us, hi, rfl, he, hul, g0, g1, g5, g24, g25, g26, rfl⟩ hN hX hR hE
          simp only [A_impl_words.l0, T_aiff]
          refine T_rseq fun Kr hKr => ?_; simp (disch := omega) only [RA, ↓reduceIte, Nat.reduceEqDiff, RD, g25, g26]; refine hKr _ _ ?_; clear hKr Kr; (try simp only [RN, reduceIte]); try refine T_e rfl ?_
          refine T_csplit (p := i < ws.length) (by simp only [RA, ↓reduceIte, Nat.reduceEqDiff] <;> rfl) (by (try simp only [RB]) <;> first | done | exact Iff.rfl | omega | simp) (fun hc => ?_) (fun hc => ?_) <;> (try simp only [RN, reduceIte]) <;> (try refine T_e rfl ?_)
          · have hsl := (hws _ (sg_mem hc)).1
            have ha := sb_add40 (a := sg ws i) (by omega)
            (first | refine T_bfree rfl ?_ | refine T_bfree' rfl ?_); (try simp only [RN, reduceIte]); try refine T_e rfl ?_
            refine T_rseq fun Kr hKr => ?_; simp (disch := omega) only [RA, ↓reduceIte, Nat.reduceEqDiff, RD, g24, g26, getN_st]; refine hKr _ _ ?_; clear hKr Kr; (try simp only [RN, reduceIte]); try refine T_e rfl ?_
            refine T_rseq fun Kr hKr => ?_; simp (disch := omega) only [RA, ↓reduceIte, Nat.reduceEqDiff, Nat.reduceAdd, Nat.reduceLeDiff, RD, g5, ha, fl1_st, nj_st, app1_st]; refine hKr _ _ ?_; clear hKr Kr; (try simp only [RN, reduceIte]); try refine T_e rfl ?_
            refine T_reg_k fun Kr hKr => ?_; simp (disch := omega) only [RA, ↓reduceIte, Nat.reduceEqDiff, RD, g26]; refine hKr _ _ ?_; clear hKr Kr
            refine hN (ws.length - (i + 1)) _ _ _ _ (by omega) (Gh.nrm [2] rfl rfl (by simp only [RH, NNL_st, NN_strV])) ⟨i + 1, us ++ [40 :: sg ws i], by omega, rfl, ?_, ?_, ?_, ?_, ?_, ?_, ?_, ?_, ?_⟩
            · rw [he, take_sg hc]; simp
            · rw [List.length_append, List.length_singleton]; omega
            · exact (by simp (disch := omega) only [RA, ↓reduceIte, Nat.reduceEqDiff, RD, RE, *] <;> rfl)
            · exact (by simp (disch := omega) only [RA, ↓reduceIte, Nat.reduceEqDiff, RD, RE, *] <;> rfl)
            · rw [List.length_append, List.length_singleton]; exact (by simp (disch := omega) only [RA, ↓reduceIte, Nat.reduceEqDiff, RD, RE, *] <;> rfl)
            · exact (by simp (disch := omega) only [RA, ↓reduceIte, Nat.reduceEqDiff, RD, RE, *] <;> rfl)
            · exact (by simp (disch := omega) only [RA, ↓reduceIte, Nat.reduceEqDiff, RD, RE, *] <;> rfl)
            · exact (by simp (disch := omega) only [RA, ↓reduceIte, Nat.reduceEqDiff, RD, RE, *] <;> rfl)
            · rfl
          · refine hX _ _ ?_
            (try simp only [RN, reduceIte]); try refine T_e rfl ?_
            obtain rfl : i = ws.length := by omega
            rw [List.take_length, ← hA] at he
            subst he
            refine hmid _ ?_ ?_ ?_
            any_goals (simp (disch := omega) only [RA, ↓reduceIte, Nat.reduceEqDiff, RD, RE, *] <;> rfl)
      · have hA : wlA k o l = [] := if_neg hc
        have hm := hmid
        rw [hA] at hm
        refine hm _ ?_ ?_ ?_
        any_goals (simp (disch := omega) only [RA, ↓reduceIte, Nat.reduceEqDiff, RD, RE, *] <;> rfl)
    by_cases ho : o = 0
    · refine T_rseq fun Kr hKr => ?_; simp (disch := omega) only [RA, ↓reduceIte, Nat.reduceEqDiff, RD]; refine hKr _ _ ?_; clear hKr Kr; (try simp only [RN, reduceIte]); try refine T_e rfl ?_
      refine T_cseq (t := false) (by simp (disch := omega) only [RA, ↓reduceIte, Nat.reduceEqDiff, RD]) ?_; (try simp only [RN, reduceIte]); try refine T_e rfl ?_
      refine hfst _ ?_ ?_
      any_goals (simp (disch := omega) only [RA, ↓reduceIte, Nat.reduceEqDiff, RD, RE, *] <;> rfl)
    · refine T_rseq fun Kr hKr => ?_; simp (disch := omega) only [RA, ↓reduceIte, Nat.reduceEqDiff, RD]; refine hKr _ _ ?_; clear hKr Kr; (try simp only [RN, reduceIte]); try refine T_e rfl ?_
      refine T_cseq (t := false) (by simp (disch := omega) only [RA, ↓reduceIte, Nat.reduceEqDiff, RD]) ?_; (try simp only [RN, reduceIte]); try refine T_e rfl ?_
      refine hfst _ ?_ ?_
      any_goals (simp (disch := omega) only [RA, ↓reduceIte, Nat.reduceEqDiff, RD, RE, *] <;> rfl)
end Go.Bm

/- All words of brackets: the reference's list. -/
set_option linter.unusedVariables false
set_option linter.unusedSimpArgs false
set_option linter.unusedSectionVars false
namespace Go.Bm
open Go Go.Am

theorem map_40 {s : List UInt8} {ws : List (List UInt8)} : ws.map (fun t => (s ++ [40]) ++ t) = (ws.map (40 :: ·)).map (fun t => s ++ t) := by
  rw [List.map_map]
  exact List.map_congr_left fun t _ => by simp
theorem map_41 {s : List UInt8} {ws : List (List UInt8)} : ws.map (fun t => (s ++ [41]) ++ t) = (ws.map (41 :: ·)).map (fun t => s ++ t) := by
  rw [List.map_map]
  exact List.map_congr_left fun t _ => by simp
theorem blk_app {H : BH} {c : Option (List Value)} : blk (H ++ [c]) H.length = c := by rw [blk_append, if_pos rfl]
/-- What is handed back: a block, not the first one where that was handed in. -/
def LaK (q : Nat) (R : List (List UInt8)) (v : Value) (H1 : BH) : Prop := ∃ j, (q = 0 ∨ j ≠ 0) ∧ v = S j 0 R.length 1 ∧ blk H1 j = some (R.map strV)
/-- The end: the list is handed back. -/
theorem l05All_end {f' : Fr} {M : BH} {k j : Nat} {R : List (List UInt8)} (g3 : f' 3 = S j 0 R.length 1) (hj : k = 0 ∨ j ≠ 0) (hb : blk M j = some (R.map strV)) :
    T k (.seq A_spec_l05All.r7 .ret) (bodyQ k [.tmp 8] (LaK k R)) f' M := by
  refine T_rseq fun Kr hKr => ?_; simp (disch := omega) only [RA, ↓reduceIte, Nat.reduceEqDiff, RD, g3]; refine hKr _ _ ?_; clear hKr Kr; (try simp only [RN, reduceIte]); try refine T_e rfl ?_
  refine bodyQ_ret (by simp (disch := omega) only [RA, ↓reduceIte, Nat.reduceEqDiff, RD, resAll, resOf]; rfl) GhV.refl ?_; simp only [tup]
  exact ⟨j, hj, rfl, hb⟩
def laR (s : List UInt8) (ws : List (List UInt8)) (k o l : Nat) : List (List UInt8) := ws ++ (wlF k o l).map (fun t => s ++ t)
/-- What is known of shorter words. -/
def LaIH (k : Nat) : Prop := ∀ (o l : Nat) (s : List UInt8) (ws : List (List UInt8)), k = o + 2 * l → s.length + k ≤ 100 → ws.length + 2 ^ k ≤ 1000000 →
  CallX false F_spec_l05All [strV s, I l, I o, S 0 0 ws.length 1] [some (ws.map strV)] (LaK 1 (laR s ws k o l))
theorem l05All_sec {k : Nat} (ih : LaIH k) {q o l i : Nat} {s : List UInt8} {R1 R : List (List UInt8)} {f' : Fr} {M : BH} (hk : k + 1 = o + 2 * l) (hs : s.length + (k + 1) ≤ 100) (hw : R1.length + 2 ^ k ≤ 1000000)
    (g0 : f' 0 = strV s) (g1 : f' 1 = I l) (g2 : f' 2 = I o) (g3 : f' 3 = S i 0 R1.length 1) (hb : blk M i = some (R1.map strV)) (hM : i < M.length) (hq : q = 0 ∨ (o = 0 → i ≠ 0)) (hR : R = R1 ++ (wlB k o l).map (fun t => s ++ t)) :
    T q (.seq A_spec_l05All.r5 (.seq (.cond (.t 30) A_spec_l05All.r6 .skip) (.seq A_spec_l05All.r7 .ret))) (bodyQ q [.tmp 8] (LaK q R)) f' M := by
  refine T_rseq fun Kr hKr => ?_; simp (disch := omega) only [RA, ↓reduceIte, Nat.reduceEqDiff, RD, g2]; refine hKr _ _ ?_; clear hKr Kr; (try simp only [RN, reduceIte]); try refine T_e rfl ?_
  refine T_csplit (p := 0 < o) (by simp only [RA, ↓reduceIte, Nat.reduceEqDiff] <;> rfl) (by (try simp only [RB]) <;> first | done | exact Iff.rfl | omega | simp) (fun hc => ?_) (fun hc => ?_) <;> (try simp only [RN, reduceIte]) <;> (try refine T_e rfl ?_)
  · have e1 : (o : Int) - 1 = ((o - 1 : Nat) : Int) := by omega
    have ha := sb_app41 (a := s) (by omega)
    have hB : wlB k o l = (wlF k (o - 1) l).map (41 :: ·) := if_pos hc
    have hR2 : laR (s ++ [41]) R1 k (o - 1) l = R := by rw [hR, hB, laR, map_41]
    refine T_rseq fun Kr hKr => ?_; simp (disch := omega) only [RA, ↓reduceIte, Nat.reduceEqDiff, RD, g0, g1, g2, g3, ha, e1]
    refine callSN (i := i) hb NNL_st ?_
    have eb : ([strV (s ++ [41]), I l, I ((o - 1 : Nat) : Int), S i 0 R1.length 1] : List Value).map (ren [i]) = [strV (s ++ [41]), I l, I ((o - 1 : Nat) : Int), S 0 0 R1.length 1] := by simp [ren, ren1, nm, strV]
    rw [eb]
    refine (ih (o - 1) l (s ++ [41]) R1 (by omega) (by rw [List.length_append, List.length_singleton]; omega) hw).mono fun v H1 ⟨j, h1, h2, h3⟩ => ⟨j, _, _, _, h2, h1.resolve_left (by omega), h3, NNL_st, ?_⟩
    rw [hR2]
    simp (disch := omega) only [RA, ↓reduceIte, Nat.reduceEqDiff, RD]
    refine hKr _ _ ?_; clear hKr Kr; (try simp only [blkQ, thenQ, loopQ]); (try simp only [RN, reduceIte]); try refine T_e rfl ?_
    exact l05All_end (j := M.length) (by simp (disch := omega) only [RA, ↓reduceIte, Nat.reduceEqDiff, RD, RE, *] <;> rfl) (.inr (by omega)) (by rw [show M.length = (M.set i none).length by simp, blk_app])
  · have hB : wlB k o l = [] := if_neg hc
    have hR2 : R = R1 := by rw [hR, hB]; simp
    rw [hR2]
    exact l05All_end (j := i) (by simp (disch := omega) only [RA, ↓reduceIte, Nat.reduceEqDiff, RD, RE, *] <;> rfl) (hq.imp id fun h => h (by omega)) hb
theorem lA_mid {s : List UInt8} {ws : List (List UInt8)} {k o l : Nat} : laR s ws (k + 1) o l = (ws ++ (wlA k o l).map fun t => s ++ t) ++ (wlB k o l).map fun t => s ++ t := by
  rw [laR, wlF_s, List.map_append, List.append_assoc]
theorem l05All_own : ∀ k, k ≤ 16 → LaIH k
  | 0, _, o, l, s, ws, h, hs, hw => by
    obtain rfl : o = 0 := by omega
    obtain rfl : l = 0 := by omega
    have hR : laR s ws 0 0 0 = ws ++ [s] := by simp [laR, wlF]
    rw [hR]
    refine CallX_body Γ_spec_l05All ?_; simp only [A_spec_l05All, T_aiff]
    refine T_rseq fun Kr hKr => ?_; simp (disch := omega) only [RA, ↓reduceIte, Nat.reduceEqDiff, RD]; refine hKr _ _ ?_; clear hKr Kr; (try simp only [RN, reduceIte]); try refine T_e rfl ?_
    refine T_rseq fun Kr hKr => ?_; simp (disch := omega) only [RA, ↓reduceIte, Nat.reduceEqDiff, RD]; refine hKr _ _ ?_; clear hKr Kr; (try simp only [RN, reduceIte]); try refine T_e rfl ?_
    refine T_cseq (t := true) (by simp (disch := omega) only [RA, ↓reduceIte, Nat.reduceEqDiff, RD]) ?_; (try simp only [RN, reduceIte]); try refine T_e rfl ?_
    refine T_rseq fun Kr hKr => ?_; simp (disch := omega) only [RA, ↓reduceIte, Nat.reduceEqDiff, Nat.reduceAdd, Nat.reduceLeDiff, reduceCtorEq, RD, fl1_st, nj_st, app1_st]; refine hKr _ _ ?_; clear hKr Kr; (try simp only [RN, reduceIte]); try refine T_e rfl ?_
    refine bodyQ_ret (by simp (disch := omega) only [RA, ↓reduceIte, Nat.reduceEqDiff, RD, resAll, resOf]; rfl) GhV.refl ?_; simp only [tup]
    exact ⟨2, .inr (by omega), by simp, rfl⟩
  | k + 1, hk16, o, l, s, ws, h, hs, hw => by
    have ih := l05All_own k (by omega)
    have hp := Nat.pow_succ 2 k
    have hmain : ∀ f' : Fr, f' 0 = strV s → f' 1 = I l → f' 2 = I o → f' 3 = S 0 0 ws.length 1 → T 1 (.seq A_spec_l05All.r3 (.seq (.cond (.t 20) A_spec_l05All.r4 .skip) (.seq (.seq A_spec_l05All.r5 (.cond (.t 30) A_spec_l05All.r6 .skip)) (.seq A_spec_l05All.r7 .ret)))) (bodyQ 1 [.tmp 8] (LaK 1 (laR s ws (k + 1) o l))) f' [some (ws.map strV)] := by
      intro f' g0 g1 g2 g3
      refine T_rseq fun Kr hKr => ?_; simp (disch := omega) only [RA, ↓reduceIte, Nat.reduceEqDiff, RD, g1]; refine hKr _ _ ?_; clear hKr Kr; (try simp only [RN, reduceIte]); try refine T_e rfl ?_
      refine T_csplit (p := 0 < l) (by simp only [RA, ↓reduceIte, Nat.reduceEqDiff] <;> rfl) (by (try simp only [RB]) <;> first | done | exact Iff.rfl | omega | simp) (fun hc => ?_) (fun hc => ?_) <;> (try simp only [RN, reduceIte]) <;> (try refine T_e rfl ?_)
      · have e1 : (l : Int) - 1 = ((l - 1 : Nat) : Int) := by omega
        have e2 : (o : Int) + 1 = ((o + 1 : Nat) : Int) := by omega
        have ha := sb_app40 (a := s) (by omega)
        have hA : wlA k o l = (wlF k (o + 1) (l - 1)).map (40 :: ·) := if_pos hc
        have hR2 : laR (s ++ [40]) ws k (o + 1) (l - 1) = ws ++ (wlA k o l).map fun t => s ++ t := by rw [hA, laR, map_40]
        have hl2 := wlF_len k (o + 1) (l - 1)
        have hl3 : (ws ++ (wlA k o l).map fun t => s ++ t).length = ws.length + (wlF k (o + 1) (l - 1)).length := by rw [hA]; simp
        refine T_rseq fun Kr hKr => ?_; simp (disch := omega) only [RA, ↓reduceIte, Nat.reduceEqDiff, RD, g0, g1, g2, g3, ha, e1, e2]
        refine callSN (i := 0) rfl NNL_st ?_
        have eb : ([strV (s ++ [40]), I ((l - 1 : Nat) : Int), I ((o + 1 : Nat) : Int), S 0 0 ws.length 1] : List Value).map (ren [0]) = [strV (s ++ [40]), I ((l - 1 : Nat) : Int), I ((o + 1 : Nat) : Int), S 0 0 ws.length 1] := by simp [ren, ren1, nm, strV]
        rw [eb]
        refine (ih (o + 1) (l - 1) (s ++ [40]) ws (by omega) (by rw [List.length_append, List.length_singleton]; omega) (by omega)).mono fun v H1 ⟨j, h1, h2, h3⟩ => ⟨j, _, _, _, h2, h1.resolve_left (by omega), h3, NNL_st, ?_⟩
        rw [hR2]
        simp (disch := omega) only [RA, ↓reduceIte, Nat.reduceEqDiff, RD]
        refine hKr _ _ ?_; clear hKr Kr; (try simp only [blkQ, thenQ, loopQ]); (try simp only [RN, reduceIte]); try refine T_e rfl ?_
        refine l05All_sec ih (R1 := ws ++ (wlA k o l).map fun t => s ++ t) (i := 1) h (by omega) (by rw [hl3]; omega) ?_ ?_ ?_ ?_ rfl (by simp) (.inr fun _ => by omega) lA_mid
        any_goals (simp (disch := omega) only [RA, ↓reduceIte, Nat.reduceEqDiff, RD, RE, *] <;> rfl)
      · have hA : wlA k o l = [] := if_neg hc
        refine l05All_sec ih (R1 := ws) (i := 0) h (by omega) (by omega) ?_ ?_ ?_ ?_ rfl (by simp) (.inr fun _ => by omega) (by rw [lA_mid, hA]; simp)
        any_goals (simp (disch := omega) only [RA, ↓reduceIte, Nat.reduceEqDiff, RD, RE, *] <;> rfl)
    refine CallX_body Γ_spec_l05All ?_; simp only [A_spec_l05All, T_aiff]
    refine T_rseq fun Kr hKr => ?_; simp (disch := omega) only [RA, ↓reduceIte, Nat.reduceEqDiff, RD]; refine hKr _ _ ?_; clear hKr Kr; (try simp only [RN, reduceIte]); try refine T_e rfl ?_
    by_cases hl : l = 0
    · refine T_rseq fun Kr hKr => ?_; simp (disch := omega) only [RA, ↓reduceIte, Nat.reduceEqDiff, RD]; refine hKr _ _ ?_; clear hKr Kr; (try simp only [RN, reduceIte]); try refine T_e rfl ?_
      refine T_cseq (t := false) (by simp (disch := omega) only [RA, ↓reduceIte, Nat.reduceEqDiff, RD]) ?_; (try simp only [RN, reduceIte]); try refine T_e rfl ?_
      refine hmain _ ?_ ?_ ?_ ?_
      any_goals (simp (disch := omega) only [RA, ↓reduceIte, Nat.reduceEqDiff, RD, RE, *] <;> rfl)
    · refine T_rseq fun Kr hKr => ?_; simp (disch := omega) only [RA, ↓reduceIte, Nat.reduceEqDiff, RD]; refine hKr _ _ ?_; clear hKr Kr; (try simp only [RN, reduceIte]); try refine T_e rfl ?_
      refine T_cseq (t := false) (by simp (disch := omega) only [RA, ↓reduceIte, Nat.reduceEqDiff, RD]) ?_; (try simp only [RN, reduceIte]); try refine T_e rfl ?_
      refine hmain _ ?_ ?_ ?_ ?_
      any_goals (simp (disch := omega) only [RA, ↓reduceIte, Nat.reduceEqDiff, RD, RE, *] <;> rfl)
/-- From no list. -/
theorem l05All_nil : ∀ (k : Nat) {o l : Nat} {s : List UInt8}, k ≤ 16 → k = o + 2 * l → s.length + k ≤ 100 →
    CallX false F_spec_l05All [strV s, I l, I o, .slice none 0 0] [] (LaK 0 (laR s [] k o l))
  | 0, o, l, s, hk, h, hs => by
    obtain rfl : o = 0 := by omega
    obtain rfl : l = 0 := by omega
    have hR : laR s [] 0 0 0 = [s] := by simp [laR, wlF]
    rw [hR]
    refine CallX_body Γ_spec_l05All ?_; simp only [A_spec_l05All, T_aiff]
    refine T_rseq fun Kr hKr => ?_; simp (disch := omega) only [RA, ↓reduceIte, Nat.reduceEqDiff, RD]; refine hKr _ _ ?_; clear hKr Kr; (try simp only [RN, reduceIte]); try refine T_e rfl ?_
    refine T_rseq fun Kr hKr => ?_; simp (disch := omega) only [RA, ↓reduceIte, Nat.reduceEqDiff, RD]; refine hKr _ _ ?_; clear hKr Kr; (try simp only [RN, reduceIte]); try refine T_e rfl ?_
    refine T_cseq (t := true) (by simp (disch := omega) only [RA, ↓reduceIte, Nat.reduceEqDiff, RD]) ?_; (try simp only [RN, reduceIte]); try refine T_e rfl ?_
    refine T_rseq fun Kr hKr => ?_; simp (disch := omega) only [RA, ↓reduceIte, Nat.reduceEqDiff, Nat.reduceLeDiff, reduceCtorEq, RD, fl1_st, nj_st, bApp_n, appn_1]; refine hKr _ _ ?_; clear hKr Kr; (try simp only [RN, reduceIte]); try refine T_e rfl ?_
    refine bodyQ_ret (by simp (disch := omega) only [RA, ↓reduceIte, Nat.reduceEqDiff, RD, resAll, resOf]; rfl) GhV.refl ?_; simp only [tup]
    exact ⟨1, .inl rfl, rfl, rfl⟩
  | k + 1, o, l, s, hk16, h, hs => by
    have ih := l05All_own k (by omega)
    have hp := Nat.pow_le_pow_right (n := 2) (by omega) (show k ≤ 16 by omega)
    have hmain : ∀ f' : Fr, f' 0 = strV s → f' 1 = I l → f' 2 = I o → f' 3 = .slice none 0 0 → T 0 (.seq A_spec_l05All.r3 (.seq (.cond (.t 20) A_spec_l05All.r4 .skip) (.seq (.seq A_spec_l05All.r5 (.cond (.t 30) A_spec_l05All.r6 .skip)) (.seq A_spec_l05All.r7 .ret)))) (bodyQ 0 [.tmp 8] (LaK 0 (laR s [] (k + 1) o l))) f' [] := by
      intro f' g0 g1 g2 g3
      refine T_rseq fun Kr hKr => ?_; simp (disch := omega) only [RA, ↓reduceIte, Nat.reduceEqDiff, RD, g1]; refine hKr _ _ ?_; clear hKr Kr; (try simp only [RN, reduceIte]); try refine T_e rfl ?_
      refine T_csplit (p := 0 < l) (by simp only [RA, ↓reduceIte, Nat.reduceEqDiff] <;> rfl) (by (try simp only [RB]) <;> first | done | exact Iff.rfl | omega | simp) (fun hc => ?_) (fun hc => ?_) <;> (try simp only [RN, reduceIte]) <;> (try refine T_e rfl ?_)
      · have e1 : (l : Int) - 1 = ((l - 1 : Nat) : Int) := by omega
        have e2 : (o : Int) + 1 = ((o + 1 : Nat) : Int) := by omega
        have ha := sb_app40 (a := s) (by omega)
        have hA : wlA k o l = (wlF k (o + 1) (l - 1)).map (40 :: ·) := if_pos hc
        have hR2 : laR (s ++ [40]) [] k (o + 1) (l - 1) = (wlA k o l).map fun t => s ++ t := by rw [hA, laR, map_40]; simp
        have hl2 := wlF_len k (o + 1) (l - 1)
        have hl3 : ((wlA k o l).map fun t => s ++ t).length = (wlF k (o + 1) (l - 1)).length := by rw [hA]; simp
        refine T_rseq fun Kr hKr => ?_; simp (disch := omega) only [RA, ↓reduceIte, Nat.reduceEqDiff, RD, g0, g1, g2, g3, ha, e1, e2]
        refine callR (.cons NN_strV (.cons .int (.cons .int (.cons .nil .nil)))) ((l05All_nil k (o := o + 1) (l := l - 1) (s := s ++ [40]) (by omega) (by omega) (by rw [List.length_append, List.length_singleton]; omega)).mono fun v H1 ⟨j, _, h2, h3⟩ => ⟨j, _, _, _, h2, h3, NNL_st, ?_⟩)
        rw [hR2]
        simp (disch := omega) only [RA, ↓reduceIte, Nat.reduceEqDiff, RD]
        refine hKr _ _ ?_; clear hKr Kr; (try simp only [blkQ, thenQ, loopQ]); (try simp only [RN, reduceIte]); try refine T_e rfl ?_
        refine l05All_sec ih (q := 0) (R := laR s [] (k + 1) o l) (R1 := (wlA k o l).map fun t => s ++ t) (M := [some (((wlA k o l).map fun t => s ++ t).map strV)]) (i := 0) h (by omega) (by rw [hl3]; omega) ?_ ?_ ?_ ?_ rfl (by simp) (.inl rfl) (by rw [lA_mid]; simp)
        any_goals (simp (disch := omega) only [RA, ↓reduceIte, Nat.reduceEqDiff, RD, RE, *] <;> rfl)
      · obtain rfl : l = 0 := by omega
        have hA : wlA k o 0 = [] := if_neg (by omega)
        have e1 : (o : Int) - 1 = ((o - 1 : Nat) : Int) := by omega
        have ha := sb_app41 (a := s) (by omega)
        have hB : wlB k o 0 = (wlF k (o - 1) 0).map (41 :: ·) := if_pos (by omega)
        have hR2 : laR (s ++ [41]) [] k (o - 1) 0 = laR s [] (k + 1) o 0 := by rw [lA_mid, hA, hB, laR, map_41]; simp
        have ho : 0 < o := by omega
        refine T_rseq fun Kr hKr => ?_; simp (disch := omega) only [RA, ↓reduceIte, Nat.reduceEqDiff, RD, g2]; refine hKr _ _ ?_; clear hKr Kr; (try simp only [RN, reduceIte]); try refine T_e rfl ?_
        refine T_cseq (t := true) (by simp (disch := omega) only [RA, ↓reduceIte, Nat.reduceEqDiff, RD]) ?_; (try simp only [RN, reduceIte]); try refine T_e rfl ?_
        refine T_rseq fun Kr hKr => ?_; simp (disch := omega) only [RA, ↓reduceIte, Nat.reduceEqDiff, RD, g0, g1, g2, g3, ha, e1]
        refine callR (.cons NN_strV (.cons .int (.cons .int (.cons .nil .nil)))) ((l05All_nil k (o := o - 1) (l := 0) (s := s ++ [41]) (by omega) (by omega) (by rw [List.length_append, List.length_singleton]; omega)).mono fun v H1 ⟨j, _, h2, h3⟩ => ⟨j, _, _, _, h2, h3, NNL_st, ?_⟩)
        rw [hR2]
        simp (disch := omega) only [RA, ↓reduceIte, Nat.reduceEqDiff, RD]
        refine hKr _ _ ?_; clear hKr Kr; (try simp only [blkQ, thenQ, loopQ]); (try simp only [RN, reduceIte]); try refine T_e rfl ?_
        exact l05All_end (k := 0) (j := 0) (M := [some ((laR s [] (k + 1) o 0).map strV)]) (by simp (disch := omega) only [RA, ↓reduceIte, Nat.reduceEqDiff, RD, RE, *] <;> rfl) (.inl rfl) rfl
    refine CallX_body Γ_spec_l05All ?_; simp only [A_spec_l05All, T_aiff]
    refine T_rseq fun Kr hKr => ?_; simp (disch := omega) only [RA, ↓reduceIte, Nat.reduceEqDiff, RD]; refine hKr _ _ ?_; clear hKr Kr; (try simp only [RN, reduceIte]); try refine T_e rfl ?_
    by_cases hl : l = 0
    · refine T_rseq fun Kr hKr => ?_; simp (disch := omega) only [RA, ↓reduceIte, Nat.reduceEqDiff, RD]; refine hKr _ _ ?_; clear hKr Kr; (try simp only [RN, reduceIte]); try refine T_e rfl ?_
      refine T_cseq (t := false) (by simp (disch := omega) only [RA, ↓reduceIte, Nat.reduceEqDiff, RD]) ?_; (try simp only [RN, reduceIte]); try refine T_e rfl ?_
      refine hmain _ ?_ ?_ ?_ ?_
      any_goals (simp (disch := omega) only [RA, ↓reduceIte, Nat.reduceEqDiff, RD, RE, *] <;> rfl)
    · refine T_rseq fun Kr hKr => ?_; simp (disch := omega) only [RA, ↓reduceIte, Nat.reduceEqDiff, RD]; refine hKr _ _ ?_; clear hKr Kr; (try simp only [RN, reduceIte]); try refine T_e rfl ?_
      refine T_cseq (t := false) (by simp (disch := omega) only [RA, ↓reduceIte, Nat.reduceEqDiff, RD]) ?_; (try simp only [RN, reduceIte]); try refine T_e rfl ?_
      refine hmain _ ?_ ?_ ?_ ?_
      any_goals (simp (disch := omega) only [RA, ↓reduceIte, Nat.reduceEqDiff, RD, RE, *] <;> rfl)
/-- All words of n pairs. -/
theorem l05All_spec {x : Bool} {n : Nat} {H : BH} {K : Value → BH → Prop} (hn : n ≤ 8) (hK : K (FSt (wl n)) H) : CallX x F_spec_l05All [strV [], I n, I (0 : Nat), .slice none 0 0] H K :=
  callRZ (.cons NN_strV (.cons .int (.cons .int (.cons .nil .nil)))) NNL_st (by simp) ((l05All_nil (2 * n) (o := 0) (l := n) (s := []) (by omega) (by omega) (by simp; omega)).mono fun v H1 ⟨j, _, h2, h3⟩ => by
    have e : laR [] [] (2 * n) 0 n = wl n := by simp [laR, wl]
    rw [e] at h2 h3
    exact ⟨j, h2, h3⟩) hK
end Go.Bm

/- All permutations in two orders (plain). -/
set_option linter.unusedVariables false
set_option linter.unusedSimpArgs false
set_option linter.unusedSectionVars false
namespace Go.Bm
open Go Go.Am

/-- A permutation of n numbers as places. -/
def PQ (n : Nat) (q : List Nat) : Prop := Perm q n ∧ q.length = 16
section
variable {n : Nat}
end
end Go.Bm

/- How many permutations commute with one of a type: the plain product. -/
set_option linter.unusedVariables false
set_option linter.unusedSimpArgs false
namespace Go.Bm
open Go Go.Am

section
variable {xs : List Int} {n : Nat}
end
section
variable {xs : List Int} (ht : TypeP xs)
include ht
end
end Go.Bm

/- Types: the functions that are compared, and what the law asks of them. -/
set_option linter.unusedVariables false
set_option linter.unusedSimpArgs false
namespace Go.Bm
open Go Go.Am

section
variable {xs : List Int}
end
end Go.Bm

/- The law of types: what it draws, and its own helpers. -/
set_option linter.unusedVariables false
set_option linter.unusedSimpArgs false
namespace Go.Bm
open Go Go.Am

section
variable {code : List Nat} {H : BH} {K : Value → BH → Prop} {x : Bool}
variable (hl : code.length ≤ 1048576) (hcd : ∀ i, nl code i < 256)
include hl hcd
end
end Go.Bm

/- The first permutation of a type; factorials; equal lists; which passports are searched. -/
set_option linter.unusedVariables false
set_option linter.unusedSimpArgs false
set_option linter.unusedSectionVars false
namespace Go.Bm
open Go Go.Am

def segK (p : List Nat) (t m : Nat) : Nat → List Nat
  | 0 => p
  | k + 1 => (segK p t m k).set (t + k) (t + (k + 1) % m)
theorem segK_len {p : List Nat} {t m k : Nat} : (segK p t m k).length = p.length := by
  induction k with
  | zero => rfl
  | succ k ih => rw [segK, List.length_set, ih]
theorem segK_nl {p : List Nat} {t m k x : Nat} (hl : p.length = 16) (h : t + k ≤ 16) : nl (segK p t m k) x = if t ≤ x ∧ x < t + k then t + (x - t + 1) % m else nl p x := by
  induction k with
  | zero => rw [segK, if_neg (by omega)]
  | succ k ih =>
    rw [segK, nl_set, segK_len, hl, ih (by omega)]
    by_cases e : x = t + k
    · subst e
      rw [if_pos ⟨rfl, by omega⟩, if_pos (by omega), show t + k - t + 1 = k + 1 by omega]
    · rw [if_neg (by omega)]
      by_cases h2 : t ≤ x ∧ x < t + k
      · rw [if_pos h2, if_pos (by omega)]
      · rw [if_neg h2, if_neg (by omega)]
structure StOk (p : List Nat) (t : Nat) : Prop where
  len : p.length = 16
  lt : ∀ x, x < t → nl p x < t
  inj : ∀ x y, x < t → y < t → nl p x = nl p y → x = y
  zero : ∀ x, t ≤ x → nl p x = 0
theorem StOk.seg {p : List Nat} {t m : Nat} (h : StOk p t) (hm : 1 ≤ m) (htm : t + m ≤ 16) : StOk (segK p t m m) (t + m) := by
  have hmod : ∀ x, t ≤ x → x < t + m → (x - t + 1) % m = if x - t + 1 = m then 0 else x - t + 1 := fun x h1 h2 => mod_one (by omega)
  refine ⟨by rw [segK_len, h.len], fun x hx => ?_, fun x y hx hy => ?_, fun x hx => ?_⟩
  · rw [segK_nl h.len htm]
    have := Nat.mod_lt (x - t + 1) (show 0 < m by omega)
    by_cases h1 : t ≤ x ∧ x < t + m
    · rw [if_pos h1]; omega
    · rw [if_neg h1]
      have := h.lt x (by omega)
      omega
  · rw [segK_nl h.len htm, segK_nl h.len htm]
    have hx' := h.lt x
    have hy' := h.lt y
    by_cases h1 : t ≤ x ∧ x < t + m <;> by_cases h2 : t ≤ y ∧ y < t + m
    · rw [if_pos h1, if_pos h2, hmod x h1.1 h1.2, hmod y h2.1 h2.2]
      intro e
      split at e <;> split at e <;> omega
    · rw [if_pos h1, if_neg h2]
      intro e
      have := hy' (by omega)
      omega
    · rw [if_neg h1, if_pos h2]
      intro e
      have := hx' (by omega)
      omega
    · rw [if_neg h1, if_neg h2]
      exact h.inj x y (by omega) (by omega)
  · rw [segK_nl h.len htm, if_neg (by omega)]
    exact h.zero x (by omega)
section
variable {xs : List Int} (ht : TypeP xs)
include ht
end
section
variable {x : Bool} {H : BH} {K : Value → BH → Prop}
end
end Go.Bm

/- The reference's search for pairs. -/
set_option linter.unusedVariables false
set_option linter.unusedSimpArgs false
set_option linter.unusedSectionVars false
namespace Go.Bm
open Go Go.Am

section
variable {H : BH} {K : Value → BH → Prop} {x : Bool}
theorem Equal_spec {xs ys : List Int} (hl : xs.length < 4611686018427387904) (hl' : ys.length < 4611686018427387904) (hK : K (.bool (decide (xs = ys))) H) : CallX x F_slices_Equal_int64_int64 [FI xs, FI ys] H K := by
  refine callP (.cons .fz (.cons .fz .nil)) ?_
  refine CallX_body Γ_slices_Equal_int64_int64 ?_; simp only [A_slices_Equal_int64_int64, T_aiff]
  refine T_rseq fun Kr hKr => ?_; simp (disch := omega) only [RA, ↓reduceIte, Nat.reduceEqDiff, RD]; refine hKr _ _ ?_; clear hKr Kr; (try simp only [RN, reduceIte]); try refine T_e rfl ?_
  refine T_rseq fun Kr hKr => ?_; simp (disch := omega) only [RA, ↓reduceIte, Nat.reduceEqDiff, RD]; refine hKr _ _ ?_; clear hKr Kr; (try simp only [RN, reduceIte]); try refine T_e rfl ?_
  refine T_csplit (p := ¬ xs.length = ys.length) (by simp only [RA, ↓reduceIte, Nat.reduceEqDiff] <;> rfl) (by (try simp only [RB]) <;> first | done | exact Iff.rfl | omega | simp) (fun hc => ?_) (fun hc => ?_) <;> (try simp only [RN, reduceIte]) <;> (try refine T_e rfl ?_)
  · refine T_rseq fun Kr hKr => ?_; simp (disch := omega) only [RA, ↓reduceIte, Nat.reduceEqDiff, RD]; refine hKr _ _ ?_; clear hKr Kr; (try simp only [RN, reduceIte]); try refine T_e rfl ?_
    refine bodyQ_ret (by simp (disch := omega) only [RA, ↓reduceIte, Nat.reduceEqDiff, RD, resAll, resOf]; rfl) GhV.refl ?_; simp only [tup]
    rw [show decide (xs = ys) = false by simp; intro e; exact hc (by rw [e])] at hK
    exact ⟨.bool, hK⟩
  have hll := Decidable.not_not.1 hc
  clear hc
  refine T_rseq fun Kr hKr => ?_; simp (disch := omega) only [RA, ↓reduceIte, Nat.reduceEqDiff, RD]; refine hKr _ _ ?_; clear hKr Kr; (try simp only [RN, reduceIte]); try refine T_e rfl ?_
  refine T_wloop (fun m f H' => ∃ i, i ≤ xs.length ∧ m = xs.length - i ∧ (∀ j, j < i → el xs j = el ys j) ∧ f 0 = FI xs ∧ f 1 = FI ys ∧ f 12 = I xs.length ∧ f 13 = I i ∧ H' = []) (xs.length) ?_ ?_
  · refine ⟨_, _, Gh.refl, 0, by omega, by omega, fun j hj => by omega, ?_, ?_, ?_, ?_, rfl⟩
    any_goals (simp (disch := omega) only [RA, ↓reduceIte, Nat.reduceEqDiff, RD, RE, *] <;> rfl)
  · rintro m f H' R ⟨i, hi, rfl, he, g0, g1, g12, g13, rfl⟩ hN hX hR hE
    simp only [A_slices_Equal_int64_int64.l0, T_aiff]
    refine T_rseq fun Kr hKr => ?_; simp (disch := omega) only [RA, ↓reduceIte, Nat.reduceEqDiff, RD, g12, g13]; refine hKr _ _ ?_; clear hKr Kr; (try simp only [RN, reduceIte]); try refine T_e rfl ?_
    refine T_csplit (p := i < xs.length) (by simp only [RA, ↓reduceIte, Nat.reduceEqDiff] <;> rfl) (by (try simp only [RB]) <;> first | done | exact Iff.rfl | omega | simp) (fun hc => ?_) (fun hc => ?_) <;> (try simp only [RN, reduceIte]) <;> (try refine T_e rfl ?_)
    · have hil : i < xs.length := by assumption
      have hil' : i < ys.length := by omega
      (first | refine T_bfree rfl ?_ | refine T_bfree' rfl ?_); (try simp only [RN, reduceIte]); try refine T_e rfl ?_
      refine T_rseq fun Kr hKr => ?_; simp (disch := omega) only [RA, ↓reduceIte, Nat.reduceEqDiff, RD, g13]; refine hKr _ _ ?_; clear hKr Kr; (try simp only [RN, reduceIte]); try refine T_e rfl ?_
      refine T_rseq fun Kr hKr => ?_; simp (disch := omega) only [RA, ↓reduceIte, Nat.reduceEqDiff, RD, g0, g1]; refine hKr _ _ ?_; clear hKr Kr; (try simp only [RN, reduceIte]); try refine T_e rfl ?_
      refine T_csplit (p := ¬ el xs i = el ys i) (by simp only [RA, ↓reduceIte, Nat.reduceEqDiff] <;> rfl) (by (try simp only [RB]) <;> first | done | exact Iff.rfl | omega | simp) (fun hc => ?_) (fun hc => ?_) <;> (try simp only [RN, reduceIte]) <;> (try refine T_e rfl ?_)
      · refine T_rseq fun Kr hKr => ?_; simp (disch := omega) only [RA, ↓reduceIte, Nat.reduceEqDiff, RD]; refine hKr _ _ ?_; clear hKr Kr; (try simp only [RN, reduceIte]); try refine T_e rfl ?_
        refine hR _ _ ?_
        refine bodyQ_ret (by simp (disch := omega) only [RA, ↓reduceIte, Nat.reduceEqDiff, RD, resAll, resOf]; rfl) GhV.refl ?_; simp only [tup]
        rw [show decide (xs = ys) = false by simp; intro e; exact hc (by rw [e])] at hK
        exact ⟨.bool, hK⟩
      have hee := Decidable.not_not.1 hc
      refine T_reg_k fun Kr hKr => ?_; simp (disch := omega) only [RA, ↓reduceIte, Nat.reduceEqDiff, RD, g13]; refine hKr _ _ ?_; clear hKr Kr
      have he' : ∀ j, j < i + 1 → el xs j = el ys j := fun j hj => by
        by_cases e : j = i
        · rw [e]; exact hee
        · exact he j (by omega)
      refine hN (xs.length - (i + 1)) _ _ _ _ (by omega) Gh.refl ⟨i + 1, by omega, rfl, he', ?_, ?_, ?_, ?_, rfl⟩
      any_goals (simp (disch := omega) only [RA, ↓reduceIte, Nat.reduceEqDiff, RD, RE, *] <;> rfl)
    · refine hX _ _ ?_
      have e : xs = ys := by
        apply List.ext_getElem hll
        intro j h1 h2
        have := he j (by omega)
        simpa [el, List.getD, h1, h2] using this
      rw [show decide (xs = ys) = true by simp [e]] at hK
      refine T_rseq fun Kr hKr => ?_; simp (disch := omega) only [RA, ↓reduceIte, Nat.reduceEqDiff, RD]; refine hKr _ _ ?_; clear hKr Kr; (try simp only [RN, reduceIte]); try refine T_e rfl ?_
      refine bodyQ_ret (by simp (disch := omega) only [RA, ↓reduceIte, Nat.reduceEqDiff, RD, resAll, resOf]; rfl) GhV.refl ?_; simp only [tup]
      exact ⟨.bool, hK⟩
end
section
variable {p c p' c' : Int} {H : BH} {b : Nat}
end
section
variable {black : List Nat} {n : Nat} {xss : List (List Int)} {H : BH} {K : Value → BH → Prop} {x : Bool}
end
end Go.Bm

/- The reference's numbers of pairs. -/
set_option linter.unusedVariables false
set_option linter.unusedSimpArgs false
set_option linter.unusedSectionVars false
namespace Go.Bm
open Go Go.Am

section
variable {xss : List (List Int)} (hp : PassP xss)
include hp
end
section
variable {xss : List (List Int)} {H : BH} {K : Value → BH → Prop} {x : Bool}
end
end Go.Bm

/- The program's search for pairs: closures in a memory of ten blocks. -/
set_option linter.unusedVariables false
set_option linter.unusedSimpArgs false
set_option linter.unusedSectionVars false
namespace Go.Bm
open Go Go.Am

/-! ### Calls of closures -/
def clW (v : Value) (k : Nat → Array Value → Prop) : Prop :=
  match v with
  | .func (.func cap) ⟨[]⟩ caps => k cap caps
  | _ => False
theorem clW_f {m : Nat} {caps : Array Value} {k : Nat → Array Value → Prop} : clW (.func (.func m) #[] caps) k = k m caps := rfl
theorem opsT_callvW {d t : Option Nat} {r : List AOper} {K : Fr → BH → Prop} {f : Fr} {H : BH} {g : Opd} {as : List Opd} :
    opsT d (⟨t, .callv g as, none⟩ :: r) K f H = clW (ev f g) fun cap caps => CallX (needExt d) cap (as.map (ev f) ++ caps.toList) H (contS d t r K f) := by
  rw [opsT]
  simp only [guardV]
  generalize ev f g = v
  cases v <;> try rfl
  rename_i fid first caps
  cases fid <;> try rfl
  obtain ⟨first⟩ := first
  cases first with
  | nil => simp [clW]; rfl
  | cons a l => simp [clW]
abbrev clo (g : Nat) (caps : List Value) : Value := .func (.func g) #[] ⟨caps⟩
section
variable {g1 n many : Nat} {xss : List (List Int)} {black p : List Nat} {used : List Bool}
end
section
variable {g1 n : Nat} {xss : List (List Int)} {black : List Nat} {d1 : List Nat → Bool}
/-- What is done with a pair: it is counted, if it is one of those. -/
def DoOk (g1 n : Nat) (black : List Nat) (d1 : List Nat → Bool) : Prop :=
  ∀ (many : Nat) (w : List Nat) (H : BH) (K : Value → BH → Prop), PQ n w → many < 1000000000 → blk H 0 = some [I many] → (∀ ex, K (.tuple ⟨[]⟩) (H.set 0 (some [I ((many + if d1 w then 1 else 0 : Nat) : Int)]) ++ ex)) → CallX false g1 [DV n black w, P 0 0] H K
theorem cap_l {l : List Value} : (⟨l⟩ : Array Value).toList = l := rfl
variable (hdo : DoOk g1 n black d1) (hb : By 16 black) (hbp : Perm black n) (h3 : xss.length = 3) (hll : ∀ xs ∈ xss, xs.length ≤ 1048576)
include hdo hb hbp h3 hll
end
end Go.Bm

