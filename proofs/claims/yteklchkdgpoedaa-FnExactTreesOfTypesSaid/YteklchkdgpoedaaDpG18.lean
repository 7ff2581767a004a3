/- DpLd, DpLe, DpLf, DpLg, DpNk -/
import Derived.Test.YteklchkdgpoedaaDpG16
import Derived.Test.YteklchkdgpoedaaDpG17
import Derived.Test.YteklchkdgpoedaaDpG4
/- The program's tree of a word: lists of bytes inside a list, a closure. -/
set_option linter.unusedVariables false
set_option linter.unusedSimpArgs false
set_option linter.unusedSectionVars false
namespace Go.Bm
open Go Go.Am

def lpK (p e : List Nat) (k : Nat) : List Nat := if k < e.length then ch p (e.take (k + 1)) else cycL p e
theorem lpK_0 {p e : List Nat} : lpK p e 0 = p := by
  cases e with
  | nil => rfl
  | cons a l => rfl
theorem lpK_len {p e : List Nat} {k : Nat} : (lpK p e k).length = p.length := by
  unfold lpK cycL
  split
  · exact ch_len
  · split
    · rfl
    · rw [List.length_set, ch_len]
theorem nl_last {e : List Nat} {k : Nat} (h : k < e.length) : (e.take (k + 1)).getLastD 0 = nl e k := by
  have : e.take (k + 1) = e.take k ++ [e[k]] := by rw [List.take_add_one, List.getElem?_eq_getElem h, Option.toList_some]
  rw [this, List.getLastD_concat]
  simp [nl, List.getD, h]
theorem lpK_step {p e : List Nat} {k : Nat} (h : k < e.length) : (lpK p e k).set (nl e k) (nl e ((k + 1) % e.length)) = lpK p e (k + 1) := by
  have hl := nl_last h
  rw [lpK, if_pos h]
  by_cases h1 : k + 1 < e.length
  · rw [lpK, if_pos h1, Nat.mod_eq_of_lt h1]
    have h2 : e.take (k + 1 + 1) = e.take (k + 1) ++ [nl e (k + 1)] := by
      rw [List.take_add_one (i := k + 1), List.getElem?_eq_getElem h1, Option.toList_some]
      simp [nl, List.getD, h1]
    rw [h2, ch_snoc (by intro q; have := congrArg List.length q; rw [List.length_take, List.length_nil] at this; omega), hl]
  · have hk : k + 1 = e.length := by omega
    have hn : e ≠ [] := by rintro rfl; simp at h
    rw [lpK, if_neg h1, hk, Nat.mod_self, cycL, if_neg hn, List.take_of_length_le (Nat.le_refl _)]
    rw [hk, List.take_of_length_le (Nat.le_refl _)] at hl
    rw [hl]
    congr 1
    cases e with
    | nil => exact absurd rfl hn
    | cons a l => rfl
theorem lpK_end {p e : List Nat} : lpK p e e.length = cycL p e := by rw [lpK, if_neg (by omega)]
section
variable {H : BH} {o i : Nat} {cells : List Value} {e b w : List Nat} {L : Nat} {n : Int} {K : Value → BH → Prop}
theorem leave_spec (h4 : blk H 4 = some [S o 0 (L + 1) 1]) (h1 : blk H 1 = some (DC n b w)) (ho : blk H o = some cells) (hc : cells[L]? = some (S i 0 e.length 1)) (hi : blk H i = some (e.map N8)) (hi1 : i ≠ 1) (ho1 : o ≠ 1) (hb : By 16 b) (hw : By 16 w) (he : ∀ x ∈ e, x < 16) (hL : L ≤ 32) (hel : e.length ≤ 32)
    (hK : K (.tuple ⟨[]⟩) ((H.set 1 (some (DC n (if L % 2 = 1 then b else cycL b e) (if L % 2 = 1 then cycL w e else w)))).set 4 (some [S o 0 L 1]))) : CallX false F_impl_treeOfWord_1 [P 4 0, P 1 0] H K := by
  have gone : ∀ {v : Value}, getN none [v] 0 = some v := rfl
  have gc : getN none cells L = some (S i 0 e.length 1) := hc
  have ht1 : ((L + 1 : Nat) : Int) - 1 = (L : Nat) := by omega
  have hmod : (L : Int).tmod 2 = ((L % 2 : Nat) : Int) := rfl
  have hlen1 := blk_lt h1
  refine CallX_body Γ_impl_treeOfWord_1 ?_; simp only [A_impl_treeOfWord_1, T_aiff]
  refine T_rseq fun Kr hKr => ?_; simp (disch := omega) only [RA, ↓reduceIte, Nat.reduceEqDiff, Nat.reduceBEq, Nat.reduceSub, Nat.reduceAdd, Nat.reduceMul, Nat.reduceLT, Nat.reduceLeDiff, Int.reduceLE, Int.reduceLT, Int.reduceEq, Int.reduceNeg, Int.reduceToNat, Int.reduceMul, Int.reduceAdd, Int.reduceSub, Int.reduceBEq, Int.reduceBNe, reduceCtorEq, RD, h4, gone, ht1]; refine hKr _ _ ?_; clear hKr Kr; (try simp only [RN, reduceIte]); try refine T_e rfl ?_
  refine T_rseq fun Kr hKr => ?_; simp (disch := omega) only [RA, ↓reduceIte, Nat.reduceEqDiff, Nat.reduceBEq, Nat.reduceSub, Nat.reduceAdd, Nat.reduceMul, Nat.reduceLT, Nat.reduceLeDiff, Int.reduceLE, Int.reduceLT, Int.reduceEq, Int.reduceNeg, Int.reduceToNat, Int.reduceMul, Int.reduceAdd, Int.reduceSub, Int.reduceBEq, Int.reduceBNe, reduceCtorEq, RD, h4, gone, ho, gc]; refine hKr _ _ ?_; clear hKr Kr; (try simp only [RN, reduceIte]); try refine T_e rfl ?_
  refine T_rseq fun Kr hKr => ?_; simp (disch := omega) only [RA, ↓reduceIte, Nat.reduceEqDiff, Nat.reduceBEq, Nat.reduceSub, Nat.reduceAdd, Nat.reduceMul, Nat.reduceLT, Nat.reduceLeDiff, Int.reduceLE, Int.reduceLT, Int.reduceEq, Int.reduceNeg, Int.reduceToNat, Int.reduceMul, Int.reduceAdd, Int.reduceSub, Int.reduceBEq, Int.reduceBNe, reduceCtorEq, RD]; refine hKr _ _ ?_; clear hKr Kr; (try simp only [RN, reduceIte]); try refine T_e rfl ?_
  refine T_rseq fun Kr hKr => ?_; simp (disch := omega) only [RA, ↓reduceIte, Nat.reduceEqDiff, Nat.reduceBEq, Nat.reduceSub, Nat.reduceAdd, Nat.reduceMul, Nat.reduceLT, Nat.reduceLeDiff, Int.reduceLE, Int.reduceLT, Int.reduceEq, Int.reduceNeg, Int.reduceToNat, Int.reduceMul, Int.reduceAdd, Int.reduceSub, Int.reduceBEq, Int.reduceBNe, reduceCtorEq, RD, hmod]; refine hKr _ _ ?_; clear hKr Kr; (try simp only [RN, reduceIte]); try refine T_e rfl ?_
  have hmain : ∀ f' (q : Nat), (q = 1 ∧ L % 2 = 0 ∨ q = 17 ∧ L % 2 = 1) → f' 0 = P 4 0 → f' 1 = P 1 0 → f' 2 = I L → f' 3 = S i 0 e.length 1 → f' 4 = P 1 q → T H.length (.seq A_impl_treeOfWord_1.r5 (.seq (.block 0 (.loop A_impl_treeOfWord_1.l0)) A_impl_treeOfWord_1.r10)) (bodyQ H.length [] K) f' H := by
    intro f' q hq g0 g1 g2 g3 g4
    refine T_rseq fun Kr hKr => ?_; simp (disch := omega) only [RA, ↓reduceIte, Nat.reduceEqDiff, Nat.reduceBEq, Nat.reduceSub, Nat.reduceAdd, Nat.reduceMul, Nat.reduceLT, Nat.reduceLeDiff, Int.reduceLE, Int.reduceLT, Int.reduceEq, Int.reduceNeg, Int.reduceToNat, Int.reduceMul, Int.reduceAdd, Int.reduceSub, Int.reduceBEq, Int.reduceBNe, reduceCtorEq, RD, g3]; refine hKr _ _ ?_; clear hKr Kr; (try simp only [RN, reduceIte]); try refine T_e rfl ?_
    refine T_wloop (fun mm f H' => ∃ k, k ≤ e.length ∧ mm = e.length - k ∧ f 0 = P 4 0 ∧ f 2 = I L ∧ f 3 = S i 0 e.length 1 ∧ f 4 = P 1 q ∧ f 19 = S i 0 e.length 1 ∧ f 20 = I e.length ∧ f 21 = I k ∧ H' = H.set 1 (some (DC n (if L % 2 = 1 then b else lpK b e k) (if L % 2 = 1 then lpK w e k else w)))) (e.length) ?_ ?_
    · refine ⟨_, _, Gh.refl, 0, by omega, by omega, ?_, ?_, ?_, ?_, ?_, ?_, ?_, ?_⟩
      any_goals (simp (disch := omega) only [RA, ↓reduceIte, Nat.reduceEqDiff, Nat.reduceBEq, Nat.reduceSub, Nat.reduceAdd, Nat.reduceMul, Nat.reduceLT, Nat.reduceLeDiff, Int.reduceLE, Int.reduceLT, Int.reduceEq, Int.reduceNeg, Int.reduceToNat, Int.reduceMul, Int.reduceAdd, Int.reduceSub, Int.reduceBEq, Int.reduceBNe, reduceCtorEq, RD, RE, *] <;> rfl)
      have hs : ∀ c, blk H 1 = some c → H.set 1 (some c) = H := fun c hc => by
        apply List.ext_getElem?
        intro j
        rw [List.getElem?_set]
        by_cases hj : 1 = j
        · subst hj
          rw [if_pos rfl, if_pos hlen1]
          unfold blk at hc
          cases h0 : H[1]? with
          | none => rw [h0] at hc; cases hc
          | some c => rw [h0] at hc; exact congrArg some hc.symm
        · rw [if_neg hj]
      rw [lpK_0, lpK_0, ite_self, ite_self, hs _ h1]
    · rintro mm f H' R ⟨k, hk, rfl, g0, g2, g3, g4, g19, g20, g21, hH'⟩ hN hX hR hE
      simp only [A_impl_treeOfWord_1.l0, T_aiff]
      refine T_rseq fun Kr hKr => ?_; simp (disch := omega) only [RA, ↓reduceIte, Nat.reduceEqDiff, Nat.reduceBEq, Nat.reduceSub, Nat.reduceAdd, Nat.reduceMul, Nat.reduceLT, Nat.reduceLeDiff, Int.reduceLE, Int.reduceLT, Int.reduceEq, Int.reduceNeg, Int.reduceToNat, Int.reduceMul, Int.reduceAdd, Int.reduceSub, Int.reduceBEq, Int.reduceBNe, reduceCtorEq, RD, g20, g21]; refine hKr _ _ ?_; clear hKr Kr; (try simp only [RN, reduceIte]); try refine T_e rfl ?_
      refine T_csplit (p := k < e.length) (by simp only [RA, ↓reduceIte, Nat.reduceEqDiff, Nat.reduceBEq, Nat.reduceSub, Nat.reduceAdd, Nat.reduceMul, Nat.reduceLT, Nat.reduceLeDiff, Int.reduceLE, Int.reduceLT, Int.reduceEq, Int.reduceNeg, Int.reduceToNat, Int.reduceMul, Int.reduceAdd, Int.reduceSub, Int.reduceBEq, Int.reduceBNe, reduceCtorEq] <;> rfl) (by (try simp only [RB]) <;> first | done | exact Iff.rfl | omega | simp) (fun hc => ?_) (fun hc => ?_) <;> (try simp only [RN, reduceIte]) <;> (try refine T_e rfl ?_)
      · have hkn : k < e.length := by assumption
        obtain ⟨B1, hB1⟩ : ∃ B1, (if L % 2 = 1 then b else lpK b e k) = B1 := ⟨_, rfl⟩
        obtain ⟨W1, hW1⟩ : ∃ W1, (if L % 2 = 1 then lpK w e k else w) = W1 := ⟨_, rfl⟩
        rw [hB1, hW1] at hH'
        have hlB : B1.length = 16 := by rw [← hB1]; split; exact hb.len; rw [lpK_len]; exact hb.len
        have hlW : W1.length = 16 := by rw [← hW1]; split; rw [lpK_len]; exact hw.len; exact hw.len
        have hb1 : blk H' 1 = some (DC n B1 W1) := by rw [hH', blk_setN hlen1, if_pos rfl]
        have hbi : blk H' i = some (e.map N8) := by rw [hH', blk_setN hlen1, if_neg hi1, hi]
        have hek : nl e k < 16 := he _ (by rw [nl, List.getD_eq_getElem?_getD, List.getElem?_eq_getElem hkn]; exact List.getElem_mem _)
        have hmk : ((k : Int) + 1).tmod (e.length : Int) = (((k + 1) % e.length : Nat) : Int) := by
          show Int.tmod ((k + 1 : Nat) : Int) _ = _
          rfl
        have hml : (k + 1) % e.length < e.length := Nat.mod_lt _ (by omega)
        have hne : ¬ (e.length : Int) = 0 := by omega
        have hnext : ∀ f' B2 W2, B2 = (if L % 2 = 1 then b else lpK b e (k + 1)) → W2 = (if L % 2 = 1 then lpK w e (k + 1) else w) → f' 0 = P 4 0 → f' 2 = I L → f' 3 = S i 0 e.length 1 → f' 4 = P 1 q → f' 19 = S i 0 e.length 1 → f' 20 = I e.length → f' 21 = I k → T H.length A_impl_treeOfWord_1.r9 R f' (H'.set 1 (some (DC n B2 W2))) := by
          clear g0 g2 g3 g4 g19 g20 g21
          intro f' B2 W2 hB2 hW2 g0 g2 g3 g4 g19 g20 g21
          have hHs : H'.set 1 (some (DC n B2 W2)) = H.set 1 (some (DC n (if L % 2 = 1 then b else lpK b e (k + 1)) (if L % 2 = 1 then lpK w e (k + 1) else w))) := by rw [hH', List.set_set, hB2, hW2]
          rw [hHs]
          refine T_reg_k fun Kr hKr => ?_; simp (disch := omega) only [RA, ↓reduceIte, Nat.reduceEqDiff, Nat.reduceBEq, Nat.reduceSub, Nat.reduceAdd, Nat.reduceMul, Nat.reduceLT, Nat.reduceLeDiff, Int.reduceLE, Int.reduceLT, Int.reduceEq, Int.reduceNeg, Int.reduceToNat, Int.reduceMul, Int.reduceAdd, Int.reduceSub, Int.reduceBEq, Int.reduceBNe, reduceCtorEq, RD, g21]; refine hKr _ _ ?_; clear hKr Kr
          refine hN (e.length - (k + 1)) _ _ _ _ (by omega) Gh.refl ⟨k + 1, by omega, rfl, ?_, ?_, ?_, ?_, ?_, ?_, ?_, rfl⟩
          any_goals (simp (disch := omega) only [RA, ↓reduceIte, Nat.reduceEqDiff, Nat.reduceBEq, Nat.reduceSub, Nat.reduceAdd, Nat.reduceMul, Nat.reduceLT, Nat.reduceLeDiff, Int.reduceLE, Int.reduceLT, Int.reduceEq, Int.reduceNeg, Int.reduceToNat, Int.reduceMul, Int.reduceAdd, Int.reduceSub, Int.reduceBEq, Int.reduceBNe, reduceCtorEq, RD, RE, *] <;> rfl)
        (first | refine T_bfree rfl ?_ | refine T_bfree' rfl ?_); (try simp only [RN, reduceIte]); try refine T_e rfl ?_
        refine T_rseq fun Kr hKr => ?_; simp (disch := omega) only [RA, ↓reduceIte, Nat.reduceEqDiff, Nat.reduceBEq, Nat.reduceSub, Nat.reduceAdd, Nat.reduceMul, Nat.reduceLT, Nat.reduceLeDiff, Int.reduceLE, Int.reduceLT, Int.reduceEq, Int.reduceNeg, Int.reduceToNat, Int.reduceMul, Int.reduceAdd, Int.reduceSub, Int.reduceBEq, Int.reduceBNe, reduceCtorEq, RD, g19, g21, hbi]; refine hKr _ _ ?_; clear hKr Kr; (try simp only [RN, reduceIte]); try refine T_e rfl ?_
        rcases hq with ⟨rfl, hp⟩ | ⟨rfl, hp⟩
        · rw [if_neg (by omega)] at hB1 hW1
          refine T_rseq fun Kr hKr => ?_; simp (disch := omega) only [RA, ↓reduceIte, Nat.reduceEqDiff, Nat.reduceBEq, Nat.reduceSub, Nat.reduceAdd, Nat.reduceMul, Nat.reduceLT, Nat.reduceLeDiff, Int.reduceLE, Int.reduceLT, Int.reduceEq, Int.reduceNeg, Int.reduceToNat, Int.reduceMul, Int.reduceAdd, Int.reduceSub, Int.reduceBEq, Int.reduceBNe, reduceCtorEq, RD, RDS, RDD, g3, g4, g21, hbi, hb1, hmk, hne]; refine hKr _ _ ?_; clear hKr Kr; (try simp only [RN, reduceIte]); try refine T_e rfl ?_
          refine hnext _ _ _ ?_ ?_ ?_ ?_ ?_ ?_ ?_ ?_ ?_
          any_goals (simp (disch := omega) only [RA, ↓reduceIte, Nat.reduceEqDiff, Nat.reduceBEq, Nat.reduceSub, Nat.reduceAdd, Nat.reduceMul, Nat.reduceLT, Nat.reduceLeDiff, Int.reduceLE, Int.reduceLT, Int.reduceEq, Int.reduceNeg, Int.reduceToNat, Int.reduceMul, Int.reduceAdd, Int.reduceSub, Int.reduceBEq, Int.reduceBNe, reduceCtorEq, RD, RE, *] <;> rfl)
          all_goals first | (rw [if_neg (by omega), ← hB1, lpK_step hkn]) | (rw [if_neg (by omega), hW1])
        · rw [if_pos hp] at hB1 hW1
          refine T_rseq fun Kr hKr => ?_; simp (disch := omega) only [RA, ↓reduceIte, Nat.reduceEqDiff, Nat.reduceBEq, Nat.reduceSub, Nat.reduceAdd, Nat.reduceMul, Nat.reduceLT, Nat.reduceLeDiff, Int.reduceLE, Int.reduceLT, Int.reduceEq, Int.reduceNeg, Int.reduceToNat, Int.reduceMul, Int.reduceAdd, Int.reduceSub, Int.reduceBEq, Int.reduceBNe, reduceCtorEq, RD, RDS, RDD, g3, g4, g21, hbi, hb1, hmk, hne]; refine hKr _ _ ?_; clear hKr Kr; (try simp only [RN, reduceIte]); try refine T_e rfl ?_
          refine hnext _ _ _ ?_ ?_ ?_ ?_ ?_ ?_ ?_ ?_ ?_
          any_goals (simp (disch := omega) only [RA, ↓reduceIte, Nat.reduceEqDiff, Nat.reduceBEq, Nat.reduceSub, Nat.reduceAdd, Nat.reduceMul, Nat.reduceLT, Nat.reduceLeDiff, Int.reduceLE, Int.reduceLT, Int.reduceEq, Int.reduceNeg, Int.reduceToNat, Int.reduceMul, Int.reduceAdd, Int.reduceSub, Int.reduceBEq, Int.reduceBNe, reduceCtorEq, RD, RE, *] <;> rfl)
          all_goals first | (rw [if_pos hp, ← hW1, lpK_step hkn]) | (rw [if_pos hp, hB1])
      · refine hX _ _ ?_
        obtain rfl : k = e.length := by omega
        rw [lpK_end, lpK_end] at hH'
        have hb4 : blk H' 4 = some [S o 0 (L + 1) 1] := by rw [hH', blk_setN hlen1, if_neg (by omega), h4]
        refine T_reg_k fun Kr hKr => ?_; simp (disch := omega) only [RA, ↓reduceIte, Nat.reduceEqDiff, Nat.reduceBEq, Nat.reduceSub, Nat.reduceAdd, Nat.reduceMul, Nat.reduceLT, Nat.reduceLeDiff, Int.reduceLE, Int.reduceLT, Int.reduceEq, Int.reduceNeg, Int.reduceToNat, Int.reduceMul, Int.reduceAdd, Int.reduceSub, Int.reduceBEq, Int.reduceBNe, reduceCtorEq, RD, g0, g2, hb4, gone, sl_top]; refine hKr _ _ ?_; clear hKr Kr
        refine bodyQ_norm (vs := []) rfl GhV.refl ?_
        rw [hH']
        exact hK
  by_cases h2 : L % 2 = 1
  · have e2 : decide (((L % 2 : Nat) : Int) = 1) = true := decide_eq_true (by omega)
    refine T_cseq (t := true) (by simp (disch := omega) only [RA, ↓reduceIte, Nat.reduceEqDiff, Nat.reduceBEq, Nat.reduceSub, Nat.reduceAdd, Nat.reduceMul, Nat.reduceLT, Nat.reduceLeDiff, Int.reduceLE, Int.reduceLT, Int.reduceEq, Int.reduceNeg, Int.reduceToNat, Int.reduceMul, Int.reduceAdd, Int.reduceSub, Int.reduceBEq, Int.reduceBNe, reduceCtorEq, RD, e2]) ?_; (try simp only [RN, reduceIte]); try refine T_e rfl ?_
    refine T_rseq fun Kr hKr => ?_; simp (disch := omega) only [RA, ↓reduceIte, Nat.reduceEqDiff, Nat.reduceBEq, Nat.reduceSub, Nat.reduceAdd, Nat.reduceMul, Nat.reduceLT, Nat.reduceLeDiff, Int.reduceLE, Int.reduceLT, Int.reduceEq, Int.reduceNeg, Int.reduceToNat, Int.reduceMul, Int.reduceAdd, Int.reduceSub, Int.reduceBEq, Int.reduceBNe, reduceCtorEq, RD]; refine hKr _ _ ?_; clear hKr Kr; (try simp only [RN, reduceIte]); try refine T_e rfl ?_
    refine hmain _ 17 (.inr ⟨rfl, h2⟩) ?_ ?_ ?_ ?_ ?_
    any_goals (simp (disch := omega) only [RA, ↓reduceIte, Nat.reduceEqDiff, Nat.reduceBEq, Nat.reduceSub, Nat.reduceAdd, Nat.reduceMul, Nat.reduceLT, Nat.reduceLeDiff, Int.reduceLE, Int.reduceLT, Int.reduceEq, Int.reduceNeg, Int.reduceToNat, Int.reduceMul, Int.reduceAdd, Int.reduceSub, Int.reduceBEq, Int.reduceBNe, reduceCtorEq, RD, RE, *] <;> rfl)
  · have e2 : decide (((L % 2 : Nat) : Int) = 1) = false := decide_eq_false (by omega)
    refine T_cseq (t := false) (by simp (disch := omega) only [RA, ↓reduceIte, Nat.reduceEqDiff, Nat.reduceBEq, Nat.reduceSub, Nat.reduceAdd, Nat.reduceMul, Nat.reduceLT, Nat.reduceLeDiff, Int.reduceLE, Int.reduceLT, Int.reduceEq, Int.reduceNeg, Int.reduceToNat, Int.reduceMul, Int.reduceAdd, Int.reduceSub, Int.reduceBEq, Int.reduceBNe, reduceCtorEq, RD, e2]) ?_; (try simp only [RN, reduceIte]); try refine T_e rfl ?_
    refine hmain _ 1 (.inl ⟨rfl, by omega⟩) ?_ ?_ ?_ ?_ ?_
    any_goals (simp (disch := omega) only [RA, ↓reduceIte, Nat.reduceEqDiff, Nat.reduceBEq, Nat.reduceSub, Nat.reduceAdd, Nat.reduceMul, Nat.reduceLT, Nat.reduceLeDiff, Int.reduceLE, Int.reduceLT, Int.reduceEq, Int.reduceNeg, Int.reduceToNat, Int.reduceMul, Int.reduceAdd, Int.reduceSub, Int.reduceBEq, Int.reduceBNe, reduceCtorEq, RD, RE, *] <;> rfl)
end
end Go.Bm

/- The program's tree of a word: the vertices on the way in memory. -/
set_option linter.unusedVariables false
set_option linter.unusedSimpArgs false
set_option linter.unusedSectionVars false
namespace Go.Bm
open Go Go.Am

/-- The vertices on the way (the last one first) in memory. -/
structure WyI (H : BH) (W : List (List Nat)) (n : Int) (b w : List Nat) (o : Nat) (cells : List Value) (id : Nat → Nat) : Prop where
  h0 : blk H 0 = some (DC 0 z16 z16)
  h1 : blk H 1 = some (DC n b w)
  h4 : blk H 4 = some [S o 0 W.length 1]
  hc : blk H o = some cells
  o0 : o ≠ 0 ∧ o ≠ 1 ∧ o ≠ 4
  len : W.length ≤ cells.length
  at' : ∀ k e, W.reverse[k]? = some e → cells[k]? = some (S (id k) 0 e.length 1) ∧ blk H (id k) = some (e.map N8) ∧ id k ≠ 0 ∧ id k ≠ 1 ∧ id k ≠ 4 ∧ id k ≠ o
  inj : ∀ k k', k < W.length → k' < W.length → id k = id k' → k = k'
def Wy (H : BH) (W : List (List Nat)) (n : Int) (b w : List Nat) : Prop := ∃ o cells id, WyI H W n b w o cells id
theorem rev_at {e : List Nat} {r : List (List Nat)} {k : Nat} : (e :: r).reverse[k]? = if k < r.length then r.reverse[k]? else if k = r.length then some e else none := by
  rw [List.reverse_cons]
  by_cases h : k < r.length
  · rw [if_pos h, List.getElem?_append_left (by rw [List.length_reverse]; exact h)]
  · rw [if_neg h, List.getElem?_append_right (by rw [List.length_reverse]; omega), List.length_reverse]
    by_cases h2 : k = r.length
    · rw [if_pos h2, h2, Nat.sub_self]; rfl
    · rw [if_neg h2, List.getElem?_eq_none (by simp; omega)]
section
variable {H : BH} {e : List Nat} {r : List (List Nat)} {n : Int} {b w b' w' : List Nat} {o : Nat} {cells : List Value} {id : Nat → Nat}
/-- A vertex is left. -/
theorem WyI.close (h : WyI H (e :: r) n b w o cells id) : Wy ((H.set 1 (some (DC n b' w'))).set 4 (some [S o 0 r.length 1])) r n b' w' := by
  have l1 := blk_lt h.h1
  have l4 := blk_lt h.h4
  obtain ⟨o0, o1, o4⟩ := h.o0
  have hl := h.len
  rw [List.length_cons] at hl
  have key : ∀ j, j ≠ 1 → j ≠ 4 → blk ((H.set 1 (some (DC n b' w'))).set 4 (some [S o 0 r.length 1])) j = blk H j := fun j j1 j4 => by
    rw [blk_setN (by rw [List.length_set]; exact l4), if_neg j4, blk_setN l1, if_neg j1]
  refine ⟨o, cells, id, ⟨by rw [key 0 (by omega) (by omega), h.h0], ?_, ?_, by rw [key o o1 o4, h.hc], h.o0, by omega, fun k a ha => ?_, fun k k' q1 q2 => h.inj k k' (by simp; omega) (by simp; omega)⟩⟩
  · rw [blk_setN (by rw [List.length_set]; exact l4), if_neg (by omega), blk_setN l1, if_pos rfl]
  · rw [blk_setN (by rw [List.length_set]; exact l4), if_pos rfl]
  · have hk : k < r.length := by
      have := (List.getElem?_eq_some_iff.1 ha).1
      rwa [List.length_reverse] at this
    obtain ⟨q1, q2, q3⟩ := h.at' k a (by rw [rev_at, if_pos hk]; exact ha)
    exact ⟨q1, by rw [key _ q3.2.1 q3.2.2.1, q2], q3⟩
/-- The memory when an edge is put to the vertex at the top. -/
def putM (H : BH) (e : List Nat) (m i o L : Nat) (cells : List Value) : BH :=
  (((H ++ [some [N8 m]]).set i none) ++ [some ((e ++ [m]).map N8)]).set o (some (cells.set L (S (H.length + 1) 0 (e.length + 1) 1)))
def newM (H : BH) (m o l : Nat) (cells : List Value) : BH :=
  (((H ++ [some [N8 m]]) ++ [some [S H.length 0 1 1]]).set o none ++ [some (cells.take l ++ [S H.length 0 1 1])]).set 4 (some [S (H.length + 2) 0 (l + 1) 1])
theorem WyI.at_lt {W : List (List Nat)} (h : WyI H W n b w o cells id) {k : Nat} (hk : k < W.length) : id k < H.length := by
  obtain ⟨a, ha⟩ : ∃ a, W.reverse[k]? = some a := ⟨_, List.getElem?_eq_getElem (by rw [List.length_reverse]; exact hk)⟩
  exact blk_lt (h.at' k a ha).2.1
theorem blk_put {m i L j : Nat} (hi : i < H.length) (ho : o < H.length) : blk (putM H e m i o L cells) j = if j = o then some (cells.set L (S (H.length + 1) 0 (e.length + 1) 1)) else if j = H.length + 1 then some ((e ++ [m]).map N8) else if j = i then none else if j = H.length then some [N8 m] else blk H j := by
  unfold putM
  rw [blk_setN (by simp; omega), blk_append, blk_setN (by simp; omega), blk_append, List.length_set, List.length_append, List.length_singleton]
theorem blk_new {m l j : Nat} (h4 : 4 < H.length) (ho : o < H.length) : blk (newM H m o l cells) j = if j = 4 then some [S (H.length + 2) 0 (l + 1) 1] else if j = H.length + 2 then some (cells.take l ++ [S H.length 0 1 1]) else if j = o then none else if j = H.length + 1 then some [S H.length 0 1 1] else if j = H.length then some [N8 m] else blk H j := by
  unfold newM
  rw [blk_setN (by simp; omega), blk_append, blk_setN (by simp; omega), blk_append, blk_append, List.length_set, List.length_append, List.length_append, List.length_singleton, List.length_singleton]
theorem WyI.put {m : Nat} (h : WyI H (e :: r) n b w o cells id) : WyI (putM H e m (id r.length) o r.length cells) ((e ++ [m]) :: r) n b w o (cells.set r.length (S (H.length + 1) 0 (e.length + 1) 1)) (fun k => if k = r.length then H.length + 1 else id k) := by
  have l0 := blk_lt h.h0
  have l1 := blk_lt h.h1
  have l4 := blk_lt h.h4
  have lo := blk_lt h.hc
  have li := h.at_lt (k := r.length) (by simp)
  obtain ⟨o0, o1, o4⟩ := h.o0
  have hl := h.len
  rw [List.length_cons] at hl
  obtain ⟨q1, q2, q3, q4, q5, q6⟩ := h.at' r.length e (by rw [rev_at, if_neg (by omega), if_pos rfl])
  have key : ∀ j, j < H.length → j ≠ o → j ≠ id r.length → blk (putM H e m (id r.length) o r.length cells) j = blk H j := fun j j1 j2 j3 => by
    rw [blk_put li lo, if_neg j2, if_neg (by omega), if_neg j3, if_neg (by omega)]
  refine ⟨by rw [key 0 l0 (by omega) (by omega), h.h0], by rw [key 1 l1 (by omega) (by omega), h.h1], ?_, ?_, h.o0, by rw [List.length_set, List.length_cons]; exact hl, fun k a ha => ?_, fun k k' k1 k2 hk => ?_⟩
  · rw [key 4 l4 (by omega) (by omega), h.h4, List.length_cons, List.length_cons]
  · rw [blk_put li lo, if_pos rfl]
  · rw [rev_at] at ha
    by_cases hk : k < r.length
    · rw [if_pos hk] at ha
      obtain ⟨p1, p2, p3, p4, p5, p6⟩ := h.at' k a (by rw [rev_at, if_pos hk]; exact ha)
      have hne : id k ≠ id r.length := fun q => absurd (h.inj k r.length (by simp; omega) (by simp) q) (by omega)
      simp only [if_neg (show ¬ k = r.length by omega)]
      rw [List.getElem?_set, if_neg (by omega), key _ (blk_lt p2) p6 hne]
      exact ⟨p1, p2, p3, p4, p5, p6⟩
    · rw [if_neg hk] at ha
      split at ha
      · rename_i hk2
        cases ha
        subst hk2
        simp only [if_pos]
        rw [List.getElem?_set, if_pos rfl, if_pos (by omega), blk_put li lo, if_neg (by omega), if_pos rfl, List.length_append, List.length_singleton]
        exact ⟨rfl, rfl, by omega, by omega, by omega, by omega⟩
      · cases ha
  · have hlt : ∀ k, k < r.length → id k < H.length := fun k hk => h.at_lt (by simp; omega)
    rw [List.length_cons] at k1 k2
    split at hk
    · rename_i e1
      split at hk
      · omega
      · have := hlt k' (by omega)
        omega
    · split at hk
      · have := hlt k (by omega)
        omega
      · exact h.inj k k' (by simp; omega) (by simp; omega) hk
theorem WyI.new {m : Nat} (h : WyI H (e :: r) n b w o cells id) : Wy (newM H m o (r.length + 1) cells) ([m] :: e :: r) n b w := by
  have l0 := blk_lt h.h0
  have l1 := blk_lt h.h1
  have l4 := blk_lt h.h4
  have lo := blk_lt h.hc
  obtain ⟨o0, o1, o4⟩ := h.o0
  have hl := h.len
  rw [List.length_cons] at hl
  have hlt : ∀ k, k < r.length + 1 → id k < H.length := fun k hk => h.at_lt (by simp; omega)
  have key : ∀ j, j < H.length → j ≠ o → j ≠ 4 → blk (newM H m o (r.length + 1) cells) j = blk H j := fun j j1 j2 j3 => by
    rw [blk_new l4 lo, if_neg j3, if_neg (by omega), if_neg j2, if_neg (by omega), if_neg (by omega)]
  have htl : (cells.take (r.length + 1)).length = r.length + 1 := by rw [List.length_take]; omega
  refine ⟨H.length + 2, cells.take (r.length + 1) ++ [S H.length 0 1 1], fun k => if k = r.length + 1 then H.length else id k, ⟨by rw [key 0 l0 (by omega) (by omega), h.h0], by rw [key 1 l1 (by omega) (by omega), h.h1], ?_, ?_, by omega, by simp only [List.length_cons, List.length_append, htl, List.length_nil]; omega, fun k a ha => ?_, fun k k' k1 k2 hk => ?_⟩⟩
  · rw [blk_new l4 lo, if_pos rfl]
    rfl
  · rw [blk_new l4 lo, if_neg (by omega), if_pos rfl]
  · rw [rev_at, List.length_cons] at ha
    by_cases hk : k < r.length + 1
    · rw [if_pos hk] at ha
      obtain ⟨p1, p2, p3, p4, p5, p6⟩ := h.at' k a ha
      have := hlt k hk
      simp only [if_neg (show ¬ k = r.length + 1 by omega)]
      rw [List.getElem?_append_left (by omega), List.getElem?_take, if_pos hk, key _ (blk_lt p2) p6 p5]
      exact ⟨p1, p2, p3, p4, p5, by omega⟩
    · rw [if_neg hk] at ha
      split at ha
      · rename_i hk2
        cases ha
        subst hk2
        simp only [if_pos]
        rw [List.getElem?_append_right (by omega), htl, Nat.sub_self, blk_new l4 lo, if_neg (by omega), if_neg (by omega), if_neg (by omega), if_neg (by omega), if_pos rfl]
        exact ⟨rfl, rfl, by omega, by omega, by omega, by omega⟩
      · cases ha
  · simp only [List.length_cons] at k1 k2
    split at hk
    · split at hk
      · omega
      · have := hlt k' (by omega)
        omega
    · split at hk
      · have := hlt k (by omega)
        omega
      · exact h.inj k k' (by simp; omega) (by simp; omega) hk
end
end Go.Bm

/- The program's tree of a word: the walk. -/
set_option linter.unusedVariables false
set_option linter.unusedSimpArgs false
set_option linter.unusedSectionVars false
namespace Go.Bm
open Go Go.Am

theorem blk_bq {H : BH} {c : Option (List Value)} : blk (H ++ [c]) H.length = c := by rw [blk_append, if_pos rfl]
theorem splice_set {cs : List Value} {k : Nat} {v : Value} (h : k < cs.length) : splice cs k [v] = cs.set k v := by
  have := splice_1 (g := fun v : Value => v) (xs := cs) (k := k) (y := v) h
  simpa using this
theorem stO_at {H : BH} {cs : List Value} {b o j l e : Nat} (h : o < cs.length) : stO (some cs) H b o 1 (S j 0 l e) = some (undef, H.set b (some (cs.set o (S j 0 l e)))) := by
  rw [stO_1 (vs := [S j 0 l e]) rfl rfl rfl h, splice_set h]
theorem app1_V {H : BH} {b bytes cn l j q e : Nat} {cs : List Value} (hl : l ≤ cs.length) (h : (l + 1) * bytes ≤ 140737488355328) : app1 (some [S j 0 q e]) (some cs) H b l bytes cn = some (S H.length 0 (l + 1) 1, (H.set b none) ++ [some (cs.take l ++ [S j 0 q e])]) := by
  simp only [app1]
  rw [if_pos ⟨hl, h, rfl⟩]
section
variable {s : List UInt8} {H : BH} {K : Value → BH → Prop} {x : Bool}
set_option maxHeartbeats 2000000 in
theorem treeOfWord_spec (hw : WdP s) (hK : K (DV (s.length / 2 : Nat) (madeB s) (madeW s)) H) : CallX x F_impl_treeOfWord [.string (bs s)] H K := by
  refine callP (.cons NNs .nil) ?_
  have hsz := bs_size (l := s)
  have hq : (s.length : Int).tdiv 2 = ((s.length / 2 : Nat) : Int) := rfl
  obtain ⟨n, hn⟩ : ∃ n, s.length / 2 = n := ⟨_, rfl⟩
  rw [hn] at hK hq
  have hlen := hw.1
  have hzl := z16_len
  have gone : ∀ {v : Value}, getN none [v] 0 = some v := rfl
  refine CallX_body Γ_impl_treeOfWord ?_; simp only [A_impl_treeOfWord, T_aiff]
  refine T_rseq fun Kr hKr => ?_; simp (disch := omega) only [RA, ↓reduceIte, Nat.reduceEqDiff, RD, RDS]; refine hKr _ _ ?_; clear hKr Kr; (try simp only [RN, reduceIte]); try refine T_e rfl ?_
  refine T_rseq fun Kr hKr => ?_; simp (disch := omega) only [RA, ↓reduceIte, Nat.reduceEqDiff, Int.reduceEq, reduceCtorEq, RD, RDS, hsz, hq]; refine hKr _ _ ?_; clear hKr Kr; (try simp only [RN, reduceIte]); try refine T_e rfl ?_
  refine T_rseq fun Kr hKr => ?_; simp (disch := omega) only [RA, ↓reduceIte, Nat.reduceEqDiff, Nat.reduceAdd, Nat.reduceLeDiff, RD]; refine hKr _ _ ?_; clear hKr Kr; (try simp only [RN, reduceIte]); try refine T_e rfl ?_
  refine T_rseq fun Kr hKr => ?_; simp (disch := omega) only [RA, ↓reduceIte, Nat.reduceEqDiff, Nat.reduceAdd, Nat.reduceLeDiff, RD]; refine hKr _ _ ?_; clear hKr Kr; (try simp only [RN, reduceIte]); try refine T_e rfl ?_
  refine T_rseq fun Kr hKr => ?_; simp (disch := omega) only [RA, ↓reduceIte, Nat.reduceEqDiff, Nat.reduceAdd, Nat.reduceLeDiff, RD]; refine hKr _ _ ?_; clear hKr Kr; (try simp only [RN, reduceIte]); try refine T_e rfl ?_
  refine T_rseq fun Kr hKr => ?_; simp (disch := omega) only [RA, ↓reduceIte, Nat.reduceEqDiff, RD, hsz]; refine hKr _ _ ?_; clear hKr Kr; (try simp only [RN, reduceIte]); try refine T_e rfl ?_
  refine T_wloop (fun mm f H' => ∃ i, i ≤ s.length ∧ mm = s.length - i ∧ f 0 = .string (bs s) ∧ f 2 = P 0 0 ∧ f 3 = P 1 0 ∧ f 4 = P 4 0 ∧ f 5 = .int .u8 ((runW (s.take i)).next : Int) ∧ f 6 = clo F_impl_treeOfWord_1 [P 4 0, P 1 0] ∧ f 17 = I s.length ∧ f 18 = I i ∧ Wy H' (runW (s.take i)).ways n (runW (s.take i)).b (runW (s.take i)).w) (s.length) ?_ ?_
  · refine ⟨_, _, Gh.refl, 0, by omega, by omega, ?_, ?_, ?_, ?_, ?_, ?_, ?_, ?_, ?_⟩
    any_goals (simp (disch := omega) only [RA, ↓reduceIte, Nat.reduceEqDiff, RD, RE, *] <;> rfl)
    refine ⟨3, [S 2 0 0 1], fun _ => 2, ⟨rfl, rfl, rfl, rfl, by omega, Nat.le_refl _, fun k a ha => ?_, fun k k' h1 h2 _ => ?_⟩⟩
    · have : k = 0 := by
        have := (List.getElem?_eq_some_iff.1 ha).1
        simp [runW, ms0] at this
        exact this
      subst this
      cases ha
      exact ⟨rfl, rfl, by omega, by omega, by omega, by omega⟩
    · simp [runW, ms0] at h1 h2
      omega
  · rintro mm f H' R ⟨i, hi, rfl, g0, g2, g3, g4, g5, g6, g17, g18, hWy⟩ hN hX hR hE
    simp only [A_impl_treeOfWord.l0, T_aiff]
    refine T_rseq fun Kr hKr => ?_; simp (disch := omega) only [RA, ↓reduceIte, Nat.reduceEqDiff, RD, g17, g18]; refine hKr _ _ ?_; clear hKr Kr; (try simp only [RN, reduceIte]); try refine T_e rfl ?_
    obtain ⟨hok, hlw, hnx⟩ := runW_ok hw i hi
    have hnl := next_le hw i hi
    have hdp := hw.2.2.1 i hi
    have hdg := dep_ge (s := s) (i := i) hi
    obtain ⟨st, hst⟩ : ∃ st, runW (s.take i) = st := ⟨_, rfl⟩
    rw [hst] at g5 hok hlw hnx hnl hWy
    obtain ⟨W, m, b, w⟩ := st
    simp only at g5 hok hlw hnx hnl hWy
    cases W with
    | nil => simp at hlw; omega
    | cons e r =>
    obtain ⟨L, hL⟩ : ∃ L, r.length = L := ⟨_, rfl⟩
    rw [List.length_cons, hL] at hlw
    have hLb : L ≤ 32 := by omega
    have ht1 : ((L + 1 : Nat) : Int) - 1 = (L : Nat) := by omega
    obtain ⟨o, cells, id, hWi⟩ := hWy
    have helt : ∀ y ∈ e, y < m := fun y hy => hok.lt e (by simp) y hy
    have hel : e.length ≤ 32 := by
      have hnd := hok.nod (L % 2)
      simp only [lvl] at hnd
      rw [if_pos (by rw [hL]), List.flatten_cons, List.nodup_append] at hnd
      have := nodup_le hnd.1 helt
      omega
    have h4 := hWi.h4
    rw [List.length_cons, hL] at h4
    have h1 := hWi.h1
    have hc0 := hWi.hc
    obtain ⟨o0, o1, o4⟩ := hWi.o0
    have hcl := hWi.len
    rw [List.length_cons, hL] at hcl
    obtain ⟨p1, p2, p3, p4, p5, p6⟩ := hWi.at' L e (by rw [rev_at, if_neg (by omega), if_pos hL.symm])
    obtain ⟨iT, hiT⟩ : ∃ iT, id L = iT := ⟨_, rfl⟩
    rw [hiT] at p1 p2 p3 p4 p5 p6
    have hlv : ∀ {K' : Value → BH → Prop}, K' (.tuple ⟨[]⟩) ((H'.set 1 (some (DC n (if L % 2 = 1 then b else cycL b e) (if L % 2 = 1 then cycL w e else w)))).set 4 (some [S o 0 L 1])) → CallX false F_impl_treeOfWord_1 [P 4 0, P 1 0] H' K' := fun hk =>
      leave_spec h4 h1 hc0 p1 p2 p4 o1 hok.bb hok.bw (fun y hy => by have := helt y hy; omega) hLb hel hk
    have hcloz := hWi.close (b' := if L % 2 = 1 then b else cycL b e) (w' := if L % 2 = 1 then cycL w e else w)
    rw [hL] at hcloz
    obtain ⟨M, hM⟩ : ∃ M, (H'.set 1 (some (DC n (if L % 2 = 1 then b else cycL b e) (if L % 2 = 1 then cycL w e else w)))).set 4 (some [S o 0 L 1]) = M := ⟨_, rfl⟩
    rw [hM] at hcloz
    have hlv2 : ∀ {K' : Value → BH → Prop}, K' (.tuple ⟨[]⟩) M → CallX false F_impl_treeOfWord_1 [P 4 0, P 1 0] H' K' := fun hk => hlv (by rw [hM]; exact hk)
    refine T_csplit (p := i < s.length) (by simp only [RA, ↓reduceIte, Nat.reduceEqDiff] <;> rfl) (by (try simp only [RB]) <;> first | done | exact Iff.rfl | omega | simp) (fun hc => ?_) (fun hc => ?_) <;> (try simp only [RN, reduceIte]) <;> (try refine T_e rfl ?_)
    · have hin : i < s.length := by assumption
      obtain ⟨c, hc⟩ : ∃ c, s[i] = c := ⟨_, rfl⟩
      have hix := ixS_bs hin
      rw [hc] at hix
      have hrt := runW_take hin
      rw [hst, hc, stp] at hrt
      simp only at hrt
      have hnext : ∀ f'' H'' st', runW (s.take (i + 1)) = st' → f'' 0 = .string (bs s) → f'' 2 = P 0 0 → f'' 3 = P 1 0 → f'' 4 = P 4 0 → f'' 5 = .int .u8 (st'.next : Int) → f'' 6 = clo F_impl_treeOfWord_1 [P 4 0, P 1 0] → f'' 17 = I s.length → f'' 18 = I i → Wy H'' st'.ways n st'.b st'.w → T 0 A_impl_treeOfWord.r14 R f'' H'' := by
        clear g0 g2 g3 g4 g5 g6 g17 g18
        intro f'' H'' st' hst' g0 g2 g3 g4 g5 g6 g17 g18 hWy
        subst hst'
        refine T_reg_k fun Kr hKr => ?_; simp (disch := omega) only [RA, ↓reduceIte, Nat.reduceEqDiff, RD, g18]; refine hKr _ _ ?_; clear hKr Kr
        refine hN (s.length - (i + 1)) _ _ _ _ (by omega) Gh.refl ⟨i + 1, by omega, rfl, ?_, ?_, ?_, ?_, ?_, ?_, ?_, ?_, hWy⟩
        any_goals (simp (disch := omega) only [RA, ↓reduceIte, Nat.reduceEqDiff, RD, RE, *] <;> rfl)
      refine T_seq (T_block ?_); (try simp only [RN, reduceIte]); try refine T_e rfl ?_
      refine T_rseq fun Kr hKr => ?_; simp (disch := omega) only [RA, ↓reduceIte, Nat.reduceEqDiff, RD, g18]; refine hKr _ _ ?_; clear hKr Kr; (try simp only [RN, reduceIte]); try refine T_e rfl ?_
      refine T_rseq fun Kr hKr => ?_; simp (disch := omega) only [RA, ↓reduceIte, Nat.reduceEqDiff, reduceCtorEq, RD, g0, hix]; refine hKr _ _ ?_; clear hKr Kr; (try simp only [RN, reduceIte]); try refine T_e rfl ?_
      by_cases h40 : c.toNat = 40
      · have e41 : decide ((c.toNat : Int) = 41) = false := decide_eq_false (by omega)
        rw [if_pos h40] at hrt
        have hm16 : m < 16 := by
          have := next_le hw (i + 1) (by omega)
          rw [hrt] at this
          simp only at this
          omega
        refine T_cseq (t := false) (by simp (disch := omega) only [RA, ↓reduceIte, Nat.reduceEqDiff, RD, e41]) ?_; (try simp only [RN, reduceIte]); try refine T_e rfl ?_
        refine T_rseq fun Kr hKr => ?_; simp (disch := omega) only [RA, ↓reduceIte, Nat.reduceEqDiff, RD, g4, h4, gone, ht1]; refine hKr _ _ ?_; clear hKr Kr; (try simp only [RN, reduceIte]); try refine T_e rfl ?_
        have gc : getN none cells L = some (S iT 0 e.length 1) := p1
        have l4 := blk_lt h4
        have li := blk_lt p2
        have lo := blk_lt hc0
        have ln1 : (H' ++ [some [N8 m]]).length = H'.length + 1 := by simp
        have k4 : blk (H' ++ [some [N8 m]]) 4 = some [S o 0 (L + 1) 1] := by rw [blk_append, if_neg (by omega), h4]
        have ki : blk (H' ++ [some [N8 m]]) iT = some (e.map N8) := by rw [blk_append, if_neg (by omega), p2]
        have kn : blk (H' ++ [some [N8 m]]) H'.length = some [N8 m] := blk_bq
        have e4 : (4 == iT) = false := by simpa using Ne.symm p5
        have ko : blk (((H' ++ [some [N8 m]]).set iT none) ++ [some ((e ++ [m]).map N8)]) o = some cells := by
          rw [blk_append, List.length_set, ln1, if_neg (by omega), blk_setN (by rw [ln1]; omega), if_neg (Ne.symm p6), blk_append, if_neg (by omega), hc0]
        have hLc : L < cells.length := by omega
        have hput := hWi.put (m := m)
        rw [hL, hiT] at hput
        have hmid : ∀ f' M2, M2 = putM H' e m iT o L cells → f' 0 = .string (bs s) → f' 2 = P 0 0 → f' 3 = P 1 0 → f' 4 = P 4 0 → f' 5 = .int .u8 (m : Int) → f' 6 = clo F_impl_treeOfWord_1 [P 4 0, P 1 0] → f' 17 = I s.length → f' 18 = I i → T 0 (.seq A_impl_treeOfWord.r12 A_impl_treeOfWord.r13) (blkQ 1 (thenQ 0 A_impl_treeOfWord.r14 R)) f' M2 := by
          clear g0 g2 g3 g4 g5 g6 g17 g18
          intro f' M2 hM2 g0 g2 g3 g4 g5 g6 g17 g18
          rw [← hM2] at hput
          have hnew := hput.new (m := m)
          rw [hL] at hnew
          obtain ⟨c2, hc2⟩ : ∃ c2, cells.set L (S (H'.length + 1) 0 (e.length + 1) 1) = c2 := ⟨_, rfl⟩
          rw [hc2] at hput hnew
          have h4b := hput.h4
          rw [List.length_cons, hL] at h4b
          have hcc := hput.hc
          have hcl2 := hput.len
          rw [List.length_cons, hL] at hcl2
          have l4' := blk_lt h4b
          have lo' := blk_lt hcc
          have ln2 : (M2 ++ [some [N8 m]]).length = M2.length + 1 := by simp
          have ln3 : ((M2 ++ [some [N8 m]]) ++ [some [S M2.length 0 1 1]]).length = M2.length + 2 := by simp
          have kn2 : blk ((M2 ++ [some [N8 m]]) ++ [some [S M2.length 0 1 1]]) (M2.length + 1) = some [S M2.length 0 1 1] := by rw [blk_append, if_pos (by rw [ln2])]
          have ko2 : blk ((M2 ++ [some [N8 m]]) ++ [some [S M2.length 0 1 1]]) o = some c2 := by rw [blk_append, if_neg (by rw [ln2]; omega), blk_append, if_neg (by omega), hcc]
          have k4b : blk ((((M2 ++ [some [N8 m]]) ++ [some [S M2.length 0 1 1]]).set o none) ++ [some (c2.take (L + 1) ++ [S M2.length 0 1 1])]) 4 = some [S o 0 (L + 1) 1] := by
            rw [blk_append, List.length_set, ln3, if_neg (by omega), blk_setN (by rw [ln3]; omega), if_neg (Ne.symm o4), blk_append, if_neg (by rw [ln2]; omega), blk_append, if_neg (by omega), h4b]
          refine T_rseq fun Kr hKr => ?_; simp (disch := omega) only [RA, ↓reduceIte, Nat.reduceEqDiff, Nat.reduceLeDiff, RD, g4, h4b, gone, g5, ln2, ln3, kn2, ko2, app1_V, hcl2, k4b, stO_at]; refine hKr _ _ ?_; clear hKr Kr; (try simp only [RN, reduceIte]); try refine T_e rfl ?_
          refine T_reg_k fun Kr hKr => ?_; simp (disch := omega) only [RA, ↓reduceIte, Nat.reduceEqDiff, RD, g5]; refine hKr _ _ ?_; clear hKr Kr
          simp only [blkQ, thenQ, loopQ, if_true]
          refine hnext _ _ _ hrt ?_ ?_ ?_ ?_ ?_ ?_ ?_ ?_ hnew
          any_goals (simp (disch := omega) only [RA, ↓reduceIte, Nat.reduceEqDiff, reduceCtorEq, RD, RE, *] <;> rfl)
        refine T_rseq fun Kr hKr => ?_; simp (disch := omega) only [RA, ↓reduceIte, Nat.reduceEqDiff, Nat.reduceSub, Nat.reduceLT, Nat.reduceLeDiff, RD, RK, g4, h4, gone, hc0, gc, g5, ln1, k4, ki, kn, e4, ko, stO_at, hLc]; refine hKr _ _ ?_; clear hKr Kr; (try simp only [RN, reduceIte]); try refine T_e rfl ?_
        refine hmid _ _ rfl ?_ ?_ ?_ ?_ ?_ ?_ ?_ ?_
        any_goals (simp (disch := omega) only [RA, ↓reduceIte, Nat.reduceEqDiff, RD, RE, *] <;> rfl)
      · have h41 : c.toNat = 41 := (hc ▸ hw.2.1 _ (List.getElem_mem hin)).resolve_left h40
        have e41 : decide ((c.toNat : Int) = 41) = true := decide_eq_true (by omega)
        rw [if_neg h40, hL] at hrt
        refine T_cseq (t := true) (by simp (disch := omega) only [RA, ↓reduceIte, Nat.reduceEqDiff, RD, e41]) ?_; (try simp only [RN, reduceIte]); try refine T_e rfl ?_
        refine T_rseq fun Kr hKr => ?_; simp (disch := omega) only [RA, ↓reduceIte, Nat.reduceEqDiff, RD, g6, opsT_callvW, clW_f, cap_l]
        refine hlv2 ?_
        simp (disch := omega) only [RA, ↓reduceIte, Nat.reduceEqDiff, RD]
        refine hKr _ _ ?_; clear hKr Kr; (try simp only [blkQ, thenQ, loopQ]); (try simp only [RN, reduceIte]); try refine T_e rfl ?_
        simp only [blkQ, thenQ, loopQ, if_true]
        have hfin : Wy M (if L % 2 = 1 then (⟨r, m, b, cycL w e⟩ : MS) else ⟨r, m, cycL b e, w⟩).ways n (if L % 2 = 1 then (⟨r, m, b, cycL w e⟩ : MS) else ⟨r, m, cycL b e, w⟩).b (if L % 2 = 1 then (⟨r, m, b, cycL w e⟩ : MS) else ⟨r, m, cycL b e, w⟩).w := by
          by_cases hp : L % 2 = 1
          · simp only [if_pos hp] at hcloz ⊢; exact hcloz
          · simp only [if_neg hp] at hcloz ⊢; exact hcloz
        refine hnext _ _ _ hrt ?_ ?_ ?_ ?_ ?_ ?_ ?_ ?_ hfin
        any_goals (simp (disch := omega) only [RA, ↓reduceIte, Nat.reduceEqDiff, RD, RE, *] <;> rfl)
        split <;> exact (by simp (disch := omega) only [RA, ↓reduceIte, Nat.reduceEqDiff, RD, RE, *] <;> rfl)
    · refine hX _ _ ?_
      obtain rfl : i = s.length := by omega
      have hd0 := hw.2.2.2
      rw [List.take_length] at hlw hst hnx
      have hL0 : L = 0 := by omega
      subst hL0
      have hr0 : r = [] := List.eq_nil_of_length_eq_zero hL
      subst hr0
      have hmb : cycL b e = madeB s := by
        rw [madeB, hst]
        rfl
      have hmw : w = madeW s := by
        rw [madeW, hst]
      refine T_rseq fun Kr hKr => ?_; simp (disch := omega) only [RA, ↓reduceIte, Nat.reduceEqDiff, RD, g6, opsT_callvW, clW_f, cap_l]
      refine hlv2 ?_
      simp (disch := omega) only [RA, ↓reduceIte, Nat.reduceEqDiff, RD]
      refine hKr _ _ ?_; clear hKr Kr; (try simp only [blkQ, thenQ, loopQ]); (try simp only [RN, reduceIte]); try refine T_e rfl ?_
      obtain ⟨o', cells', id', hz⟩ := hcloz
      have hM0 := hz.h0
      have hM1 := hz.h1
      rw [if_neg (by omega), if_neg (by omega), hmb, hmw] at hM1
      have hMs : ∀ c, blk (M.set 0 c) 0 = c := fun c => by rw [blk_setN (blk_lt hM0), if_pos rfl]
      have hlB : (madeB s).length = 16 := by rw [← hmb]; exact (hok.bb.cycL fun y hy => by have := helt y hy; omega).len
      have hlW : (madeW s).length = 16 := by rw [← hmw]; exact hok.bw.len
      refine T_rseq fun Kr hKr => ?_; simp (disch := omega) only [RA, ↓reduceIte, Nat.reduceEqDiff, RD, RDS, RDD, g2, g3, hM0, hM1, hlB, hlW]; refine hKr _ _ ?_; clear hKr Kr; (try simp only [RN, reduceIte]); try refine T_e rfl ?_
      refine bodyQ_ret (by simp (disch := omega) only [RA, ↓reduceIte, Nat.reduceEqDiff, RD, resAll, resOf, RDS, RDD, g2, hMs, hlB, hlW]; rfl) GhV.refl ?_; simp only [tup]
      exact ⟨nn_D, hK⟩
end
end Go.Bm

/- What a word makes are lists of bytes (plain). -/
set_option linter.unusedVariables false
set_option linter.unusedSimpArgs false
namespace Go.Bm
open Go Go.Am

theorem made_by {s : List UInt8} (h : WdP s) : By 16 (madeB s) ∧ By 16 (madeW s) := by
  obtain ⟨hok, hl, hn⟩ := runW_ok h s.length (Nat.le_refl _)
  have hnl := next_le h s.length (Nat.le_refl _)
  rw [List.take_length] at hok hl hn hnl
  have := h.1
  refine ⟨?_, hok.bw⟩
  unfold madeB
  refine hok.bb.cycL fun y hy => ?_
  cases hw : (runW s).ways with
  | nil => rw [hw] at hy; simp at hy
  | cons e r =>
    rw [hw] at hy
    have := hok.lt e (by rw [hw]; simp) y hy
    omega
end Go.Bm

/- Trees of two types: both functions. -/
set_option linter.unusedVariables false
set_option linter.unusedSimpArgs false
set_option linter.unusedSectionVars false
namespace Go.Bm
open Go Go.Am

/-- What both functions hand back. -/
def resT (xs ys : List Int) : Option (List (List UInt8)) × Int := if Ok8 xs ys then (some (trL xs ys (sumI xs).toNat), 0) else (none, 2)
def TRes (r : Option (List (List UInt8)) × Int) (v : Value) (H : BH) : Prop :=
  match r with
  | (some W, c) => ∃ j, v = .tuple ⟨[S j 0 W.length 1, I c]⟩ ∧ blk H j = some (W.map strV)
  | (none, c) => v = .tuple ⟨[.slice none 0 0, I c]⟩
theorem strV_bs {l : List UInt8} : Value.string (bs l) = strV l := rfl
theorem filter_take {p : List UInt8 → Bool} {ws : List (List UInt8)} {i : Nat} (h : i < ws.length) : (ws.take (i + 1)).filter p = (ws.take i).filter p ++ if p (sg ws i) = true then [sg ws i] else [] := by
  rw [take_sg h, List.filter_append]
  congr 1
  by_cases hp : p (sg ws i) = true
  · rw [if_pos hp]; simp [hp]
  · rw [if_neg hp]; simp [hp]
section
variable {xs ys : List Int}
theorem impl_TreesOfTypes_run (hx : xs.length ≤ 1048576) (hy : ys.length ≤ 1048576) : CallX false F_impl_TreesOfTypes [FI xs, FI ys] [] fun v H1 => TRes (resT xs ys) v H1 := by
  by_cases hok : Ok8 xs ys
  · have hres : resT xs ys = (some (trL xs ys (sumI xs).toNat), 0) := if_pos hok
    have hp := hok.1.1.pos
    have h8 := hok.2
    obtain ⟨n, hn⟩ : ∃ n : Nat, sumI xs = n := ⟨(sumI xs).toNat, by omega⟩
    have hnt : (sumI xs).toNat = n := by omega
    have hn1 : 1 ≤ n := by omega
    have hn8 : n ≤ 8 := by omega
    rw [hres, hnt]
    refine CallX_body Γ_impl_TreesOfTypes ?_; simp only [A_impl_TreesOfTypes, T_aiff]
    refine T_rseq fun Kr hKr => ?_; simp (disch := omega) only [RA, ↓reduceIte, Nat.reduceEqDiff, Nat.reduceLeDiff, RD]; refine hKr _ _ ?_; clear hKr Kr; (try simp only [RN, reduceIte]); try refine T_e rfl ?_
    refine T_rseq fun Kr hKr => ?_; simp (disch := omega) only [RA, ↓reduceIte, Nat.reduceEqDiff, RD]
    refine areTypes_8 hx hy ?_
    rw [decide_eq_true hok]
    simp (disch := omega) only [RA, ↓reduceIte, Nat.reduceEqDiff, Int.reduceToNat, RD]
    refine hKr _ _ ?_; clear hKr Kr; (try simp only [blkQ, thenQ, loopQ]); (try simp only [RN, reduceIte]); try refine T_e rfl ?_
    refine T_cseq (t := false) (by simp (disch := omega) only [RA, ↓reduceIte, Nat.reduceEqDiff, RD]) ?_; (try simp only [RN, reduceIte]); try refine T_e rfl ?_
    refine T_rseq fun Kr hKr => ?_; simp (disch := omega) only [RA, ↓reduceIte, Nat.reduceEqDiff, Nat.reduceLeDiff, RD]; refine hKr _ _ ?_; clear hKr Kr; (try simp only [RN, reduceIte]); try refine T_e rfl ?_
    refine T_rseq fun Kr hKr => ?_; simp (disch := omega) only [RA, ↓reduceIte, Nat.reduceEqDiff, RD]
    refine sumOfType_spec hx ?_
    rw [if_pos hok.1.1, hn]
    simp (disch := omega) only [RA, ↓reduceIte, Nat.reduceEqDiff, Int.reduceToNat, RD]
    refine words_spec (2 * n) (o := 0) (l := n) (by omega) (by omega) ?_
    have hwl : (wl n).length ≤ 65536 := by
      have h1 := wlF_len (2 * n) 0 n
      have h2 := Nat.pow_le_pow_right (n := 2) (by omega) (show 2 * n ≤ 16 by omega)
      exact Nat.le_trans h1 h2
    rw [show wlF (2 * n) 0 n = wl n from rfl]
    simp (disch := omega) only [RA, ↓reduceIte, Nat.reduceEqDiff, Int.reduceToNat, RD]
    refine hKr _ _ ?_; clear hKr Kr; (try simp only [blkQ, thenQ, loopQ]); (try simp only [RN, reduceIte]); try refine T_e rfl ?_
    refine T_wloop (fun m f H' => ∃ (i : Nat) (us : List (List UInt8)), i ≤ (wl n).length ∧ m = (wl n).length - i ∧ us = ((wl n).take i).filter (okW xs ys n) ∧ us.length ≤ 65536 ∧ f 0 = FI xs ∧ f 1 = FI ys ∧ f 6 = S 0 0 us.length 1 ∧ f 20 = FSt (wl n) ∧ f 21 = I (wl n).length ∧ f 22 = I i ∧ H' = [some (us.map strV)]) ((wl n).length) ?_ ?_
    · refine ⟨_, _, Gh.refl, 0, [], by omega, by omega, by simp, by simp, ?_, ?_, ?_, ?_, ?_, ?_, rfl⟩
      any_goals (simp (disch := omega) only [RA, ↓reduceIte, Nat.reduceEqDiff, RD, RE, *] <;> rfl)
    · rintro m f H' R ⟨i, us, hi, rfl, he, hul, g0, g1, g6, g20, g21, g22, rfl⟩ hN hX hR hE
      simp only [A_impl_TreesOfTypes.l0, T_aiff]
      refine T_rseq fun Kr hKr => ?_; simp (disch := omega) only [RA, ↓reduceIte, Nat.reduceEqDiff, RD, g21, g22]; refine hKr _ _ ?_; clear hKr Kr; (try simp only [RN, reduceIte]); try refine T_e rfl ?_
      refine T_csplit (p := i < (wl n).length) (by simp only [RA, ↓reduceIte, Nat.reduceEqDiff] <;> rfl) (by (try simp only [RB]) <;> first | done | exact Iff.rfl | omega | simp) (fun hc => ?_) (fun hc => ?_) <;> (try simp only [RN, reduceIte]) <;> (try refine T_e rfl ?_)
      · have hm := sg_mem hc
        have hft := filter_take (p := okW xs ys n) hc
        obtain ⟨hwd, hwn⟩ := wl_wd hn1 hn8 hm
        obtain ⟨hd, ht⟩ := wl_facts hn1 hn8 hm
        obtain ⟨hb, hw⟩ := made_by hwd
        have hlb := hb.len
        have hlw := hw.len
        have hz16 := z16_len
        have hul2 : (((wl n).take (i + 1)).filter (okW xs ys n)).length ≤ 65536 := by
          have := List.length_filter_le (okW xs ys n) ((wl n).take (i + 1))
          rw [List.length_take] at this
          omega
        have t1 := typ_len16 hd.1
        have t2 := typ_len16 hd.2.1
        (first | refine T_bfree rfl ?_ | refine T_bfree' rfl ?_); (try simp only [RN, reduceIte]); try refine T_e rfl ?_
        refine T_rseq fun Kr hKr => ?_; simp (disch := omega) only [RA, ↓reduceIte, Nat.reduceEqDiff, RD, g20, g22, getN_st]; refine hKr _ _ ?_; clear hKr Kr; (try simp only [RN, reduceIte]); try refine T_e rfl ?_
        have hlw0 : lwS (sg (wl n) i) = (lwK (madeB (sg (wl n) i)) (madeW (sg (wl n) i)) (n - 1)).1 := by rw [lwS, hwn, half]
        obtain ⟨s, hs⟩ : ∃ s, sg (wl n) i = s := ⟨_, rfl⟩
        rw [hs] at hm hft hwd hwn hd ht hb hw hlb hlw hlw0 t1 t2
        rw [hs]
        have h2 : s.length / 2 = n := by omega
        have hnext : ∀ (f' : Fr) (us' : List (List UInt8)) (c : BH), f' 0 = FI xs → f' 1 = FI ys → f' 6 = S 0 0 us'.length 1 → f' 20 = FSt (wl n) → f' 21 = I (wl n).length → f' 22 = I i → us' = ((wl n).take (i + 1)).filter (okW xs ys n) → c = [some (us'.map strV)] → T 0 A_impl_TreesOfTypes.r12 R f' c := by
          clear g0 g1 g6 g20 g21 g22
          intro f' us' c g0 g1 g6 g20 g21 g22 e1 hc'
          subst hc'
          refine T_reg_k fun Kr hKr => ?_; simp (disch := omega) only [RA, ↓reduceIte, Nat.reduceEqDiff, RD, g22]; refine hKr _ _ ?_; clear hKr Kr
          refine hN ((wl n).length - (i + 1)) _ _ _ _ (by omega) Gh.refl ⟨i + 1, us', by omega, rfl, e1, by rw [e1]; exact hul2, ?_, ?_, ?_, ?_, ?_, ?_, rfl⟩
          any_goals (simp (disch := omega) only [RA, ↓reduceIte, Nat.reduceEqDiff, RD, RE, *] <;> rfl)
        refine T_rseq fun Kr hKr => ?_; simp (disch := omega) only [RA, ↓reduceIte, Nat.reduceEqDiff, RD, RDS, RDD]
        refine treeOfWord_spec hwd ?_
        rw [h2]
        simp (disch := omega) only [RA, ↓reduceIte, Nat.reduceEqDiff, RD, RDS, RDD]
        refine hKr _ _ ?_; clear hKr Kr; (try simp only [blkQ, thenQ, loopQ]); (try simp only [RN, reduceIte]); try refine T_e rfl ?_
        refine T_rseq fun Kr hKr => ?_; simp (disch := omega) only [RA, ↓reduceIte, Nat.reduceEqDiff, RD, RDS, RDD]
        refine passport_spec hb hw hd ?_
        simp (disch := omega) only [RA, ↓reduceIte, Nat.reduceEqDiff, RD, RDS, RDD]
        refine hKr _ _ ?_; clear hKr Kr; (try simp only [blkQ, thenQ, loopQ]); (try simp only [RN, reduceIte]); try refine T_e rfl ?_
        refine T_rseq fun Kr hKr => ?_; simp (disch := omega) only [RA, ↓reduceIte, Nat.reduceEqDiff, RD, RDS, RDD]
        refine leastWord_spec hb hw hd ht ?_
        rw [← hlw0]
        simp (disch := omega) only [RA, ↓reduceIte, Nat.reduceEqDiff, RD, strV_bs]
        refine hKr _ _ ?_; clear hKr Kr; (try simp only [blkQ, thenQ, loopQ]); (try simp only [RN, reduceIte]); try refine T_e rfl ?_
        have p3 : (pass (madeB s) (madeW s) n).length = 3 := rfl
        have p0 : getN none ((pass (madeB s) (madeW s) n).map FN) 0 = some (FI (toI (typ (madeB s) n))) := by rw [← FN_toI]; rfl
        have p1 : getN none ((pass (madeB s) (madeW s) n).map FN) 1 = some (FI (toI (typ (madeW s) n))) := by rw [← FN_toI]; rfl
        have l1 := @toI_len (typ (madeB s) n)
        have l2 := @toI_len (typ (madeW s) n)
        have hno : ∀ f', f' 0 = FI xs → f' 1 = FI ys → f' 6 = S 0 0 us.length 1 → f' 20 = FSt (wl n) → f' 21 = I (wl n).length → f' 22 = I i → okW xs ys n s = false → T 0 A_impl_TreesOfTypes.r12 R f' [some (us.map strV), some (DC n (madeB s) (madeW s))] := by
          intro f' g0 g1 g6 g20 g21 g22 hk
          refine T_gh (Gh.normC [0] (by simp) fun j hj => absurd hj (Nat.not_lt_zero j)) ?_
          refine hnext _ us _ ?_ ?_ ?_ ?_ ?_ ?_ (by rw [hft, hk, he]; simp) (by show [some ((us.map strV).map (ren [0]))] = _; rw [List.map_map]; rfl)
          all_goals exact (by simp (disch := omega) only [RA, ↓reduceIte, Nat.reduceEqDiff, RD, RE, *] <;> rfl)
        by_cases e1 : lwS s = s
        · refine T_rseq fun Kr hKr => ?_; simp (disch := omega) only [RA, ↓reduceIte, Nat.reduceEqDiff, Int.reduceToNat, reduceCtorEq, RD, e1, sb_eq, p0, p1, g0, g1]
          refine Equal_spec (xs := toI (typ (madeB s) n)) (ys := xs) (by omega) (by omega) ?_
          by_cases e2 : toI (typ (madeB s) n) = xs
          · rw [decide_eq_true e2]
            simp (disch := omega) only [RA, ↓reduceIte, Nat.reduceEqDiff, Int.reduceToNat, RD, p0, p1, g0, g1]
            refine Equal_spec (xs := toI (typ (madeW s) n)) (ys := ys) (by omega) (by omega) ?_
            by_cases e3 : toI (typ (madeW s) n) = ys
            · rw [decide_eq_true e3]
              simp (disch := omega) only [RA, ↓reduceIte, Nat.reduceEqDiff, Int.reduceToNat, RD]
              refine hKr _ _ ?_; clear hKr Kr; (try simp only [blkQ, thenQ, loopQ]); (try simp only [RN, reduceIte]); try refine T_e rfl ?_
              refine T_cseq (t := true) (by simp (disch := omega) only [RA, ↓reduceIte, Nat.reduceEqDiff, RD]) ?_; (try simp only [RN, reduceIte]); try refine T_e rfl ?_
              have hk : okW xs ys n s = true := by simp [okW, e1, e2, e3]
              refine T_rseq fun Kr hKr => ?_; simp (disch := omega) only [RA, ↓reduceIte, Nat.reduceEqDiff, Nat.reduceAdd, Nat.reduceLeDiff, RD, g6, fl1_st, nj_st, app1_st]; refine hKr _ _ ?_; clear hKr Kr; (try simp only [RN, reduceIte]); try refine T_e rfl ?_
              refine T_gh (Gh.normC [3] (by simp) fun j hj => absurd hj (Nat.not_lt_zero j)) ?_
              have hlen : us.length + 1 = (us ++ [s]).length := by simp
              refine hnext _ (us ++ [s]) _ ?_ ?_ ?_ ?_ ?_ ?_ (by rw [hft, hk, he]; simp) (by show [some (((us ++ [s]).map strV).map (ren [3]))] = _; rw [List.map_map]; rfl)
              all_goals first | exact (by simp (disch := omega) only [RA, ↓reduceIte, Nat.reduceEqDiff, RD, RE, *] <;> rfl) | (rw [← hlen]; exact (by simp (disch := omega) only [RA, ↓reduceIte, Nat.reduceEqDiff, RD, RE, *] <;> rfl))
            · rw [decide_eq_false e3]
              simp (disch := omega) only [RA, ↓reduceIte, Nat.reduceEqDiff, Int.reduceToNat, RD]
              refine hKr _ _ ?_; clear hKr Kr; (try simp only [blkQ, thenQ, loopQ]); (try simp only [RN, reduceIte]); try refine T_e rfl ?_
              refine T_cseq (t := false) (by simp (disch := omega) only [RA, ↓reduceIte, Nat.reduceEqDiff, RD]) ?_; (try simp only [RN, reduceIte]); try refine T_e rfl ?_
              refine hno _ ?_ ?_ ?_ ?_ ?_ ?_ (by simp [okW, e3])
              any_goals (simp (disch := omega) only [RA, ↓reduceIte, Nat.reduceEqDiff, RD, RE, *] <;> rfl)
          · rw [decide_eq_false e2]
            simp (disch := omega) only [RA, ↓reduceIte, Nat.reduceEqDiff, Int.reduceToNat, RD]
            refine hKr _ _ ?_; clear hKr Kr; (try simp only [blkQ, thenQ, loopQ]); (try simp only [RN, reduceIte]); try refine T_e rfl ?_
            refine T_cseq (t := false) (by simp (disch := omega) only [RA, ↓reduceIte, Nat.reduceEqDiff, RD]) ?_; (try simp only [RN, reduceIte]); try refine T_e rfl ?_
            refine hno _ ?_ ?_ ?_ ?_ ?_ ?_ (by simp [okW, e2])
            any_goals (simp (disch := omega) only [RA, ↓reduceIte, Nat.reduceEqDiff, RD, RE, *] <;> rfl)
        · refine T_rseq fun Kr hKr => ?_; simp (disch := omega) only [RA, ↓reduceIte, Nat.reduceEqDiff, RD, e1, sb_eq]; refine hKr _ _ ?_; clear hKr Kr; (try simp only [RN, reduceIte]); try refine T_e rfl ?_
          refine T_cseq (t := false) (by simp (disch := omega) only [RA, ↓reduceIte, Nat.reduceEqDiff, RD]) ?_; (try simp only [RN, reduceIte]); try refine T_e rfl ?_
          refine hno _ ?_ ?_ ?_ ?_ ?_ ?_ (by simp [okW, e1])
          any_goals (simp (disch := omega) only [RA, ↓reduceIte, Nat.reduceEqDiff, RD, RE, *] <;> rfl)
      · refine hX _ _ ?_
        (try simp only [RN, reduceIte]); try refine T_e rfl ?_
        obtain rfl : i = (wl n).length := by omega
        rw [List.take_length] at he
        have he : us = trL xs ys n := he
        have h12 := trL_few (xs := xs) (ys := ys) hn1 hn8
        rw [← he] at h12
        have hord : Ord us := by rw [he]; exact trL_ord
        refine T_rseq fun Kr hKr => ?_; simp (disch := omega) only [RA, ↓reduceIte, Nat.reduceEqDiff, RD, g6]
        refine Sort_str_own (i := 0) rfl h12 hord ?_
        simp (disch := omega) only [RA, ↓reduceIte, Nat.reduceEqDiff, Int.reduceToNat, RD]
        refine hKr _ _ ?_; clear hKr Kr; (try simp only [blkQ, thenQ, loopQ]); (try simp only [RN, reduceIte]); try refine T_e rfl ?_
        refine T_rseq fun Kr hKr => ?_; simp (disch := omega) only [RA, ↓reduceIte, Nat.reduceEqDiff, RD, g6]
        refine Compact_str (i := 0) rfl (by omega) hord ?_
        simp (disch := omega) only [RA, ↓reduceIte, Nat.reduceEqDiff, Int.reduceToNat, RD]
        refine hKr _ _ ?_; clear hKr Kr; (try simp only [blkQ, thenQ, loopQ]); (try simp only [RN, reduceIte]); try refine T_e rfl ?_
        refine bodyQ_ret (by simp (disch := omega) only [RA, ↓reduceIte, Nat.reduceEqDiff, RD, resAll, resOf]; rfl) GhV.refl ?_; simp only [tup]
        rw [← he]
        exact ⟨0, rfl, rfl⟩
  · have hres : resT xs ys = (none, 2) := if_neg hok
    rw [hres]
    refine CallX_body Γ_impl_TreesOfTypes ?_; simp only [A_impl_TreesOfTypes, T_aiff]
    refine T_rseq fun Kr hKr => ?_; simp (disch := omega) only [RA, ↓reduceIte, Nat.reduceEqDiff, Nat.reduceLeDiff, RD]; refine hKr _ _ ?_; clear hKr Kr; (try simp only [RN, reduceIte]); try refine T_e rfl ?_
    refine T_rseq fun Kr hKr => ?_; simp (disch := omega) only [RA, ↓reduceIte, Nat.reduceEqDiff, RD]
    refine areTypes_8 hx hy ?_
    rw [decide_eq_false hok]
    simp (disch := omega) only [RA, ↓reduceIte, Nat.reduceEqDiff, Int.reduceToNat, RD]
    refine hKr _ _ ?_; clear hKr Kr; (try simp only [blkQ, thenQ, loopQ]); (try simp only [RN, reduceIte]); try refine T_e rfl ?_
    refine T_cseq (t := true) (by simp (disch := omega) only [RA, ↓reduceIte, Nat.reduceEqDiff, RD]) ?_; (try simp only [RN, reduceIte]); try refine T_e rfl ?_
    refine T_rseq fun Kr hKr => ?_; simp (disch := omega) only [RA, ↓reduceIte, Nat.reduceEqDiff, Nat.reduceLeDiff, RD]; refine hKr _ _ ?_; clear hKr Kr; (try simp only [RN, reduceIte]); try refine T_e rfl ?_
    refine bodyQ_ret (by simp (disch := omega) only [RA, ↓reduceIte, Nat.reduceEqDiff, RD, resAll, resOf]; rfl) GhV.refl ?_; simp only [tup]
    exact rfl
theorem okW_types {n : Nat} {s : List UInt8} (h : ¬ toI (typ (madeB s) n) = xs ∨ ¬ toI (typ (madeW s) n) = ys) : okW xs ys n s = false := by
  rcases h with h | h <;> simp [okW, h]
theorem spec_TreesOfTypes_run (hx : xs.length ≤ 1048576) (hy : ys.length ≤ 1048576) : CallX false F_spec_TreesOfTypes [FI xs, FI ys] [] fun v H1 => TRes (resT xs ys) v H1 := by
  by_cases hok : Ok8 xs ys
  · have hres : resT xs ys = (some (trL xs ys (sumI xs).toNat), 0) := if_pos hok
    have hp := hok.1.1.pos
    have h8 := hok.2
    obtain ⟨n, hn⟩ : ∃ n : Nat, sumI xs = n := ⟨(sumI xs).toNat, by omega⟩
    have hnt : (sumI xs).toNat = n := by omega
    have hn1 : 1 ≤ n := by omega
    have hn8 : n ≤ 8 := by omega
    rw [hres, hnt]
    refine CallX_body Γ_spec_TreesOfTypes ?_; simp only [A_spec_TreesOfTypes, T_aiff]
    refine T_rseq fun Kr hKr => ?_; simp (disch := omega) only [RA, ↓reduceIte, Nat.reduceEqDiff, RD]; refine hKr _ _ ?_; clear hKr Kr; (try simp only [RN, reduceIte]); try refine T_e rfl ?_
    refine T_rseq fun Kr hKr => ?_; simp (disch := omega) only [RA, ↓reduceIte, Nat.reduceEqDiff, reduceCtorEq, RD]
    refine l05Types_L hx hy fun c hc => ?_
    obtain rfl : c = (n : Int) := by rw [hc hok.1, hn]
    rw [decide_eq_true hok.1]
    simp (disch := omega) only [RA, ↓reduceIte, Nat.reduceEqDiff, Nat.reduceLeDiff, RD]
    refine hKr _ _ ?_; clear hKr Kr; (try simp only [blkQ, thenQ, loopQ]); (try simp only [RN, reduceIte]); try refine T_e rfl ?_
    refine T_rseq fun Kr hKr => ?_; simp (disch := omega) only [RA, ↓reduceIte, Nat.reduceEqDiff, RD]; refine hKr _ _ ?_; clear hKr Kr; (try simp only [RN, reduceIte]); try refine T_e rfl ?_
    refine T_cseq (t := false) (by simp (disch := omega) only [RA, ↓reduceIte, Nat.reduceEqDiff, RD]) ?_; (try simp only [RN, reduceIte]); try refine T_e rfl ?_
    have hwl : (wl n).length ≤ 65536 := by
      have h1 := wlF_len (2 * n) 0 n
      have h2 := Nat.pow_le_pow_right (n := 2) (by omega) (show 2 * n ≤ 16 by omega)
      exact Nat.le_trans h1 h2
    refine T_rseq fun Kr hKr => ?_; simp (disch := omega) only [RA, ↓reduceIte, Nat.reduceEqDiff, reduceCtorEq, RD]
    refine l05All_spec hn8 ?_
    simp (disch := omega) only [RA, ↓reduceIte, Nat.reduceEqDiff, Nat.reduceLeDiff, RD]
    refine hKr _ _ ?_; clear hKr Kr; (try simp only [blkQ, thenQ, loopQ]); (try simp only [RN, reduceIte]); try refine T_e rfl ?_
    refine T_rseq fun Kr hKr => ?_; simp (disch := omega) only [RA, ↓reduceIte, Nat.reduceEqDiff, RD]; refine hKr _ _ ?_; clear hKr Kr; (try simp only [RN, reduceIte]); try refine T_e rfl ?_
    refine T_wloop (fun m f H' => ∃ (i : Nat) (us : List (List UInt8)), i ≤ (wl n).length ∧ m = (wl n).length - i ∧ us = ((wl n).take i).filter (okW xs ys n) ∧ us.length ≤ 65536 ∧ f 0 = FI xs ∧ f 1 = FI ys ∧ f 6 = I n ∧ f 8 = FSt (wl n) ∧ f 9 = S 0 0 us.length 1 ∧ f 10 = I i ∧ H' = [some (us.map strV)]) ((wl n).length) ?_ ?_
    · refine ⟨_, _, Gh.refl, 0, [], by omega, by omega, by simp, by simp, ?_, ?_, ?_, ?_, ?_, ?_, rfl⟩
      any_goals (simp (disch := omega) only [RA, ↓reduceIte, Nat.reduceEqDiff, RD, RE, *] <;> rfl)
    · rintro m f H' R ⟨i, us, hi, rfl, he, hul, g0, g1, g6, g8, g9, g10, rfl⟩ hN hX hR hE
      simp only [A_spec_TreesOfTypes.l0, T_aiff]
      refine T_rseq fun Kr hKr => ?_; simp (disch := omega) only [RA, ↓reduceIte, Nat.reduceEqDiff, RD, g8, g10]; refine hKr _ _ ?_; clear hKr Kr; (try simp only [RN, reduceIte]); try refine T_e rfl ?_
      refine T_csplit (p := i < (wl n).length) (by simp only [RA, ↓reduceIte, Nat.reduceEqDiff] <;> rfl) (by (try simp only [RB]) <;> first | done | exact Iff.rfl | omega | simp) (fun hc => ?_) (fun hc => ?_) <;> (try simp only [RN, reduceIte]) <;> (try refine T_e rfl ?_)
      · have hm := sg_mem hc
        have hft := filter_take (p := okW xs ys n) hc
        obtain ⟨hwd, hwn⟩ := wl_wd hn1 hn8 hm
        obtain ⟨hd, ht⟩ := wl_facts hn1 hn8 hm
        obtain ⟨hb, hw⟩ := made_by hwd
        have hlb := hb.len
        have hlw := hw.len
        have hz16 := z16_len
        have hul2 : (((wl n).take (i + 1)).filter (okW xs ys n)).length ≤ 65536 := by
          have := List.length_filter_le (okW xs ys n) ((wl n).take (i + 1))
          rw [List.length_take] at this
          omega
        have t1 := typ_len16 hd.1
        have t2 := typ_len16 hd.2.1
        have hlw0 : lwS (sg (wl n) i) = (lwK (madeB (sg (wl n) i)) (madeW (sg (wl n) i)) (n - 1)).1 := by rw [lwS, hwn, half]
        obtain ⟨s, hs⟩ : ∃ s, sg (wl n) i = s := ⟨_, rfl⟩
        rw [hs] at hm hft hwd hwn hd ht hb hw hlb hlw hlw0 t1 t2
        have h2 : s.length / 2 = n := by omega
        have hnext : ∀ (f' : Fr) (us' : List (List UInt8)) (c : BH), f' 0 = FI xs → f' 1 = FI ys → f' 6 = I n → f' 8 = FSt (wl n) → f' 9 = S 0 0 us'.length 1 → f' 10 = I i → us' = ((wl n).take (i + 1)).filter (okW xs ys n) → c = [some (us'.map strV)] → T 0 A_spec_TreesOfTypes.r7 R f' c := by
          clear g0 g1 g6 g8 g9 g10
          intro f' us' c g0 g1 g6 g8 g9 g10 e1 hc'
          subst hc'
          refine T_reg_k fun Kr hKr => ?_; simp (disch := omega) only [RA, ↓reduceIte, Nat.reduceEqDiff, RD, g10]; refine hKr _ _ ?_; clear hKr Kr
          refine hN ((wl n).length - (i + 1)) _ _ _ _ (by omega) Gh.refl ⟨i + 1, us', by omega, rfl, e1, by rw [e1]; exact hul2, ?_, ?_, ?_, ?_, ?_, ?_, rfl⟩
          any_goals (simp (disch := omega) only [RA, ↓reduceIte, Nat.reduceEqDiff, RD, RE, *] <;> rfl)
        have l1 := @toI_len (typ (madeB s) n)
        have l2 := @toI_len (typ (madeW s) n)
        have hno : ∀ f', f' 0 = FI xs → f' 1 = FI ys → f' 6 = I n → f' 8 = FSt (wl n) → f' 9 = S 0 0 us.length 1 → f' 10 = I i → okW xs ys n s = false → T 0 A_spec_TreesOfTypes.r7 R f' [some (us.map strV), some (DC n (madeB s) (madeW s))] := by
          intro f' g0 g1 g6 g8 g9 g10 hk
          refine T_gh (Gh.normC [0] (by simp) fun j hj => absurd hj (Nat.not_lt_zero j)) ?_
          refine hnext _ us _ ?_ ?_ ?_ ?_ ?_ ?_ (by rw [hft, hk, he]; simp) (by show [some ((us.map strV).map (ren [0]))] = _; rw [List.map_map]; rfl)
          all_goals exact (by simp (disch := omega) only [RA, ↓reduceIte, Nat.reduceEqDiff, RD, RE, *] <;> rfl)
        refine T_seq (T_block ?_); (try simp only [RN, reduceIte]); try refine T_e rfl ?_
        refine T_rseq fun Kr hKr => ?_; simp (disch := omega) only [RA, ↓reduceIte, Nat.reduceEqDiff, RD, g8, g10, getN_st, RDS, RDD]
        rw [hs]
        refine l05Made_spec hwd ?_
        rw [h2]
        simp (disch := omega) only [RA, ↓reduceIte, Nat.reduceEqDiff, RD, RDS, RDD]
        refine hKr _ _ ?_; clear hKr Kr; (try simp only [blkQ, thenQ, loopQ]); (try simp only [RN, reduceIte]); try refine T_e rfl ?_
        refine T_rseq fun Kr hKr => ?_; simp (disch := omega) only [RA, ↓reduceIte, Nat.reduceEqDiff, RD, RDS, RDD, g6]
        refine l01Type_spec hb hd.1 ?_
        rw [FN_toI]
        simp (disch := omega) only [RA, ↓reduceIte, Nat.reduceEqDiff, RD, g0]
        refine l05Same_spec (xs := toI (typ (madeB s) n)) (ys := xs) (by omega) (by omega) ?_
        by_cases e2 : toI (typ (madeB s) n) = xs
        · rw [decide_eq_true e2]
          simp (disch := omega) only [RA, ↓reduceIte, Nat.reduceEqDiff, RD, RDS, RDD, g6]
          refine l01Type_spec hw hd.2.1 ?_
          rw [FN_toI]
          simp (disch := omega) only [RA, ↓reduceIte, Nat.reduceEqDiff, RD, g1]
          refine l05Same_spec (xs := toI (typ (madeW s) n)) (ys := ys) (by omega) (by omega) ?_
          by_cases e3 : toI (typ (madeW s) n) = ys
          · rw [decide_eq_true e3]
            simp (disch := omega) only [RA, ↓reduceIte, Nat.reduceEqDiff, Nat.reduceLeDiff, RD]
            refine hKr _ _ ?_; clear hKr Kr; (try simp only [blkQ, thenQ, loopQ]); (try simp only [RN, reduceIte]); try refine T_e rfl ?_
            refine T_cseq (t := false) (by simp (disch := omega) only [RA, ↓reduceIte, Nat.reduceEqDiff, RD]) ?_; (try simp only [RN, reduceIte]); try refine T_e rfl ?_
            refine T_rseq fun Kr hKr => ?_; simp (disch := omega) only [RA, ↓reduceIte, Nat.reduceEqDiff, RD, RDS, RDD]
            refine l05Canonical_spec hb hw hd ht ?_
            rw [← hlw0]
            simp (disch := omega) only [RA, ↓reduceIte, Nat.reduceEqDiff, RD, strV_bs]
            refine hKr _ _ ?_; clear hKr Kr; (try simp only [blkQ, thenQ, loopQ]); (try simp only [RN, reduceIte]); try refine T_e rfl ?_
            refine T_rseq fun Kr hKr => ?_; simp (disch := omega) only [RA, ↓reduceIte, Nat.reduceEqDiff, RD, g8, g10, getN_st, hs, sb_eq]; refine hKr _ _ ?_; clear hKr Kr; (try simp only [RN, reduceIte]); try refine T_e rfl ?_
            refine T_csplit1 (p := lwS s = s) (by simp only [RA, ↓reduceIte, Nat.reduceEqDiff] <;> rfl) (by (try simp only [RB]) <;> first | done | exact Iff.rfl | omega | simp) (fun hc => ?_) (fun hc => ?_) <;> (try simp only [RN, reduceIte]) <;> (try refine T_e rfl ?_)
            · have e1 : lwS s = s := by assumption
              have hk : okW xs ys n s = true := by simp [okW, e1, e2, e3]
              refine T_reg_k fun Kr hKr => ?_; simp (disch := omega) only [RA, ↓reduceIte, Nat.reduceEqDiff, Nat.reduceAdd, Nat.reduceLeDiff, RD, g9, e1, fl1_st, nj_st, app1_st]; refine hKr _ _ ?_; clear hKr Kr
              simp only [blkQ, thenQ, loopQ, if_true]
              refine T_gh (Gh.normC [3] (by simp) fun j hj => absurd hj (Nat.not_lt_zero j)) ?_
              have hlen : us.length + 1 = (us ++ [s]).length := by simp
              refine hnext _ (us ++ [s]) _ ?_ ?_ ?_ ?_ ?_ ?_ (by rw [hft, hk, he]; simp) (by show [some (((us ++ [s]).map strV).map (ren [3]))] = _; rw [List.map_map]; rfl)
              all_goals first | exact (by simp (disch := omega) only [RA, ↓reduceIte, Nat.reduceEqDiff, RD, RE, *] <;> rfl) | (rw [← hlen]; exact (by simp (disch := omega) only [RA, ↓reduceIte, Nat.reduceEqDiff, RD, RE, *] <;> rfl))
            · have e1 : ¬ lwS s = s := by assumption
              simp only [blkQ, thenQ, loopQ, if_true]
              refine hno _ ?_ ?_ ?_ ?_ ?_ ?_ (by simp [okW, e1])
              any_goals (simp (disch := omega) only [RA, ↓reduceIte, Nat.reduceEqDiff, RD, RE, *] <;> rfl)
          · rw [decide_eq_false e3]
            simp (disch := omega) only [RA, ↓reduceIte, Nat.reduceEqDiff, Nat.reduceLeDiff, RD]
            refine hKr _ _ ?_; clear hKr Kr; (try simp only [blkQ, thenQ, loopQ]); (try simp only [RN, reduceIte]); try refine T_e rfl ?_
            refine T_cseq (t := true) (by simp (disch := omega) only [RA, ↓reduceIte, Nat.reduceEqDiff, RD]) ?_; (try simp only [RN, reduceIte]); try refine T_e rfl ?_
            simp only [blkQ, thenQ, loopQ, if_true]
            refine hno _ ?_ ?_ ?_ ?_ ?_ ?_ (okW_types (.inr e3))
            any_goals (simp (disch := omega) only [RA, ↓reduceIte, Nat.reduceEqDiff, RD, RE, *] <;> rfl)
        · rw [decide_eq_false e2]
          simp (disch := omega) only [RA, ↓reduceIte, Nat.reduceEqDiff, Nat.reduceLeDiff, RD]
          refine hKr _ _ ?_; clear hKr Kr; (try simp only [blkQ, thenQ, loopQ]); (try simp only [RN, reduceIte]); try refine T_e rfl ?_
          refine T_cseq (t := true) (by simp (disch := omega) only [RA, ↓reduceIte, Nat.reduceEqDiff, RD]) ?_; (try simp only [RN, reduceIte]); try refine T_e rfl ?_
          simp only [blkQ, thenQ, loopQ, if_true]
          refine hno _ ?_ ?_ ?_ ?_ ?_ ?_ (okW_types (.inl e2))
          any_goals (simp (disch := omega) only [RA, ↓reduceIte, Nat.reduceEqDiff, RD, RE, *] <;> rfl)
      · refine hX _ _ ?_
        (try simp only [RN, reduceIte]); try refine T_e rfl ?_
        obtain rfl : i = (wl n).length := by omega
        rw [List.take_length] at he
        have he : us = trL xs ys n := he
        refine T_rseq fun Kr hKr => ?_; simp (disch := omega) only [RA, ↓reduceIte, Nat.reduceEqDiff, RD, g9]; refine hKr _ _ ?_; clear hKr Kr; (try simp only [RN, reduceIte]); try refine T_e rfl ?_
        refine bodyQ_ret (by simp (disch := omega) only [RA, ↓reduceIte, Nat.reduceEqDiff, RD, resAll, resOf]; rfl) GhV.refl ?_; simp only [tup]
        rw [← he]
        exact ⟨0, rfl, rfl⟩
  · have hres : resT xs ys = (none, 2) := if_neg hok
    rw [hres]
    refine CallX_body Γ_spec_TreesOfTypes ?_; simp only [A_spec_TreesOfTypes, T_aiff]
    refine T_rseq fun Kr hKr => ?_; simp (disch := omega) only [RA, ↓reduceIte, Nat.reduceEqDiff, RD]; refine hKr _ _ ?_; clear hKr Kr; (try simp only [RN, reduceIte]); try refine T_e rfl ?_
    refine T_rseq fun Kr hKr => ?_; simp (disch := omega) only [RA, ↓reduceIte, Nat.reduceEqDiff, reduceCtorEq, RD]
    refine l05Types_L hx hy fun c hc => ?_
    by_cases h1 : OkTs xs ys
    · have h8 : ¬ c ≤ 8 := fun h => hok ⟨h1, by rw [← hc h1]; exact h⟩
      rw [decide_eq_true h1]
      simp (disch := omega) only [RA, ↓reduceIte, Nat.reduceEqDiff, Nat.reduceLeDiff, RD]
      refine hKr _ _ ?_; clear hKr Kr; (try simp only [blkQ, thenQ, loopQ]); (try simp only [RN, reduceIte]); try refine T_e rfl ?_
      refine T_rseq fun Kr hKr => ?_; simp (disch := omega) only [RA, ↓reduceIte, Nat.reduceEqDiff, RD]; refine hKr _ _ ?_; clear hKr Kr; (try simp only [RN, reduceIte]); try refine T_e rfl ?_
      refine T_cseq (t := true) (by simp (disch := omega) only [RA, ↓reduceIte, Nat.reduceEqDiff, RD]) ?_; (try simp only [RN, reduceIte]); try refine T_e rfl ?_
      refine T_rseq fun Kr hKr => ?_; simp (disch := omega) only [RA, ↓reduceIte, Nat.reduceEqDiff, RD]; refine hKr _ _ ?_; clear hKr Kr; (try simp only [RN, reduceIte]); try refine T_e rfl ?_
      refine bodyQ_ret (by simp (disch := omega) only [RA, ↓reduceIte, Nat.reduceEqDiff, RD, resAll, resOf]; rfl) GhV.refl ?_; simp only [tup]
      exact rfl
    · rw [decide_eq_false h1]
      simp (disch := omega) only [RA, ↓reduceIte, Nat.reduceEqDiff, Nat.reduceLeDiff, RD]
      refine hKr _ _ ?_; clear hKr Kr; (try simp only [blkQ, thenQ, loopQ]); (try simp only [RN, reduceIte]); try refine T_e rfl ?_
      refine T_rseq fun Kr hKr => ?_; simp (disch := omega) only [RA, ↓reduceIte, Nat.reduceEqDiff, RD]; refine hKr _ _ ?_; clear hKr Kr; (try simp only [RN, reduceIte]); try refine T_e rfl ?_
      refine T_cseq (t := true) (by simp (disch := omega) only [RA, ↓reduceIte, Nat.reduceEqDiff, RD]) ?_; (try simp only [RN, reduceIte]); try refine T_e rfl ?_
      refine T_rseq fun Kr hKr => ?_; simp (disch := omega) only [RA, ↓reduceIte, Nat.reduceEqDiff, RD]; refine hKr _ _ ?_; clear hKr Kr; (try simp only [RN, reduceIte]); try refine T_e rfl ?_
      refine bodyQ_ret (by simp (disch := omega) only [RA, ↓reduceIte, Nat.reduceEqDiff, RD, resAll, resOf]; rfl) GhV.refl ?_; simp only [tup]
      exact rfl
end
end Go.Bm

