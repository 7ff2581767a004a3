/- Sorting: reversing, the choice of a pivot, the test for order. -/
import Derived.Test.YtbbgifoamnjhoaaDpL
set_option linter.unusedVariables false
set_option linter.unusedSimpArgs false
namespace Go.Bm
open Go Go.Am

theorem reverseRange_spec {p : List Int} {a b : Nat} {K : Value → BH → Prop} (hpl : p.length ≤ 1000) (hb : b ≤ p.length) (hab : a < b) (hK : ∀ q, Sg a b p q → K (.tuple ⟨[]⟩) [some (q.map I)]) :
    CallX false F_slices_reverseRangeOrdered_int64 [S 0 0 p.length 1, I a, I b] [some (p.map I)] K := by
  have hb1 : (b : Int) - 1 = ((b - 1 : Nat) : Int) := by omega
  refine CallX_body Γ_slices_reverseRangeOrdered_int64 ?_
  simp only [A_slices_reverseRangeOrdered_int64, T_aiff]
  refine T_rseq fun Kr hKr => ?_
  simp (disch := omega) only [RA, ↓reduceIte, Nat.reduceEqDiff, RD]
  refine hKr _ _ ?_
  clear hKr Kr
  try simp only [RN, reduceIte]
  try refine T_e rfl ?_
  refine T_rseq fun Kr hKr => ?_
  simp (disch := omega) only [RA, ↓reduceIte, Nat.reduceEqDiff, RD, hb1]
  refine hKr _ _ ?_
  clear hKr Kr
  try simp only [RN, reduceIte]
  try refine T_e rfl ?_
  refine T_tail ?_
  refine T_wloop (fun m f H' => ∃ (q : List Int) (i j : Nat), Sg a b p q ∧ a ≤ i ∧ i ≤ j + 1 ∧ j < b ∧ m = j + 1 - i ∧ f 0 = S 0 0 p.length 1 ∧ f 6 = I i ∧ f 7 = I j ∧ H' = [some (q.map I)]) (b - 1 + 1 - a) ?_ ?_
  · refine ⟨_, _, Gh.refl, p, a, b - 1, .refl, by omega, by omega, by omega, rfl, ?_, ?_, ?_, rfl⟩
    any_goals (simp (disch := omega) only [RA, ↓reduceIte, Nat.reduceEqDiff, RD, RE, *] <;> rfl)
  · rintro m f H' R ⟨q, i, j, hq, h1, h2, h3, rfl, g0, g6, g7, rfl⟩ hN hX hR hE
    simp only [A_slices_reverseRangeOrdered_int64.l0, T_aiff]
    have hql := hq.len
    refine T_rseq fun Kr hKr => ?_
    simp (disch := omega) only [RA, ↓reduceIte, Nat.reduceEqDiff, RD, g6, g7]
    refine hKr _ _ ?_
    clear hKr Kr
    try simp only [RN, reduceIte]
    try refine T_e rfl ?_
    refine T_csplit (p := i < j) (by simp only [RA, ↓reduceIte, Nat.reduceEqDiff] <;> rfl) (by (try simp only [RB]) <;> first | done | exact Iff.rfl | omega | simp) (fun hc => ?_) (fun hc => ?_) <;> (try simp only [RN, reduceIte]) <;> (try refine T_e rfl ?_)
    · have hqs : (q.set i (el q j)).length = p.length := by simp [hql]
      have hj1 : (j : Int) - 1 = ((j - 1 : Nat) : Int) := by omega
      have hi1 : (i : Int) + 1 = ((i + 1 : Nat) : Int) := by omega
      have hsw : (q.set i (el q j)).set j (el q i) = swp q i j := rfl
      first | refine T_bfree rfl ?_ | refine T_bfree' rfl ?_
      try simp only [RN, reduceIte]
      try refine T_e rfl ?_
      refine T_rseq fun Kr hKr => ?_
      simp (disch := omega) only [RA, ↓reduceIte, Nat.reduceEqDiff, RD, g0, g6, g7, hql, hqs]
      refine hKr _ _ ?_
      clear hKr Kr
      try simp only [RN, reduceIte]
      try refine T_e rfl ?_
      rw [hsw]
      refine T_rseq fun Kr hKr => ?_
      simp (disch := omega) only [RA, ↓reduceIte, Nat.reduceEqDiff, RD, g6, hi1]
      refine hKr _ _ ?_
      clear hKr Kr
      try simp only [RN, reduceIte]
      try refine T_e rfl ?_
      refine T_reg_k fun Kr hKr => ?_
      simp (disch := omega) only [RA, ↓reduceIte, Nat.reduceEqDiff, RD, g7, hj1]
      refine hKr _ _ ?_
      clear hKr Kr
      refine hN (j - 1 + 1 - (i + 1)) _ _ _ _ (by omega) Gh.refl ⟨swp q i j, i + 1, j - 1, hq.trans (.swp (by omega) (by omega) (by omega) (by omega) (by omega)), by omega, by omega, by omega, rfl, ?_, ?_, ?_, rfl⟩
      any_goals (simp (disch := omega) only [RA, ↓reduceIte, Nat.reduceEqDiff, RD, RE, *] <;> rfl)
    · refine hX _ _ ?_
      refine T_skip ?_
      refine bodyQ_ret (by simp (disch := omega) only [RA, ↓reduceIte, Nat.reduceEqDiff, RD, resAll, resOf]; rfl) GhV.refl ?_
      simp only [tup]
      exact hK q hq
/-- The first and the last i in the other order. -/
theorem Reverse_spec {p : List Int} {K : Value → BH → Prop} (hpl : p.length ≤ 1000) (hK : K (.tuple ⟨[]⟩) [some (p.reverse.map I)]) :
    CallX false F_slices_Reverse_int64_int64 [S 0 0 p.length 1] [some (p.map I)] K := by
  refine CallX_body Γ_slices_Reverse_int64_int64 ?_
  simp only [A_slices_Reverse_int64_int64, T_aiff]
  refine T_rseq fun Kr hKr => ?_
  simp (disch := omega) only [RA, ↓reduceIte, Nat.reduceEqDiff, RD]
  refine hKr _ _ ?_
  clear hKr Kr
  try simp only [RN, reduceIte]
  try refine T_e rfl ?_
  refine T_tail ?_
  refine T_wloop (fun m f H' => ∃ (q : List Int) (i : Nat) (j : Int), q.length = p.length ∧ j = (p.length : Int) - 1 - i ∧ 2 * (i : Int) ≤ p.length + 1 ∧ (∀ x, x < p.length → el q x = if x < i ∨ p.length ≤ x + i then el p (p.length - 1 - x) else el p x) ∧ m = p.length - i ∧ f 0 = S 0 0 p.length 1 ∧ f 2 = I i ∧ f 3 = I j ∧ H' = [some (q.map I)]) (p.length) ?_ ?_
  · refine ⟨_, _, Gh.refl, p, 0, (p.length : Int) - 1, rfl, by omega, by omega, fun x hx => ?_, rfl, ?_, ?_, ?_, rfl⟩
    any_goals (simp (disch := omega) only [RA, ↓reduceIte, Nat.reduceEqDiff, RD, RE, *] <;> rfl)
    rw [if_neg (by omega)]
  · rintro m f H' R ⟨q, i, j, hql, hj, h2, hq, rfl, g0, g2, g3, rfl⟩ hN hX hR hE
    simp only [A_slices_Reverse_int64_int64.l0, T_aiff]
    refine T_rseq fun Kr hKr => ?_
    simp (disch := omega) only [RA, ↓reduceIte, Nat.reduceEqDiff, RD, g2, g3]
    refine hKr _ _ ?_
    clear hKr Kr
    try simp only [RN, reduceIte]
    try refine T_e rfl ?_
    refine T_csplit (p := (i : Int) < j) (by simp only [RA, ↓reduceIte, Nat.reduceEqDiff] <;> rfl) (by (try simp only [RB]) <;> first | done | exact Iff.rfl | omega | simp) (fun hc => ?_) (fun hc => ?_) <;> (try simp only [RN, reduceIte]) <;> (try refine T_e rfl ?_)
    · obtain ⟨k, rfl⟩ : ∃ k : Nat, j = k := ⟨j.toNat, by omega⟩
      have hqs : (q.set i (el q k)).length = p.length := by simp [hql]
      have hsw : (q.set i (el q k)).set k (el q i) = swp q i k := rfl
      first | refine T_bfree rfl ?_ | refine T_bfree' rfl ?_
      try simp only [RN, reduceIte]
      try refine T_e rfl ?_
      refine T_rseq fun Kr hKr => ?_
      simp (disch := omega) only [RA, ↓reduceIte, Nat.reduceEqDiff, RD, g0, g2, g3, hql, hqs]
      refine hKr _ _ ?_
      clear hKr Kr
      try simp only [RN, reduceIte]
      try refine T_e rfl ?_
      rw [hsw]
      refine T_reg_k fun Kr hKr => ?_
      simp (disch := omega) only [RA, ↓reduceIte, Nat.reduceEqDiff, RD, g2, g3]
      refine hKr _ _ ?_
      clear hKr Kr
      refine hN (p.length - (i + 1)) _ _ _ _ (by omega) Gh.refl ⟨swp q i k, i + 1, (k : Int) - 1, by rw [swp_len, hql], by omega, by omega, fun x hx => ?_, rfl, ?_, ?_, ?_, rfl⟩
      any_goals (simp (disch := omega) only [RA, ↓reduceIte, Nat.reduceEqDiff, RD, RE, *] <;> rfl)
      rw [swp_el (by omega) (by omega)]
      split
      · rw [hq i (by omega), if_neg (by omega), if_pos (by omega)]
        congr 1
        omega
      · split
        · rw [hq k (by omega), if_neg (by omega), if_pos (by omega)]
          congr 1
          omega
        · rw [hq x hx]
          by_cases hc2 : x < i ∨ p.length ≤ x + i
          · rw [if_pos hc2, if_pos (by omega)]
          · rw [if_neg hc2, if_neg (by omega)]
    · refine hX _ _ ?_
      refine T_skip ?_
      refine bodyQ_ret (by simp (disch := omega) only [RA, ↓reduceIte, Nat.reduceEqDiff, RD, resAll, resOf]; rfl) GhV.refl ?_
      simp only [tup]
      have : q = p.reverse := el_ext (by simp [hql]) fun x hx => by
        have e : el p.reverse x = el p (p.length - 1 - x) := by
          simp only [el, List.getD]
          rw [List.getElem?_reverse (by omega)]
        rw [e, hq x (by omega)]
        split
        · rfl
        · congr 1
          omega
      rw [this]
      exact hK
theorem getN_c {v : Value} : getN none [v] 0 = some v := rfl
theorem st_c {H : BH} {b : Nat} {v : Value} {k : IntKind} {n : Int} : stO (some [v]) H b 0 1 (.int k n) = some (undef, H.set b (some [.int k n])) := rfl
theorem order2_spec {p : List Int} {a b : Nat} {s : Nat} {K : Value → BH → Prop} (hpl : p.length ≤ 1000) (ha : a < p.length) (hb : b < p.length) (hs : s ≤ 1000)
    (hK : ∀ (x y s' : Nat), (x = a ∧ y = b) ∨ (x = b ∧ y = a) → s' ≤ s + 1 → K (.tuple ⟨[I x, I y]⟩) [some (p.map I), some [I s']]) :
    CallX false F_slices_order2Ordered_int64 [S 0 0 p.length 1, I a, I b, P 1 0] [some (p.map I), some [I s]] K := by
  have hs1 : (s : Int) + 1 = ((s + 1 : Nat) : Int) := by omega
  refine CallX_body Γ_slices_order2Ordered_int64 ?_
  simp only [A_slices_order2Ordered_int64, T_aiff]
  refine T_rseq fun Kr hKr => ?_
  simp (disch := omega) only [RA, ↓reduceIte, Nat.reduceEqDiff, RD]
  refine hKr _ _ ?_
  clear hKr Kr
  try simp only [RN, reduceIte]
  try refine T_e rfl ?_
  refine T_rseq fun Kr hKr => ?_
  simp (disch := omega) only [RA, ↓reduceIte, Nat.reduceEqDiff, RD]
  refine Less_spec ?_
  simp (disch := omega) only [RA, ↓reduceIte, Nat.reduceEqDiff, RD]
  refine hKr _ _ ?_
  clear hKr Kr
  try simp only [blkQ, thenQ, loopQ]
  try simp only [RN, reduceIte]
  try refine T_e rfl ?_
  refine T_csplit (p := el p b < el p a) (by simp only [RA, ↓reduceIte, Nat.reduceEqDiff] <;> rfl) (by (try simp only [RB]) <;> first | done | exact Iff.rfl | omega | simp) (fun hc => ?_) (fun hc => ?_) <;> (try simp only [RN, reduceIte]) <;> (try refine T_e rfl ?_)
  · refine T_rseq fun Kr hKr => ?_
    simp (disch := omega) only [RA, ↓reduceIte, Nat.reduceEqDiff, RD, getN_c, st_c, hs1]
    refine hKr _ _ ?_
    clear hKr Kr
    try simp only [RN, reduceIte]
    try refine T_e rfl ?_
    refine T_rseq fun Kr hKr => ?_
    simp (disch := omega) only [RA, ↓reduceIte, Nat.reduceEqDiff, RD]
    refine hKr _ _ ?_
    clear hKr Kr
    try simp only [RN, reduceIte]
    try refine T_e rfl ?_
    refine bodyQ_ret (by simp (disch := omega) only [RA, ↓reduceIte, Nat.reduceEqDiff, RD, resAll, resOf]; rfl) GhV.refl ?_
    simp only [tup]
    exact hK b a (s + 1) (.inr ⟨rfl, rfl⟩) (by omega)
  · refine T_rseq fun Kr hKr => ?_
    simp (disch := omega) only [RA, ↓reduceIte, Nat.reduceEqDiff, RD]
    refine hKr _ _ ?_
    clear hKr Kr
    try simp only [RN, reduceIte]
    try refine T_e rfl ?_
    refine bodyQ_ret (by simp (disch := omega) only [RA, ↓reduceIte, Nat.reduceEqDiff, RD, resAll, resOf]; rfl) GhV.refl ?_
    simp only [tup]
    exact hK a b s (.inl ⟨rfl, rfl⟩) (by omega)
theorem median_spec {p : List Int} {a b c : Nat} {s : Nat} {K : Value → BH → Prop} (hpl : p.length ≤ 1000) (ha : a < p.length) (hb : b < p.length) (hc : c < p.length) (hs : s ≤ 900)
    (hK : ∀ (x s' : Nat), x = a ∨ x = b ∨ x = c → s' ≤ s + 3 → K (I x) [some (p.map I), some [I s']]) :
    CallX false F_slices_medianOrdered_int64 [S 0 0 p.length 1, I a, I b, I c, P 1 0] [some (p.map I), some [I s]] K := by
  refine CallX_body Γ_slices_medianOrdered_int64 ?_
  simp only [A_slices_medianOrdered_int64, T_aiff]
  refine T_rseq fun Kr hKr => ?_
  simp (disch := omega) only [RA, ↓reduceIte, Nat.reduceEqDiff, RD]
  refine hKr _ _ ?_
  clear hKr Kr
  try simp only [RN, reduceIte]
  try refine T_e rfl ?_
  refine T_rseq fun Kr hKr => ?_
  simp (disch := omega) only [RA, ↓reduceIte, Nat.reduceEqDiff, RD]
  refine order2_spec hpl ha hb (by omega) ?_
  intro a1 b1 s1 h1 hs1
  have ha1 : a1 < p.length := by omega
  have hb1 : b1 < p.length := by omega
  simp (disch := omega) only [RA, ↓reduceIte, Nat.reduceEqDiff, RD]
  refine hKr _ _ ?_
  clear hKr Kr
  try simp only [blkQ, thenQ, loopQ]
  try simp only [RN, reduceIte]
  try refine T_e rfl ?_
  refine T_rseq fun Kr hKr => ?_
  simp (disch := omega) only [RA, ↓reduceIte, Nat.reduceEqDiff, RD]
  refine order2_spec hpl hb1 hc (by omega) ?_
  intro b2 c2 s2 h2 hs2
  have hb2 : b2 < p.length := by omega
  simp (disch := omega) only [RA, ↓reduceIte, Nat.reduceEqDiff, RD]
  refine hKr _ _ ?_
  clear hKr Kr
  try simp only [blkQ, thenQ, loopQ]
  try simp only [RN, reduceIte]
  try refine T_e rfl ?_
  refine T_rseq fun Kr hKr => ?_
  simp (disch := omega) only [RA, ↓reduceIte, Nat.reduceEqDiff, RD]
  refine order2_spec hpl ha1 hb2 (by omega) ?_
  intro a3 b3 s3 h3 hs3
  simp (disch := omega) only [RA, ↓reduceIte, Nat.reduceEqDiff, RD]
  refine hKr _ _ ?_
  clear hKr Kr
  try simp only [blkQ, thenQ, loopQ]
  try simp only [RN, reduceIte]
  try refine T_e rfl ?_
  refine T_rseq fun Kr hKr => ?_
  simp (disch := omega) only [RA, ↓reduceIte, Nat.reduceEqDiff, RD]
  refine hKr _ _ ?_
  clear hKr Kr
  try simp only [RN, reduceIte]
  try refine T_e rfl ?_
  refine bodyQ_ret (by simp (disch := omega) only [RA, ↓reduceIte, Nat.reduceEqDiff, RD, resAll, resOf]; rfl) GhV.refl ?_
  simp only [tup]
  exact hK b3 s3 (by omega) (by omega)
theorem choosePivot_spec {p : List Int} {a b : Nat} {K : Value → BH → Prop} (hpl : p.length ≤ 1000) (hb : b ≤ p.length) (h8 : a + 8 ≤ b) (h50 : b < a + 50)
    (hK : ∀ (x : Nat) (h : Int), a ≤ x → x < b → K (.tuple ⟨[I x, I h]⟩) [some (p.map I)]) :
    CallX false F_slices_choosePivotOrdered_int64 [S 0 0 p.length 1, I a, I b] [some (p.map I)] K := by
  obtain ⟨l, hl⟩ : ∃ l, l = b - a := ⟨_, rfl⟩
  have hbl : (b : Int) - (a : Int) = (l : Int) := by omega
  have hd : (l : Int).tdiv 4 = ((l / 4 : Nat) : Int) := (Int.ofNat_tdiv l 4).symm
  obtain ⟨q, hq⟩ : ∃ q, q = l / 4 := ⟨_, rfl⟩
  rw [← hq] at hd
  have e1 : (a : Int) + (q : Int) * 1 = ((a + q : Nat) : Int) := by omega
  have e2 : (a : Int) + (q : Int) * 2 = ((a + q * 2 : Nat) : Int) := by omega
  have e3 : (a : Int) + (q : Int) * 3 = ((a + q * 3 : Nat) : Int) := by omega
  have e4 : (q : Int) * 1 = q := by omega
  have e5 : (a : Int) + (q : Int) = ((a + q : Nat) : Int) := by omega
  refine CallX_body Γ_slices_choosePivotOrdered_int64 ?_
  simp only [A_slices_choosePivotOrdered_int64, T_aiff]
  refine T_rseq fun Kr hKr => ?_
  simp (disch := omega) only [RA, ↓reduceIte, Nat.reduceEqDiff, Nat.reduceBEq, Nat.reduceSub, Nat.reduceAdd, Nat.reduceMul, Nat.reduceLT, Nat.reduceLeDiff, Int.reduceLE, Int.reduceLT, Int.reduceEq, Int.reduceNeg, Int.reduceToNat, Int.reduceMul, Int.reduceAdd, Int.reduceSub, Int.reduceBEq, Int.reduceBNe, reduceCtorEq, RD]
  refine hKr _ _ ?_
  clear hKr Kr
  try simp only [RN, reduceIte]
  try refine T_e rfl ?_
  refine T_rseq fun Kr hKr => ?_
  simp (disch := omega) only [RA, ↓reduceIte, Nat.reduceEqDiff, Nat.reduceBEq, Nat.reduceSub, Nat.reduceAdd, Nat.reduceMul, Nat.reduceLT, Nat.reduceLeDiff, Int.reduceLE, Int.reduceLT, Int.reduceEq, Int.reduceNeg, Int.reduceToNat, Int.reduceMul, Int.reduceAdd, Int.reduceSub, Int.reduceBEq, Int.reduceBNe, reduceCtorEq, RD, hbl]
  refine hKr _ _ ?_
  clear hKr Kr
  try simp only [RN, reduceIte]
  try refine T_e rfl ?_
  refine T_rseq fun Kr hKr => ?_
  simp (disch := omega) only [RA, ↓reduceIte, Nat.reduceEqDiff, Nat.reduceBEq, Nat.reduceSub, Nat.reduceAdd, Nat.reduceMul, Nat.reduceLT, Nat.reduceLeDiff, Int.reduceLE, Int.reduceLT, Int.reduceEq, Int.reduceNeg, Int.reduceToNat, Int.reduceMul, Int.reduceAdd, Int.reduceSub, Int.reduceBEq, Int.reduceBNe, reduceCtorEq, RD]
  refine hKr _ _ ?_
  clear hKr Kr
  try simp only [RN, reduceIte]
  try refine T_e rfl ?_
  refine T_rseq fun Kr hKr => ?_
  simp (disch := omega) only [RA, ↓reduceIte, Nat.reduceEqDiff, Nat.reduceBEq, Nat.reduceSub, Nat.reduceAdd, Nat.reduceMul, Nat.reduceLT, Nat.reduceLeDiff, Int.reduceLE, Int.reduceLT, Int.reduceEq, Int.reduceNeg, Int.reduceToNat, Int.reduceMul, Int.reduceAdd, Int.reduceSub, Int.reduceBEq, Int.reduceBNe, reduceCtorEq, RD, hd, e1, e4, e5]
  refine hKr _ _ ?_
  clear hKr Kr
  try simp only [RN, reduceIte]
  try refine T_e rfl ?_
  refine T_rseq fun Kr hKr => ?_
  simp (disch := omega) only [RA, ↓reduceIte, Nat.reduceEqDiff, Nat.reduceBEq, Nat.reduceSub, Nat.reduceAdd, Nat.reduceMul, Nat.reduceLT, Nat.reduceLeDiff, Int.reduceLE, Int.reduceLT, Int.reduceEq, Int.reduceNeg, Int.reduceToNat, Int.reduceMul, Int.reduceAdd, Int.reduceSub, Int.reduceBEq, Int.reduceBNe, reduceCtorEq, RD, hd, e2]
  refine hKr _ _ ?_
  clear hKr Kr
  try simp only [RN, reduceIte]
  try refine T_e rfl ?_
  refine T_rseq fun Kr hKr => ?_
  simp (disch := omega) only [RA, ↓reduceIte, Nat.reduceEqDiff, Nat.reduceBEq, Nat.reduceSub, Nat.reduceAdd, Nat.reduceMul, Nat.reduceLT, Nat.reduceLeDiff, Int.reduceLE, Int.reduceLT, Int.reduceEq, Int.reduceNeg, Int.reduceToNat, Int.reduceMul, Int.reduceAdd, Int.reduceSub, Int.reduceBEq, Int.reduceBNe, reduceCtorEq, RD, hd, e3]
  refine hKr _ _ ?_
  clear hKr Kr
  try simp only [RN, reduceIte]
  try refine T_e rfl ?_
  refine T_rseq fun Kr hKr => ?_
  simp (disch := omega) only [RA, ↓reduceIte, Nat.reduceEqDiff, Nat.reduceBEq, Nat.reduceSub, Nat.reduceAdd, Nat.reduceMul, Nat.reduceLT, Nat.reduceLeDiff, Int.reduceLE, Int.reduceLT, Int.reduceEq, Int.reduceNeg, Int.reduceToNat, Int.reduceMul, Int.reduceAdd, Int.reduceSub, Int.reduceBEq, Int.reduceBNe, reduceCtorEq, RD]
  refine hKr _ _ ?_
  clear hKr Kr
  try simp only [RN, reduceIte]
  try refine T_e rfl ?_
  refine T_cseq (t := true) (by simp (disch := omega) only [RA, ↓reduceIte, Nat.reduceEqDiff, RD]) ?_
  try simp only [RN, reduceIte]
  try refine T_e rfl ?_
  refine T_rseq fun Kr hKr => ?_
  simp (disch := omega) only [RA, ↓reduceIte, Nat.reduceEqDiff, Nat.reduceBEq, Nat.reduceSub, Nat.reduceAdd, Nat.reduceMul, Nat.reduceLT, Nat.reduceLeDiff, Int.reduceLE, Int.reduceLT, Int.reduceEq, Int.reduceNeg, Int.reduceToNat, Int.reduceMul, Int.reduceAdd, Int.reduceSub, Int.reduceBEq, Int.reduceBNe, reduceCtorEq, RD]
  refine hKr _ _ ?_
  clear hKr Kr
  try simp only [RN, reduceIte]
  try refine T_e rfl ?_
  refine T_cseq (t := false) (by simp (disch := omega) only [RA, ↓reduceIte, Nat.reduceEqDiff, RD]) ?_
  try simp only [RN, reduceIte]
  try refine T_e rfl ?_
  refine T_rseq fun Kr hKr => ?_
  simp (disch := omega) only [RA, ↓reduceIte, Nat.reduceEqDiff, RD]
  refine median_spec (s := 0) hpl (by omega) (by omega) (by omega) (by omega) ?_
  intro x s' hx hs'
  simp (disch := omega) only [RA, ↓reduceIte, Nat.reduceEqDiff, RD]
  refine hKr _ _ ?_
  clear hKr Kr
  try simp only [blkQ, thenQ, loopQ]
  try simp only [RN, reduceIte]
  try refine T_e rfl ?_
  refine T_rseq fun Kr hKr => ?_
  simp (disch := omega) only [RA, ↓reduceIte, Nat.reduceEqDiff, RD, getN_c]
  refine hKr _ _ ?_
  clear hKr Kr
  try simp only [RN, reduceIte]
  try refine T_e rfl ?_
  first | refine T_bfree rfl ?_ | refine T_bfree' rfl ?_
  try simp only [RN, reduceIte]
  try refine T_e rfl ?_
  refine T_rseq fun Kr hKr => ?_
  simp (disch := omega) only [RA, ↓reduceIte, Nat.reduceEqDiff, Nat.reduceBEq, Nat.reduceSub, Nat.reduceAdd, Nat.reduceMul, Nat.reduceLT, Nat.reduceLeDiff, Int.reduceLE, Int.reduceLT, Int.reduceEq, Int.reduceNeg, Int.reduceToNat, Int.reduceMul, Int.reduceAdd, Int.reduceSub, Int.reduceBEq, Int.reduceBNe, reduceCtorEq, RD]
  refine hKr _ _ ?_
  clear hKr Kr
  try simp only [RN, reduceIte]
  try refine T_e rfl ?_
  refine T_csplit1 (p := s' = 0) (by simp only [RA, ↓reduceIte, Nat.reduceEqDiff] <;> rfl) (by (try simp only [RB]) <;> first | done | exact Iff.rfl | omega | simp) (fun hc => ?_) (fun hc => ?_) <;> (try simp only [RN, reduceIte]) <;> (try refine T_e rfl ?_)
  · refine T_rseq fun Kr hKr => ?_
    simp (disch := omega) only [RA, ↓reduceIte, Nat.reduceEqDiff, RD]
    refine hKr _ _ ?_
    clear hKr Kr
    try simp only [RN, reduceIte]
    try refine T_e rfl ?_
    refine bodyQ_ret (by simp (disch := omega) only [RA, ↓reduceIte, Nat.reduceEqDiff, RD, resAll, resOf]; rfl) (GhV.nrm [0] rfl rfl (by simp only [RH]) (by simp only [tup, RH])) ?_
    simp only [tup]
    exact hK x 1 (by omega) (by omega)
  · refine T_rseq fun Kr hKr => ?_
    simp (disch := omega) only [RA, ↓reduceIte, Nat.reduceEqDiff, RD]
    refine hKr _ _ ?_
    clear hKr Kr
    try simp only [RN, reduceIte]
    try refine T_e rfl ?_
    refine T_cond (t := false) (by simp (disch := omega) only [RA, ↓reduceIte, Nat.reduceEqDiff, RD]) ?_
    try simp only [RN, reduceIte]
    try refine T_e rfl ?_
    refine T_rseq fun Kr hKr => ?_
    simp (disch := omega) only [RA, ↓reduceIte, Nat.reduceEqDiff, Nat.reduceBEq, Nat.reduceSub, Nat.reduceAdd, Nat.reduceMul, Nat.reduceLT, Nat.reduceLeDiff, Int.reduceLE, Int.reduceLT, Int.reduceEq, Int.reduceNeg, Int.reduceToNat, Int.reduceMul, Int.reduceAdd, Int.reduceSub, Int.reduceBEq, Int.reduceBNe, reduceCtorEq, RD]
    refine hKr _ _ ?_
    clear hKr Kr
    try simp only [RN, reduceIte]
    try refine T_e rfl ?_
    refine bodyQ_ret (by simp (disch := omega) only [RA, ↓reduceIte, Nat.reduceEqDiff, RD, resAll, resOf]; rfl) (GhV.nrm [0] rfl rfl (by simp only [RH]) (by simp only [tup, RH])) ?_
    simp only [tup]
    exact hK x 0 (by omega) (by omega)
/-- Of short lists only whether they are in order. -/
theorem partialInsertionSort_spec {p : List Int} {a b : Nat} {K : Value → BH → Prop} (hpl : p.length ≤ 1000) (hb : b ≤ p.length) (hab : a < b) (h50 : b < a + 50) (hK : ∀ r, (r = true → Srt a b p) → K (.bool r) [some (p.map I)]) :
    CallX false F_slices_partialInsertionSortOrdered_int64 [S 0 0 p.length 1, I a, I b] [some (p.map I)] K := by
  have ha1 : (a : Int) + 1 = ((a + 1 : Nat) : Int) := by omega
  have hl1 : (b : Int) - (a : Int) = ((b - a : Nat) : Int) := by omega
  refine CallX_body Γ_slices_partialInsertionSortOrdered_int64 ?_
  simp only [A_slices_partialInsertionSortOrdered_int64, T_aiff]
  refine T_rseq fun Kr hKr => ?_
  simp (disch := omega) only [RA, ↓reduceIte, Nat.reduceEqDiff, RD]
  refine hKr _ _ ?_
  clear hKr Kr
  try simp only [RN, reduceIte]
  try refine T_e rfl ?_
  refine T_rseq fun Kr hKr => ?_
  simp (disch := omega) only [RA, ↓reduceIte, Nat.reduceEqDiff, RD, ha1]
  refine hKr _ _ ?_
  clear hKr Kr
  try simp only [RN, reduceIte]
  try refine T_e rfl ?_
  refine T_rseq fun Kr hKr => ?_
  simp (disch := omega) only [RA, ↓reduceIte, Nat.reduceEqDiff, RD]
  refine hKr _ _ ?_
  clear hKr Kr
  try simp only [RN, reduceIte]
  try refine T_e rfl ?_
  refine T_wloop (fun m f H' => m = 1 ∧ f 0 = S 0 0 p.length 1 ∧ f 1 = I a ∧ f 2 = I b ∧ f 7 = I (a + 1 : Nat) ∧ f 8 = I 0 ∧ H' = [some (p.map I)]) (1) ?_ ?_
  · refine ⟨_, _, Gh.refl, rfl, ?_, ?_, ?_, ?_, ?_, rfl⟩
    any_goals (simp (disch := omega) only [RA, ↓reduceIte, Nat.reduceEqDiff, RD, RE, *] <;> rfl)
  · rintro m f H' R ⟨rfl, g0, g1, g2, g7, g8, rfl⟩ hN hX hR hE
    simp only [A_slices_partialInsertionSortOrdered_int64.l3, T_aiff]
    refine T_rseq fun Kr hKr => ?_
    simp (disch := omega) only [RA, ↓reduceIte, Nat.reduceEqDiff, RD, g8]
    refine hKr _ _ ?_
    clear hKr Kr
    try simp only [RN, reduceIte]
    try refine T_e rfl ?_
    refine T_cseq (t := true) (by simp (disch := omega) only [RA, ↓reduceIte, Nat.reduceEqDiff, RD]) ?_
    try simp only [RN, reduceIte]
    try refine T_e rfl ?_
    first | refine T_bfree rfl ?_ | refine T_bfree' rfl ?_
    try simp only [RN, reduceIte]
    try refine T_e rfl ?_
    refine T_scan (fun m f H' => ∃ i : Nat, a + 1 ≤ i ∧ i ≤ b ∧ Srt a i p ∧ m = b - i ∧ f 0 = S 0 0 p.length 1 ∧ f 1 = I a ∧ f 2 = I b ∧ f 7 = I i ∧ H' = [some (p.map I)]) (fun f H' => ∃ i : Nat, a + 1 ≤ i ∧ i ≤ b ∧ Srt a i p ∧ f 0 = S 0 0 p.length 1 ∧ f 1 = I a ∧ f 2 = I b ∧ f 7 = I i ∧ H' = [some (p.map I)]) (b - (a + 1)) ?_ ?_ ?_
    · refine ⟨_, _, Gh.refl, a + 1, by omega, by omega, .one, rfl, ?_, ?_, ?_, ?_, rfl⟩
      any_goals (simp (disch := omega) only [RA, ↓reduceIte, Nat.reduceEqDiff, RD, RE, *] <;> rfl)
    · clear g0 g1 g2 g7 g8
      rintro m f H' R2 ⟨i, hi1, hi2, hs, rfl, g0, g1, g2, g7, rfl⟩ hN2 hX2 hR2
      simp only [A_slices_partialInsertionSortOrdered_int64.l0, T_aiff]
      by_cases hib : i < b
      · have hi1' : (i : Int) - 1 = ((i - 1 : Nat) : Int) := by omega
        have hi2' : (i : Int) + 1 = ((i + 1 : Nat) : Int) := by omega
        refine T_rseq fun Kr hKr => ?_
        simp (disch := omega) only [RA, ↓reduceIte, Nat.reduceEqDiff, RD, g0, g2, g7, hib, hi1']
        refine Less_spec ?_
        simp (disch := omega) only [RA, ↓reduceIte, Nat.reduceEqDiff, RD]
        refine hKr _ _ ?_
        clear hKr Kr
        try simp only [blkQ, thenQ, loopQ]
        try simp only [RN, reduceIte]
        try refine T_e rfl ?_
        refine T_csplit (p := ¬ el p i < el p (i - 1)) (by simp only [RA, ↓reduceIte, Nat.reduceEqDiff] <;> rfl) (by (try simp only [RB]) <;> first | done | exact Iff.rfl | omega | simp) (fun hc => ?_) (fun hc => ?_) <;> (try simp only [RN, reduceIte]) <;> (try refine T_e rfl ?_)
        · first | refine T_bfree rfl ?_ | refine T_bfree' rfl ?_
          try simp only [RN, reduceIte]
          try refine T_e rfl ?_
          refine T_reg_k fun Kr hKr => ?_
          simp (disch := omega) only [RA, ↓reduceIte, Nat.reduceEqDiff, RD, g7, hi2']
          refine hKr _ _ ?_
          clear hKr Kr
          refine hN2 (b - (i + 1)) _ _ _ _ (by omega) Gh.refl ⟨i + 1, by omega, by omega, fun x y h1 h2 h3 => ?_, rfl, ?_, ?_, ?_, ?_, rfl⟩
          any_goals (simp (disch := omega) only [RA, ↓reduceIte, Nat.reduceEqDiff, RD, RE, *] <;> rfl)
          rcases Nat.lt_or_ge y i with h | h
          · exact hs x y h1 h2 h
          · obtain rfl : y = i := by omega
            rcases Nat.lt_or_ge x y with h' | h'
            · exact Int.le_trans (hs x (y - 1) h1 (by omega) (by omega)) (by omega)
            · obtain rfl : x = y := by omega
              exact Int.le_refl _
        · refine hX2 _ _ ⟨i, by omega, by omega, hs, ?_, ?_, ?_, ?_, rfl⟩
          any_goals (simp (disch := omega) only [RA, ↓reduceIte, Nat.reduceEqDiff, RD, RE, *] <;> rfl)
      · refine T_rseq fun Kr hKr => ?_
        simp (disch := omega) only [RA, ↓reduceIte, Nat.reduceEqDiff, RD, g2, g7, hib]
        refine hKr _ _ ?_
        clear hKr Kr
        try simp only [RN, reduceIte]
        try refine T_e rfl ?_
        refine T_cseq (t := false) (by simp (disch := omega) only [RA, ↓reduceIte, Nat.reduceEqDiff, RD]) ?_
        try simp only [RN, reduceIte]
        try refine T_e rfl ?_
        refine hX2 _ _ ⟨i, by omega, by omega, hs, ?_, ?_, ?_, ?_, rfl⟩
        any_goals (simp (disch := omega) only [RA, ↓reduceIte, Nat.reduceEqDiff, RD, RE, *] <;> rfl)
    · clear g0 g1 g2 g7 g8
      rintro f H' ⟨i, hi1, hi2, hs, g0, g1, g2, g7, rfl⟩
      try simp only [RN, reduceIte]
      try refine T_e rfl ?_
      refine T_rseq fun Kr hKr => ?_
      simp (disch := omega) only [RA, ↓reduceIte, Nat.reduceEqDiff, RD, g2, g7]
      refine hKr _ _ ?_
      clear hKr Kr
      try simp only [RN, reduceIte]
      try refine T_e rfl ?_
      refine T_csplit (p := i = b) (by simp only [RA, ↓reduceIte, Nat.reduceEqDiff] <;> rfl) (by (try simp only [RB]) <;> first | done | exact Iff.rfl | omega | simp) (fun hc => ?_) (fun hc => ?_) <;> (try simp only [RN, reduceIte]) <;> (try refine T_e rfl ?_)
      · refine T_rseq fun Kr hKr => ?_
        simp (disch := omega) only [RA, ↓reduceIte, Nat.reduceEqDiff, RD]
        refine hKr _ _ ?_
        clear hKr Kr
        try simp only [RN, reduceIte]
        try refine T_e rfl ?_
        refine hR _ _ ?_
        refine bodyQ_ret (by simp (disch := omega) only [RA, ↓reduceIte, Nat.reduceEqDiff, RD, resAll, resOf]; rfl) GhV.refl ?_
        simp only [tup]
        subst hc
        exact hK true fun _ => hs
      · refine T_rseq fun Kr hKr => ?_
        simp (disch := omega) only [RA, ↓reduceIte, Nat.reduceEqDiff, RD, g1, g2, hl1]
        refine hKr _ _ ?_
        clear hKr Kr
        try simp only [RN, reduceIte]
        try refine T_e rfl ?_
        refine T_cseq (t := true) (by simp (disch := omega) only [RA, ↓reduceIte, Nat.reduceEqDiff, RD]) ?_
        try simp only [RN, reduceIte]
        try refine T_e rfl ?_
        refine T_rseq fun Kr hKr => ?_
        simp (disch := omega) only [RA, ↓reduceIte, Nat.reduceEqDiff, RD]
        refine hKr _ _ ?_
        clear hKr Kr
        try simp only [RN, reduceIte]
        try refine T_e rfl ?_
        refine hR _ _ ?_
        refine bodyQ_ret (by simp (disch := omega) only [RA, ↓reduceIte, Nat.reduceEqDiff, RD, resAll, resOf]; rfl) GhV.refl ?_
        simp only [tup]
        exact hK false fun h => by cases h
end Go.Bm
