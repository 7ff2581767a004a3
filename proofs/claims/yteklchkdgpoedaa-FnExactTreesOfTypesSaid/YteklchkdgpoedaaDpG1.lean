/- DpN, DpO, DpP, Dp7a, DpQ, DpS, DpCa -/
import Derived.Test.YteklchkdgpoedaaDpG0
/- Sorting: reversing, the choice of a pivot, the test for order. -/
set_option linter.unusedVariables false
set_option linter.unusedSimpArgs false
namespace Go.Bm
open Go Go.Am

theorem reverseRange_spec {p : List Int} {a b : Nat} {K : Value → BH → Prop} (hpl : p.length ≤ 1000) (hb : b ≤ p.length) (hab : a < b) (hK : ∀ q, Sg a b p q → K (.tuple ⟨[]⟩) [some (q.map I)]) :
    CallX false F_slices_reverseRangeOrdered_int64 [S 0 0 p.length 1, I a, I b] [some (p.map I)] K := by
  have hb1 : (b : Int) - 1 = ((b - 1 : Nat) : Int) := by omega
  refine CallX_body Γ_slices_reverseRangeOrdered_int64 ?_; simp only [A_slices_reverseRangeOrdered_int64, T_aiff]
  refine T_rseq fun Kr hKr => ?_; simp (disch := omega) only [RA, ↓reduceIte, Nat.reduceEqDiff, RD]; refine hKr _ _ ?_; clear hKr Kr; (try simp only [RN, reduceIte]); try refine T_e rfl ?_
  refine T_rseq fun Kr hKr => ?_; simp (disch := omega) only [RA, ↓reduceIte, Nat.reduceEqDiff, RD, hb1]; refine hKr _ _ ?_; clear hKr Kr; (try simp only [RN, reduceIte]); try refine T_e rfl ?_
  refine T_tail ?_
  refine T_wloop (fun m f H' => ∃ (q : List Int) (i j : Nat), Sg a b p q ∧ a ≤ i ∧ i ≤ j + 1 ∧ j < b ∧ m = j + 1 - i ∧ f 0 = S 0 0 p.length 1 ∧ f 6 = I i ∧ f 7 = I j ∧ H' = [some (q.map I)]) (b - 1 + 1 - a) ?_ ?_
  · refine ⟨_, _, Gh.refl, p, a, b - 1, .refl, by omega, by omega, by omega, rfl, ?_, ?_, ?_, rfl⟩
    any_goals (simp (disch := omega) only [RA, ↓reduceIte, Nat.reduceEqDiff, RD, RE, *] <;> rfl)
  · rintro m f H' R ⟨q, i, j, hq, h1, h2, h3, rfl, g0, g6, g7, rfl⟩ hN hX hR hE
    simp only [A_slices_reverseRangeOrdered_int64.l0, T_aiff]
    have hql := hq.len
    refine T_rseq fun Kr hKr => ?_; simp (disch := omega) only [RA, ↓reduceIte, Nat.reduceEqDiff, RD, g6, g7]; refine hKr _ _ ?_; clear hKr Kr; (try simp only [RN, reduceIte]); try refine T_e rfl ?_
    refine T_csplit (p := i < j) (by simp only [RA, ↓reduceIte, Nat.reduceEqDiff] <;> rfl) (by (try simp only [RB]) <;> first | done | exact Iff.rfl | omega | simp) (fun hc => ?_) (fun hc => ?_) <;> (try simp only [RN, reduceIte]) <;> (try refine T_e rfl ?_)
    · have hqs : (q.set i (el q j)).length = p.length := by simp [hql]
      have hj1 : (j : Int) - 1 = ((j - 1 : Nat) : Int) := by omega
      have hi1 : (i : Int) + 1 = ((i + 1 : Nat) : Int) := by omega
      have hsw : (q.set i (el q j)).set j (el q i) = swp q i j := rfl
      (first | refine T_bfree rfl ?_ | refine T_bfree' rfl ?_); (try simp only [RN, reduceIte]); try refine T_e rfl ?_
      refine T_rseq fun Kr hKr => ?_; simp (disch := omega) only [RA, ↓reduceIte, Nat.reduceEqDiff, RD, g0, g6, g7, hql, hqs]; refine hKr _ _ ?_; clear hKr Kr; (try simp only [RN, reduceIte]); try refine T_e rfl ?_
      rw [hsw]
      refine T_rseq fun Kr hKr => ?_; simp (disch := omega) only [RA, ↓reduceIte, Nat.reduceEqDiff, RD, g6, hi1]; refine hKr _ _ ?_; clear hKr Kr; (try simp only [RN, reduceIte]); try refine T_e rfl ?_
      refine T_reg_k fun Kr hKr => ?_; simp (disch := omega) only [RA, ↓reduceIte, Nat.reduceEqDiff, RD, g7, hj1]; refine hKr _ _ ?_; clear hKr Kr
      refine hN (j - 1 + 1 - (i + 1)) _ _ _ _ (by omega) Gh.refl ⟨swp q i j, i + 1, j - 1, hq.trans (.swp (by omega) (by omega) (by omega) (by omega) (by omega)), by omega, by omega, by omega, rfl, ?_, ?_, ?_, rfl⟩
      any_goals (simp (disch := omega) only [RA, ↓reduceIte, Nat.reduceEqDiff, RD, RE, *] <;> rfl)
    · refine hX _ _ ?_
      refine T_skip ?_
      refine bodyQ_ret (by simp (disch := omega) only [RA, ↓reduceIte, Nat.reduceEqDiff, RD, resAll, resOf]; rfl) GhV.refl ?_; simp only [tup]
      exact hK q hq
/-- The first and the last i in the other order. -/
theorem Reverse_spec {p : List Int} {K : Value → BH → Prop} (hpl : p.length ≤ 1000) (hK : K (.tuple ⟨[]⟩) [some (p.reverse.map I)]) :
    CallX false F_slices_Reverse_int64_int64 [S 0 0 p.length 1] [some (p.map I)] K := by
  refine CallX_body Γ_slices_Reverse_int64_int64 ?_; simp only [A_slices_Reverse_int64_int64, T_aiff]
  refine T_rseq fun Kr hKr => ?_; simp (disch := omega) only [RA, ↓reduceIte, Nat.reduceEqDiff, RD]; refine hKr _ _ ?_; clear hKr Kr; (try simp only [RN, reduceIte]); try refine T_e rfl ?_
  refine T_tail ?_
  refine T_wloop (fun m f H' => ∃ (q : List Int) (i : Nat) (j : Int), q.length = p.length ∧ j = (p.length : Int) - 1 - i ∧ 2 * (i : Int) ≤ p.length + 1 ∧ (∀ x, x < p.length → el q x = if x < i ∨ p.length ≤ x + i then el p (p.length - 1 - x) else el p x) ∧ m = p.length - i ∧ f 0 = S 0 0 p.length 1 ∧ f 2 = I i ∧ f 3 = I j ∧ H' = [some (q.map I)]) (p.length) ?_ ?_
  · refine ⟨_, _, Gh.refl, p, 0, (p.length : Int) - 1, rfl, by omega, by omega, fun x hx => ?_, rfl, ?_, ?_, ?_, rfl⟩
    any_goals (simp (disch := omega) only [RA, ↓reduceIte, Nat.reduceEqDiff, RD, RE, *] <;> rfl)
    rw [if_neg (by omega)]
  · rintro m f H' R ⟨q, i, j, hql, hj, h2, hq, rfl, g0, g2, g3, rfl⟩ hN hX hR hE
    simp only [A_slices_Reverse_int64_int64.l0, T_aiff]
    refine T_rseq fun Kr hKr => ?_; simp (disch := omega) only [RA, ↓reduceIte, Nat.reduceEqDiff, RD, g2, g3]; refine hKr _ _ ?_; clear hKr Kr; (try simp only [RN, reduceIte]); try refine T_e rfl ?_
    refine T_csplit (p := (i : Int) < j) (by simp only [RA, ↓reduceIte, Nat.reduceEqDiff] <;> rfl) (by (try simp only [RB]) <;> first | done | exact Iff.rfl | omega | simp) (fun hc => ?_) (fun hc => ?_) <;> (try simp only [RN, reduceIte]) <;> (try refine T_e rfl ?_)
    · obtain ⟨k, rfl⟩ : ∃ k : Nat, j = k := ⟨j.toNat, by omega⟩
      have hqs : (q.set i (el q k)).length = p.length := by simp [hql]
      have hsw : (q.set i (el q k)).set k (el q i) = swp q i k := rfl
      (first | refine T_bfree rfl ?_ | refine T_bfree' rfl ?_); (try simp only [RN, reduceIte]); try refine T_e rfl ?_
      refine T_rseq fun Kr hKr => ?_; simp (disch := omega) only [RA, ↓reduceIte, Nat.reduceEqDiff, RD, g0, g2, g3, hql, hqs]; refine hKr _ _ ?_; clear hKr Kr; (try simp only [RN, reduceIte]); try refine T_e rfl ?_
      rw [hsw]
      refine T_reg_k fun Kr hKr => ?_; simp (disch := omega) only [RA, ↓reduceIte, Nat.reduceEqDiff, RD, g2, g3]; refine hKr _ _ ?_; clear hKr Kr
      refine hN (p.length - (i + 1)) _ _ _ _ (by omega) Gh.refl ⟨swp q i k, i + 1, (k : Int) - 1, by rw [swp_len, hql], by omega, by omega, fun x hx => ?_, rfl, ?_, ?_, ?_, rfl⟩
      any_goals (simp (disch := omega) only [RA, ↓reduceIte, Nat.reduceEqDiff, RD, RE, *] <;> rfl)
      rw [swp_el (by omega) (by omega)]
      split
      · rw [hq i (by omega), if_neg (by omega), if_pos (by omega)]
        congr 1
        omega
      · split
        · rw [hq k (by omega), if_neg (by omega), if_pos (by omega)]
          congr 1
          omega
        · rw [hq x hx]
          by_cases hc2 : x < i ∨ p.length ≤ x + i
          · rw [if_pos hc2, if_pos (by omega)]
          · rw [if_neg hc2, if_neg (by omega)]
    · refine hX _ _ ?_
      refine T_skip ?_
      refine bodyQ_ret (by simp (disch := omega) only [RA, ↓reduceIte, Nat.reduceEqDiff, RD, resAll, resOf]; rfl) GhV.refl ?_; simp only [tup]
      have : q = p.reverse := el_ext (by simp [hql]) fun x hx => by
        have e : el p.reverse x = el p (p.length - 1 - x) := by
          simp only [el, List.getD]
          rw [List.getElem?_reverse (by omega)]
        rw [e, hq x (by omega)]
        split
        · rfl
        · congr 1
          omega
      rw [this]
      exact hK
theorem getN_c {v : Value} : getN none [v] 0 = some v := rfl
theorem st_c {H : BH} {b : Nat} {v : Value} {k : IntKind} {n : Int} : stO (some [v]) H b 0 1 (.int k n) = some (undef, H.set b (some [.int k n])) := rfl
theorem order2_spec {p : List Int} {a b : Nat} {s : Nat} {K : Value → BH → Prop} (hpl : p.length ≤ 1000) (ha : a < p.length) (hb : b < p.length) (hs : s ≤ 1000)
    (hK : ∀ (x y s' : Nat), (x = a ∧ y = b) ∨ (x = b ∧ y = a) → s' ≤ s + 1 → K (.tuple ⟨[I x, I y]⟩) [some (p.map I), some [I s']]) :
    CallX false F_slices_order2Ordered_int64 [S 0 0 p.length 1, I a, I b, P 1 0] [some (p.map I), some [I s]] K := by
  have hs1 : (s : Int) + 1 = ((s + 1 : Nat) : Int) := by omega
  refine CallX_body Γ_slices_order2Ordered_int64 ?_; simp only [A_slices_order2Ordered_int64, T_aiff]
  refine T_rseq fun Kr hKr => ?_; simp (disch := omega) only [RA, ↓reduceIte, Nat.reduceEqDiff, RD]; refine hKr _ _ ?_; clear hKr Kr; (try simp only [RN, reduceIte]); try refine T_e rfl ?_
  refine T_rseq fun Kr hKr => ?_; simp (disch := omega) only [RA, ↓reduceIte, Nat.reduceEqDiff, RD]
  refine Less_spec ?_
  simp (disch := omega) only [RA, ↓reduceIte, Nat.reduceEqDiff, RD]
  refine hKr _ _ ?_; clear hKr Kr; (try simp only [blkQ, thenQ, loopQ]); (try simp only [RN, reduceIte]); try refine T_e rfl ?_
  refine T_csplit (p := el p b < el p a) (by simp only [RA, ↓reduceIte, Nat.reduceEqDiff] <;> rfl) (by (try simp only [RB]) <;> first | done | exact Iff.rfl | omega | simp) (fun hc => ?_) (fun hc => ?_) <;> (try simp only [RN, reduceIte]) <;> (try refine T_e rfl ?_)
  · refine T_rseq fun Kr hKr => ?_; simp (disch := omega) only [RA, ↓reduceIte, Nat.reduceEqDiff, RD, getN_c, st_c, hs1]; refine hKr _ _ ?_; clear hKr Kr; (try simp only [RN, reduceIte]); try refine T_e rfl ?_
    refine T_rseq fun Kr hKr => ?_; simp (disch := omega) only [RA, ↓reduceIte, Nat.reduceEqDiff, RD]; refine hKr _ _ ?_; clear hKr Kr; (try simp only [RN, reduceIte]); try refine T_e rfl ?_
    refine bodyQ_ret (by simp (disch := omega) only [RA, ↓reduceIte, Nat.reduceEqDiff, RD, resAll, resOf]; rfl) GhV.refl ?_; simp only [tup]
    exact hK b a (s + 1) (.inr ⟨rfl, rfl⟩) (by omega)
  · refine T_rseq fun Kr hKr => ?_; simp (disch := omega) only [RA, ↓reduceIte, Nat.reduceEqDiff, RD]; refine hKr _ _ ?_; clear hKr Kr; (try simp only [RN, reduceIte]); try refine T_e rfl ?_
    refine bodyQ_ret (by simp (disch := omega) only [RA, ↓reduceIte, Nat.reduceEqDiff, RD, resAll, resOf]; rfl) GhV.refl ?_; simp only [tup]
    exact hK a b s (.inl ⟨rfl, rfl⟩) (by omega)
theorem median_spec {p : List Int} {a b c : Nat} {s : Nat} {K : Value → BH → Prop} (hpl : p.length ≤ 1000) (ha : a < p.length) (hb : b < p.length) (hc : c < p.length) (hs : s ≤ 900)
    (hK : ∀ (x s' : Nat), x = a ∨ x = b ∨ x = c → s' ≤ s + 3 → K (I x) [some (p.map I), some [I s']]) :
    CallX false F_slices_medianOrdered_int64 [S 0 0 p.length 1, I a, I b, I c, P 1 0] [some (p.map I), some [I s]] K := by
  refine CallX_body Γ_slices_medianOrdered_int64 ?_; simp only [A_slices_medianOrdered_int64, T_aiff]
  refine T_rseq fun Kr hKr => ?_; simp (disch := omega) only [RA, ↓reduceIte, Nat.reduceEqDiff, RD]; refine hKr _ _ ?_; clear hKr Kr; (try simp only [RN, reduceIte]); try refine T_e rfl ?_
  refine T_rseq fun Kr hKr => ?_; simp (disch := omega) only [RA, ↓reduceIte, Nat.reduceEqDiff, RD]
  refine order2_spec hpl ha hb (by omega) ?_
  intro a1 b1 s1 h1 hs1
  have ha1 : a1 < p.length := by omega
  have hb1 : b1 < p.length := by omega
  simp (disch := omega) only [RA, ↓reduceIte, Nat.reduceEqDiff, RD]
  refine hKr _ _ ?_; clear hKr Kr; (try simp only [blkQ, thenQ, loopQ]); (try simp only [RN, reduceIte]); try refine T_e rfl ?_
  refine T_rseq fun Kr hKr => ?_; simp (disch := omega) only [RA, ↓reduceIte, Nat.reduceEqDiff, RD]
  refine order2_spec hpl hb1 hc (by omega) ?_
  intro b2 c2 s2 h2 hs2
  have hb2 : b2 < p.length := by omega
  simp (disch := omega) only [RA, ↓reduceIte, Nat.reduceEqDiff, RD]
  refine hKr _ _ ?_; clear hKr Kr; (try simp only [blkQ, thenQ, loopQ]); (try simp only [RN, reduceIte]); try refine T_e rfl ?_
  refine T_rseq fun Kr hKr => ?_; simp (disch := omega) only [RA, ↓reduceIte, Nat.reduceEqDiff, RD]
  refine order2_spec hpl ha1 hb2 (by omega) ?_
  intro a3 b3 s3 h3 hs3
  simp (disch := omega) only [RA, ↓reduceIte, Nat.reduceEqDiff, RD]
  refine hKr _ _ ?_; clear hKr Kr; (try simp only [blkQ, thenQ, loopQ]); (try simp only [RN, reduceIte]); try refine T_e rfl ?_
  refine T_rseq fun Kr hKr => ?_; simp (disch := omega) only [RA, ↓reduceIte, Nat.reduceEqDiff, RD]; refine hKr _ _ ?_; clear hKr Kr; (try simp only [RN, reduceIte]); try refine T_e rfl ?_
  refine bodyQ_ret (by simp (disch := omega) only [RA, ↓reduceIte, Nat.reduceEqDiff, RD, resAll, resOf]; rfl) GhV.refl ?_; simp only [tup]
  exact hK b3 s3 (by omega) (by omega)
theorem choosePivot_spec {p : List Int} {a b : Nat} {K : Value → BH → Prop} (hpl : p.length ≤ 1000) (hb : b ≤ p.length) (h8 : a + 8 ≤ b) (h50 : b < a + 50)
    (hK : ∀ (x : Nat) (h : Int), a ≤ x → x < b → K (.tuple ⟨[I x, I h]⟩) [some (p.map I)]) :
    CallX false F_slices_choosePivotOrdered_int64 [S 0 0 p.length 1, I a, I b] [some (p.map I)] K := by
  obtain ⟨l, hl⟩ : ∃ l, l = b - a := ⟨_, rfl⟩
  have hbl : (b : Int) - (a : Int) = (l : Int) := by omega
  have hd : (l : Int).tdiv 4 = ((l / 4 : Nat) : Int) := (Int.ofNat_tdiv l 4).symm
  obtain ⟨q, hq⟩ : ∃ q, q = l / 4 := ⟨_, rfl⟩
  rw [← hq] at hd
  have e1 : (a : Int) + (q : Int) * 1 = ((a + q : Nat) : Int) := by omega
  have e2 : (a : Int) + (q : Int) * 2 = ((a + q * 2 : Nat) : Int) := by omega
  have e3 : (a : Int) + (q : Int) * 3 = ((a + q * 3 : Nat) : Int) := by omega
  have e4 : (q : Int) * 1 = q := by omega
  have e5 : (a : Int) + (q : Int) = ((a + q : Nat) : Int) := by omega
  refine CallX_body Γ_slices_choosePivotOrdered_int64 ?_; simp only [A_slices_choosePivotOrdered_int64, T_aiff]
  refine T_rseq fun Kr hKr => ?_; simp (disch := omega) only [RA, ↓reduceIte, Nat.reduceEqDiff, RD]; refine hKr _ _ ?_; clear hKr Kr; (try simp only [RN, reduceIte]); try refine T_e rfl ?_
  refine T_rseq fun Kr hKr => ?_; simp (disch := omega) only [RA, ↓reduceIte, Nat.reduceEqDiff, RD, hbl]; refine hKr _ _ ?_; clear hKr Kr; (try simp only [RN, reduceIte]); try refine T_e rfl ?_
  refine T_rseq fun Kr hKr => ?_; simp (disch := omega) only [RA, ↓reduceIte, Nat.reduceEqDiff, RD]; refine hKr _ _ ?_; clear hKr Kr; (try simp only [RN, reduceIte]); try refine T_e rfl ?_
  refine T_rseq fun Kr hKr => ?_; simp (disch := omega) only [RA, ↓reduceIte, Nat.reduceEqDiff, Int.reduceEq, RD, hd, e1, e4, e5]; refine hKr _ _ ?_; clear hKr Kr; (try simp only [RN, reduceIte]); try refine T_e rfl ?_
  refine T_rseq fun Kr hKr => ?_; simp (disch := omega) only [RA, ↓reduceIte, Nat.reduceEqDiff, Int.reduceEq, RD, hd, e2]; refine hKr _ _ ?_; clear hKr Kr; (try simp only [RN, reduceIte]); try refine T_e rfl ?_
  refine T_rseq fun Kr hKr => ?_; simp (disch := omega) only [RA, ↓reduceIte, Nat.reduceEqDiff, Int.reduceEq, RD, hd, e3]; refine hKr _ _ ?_; clear hKr Kr; (try simp only [RN, reduceIte]); try refine T_e rfl ?_
  refine T_rseq fun Kr hKr => ?_; simp (disch := omega) only [RA, ↓reduceIte, Nat.reduceEqDiff, RD]; refine hKr _ _ ?_; clear hKr Kr; (try simp only [RN, reduceIte]); try refine T_e rfl ?_
  refine T_cseq (t := true) (by simp (disch := omega) only [RA, ↓reduceIte, Nat.reduceEqDiff, RD]) ?_; (try simp only [RN, reduceIte]); try refine T_e rfl ?_
  refine T_rseq fun Kr hKr => ?_; simp (disch := omega) only [RA, ↓reduceIte, Nat.reduceEqDiff, RD]; refine hKr _ _ ?_; clear hKr Kr; (try simp only [RN, reduceIte]); try refine T_e rfl ?_
  refine T_cseq (t := false) (by simp (disch := omega) only [RA, ↓reduceIte, Nat.reduceEqDiff, RD]) ?_; (try simp only [RN, reduceIte]); try refine T_e rfl ?_
  refine T_rseq fun Kr hKr => ?_; simp (disch := omega) only [RA, ↓reduceIte, Nat.reduceEqDiff, RD]
  refine median_spec (s := 0) hpl (by omega) (by omega) (by omega) (by omega) ?_
  intro x s' hx hs'
  simp (disch := omega) only [RA, ↓reduceIte, Nat.reduceEqDiff, RD]
  refine hKr _ _ ?_; clear hKr Kr; (try simp only [blkQ, thenQ, loopQ]); (try simp only [RN, reduceIte]); try refine T_e rfl ?_
  refine T_rseq fun Kr hKr => ?_; simp (disch := omega) only [RA, ↓reduceIte, Nat.reduceEqDiff, RD, getN_c]; refine hKr _ _ ?_; clear hKr Kr; (try simp only [RN, reduceIte]); try refine T_e rfl ?_
  (first | refine T_bfree rfl ?_ | refine T_bfree' rfl ?_); (try simp only [RN, reduceIte]); try refine T_e rfl ?_
  refine T_rseq fun Kr hKr => ?_; simp (disch := omega) only [RA, ↓reduceIte, Nat.reduceEqDiff, RD]; refine hKr _ _ ?_; clear hKr Kr; (try simp only [RN, reduceIte]); try refine T_e rfl ?_
  refine T_csplit1 (p := s' = 0) (by simp only [RA, ↓reduceIte, Nat.reduceEqDiff] <;> rfl) (by (try simp only [RB]) <;> first | done | exact Iff.rfl | omega | simp) (fun hc => ?_) (fun hc => ?_) <;> (try simp only [RN, reduceIte]) <;> (try refine T_e rfl ?_)
  · refine T_rseq fun Kr hKr => ?_; simp (disch := omega) only [RA, ↓reduceIte, Nat.reduceEqDiff, RD]; refine hKr _ _ ?_; clear hKr Kr; (try simp only [RN, reduceIte]); try refine T_e rfl ?_
    refine bodyQ_ret (by simp (disch := omega) only [RA, ↓reduceIte, Nat.reduceEqDiff, RD, resAll, resOf]; rfl) (GhV.nrm [0] rfl rfl (by simp only [RH]) (by simp only [tup, RH])) ?_; simp only [tup]
    exact hK x 1 (by omega) (by omega)
  · refine T_rseq fun Kr hKr => ?_; simp (disch := omega) only [RA, ↓reduceIte, Nat.reduceEqDiff, RD]; refine hKr _ _ ?_; clear hKr Kr; (try simp only [RN, reduceIte]); try refine T_e rfl ?_
    refine T_cond (t := false) (by simp (disch := omega) only [RA, ↓reduceIte, Nat.reduceEqDiff, RD]) ?_; (try simp only [RN, reduceIte]); try refine T_e rfl ?_
    refine T_rseq fun Kr hKr => ?_; simp (disch := omega) only [RA, ↓reduceIte, Nat.reduceEqDiff, RD]; refine hKr _ _ ?_; clear hKr Kr; (try simp only [RN, reduceIte]); try refine T_e rfl ?_
    refine bodyQ_ret (by simp (disch := omega) only [RA, ↓reduceIte, Nat.reduceEqDiff, RD, resAll, resOf]; rfl) (GhV.nrm [0] rfl rfl (by simp only [RH]) (by simp only [tup, RH])) ?_; simp only [tup]
    exact hK x 0 (by omega) (by omega)
/-- Of short lists only whether they are in order. -/
theorem partialInsertionSort_spec {p : List Int} {a b : Nat} {K : Value → BH → Prop} (hpl : p.length ≤ 1000) (hb : b ≤ p.length) (hab : a < b) (h50 : b < a + 50) (hK : ∀ r, (r = true → Srt a b p) → K (.bool r) [some (p.map I)]) :
    CallX false F_slices_partialInsertionSortOrdered_int64 [S 0 0 p.length 1, I a, I b] [some (p.map I)] K := by
  have ha1 : (a : Int) + 1 = ((a + 1 : Nat) : Int) := by omega
  have hl1 : (b : Int) - (a : Int) = ((b - a : Nat) : Int) := by omega
  refine CallX_body Γ_slices_partialInsertionSortOrdered_int64 ?_; simp only [A_slices_partialInsertionSortOrdered_int64, T_aiff]
  refine T_rseq fun Kr hKr => ?_; simp (disch := omega) only [RA, ↓reduceIte, Nat.reduceEqDiff, RD]; refine hKr _ _ ?_; clear hKr Kr; (try simp only [RN, reduceIte]); try refine T_e rfl ?_
  refine T_rseq fun Kr hKr => ?_; simp (disch := omega) only [RA, ↓reduceIte, Nat.reduceEqDiff, RD, ha1]; refine hKr _ _ ?_; clear hKr Kr; (try simp only [RN, reduceIte]); try refine T_e rfl ?_
  refine T_rseq fun Kr hKr => ?_; simp (disch := omega) only [RA, ↓reduceIte, Nat.reduceEqDiff, RD]; refine hKr _ _ ?_; clear hKr Kr; (try simp only [RN, reduceIte]); try refine T_e rfl ?_
  refine T_wloop (fun m f H' => m = 1 ∧ f 0 = S 0 0 p.length 1 ∧ f 1 = I a ∧ f 2 = I b ∧ f 7 = I (a + 1 : Nat) ∧ f 8 = I 0 ∧ H' = [some (p.map I)]) (1) ?_ ?_
  · refine ⟨_, _, Gh.refl, rfl, ?_, ?_, ?_, ?_, ?_, rfl⟩
    any_goals (simp (disch := omega) only [RA, ↓reduceIte, Nat.reduceEqDiff, RD, RE, *] <;> rfl)
  · rintro m f H' R ⟨rfl, g0, g1, g2, g7, g8, rfl⟩ hN hX hR hE
    simp only [A_slices_partialInsertionSortOrdered_int64.l3, T_aiff]
    refine T_rseq fun Kr hKr => ?_; simp (disch := omega) only [RA, ↓reduceIte, Nat.reduceEqDiff, RD, g8]; refine hKr _ _ ?_; clear hKr Kr; (try simp only [RN, reduceIte]); try refine T_e rfl ?_
    refine T_cseq (t := true) (by simp (disch := omega) only [RA, ↓reduceIte, Nat.reduceEqDiff, RD]) ?_; (try simp only [RN, reduceIte]); try refine T_e rfl ?_
    (first | refine T_bfree rfl ?_ | refine T_bfree' rfl ?_); (try simp only [RN, reduceIte]); try refine T_e rfl ?_
    refine T_scan (fun m f H' => ∃ i : Nat, a + 1 ≤ i ∧ i ≤ b ∧ Srt a i p ∧ m = b - i ∧ f 0 = S 0 0 p.length 1 ∧ f 1 = I a ∧ f 2 = I b ∧ f 7 = I i ∧ H' = [some (p.map I)]) (fun f H' => ∃ i : Nat, a + 1 ≤ i ∧ i ≤ b ∧ Srt a i p ∧ f 0 = S 0 0 p.length 1 ∧ f 1 = I a ∧ f 2 = I b ∧ f 7 = I i ∧ H' = [some (p.map I)]) (b - (a + 1)) ?_ ?_ ?_
    · refine ⟨_, _, Gh.refl, a + 1, by omega, by omega, .one, rfl, ?_, ?_, ?_, ?_, rfl⟩
      any_goals (simp (disch := omega) only [RA, ↓reduceIte, Nat.reduceEqDiff, RD, RE, *] <;> rfl)
    · clear g0 g1 g2 g7 g8
      rintro m f H' R2 ⟨i, hi1, hi2, hs, rfl, g0, g1, g2, g7, rfl⟩ hN2 hX2 hR2
      simp only [A_slices_partialInsertionSortOrdered_int64.l0, T_aiff]
      by_cases hib : i < b
      · have hi1' : (i : Int) - 1 = ((i - 1 : Nat) : Int) := by omega
        have hi2' : (i : Int) + 1 = ((i + 1 : Nat) : Int) := by omega
        refine T_rseq fun Kr hKr => ?_; simp (disch := omega) only [RA, ↓reduceIte, Nat.reduceEqDiff, RD, g0, g2, g7, hib, hi1']
        refine Less_spec ?_
        simp (disch := omega) only [RA, ↓reduceIte, Nat.reduceEqDiff, RD]
        refine hKr _ _ ?_; clear hKr Kr; (try simp only [blkQ, thenQ, loopQ]); (try simp only [RN, reduceIte]); try refine T_e rfl ?_
        refine T_csplit (p := ¬ el p i < el p (i - 1)) (by simp only [RA, ↓reduceIte, Nat.reduceEqDiff] <;> rfl) (by (try simp only [RB]) <;> first | done | exact Iff.rfl | omega | simp) (fun hc => ?_) (fun hc => ?_) <;> (try simp only [RN, reduceIte]) <;> (try refine T_e rfl ?_)
        · (first | refine T_bfree rfl ?_ | refine T_bfree' rfl ?_); (try simp only [RN, reduceIte]); try refine T_e rfl ?_
          refine T_reg_k fun Kr hKr => ?_; simp (disch := omega) only [RA, ↓reduceIte, Nat.reduceEqDiff, RD, g7, hi2']; refine hKr _ _ ?_; clear hKr Kr
          refine hN2 (b - (i + 1)) _ _ _ _ (by omega) Gh.refl ⟨i + 1, by omega, by omega, fun x y h1 h2 h3 => ?_, rfl, ?_, ?_, ?_, ?_, rfl⟩
          any_goals (simp (disch := omega) only [RA, ↓reduceIte, Nat.reduceEqDiff, RD, RE, *] <;> rfl)
          rcases Nat.lt_or_ge y i with h | h
          · exact hs x y h1 h2 h
          · obtain rfl : y = i := by omega
            rcases Nat.lt_or_ge x y with h' | h'
            · exact Int.le_trans (hs x (y - 1) h1 (by omega) (by omega)) (by omega)
            · obtain rfl : x = y := by omega
              exact Int.le_refl _
        · refine hX2 _ _ ⟨i, by omega, by omega, hs, ?_, ?_, ?_, ?_, rfl⟩
          any_goals (simp (disch := omega) only [RA, ↓reduceIte, Nat.reduceEqDiff, RD, RE, *] <;> rfl)
      · refine T_rseq fun Kr hKr => ?_; simp (disch := omega) only [RA, ↓reduceIte, Nat.reduceEqDiff, RD, g2, g7, hib]; refine hKr _ _ ?_; clear hKr Kr; (try simp only [RN, reduceIte]); try refine T_e rfl ?_
        refine T_cseq (t := false) (by simp (disch := omega) only [RA, ↓reduceIte, Nat.reduceEqDiff, RD]) ?_; (try simp only [RN, reduceIte]); try refine T_e rfl ?_
        refine hX2 _ _ ⟨i, by omega, by omega, hs, ?_, ?_, ?_, ?_, rfl⟩
        any_goals (simp (disch := omega) only [RA, ↓reduceIte, Nat.reduceEqDiff, RD, RE, *] <;> rfl)
    · clear g0 g1 g2 g7 g8
      rintro f H' ⟨i, hi1, hi2, hs, g0, g1, g2, g7, rfl⟩
      (try simp only [RN, reduceIte]); try refine T_e rfl ?_
      refine T_rseq fun Kr hKr => ?_; simp (disch := omega) only [RA, ↓reduceIte, Nat.reduceEqDiff, RD, g2, g7]; refine hKr _ _ ?_; clear hKr Kr; (try simp only [RN, reduceIte]); try refine T_e rfl ?_
      refine T_csplit (p := i = b) (by simp only [RA, ↓reduceIte, Nat.reduceEqDiff] <;> rfl) (by (try simp only [RB]) <;> first | done | exact Iff.rfl | omega | simp) (fun hc => ?_) (fun hc => ?_) <;> (try simp only [RN, reduceIte]) <;> (try refine T_e rfl ?_)
      · refine T_rseq fun Kr hKr => ?_; simp (disch := omega) only [RA, ↓reduceIte, Nat.reduceEqDiff, RD]; refine hKr _ _ ?_; clear hKr Kr; (try simp only [RN, reduceIte]); try refine T_e rfl ?_
        refine hR _ _ ?_
        refine bodyQ_ret (by simp (disch := omega) only [RA, ↓reduceIte, Nat.reduceEqDiff, RD, resAll, resOf]; rfl) GhV.refl ?_; simp only [tup]
        subst hc
        exact hK true fun _ => hs
      · refine T_rseq fun Kr hKr => ?_; simp (disch := omega) only [RA, ↓reduceIte, Nat.reduceEqDiff, RD, g1, g2, hl1]; refine hKr _ _ ?_; clear hKr Kr; (try simp only [RN, reduceIte]); try refine T_e rfl ?_
        refine T_cseq (t := true) (by simp (disch := omega) only [RA, ↓reduceIte, Nat.reduceEqDiff, RD]) ?_; (try simp only [RN, reduceIte]); try refine T_e rfl ?_
        refine T_rseq fun Kr hKr => ?_; simp (disch := omega) only [RA, ↓reduceIte, Nat.reduceEqDiff, RD]; refine hKr _ _ ?_; clear hKr Kr; (try simp only [RN, reduceIte]); try refine T_e rfl ?_
        refine hR _ _ ?_
        refine bodyQ_ret (by simp (disch := omega) only [RA, ↓reduceIte, Nat.reduceEqDiff, RD, resAll, resOf]; rfl) GhV.refl ?_; simp only [tup]
        exact hK false fun h => by cases h
end Go.Bm

/- Sorting: lengths of numbers in bits, patterns broken. -/
set_option linter.unusedVariables false
set_option linter.unusedSimpArgs false
namespace Go.Bm
open Go Go.Am

set_option maxRecDepth 10000
def len8 : ByteArray := ⟨#[0, 1, 2, 2, 3, 3, 3, 3, 4, 4, 4, 4, 4, 4, 4, 4, 5, 5, 5, 5, 5, 5, 5, 5, 5, 5, 5, 5, 5, 5, 5, 5, 6, 6, 6, 6, 6, 6, 6, 6, 6, 6, 6, 6, 6, 6, 6, 6, 6, 6, 6, 6, 6, 6, 6, 6, 6, 6, 6, 6, 6, 6, 6, 6, 7, 7, 7, 7, 7, 7, 7, 7, 7, 7, 7, 7, 7, 7, 7, 7, 7, 7, 7, 7, 7, 7, 7, 7, 7, 7, 7, 7, 7, 7, 7, 7, 7, 7, 7, 7, 7, 7, 7, 7, 7, 7, 7, 7, 7, 7, 7, 7, 7, 7, 7, 7, 7, 7, 7, 7, 7, 7, 7, 7, 7, 7, 7, 7, 8, 8, 8, 8, 8, 8, 8, 8, 8, 8, 8, 8, 8, 8, 8, 8, 8, 8, 8, 8, 8, 8, 8, 8, 8, 8, 8, 8, 8, 8, 8, 8, 8, 8, 8, 8, 8, 8, 8, 8, 8, 8, 8, 8, 8, 8, 8, 8, 8, 8, 8, 8, 8, 8, 8, 8, 8, 8, 8, 8, 8, 8, 8, 8, 8, 8, 8, 8, 8, 8, 8, 8, 8, 8, 8, 8, 8, 8, 8, 8, 8, 8, 8, 8, 8, 8, 8, 8, 8, 8, 8, 8, 8, 8, 8, 8, 8, 8, 8, 8, 8, 8, 8, 8, 8, 8, 8, 8, 8, 8, 8, 8, 8, 8, 8, 8, 8, 8, 8, 8, 8, 8, 8, 8, 8, 8, 8, 8]⟩
def lenOf (x : Nat) : Nat := match len8[x]? with | some b => b.toNat | none => 0
theorem len8_is : (⟨#[0, 1, 2, 2, 3, 3, 3, 3, 4, 4, 4, 4, 4, 4, 4, 4, 5, 5, 5, 5, 5, 5, 5, 5, 5, 5, 5, 5, 5, 5, 5, 5, 6, 6, 6, 6, 6, 6, 6, 6, 6, 6, 6, 6, 6, 6, 6, 6, 6, 6, 6, 6, 6, 6, 6, 6, 6, 6, 6, 6, 6, 6, 6, 6, 7, 7, 7, 7, 7, 7, 7, 7, 7, 7, 7, 7, 7, 7, 7, 7, 7, 7, 7, 7, 7, 7, 7, 7, 7, 7, 7, 7, 7, 7, 7, 7, 7, 7, 7, 7, 7, 7, 7, 7, 7, 7, 7, 7, 7, 7, 7, 7, 7, 7, 7, 7, 7, 7, 7, 7, 7, 7, 7, 7, 7, 7, 7, 7, 8, 8, 8, 8, 8, 8, 8, 8, 8, 8, 8, 8, 8, 8, 8, 8, 8, 8, 8, 8, 8, 8, 8, 8, 8, 8, 8, 8, 8, 8, 8, 8, 8, 8, 8, 8, 8, 8, 8, 8, 8, 8, 8, 8, 8, 8, 8, 8, 8, 8, 8, 8, 8, 8, 8, 8, 8, 8, 8, 8, 8, 8, 8, 8, 8, 8, 8, 8, 8, 8, 8, 8, 8, 8, 8, 8, 8, 8, 8, 8, 8, 8, 8, 8, 8, 8, 8, 8, 8, 8, 8, 8, 8, 8, 8, 8, 8, 8, 8, 8, 8, 8, 8, 8, 8, 8, 8, 8, 8, 8, 8, 8, 8, 8, 8, 8, 8, 8, 8, 8, 8, 8, 8, 8, 8, 8, 8, 8]⟩ : ByteArray) = len8 := rfl
theorem len8_size : len8.size = 256 := by decide +kernel
theorem ixS_len8 {x : Nat} (h : x < 256) : ixS (.string len8) (.int .u8 (x : Int)) = some (.int .u8 (lenOf x : Int)) := by
  have hb : len8[x]? = some (len8[x]'(by rw [len8_size]; exact h)) := getElem?_pos len8 x (by rw [len8_size]; exact h)
  simp only [ixS, lenOf, Int.natCast_nonneg, if_true, Int.toNat_natCast, hb, Option.map_some]
theorem lenOf_lt {x : Nat} : lenOf x < 256 := by
  unfold lenOf
  split
  · exact UInt8.toNat_lt _
  · omega
theorem lenOf_small : ∀ x, x < 17 → x ≤ lenOf x + 12 ∧ (8 ≤ x → lenOf x = if x < 16 then 4 else 5) := by decide +kernel
theorem Len64_spec {x : Bool} {n : Nat} {H : BH} {K : Value → BH → Prop} (hn : n < 256) (hK : K (I (lenOf n)) H) : CallX x F_math_bits_Len64 [.int .u64 (n : Int)] H K := by
  have hl := @lenOf_lt n
  refine callP (by simp only [RH]) ?_
  refine CallX_body Γ_math_bits_Len64 ?_; simp only [A_math_bits_Len64, T_aiff]
  refine T_rseq fun Kr hKr => ?_; simp (disch := omega) only [RA, ↓reduceIte, Nat.reduceEqDiff, RD]; refine hKr _ _ ?_; clear hKr Kr; (try simp only [RN, reduceIte]); try refine T_e rfl ?_
  refine T_rseq fun Kr hKr => ?_; simp (disch := omega) only [RA, ↓reduceIte, Nat.reduceEqDiff, RD]; refine hKr _ _ ?_; clear hKr Kr; (try simp only [RN, reduceIte]); try refine T_e rfl ?_
  refine T_cseq (t := false) (by simp (disch := omega) only [RA, ↓reduceIte, Nat.reduceEqDiff, RD]) ?_; (try simp only [RN, reduceIte]); try refine T_e rfl ?_
  refine T_rseq fun Kr hKr => ?_; simp (disch := omega) only [RA, ↓reduceIte, Nat.reduceEqDiff, RD]; refine hKr _ _ ?_; clear hKr Kr; (try simp only [RN, reduceIte]); try refine T_e rfl ?_
  refine T_cseq (t := false) (by simp (disch := omega) only [RA, ↓reduceIte, Nat.reduceEqDiff, RD]) ?_; (try simp only [RN, reduceIte]); try refine T_e rfl ?_
  refine T_rseq fun Kr hKr => ?_; simp (disch := omega) only [RA, ↓reduceIte, Nat.reduceEqDiff, RD]; refine hKr _ _ ?_; clear hKr Kr; (try simp only [RN, reduceIte]); try refine T_e rfl ?_
  refine T_cseq (t := false) (by simp (disch := omega) only [RA, ↓reduceIte, Nat.reduceEqDiff, RD]) ?_; (try simp only [RN, reduceIte]); try refine T_e rfl ?_
  refine T_rseq fun Kr hKr => ?_; simp (disch := omega) only [RA, ↓reduceIte, Nat.reduceEqDiff, RD, len8_is, ixS_len8, Int.zero_add]
  refine hKr _ _ ?_; clear hKr Kr; (try simp only [blkQ, thenQ, loopQ]); (try simp only [RN, reduceIte]); try refine T_e rfl ?_
  refine bodyQ_ret (by simp (disch := omega) only [RA, ↓reduceIte, Nat.reduceEqDiff, RD, resAll, resOf]; rfl) GhV.refl ?_; simp only [tup]
  exact ⟨NN.int, hK⟩
theorem Len_spec {x : Bool} {n : Nat} {H : BH} {K : Value → BH → Prop} (hn : n < 256) (hK : K (I (lenOf n)) H) : CallX x F_math_bits_Len [.int .u64 (n : Int)] H K := by
  refine callP (by simp only [RH]) ?_
  refine CallX_body Γ_math_bits_Len ?_; simp only [A_math_bits_Len, T_aiff]
  refine T_rseq fun Kr hKr => ?_; simp (disch := omega) only [RA, ↓reduceIte, Nat.reduceEqDiff, RD]; refine hKr _ _ ?_; clear hKr Kr; (try simp only [RN, reduceIte]); try refine T_e rfl ?_
  refine T_cseq (t := false) (by simp (disch := omega) only [RA, ↓reduceIte, Nat.reduceEqDiff, RD]) ?_; (try simp only [RN, reduceIte]); try refine T_e rfl ?_
  refine T_rseq fun Kr hKr => ?_; simp (disch := omega) only [RA, ↓reduceIte, Nat.reduceEqDiff, RD]
  refine Len64_spec hn ?_
  simp (disch := omega) only [RA, ↓reduceIte, Nat.reduceEqDiff, RD]
  refine hKr _ _ ?_; clear hKr Kr; (try simp only [blkQ, thenQ, loopQ]); (try simp only [RN, reduceIte]); try refine T_e rfl ?_
  refine bodyQ_ret (by simp (disch := omega) only [RA, ↓reduceIte, Nat.reduceEqDiff, RD, resAll, resOf]; rfl) GhV.refl ?_; simp only [tup]
  exact ⟨NN.int, hK⟩
theorem wu64 {n : Int} (h0 : 0 ≤ n) (h1 : n < 18446744073709551616) : IntKind.u64.wrap n = n := by
  have hb : (2 : Int) ^ (64 : Nat) = 18446744073709551616 := by decide
  simp only [IntKind.wrap, IntKind.bits, IntKind.signed, hb]
  simp
  omega
theorem nextPow_spec {x : Bool} {n : Nat} {H : BH} {K : Value → BH → Prop} (h8 : 8 ≤ n) (hn : n ≤ 16) (hK : K (.int .u64 (if n < 16 then 16 else 32)) H) : CallX x F_slices_nextPowerOfTwo [I n] H K := by
  have hl := (lenOf_small n (by omega)).2 h8
  refine callP (by simp only [RH]) ?_
  refine CallX_body Γ_slices_nextPowerOfTwo ?_; simp only [A_slices_nextPowerOfTwo, T_aiff]
  refine T_rseq fun Kr hKr => ?_; simp (disch := omega) only [RA, ↓reduceIte, Nat.reduceEqDiff, RD]; refine hKr _ _ ?_; clear hKr Kr; (try simp only [RN, reduceIte]); try refine T_e rfl ?_
  refine T_rseq fun Kr hKr => ?_; simp (disch := omega) only [RA, ↓reduceIte, Nat.reduceEqDiff, RD, wu64]
  refine Len_spec (by omega) ?_
  rw [hl]
  by_cases h : n < 16
  · rw [if_pos h] at hK ⊢
    simp (disch := omega) only [RA, ↓reduceIte, Nat.reduceEqDiff, RD]
    refine hKr _ _ ?_; clear hKr Kr; (try simp only [blkQ, thenQ, loopQ]); (try simp only [RN, reduceIte]); try refine T_e rfl ?_
    refine bodyQ_ret (by simp (disch := omega) only [RA, ↓reduceIte, Nat.reduceEqDiff, RD, resAll, resOf]; rfl) GhV.refl ?_; simp only [tup]
    exact ⟨NN.int, hK⟩
  · rw [if_neg h] at hK ⊢
    simp (disch := omega) only [RA, ↓reduceIte, Nat.reduceEqDiff, RD]
    refine hKr _ _ ?_; clear hKr Kr; (try simp only [blkQ, thenQ, loopQ]); (try simp only [RN, reduceIte]); try refine T_e rfl ?_
    refine bodyQ_ret (by simp (disch := omega) only [RA, ↓reduceIte, Nat.reduceEqDiff, RD, resAll, resOf]; rfl) GhV.refl ?_; simp only [tup]
    exact ⟨NN.int, hK⟩
theorem st_cu {H : BH} {b : Nat} {v : Value} {k : IntKind} {n : Int} : stO (some [v]) H b 0 1 (.int k n) = some (undef, H.set b (some [.int k n])) := rfl
theorem Next_spec {v : Int} {K : Value → BH → Prop} (hK : ∀ v' : Int, K (.int .u64 v') [some [.int .u64 v']]) : CallX false F_slices_xorshift_Next [P 0 0] [some [.int .u64 v]] K := by
  refine CallX_body Γ_slices_xorshift_Next ?_; simp only [A_slices_xorshift_Next, T_aiff]
  refine T_rseq fun Kr hKr => ?_; simp (disch := omega) only [RA, ↓reduceIte, Nat.reduceEqDiff, RD]; refine hKr _ _ ?_; clear hKr Kr; (try simp only [RN, reduceIte]); try refine T_e rfl ?_
  refine T_rseq fun Kr hKr => ?_; simp (disch := omega) only [RA, ↓reduceIte, Nat.reduceEqDiff, RD, getN_c, st_cu]; refine hKr _ _ ?_; clear hKr Kr; (try simp only [RN, reduceIte]); try refine T_e rfl ?_
  generalize IntKind.u64.wrap _ = v1
  refine T_rseq fun Kr hKr => ?_; simp (disch := omega) only [RA, ↓reduceIte, Nat.reduceEqDiff, RD, getN_c, st_cu]; refine hKr _ _ ?_; clear hKr Kr; (try simp only [RN, reduceIte]); try refine T_e rfl ?_
  generalize IntKind.u64.wrap _ = v2
  refine T_rseq fun Kr hKr => ?_; simp (disch := omega) only [RA, ↓reduceIte, Nat.reduceEqDiff, RD, getN_c, st_cu]; refine hKr _ _ ?_; clear hKr Kr; (try simp only [RN, reduceIte]); try refine T_e rfl ?_
  generalize IntKind.u64.wrap _ = v3
  refine T_rseq fun Kr hKr => ?_; simp (disch := omega) only [RA, ↓reduceIte, Nat.reduceEqDiff, RD, getN_c]; refine hKr _ _ ?_; clear hKr Kr; (try simp only [RN, reduceIte]); try refine T_e rfl ?_
  refine bodyQ_ret (by simp (disch := omega) only [RA, ↓reduceIte, Nat.reduceEqDiff, RD, resAll, resOf]; rfl) GhV.refl ?_; simp only [tup]
  exact hK _
/-- What is kept of a number. -/
theorem mask_lt {a : Int} {m : Nat} (hm : m = 16 ∨ m = 32) : ∃ o : Nat, IntKind.i64.wrap (IntKind.u64.wrap ((BitVec.ofInt IntKind.u64.bits a &&& BitVec.ofInt IntKind.u64.bits (IntKind.u64.wrap ((m : Int) - 1))).toNat : Int)) = o ∧ o < m := by
  have h1 : (BitVec.ofInt IntKind.u64.bits a &&& BitVec.ofInt IntKind.u64.bits (IntKind.u64.wrap ((m : Int) - 1))).toNat ≤ m - 1 := by
    rw [BitVec.toNat_and]
    refine Nat.le_trans Nat.and_le_right ?_
    rcases hm with rfl | rfl <;> decide
  refine ⟨(BitVec.ofInt IntKind.u64.bits a &&& BitVec.ofInt IntKind.u64.bits (IntKind.u64.wrap ((m : Int) - 1))).toNat, ?_, by omega⟩
  generalize (BitVec.ofInt IntKind.u64.bits a &&& BitVec.ofInt IntKind.u64.bits (IntKind.u64.wrap ((m : Int) - 1))).toNat = x at h1
  rw [wu64 (by omega) (by omega), w64 (by omega) (by omega)]
theorem breakPatterns_spec {p : List Int} {a b : Nat} {K : Value → BH → Prop} (hpl : p.length ≤ 1000) (hb : b ≤ p.length) (h8 : a + 8 ≤ b) (h16 : b ≤ a + 16) (hK : ∀ q, Sg a b p q → K (.tuple ⟨[]⟩) [some (q.map I)]) :
    CallX false F_slices_breakPatternsOrdered_int64 [S 0 0 p.length 1, I a, I b] [some (p.map I)] K := by
  obtain ⟨l, hl⟩ : ∃ l, l = b - a := ⟨_, rfl⟩
  have hbl : (b : Int) - (a : Int) = (l : Int) := by omega
  have hd : (l : Int).tdiv 4 = ((l / 4 : Nat) : Int) := (Int.ofNat_tdiv l 4).symm
  obtain ⟨t, ht⟩ : ∃ t, t = l / 4 := ⟨_, rfl⟩
  rw [← ht] at hd
  have e2 : (a : Int) + (t : Int) * 2 = ((a + t * 2 : Nat) : Int) := by omega
  have e3 : ((a + t * 2 : Nat) : Int) - 1 = ((a + t * 2 - 1 : Nat) : Int) := by omega
  have e4 : ((a + t * 2 : Nat) : Int) + 1 = ((a + t * 2 + 1 : Nat) : Int) := by omega
  obtain ⟨m, hm, hml⟩ : ∃ m : Nat, (if l < 16 then (16 : Int) else 32) = m ∧ (m = 16 ∧ l < 16 ∨ m = 32 ∧ l = 16) := by
    by_cases h : l < 16
    · exact ⟨16, by rw [if_pos h]; rfl, .inl ⟨rfl, h⟩⟩
    · exact ⟨32, by rw [if_neg h]; rfl, .inr ⟨rfl, by omega⟩⟩
  refine CallX_body Γ_slices_breakPatternsOrdered_int64 ?_; simp only [A_slices_breakPatternsOrdered_int64, T_aiff]
  refine T_rseq fun Kr hKr => ?_; simp (disch := omega) only [RA, ↓reduceIte, Nat.reduceEqDiff, RD, hbl]; refine hKr _ _ ?_; clear hKr Kr; (try simp only [RN, reduceIte]); try refine T_e rfl ?_
  refine T_rseq fun Kr hKr => ?_; simp (disch := omega) only [RA, ↓reduceIte, Nat.reduceEqDiff, RD]; refine hKr _ _ ?_; clear hKr Kr; (try simp only [RN, reduceIte]); try refine T_e rfl ?_
  refine T_cond (t := true) (by simp (disch := omega) only [RA, ↓reduceIte, Nat.reduceEqDiff, RD]) ?_; (try simp only [RN, reduceIte]); try refine T_e rfl ?_
  refine T_rseq fun Kr hKr => ?_; simp (disch := omega) only [RA, ↓reduceIte, Nat.reduceEqDiff, RD, wu64, st_cu]; refine hKr _ _ ?_; clear hKr Kr; (try simp only [RN, reduceIte]); try refine T_e rfl ?_
  refine T_rseq fun Kr hKr => ?_; simp (disch := omega) only [RA, ↓reduceIte, Nat.reduceEqDiff, RD]
  refine nextPow_spec (by omega) (by omega) ?_
  rw [hm]
  simp (disch := omega) only [RA, ↓reduceIte, Nat.reduceEqDiff, RD]
  refine hKr _ _ ?_; clear hKr Kr; (try simp only [blkQ, thenQ, loopQ]); (try simp only [RN, reduceIte]); try refine T_e rfl ?_
  refine T_rseq fun Kr hKr => ?_; simp (disch := omega) only [RA, ↓reduceIte, Nat.reduceEqDiff, Int.reduceEq, RD, hd, e2, e3]; refine hKr _ _ ?_; clear hKr Kr; (try simp only [RN, reduceIte]); try refine T_e rfl ?_
  refine T_tail ?_
  refine T_wloop (fun n f H' => ∃ (q : List Int) (i : Nat) (v : Int), Sg a b p q ∧ a + t * 2 - 1 ≤ i ∧ i ≤ a + t * 2 + 2 ∧ n = a + t * 2 + 2 - i ∧ f 0 = S 0 0 p.length 1 ∧ f 1 = I a ∧ f 6 = I l ∧ f 7 = P 1 0 ∧ f 8 = .int .u64 (m : Int) ∧ f 9 = I i ∧ H' = [some (q.map I), some [.int .u64 v]]) (a + t * 2 + 2 - (a + t * 2 - 1)) ?_ ?_
  · refine ⟨_, _, Gh.refl, p, a + t * 2 - 1, l, .refl, by omega, by omega, rfl, ?_, ?_, ?_, ?_, ?_, ?_, rfl⟩
    any_goals (simp (disch := omega) only [RA, ↓reduceIte, Nat.reduceEqDiff, reduceCtorEq, RD, RE, *] <;> rfl)
  · rintro n f H' R ⟨q, i, v, hq, hi1, hi2, rfl, g0, g1, g6, g7, g8, g9, rfl⟩ hN hX hR hE
    simp only [A_slices_breakPatternsOrdered_int64.l0, T_aiff]
    have hql := hq.len
    refine T_rseq fun Kr hKr => ?_; simp (disch := omega) only [RA, ↓reduceIte, Nat.reduceEqDiff, Int.reduceEq, RD, g1, g6, g9, hd, e2, e4]; refine hKr _ _ ?_; clear hKr Kr; (try simp only [RN, reduceIte]); try refine T_e rfl ?_
    refine T_csplit (p := i ≤ a + t * 2 + 1) (by simp only [RA, ↓reduceIte, Nat.reduceEqDiff] <;> rfl) (by (try simp only [RB]) <;> first | done | exact Iff.rfl | omega | simp) (fun hc => ?_) (fun hc => ?_) <;> (try simp only [RN, reduceIte]) <;> (try refine T_e rfl ?_)
    · have hnext : ∀ f' (v' : Int) (o : Nat), f' 0 = S 0 0 p.length 1 → f' 1 = I a → f' 6 = I l → f' 7 = P 1 0 → f' 8 = .int .u64 (m : Int) → f' 9 = I i → f' 10 = I o → o < l →
          T 1 (.seq A_slices_breakPatternsOrdered_int64.r10 A_slices_breakPatternsOrdered_int64.r6) R f' [some (q.map I), some [.int .u64 v']] := by
        intro f' v' o g0 g1 g6 g7 g8 g9 g10 ho
        have e5 : (a : Int) + (o : Int) = ((a + o : Nat) : Int) := by omega
        have hqs : (q.set i (el q (a + o))).length = p.length := by simp [hql]
        have hsw : (q.set i (el q (a + o))).set (a + o) (el q i) = swp q i (a + o) := rfl
        refine T_rseq fun Kr hKr => ?_; simp (disch := omega) only [RA, ↓reduceIte, Nat.reduceEqDiff, RD, g0, g1, g9, g10, e5, hql, hqs]; refine hKr _ _ ?_; clear hKr Kr; (try simp only [RN, reduceIte]); try refine T_e rfl ?_
        rw [hsw]
        refine T_reg_k fun Kr hKr => ?_; simp (disch := omega) only [RA, ↓reduceIte, Nat.reduceEqDiff, RD, g9]; refine hKr _ _ ?_; clear hKr Kr
        refine hN (a + t * 2 + 2 - (i + 1)) _ _ _ _ (by omega) Gh.refl ⟨swp q i (a + o), i + 1, v', hq.trans (.swp (by omega) (by omega) (by omega) (by omega) (by omega)), by omega, by omega, rfl, ?_, ?_, ?_, ?_, ?_, ?_, rfl⟩
        any_goals (simp (disch := omega) only [RA, ↓reduceIte, Nat.reduceEqDiff, RD, RE, *] <;> rfl)
      (first | refine T_bfree rfl ?_ | refine T_bfree' rfl ?_); (try simp only [RN, reduceIte]); try refine T_e rfl ?_
      refine T_rseq fun Kr hKr => ?_; simp (disch := omega) only [RA, ↓reduceIte, Nat.reduceEqDiff, RD, g7]
      refine call1 (i := 1) (cs := [.int .u64 v]) rfl (by (simp only [RH])) ?_
      refine Next_spec ?_
      intro v'
      refine ⟨.int, .cons (by (simp only [RH])) .nil, ?_⟩
      obtain ⟨o, ho1, ho2⟩ := @mask_lt v' m (by omega)
      simp (disch := omega) only [RA, ↓reduceIte, Nat.reduceEqDiff, RD, g8, ho1]
      refine hKr _ _ ?_; clear hKr Kr; (try simp only [blkQ, thenQ, loopQ]); (try simp only [RN, reduceIte]); try refine T_e rfl ?_
      refine T_rseq fun Kr hKr => ?_; simp (disch := omega) only [RA, ↓reduceIte, Nat.reduceEqDiff, RD, g6]; refine hKr _ _ ?_; clear hKr Kr; (try simp only [RN, reduceIte]); try refine T_e rfl ?_
      refine T_csplit (p := l ≤ o) (by simp only [RA, ↓reduceIte, Nat.reduceEqDiff] <;> rfl) (by (try simp only [RB]) <;> first | done | exact Iff.rfl | omega | simp) (fun hc => ?_) (fun hc => ?_) <;> (try simp only [RN, reduceIte]) <;> (try refine T_e rfl ?_)
      · have e6 : (o : Int) - (l : Int) = ((o - l : Nat) : Int) := by omega
        refine T_rseq fun Kr hKr => ?_; simp (disch := omega) only [RA, ↓reduceIte, Nat.reduceEqDiff, RD, g6, e6]; refine hKr _ _ ?_; clear hKr Kr; (try simp only [RN, reduceIte]); try refine T_e rfl ?_
        refine hnext _ v' (o - l) ?_ ?_ ?_ ?_ ?_ ?_ ?_ (by omega)
        any_goals (simp (disch := omega) only [RA, ↓reduceIte, Nat.reduceEqDiff, RD, RE, *] <;> rfl)
      · (try simp only [RN, reduceIte]); try refine T_e rfl ?_
        refine hnext _ v' o ?_ ?_ ?_ ?_ ?_ ?_ ?_ (by omega)
        any_goals (simp (disch := omega) only [RA, ↓reduceIte, Nat.reduceEqDiff, RD, RE, *] <;> rfl)
    · refine hX _ _ ?_
      refine T_skip ?_
      refine bodyQ_ret (by simp (disch := omega) only [RA, ↓reduceIte, Nat.reduceEqDiff, RD, resAll, resOf]; rfl) (GhV.nrm [0] rfl rfl (by simp only [RH]) (by simp only [tup, RH])) ?_; simp only [tup]
      exact hK q hq
end Go.Bm

/- Sorting: the whole. -/
set_option linter.unusedVariables false
set_option linter.unusedSimpArgs false
namespace Go.Bm
open Go Go.Am

section
variable {k : Nat} {Q : Ex → Fr → BH → Prop} {f : Fr} {H : BH}
theorem T_mid {a rest : ACode} (P : Fr → BH → Prop) (h1 : ∀ R : Ex → Fr → BH → Prop, (∀ f' H', P f' H' → R .normal f' H') → (∀ f' H', Q .ret f' H' → R .ret f' H') → (∀ i f' H', Q (.exit i) f' H' → R (.exit i) f' H') → T k a R f H) (h2 : ∀ f' H', P f' H' → T k rest Q f' H') : T k (.seq a rest) Q f H :=
  T_seq (h1 (thenQ k rest Q) (fun _ _ h => h2 _ _ h) (fun _ _ h => h) (fun _ _ _ h => h))
end
/-- All pairs are in order but for those within a part. -/
def Od (a b a' b' : Nat) (q : List Int) : Prop := ∀ x y, a ≤ x → x < y → y < b → ¬ (a' ≤ x ∧ y < b') → el q x ≤ el q y
/-- What stands ahead of a part is not above it. -/
def Pre (a b : Nat) (q : List Int) : Prop := 0 < a → ∀ x, a ≤ x → x < b → el q (a - 1) ≤ el q x
section
variable {a b a' b' m : Nat} {q r : List Int}
theorem Od.sg (h : Od a b a' b' q) (ha : a ≤ a') (hb : b' ≤ b) (k : Sg a' b' q r) : Od a b a' b' r := by
  intro x y h1 h2 h3 h4
  by_cases hx : a' ≤ x ∧ x < b'
  · obtain ⟨x', x1, x2, x3⟩ := k.src x hx.1 hx.2
    rw [x3, k.out y (by omega)]
    exact h x' y (by omega) (by omega) h3 (by omega)
  · rw [k.out x (by omega)]
    by_cases hy : a' ≤ y ∧ y < b'
    · obtain ⟨y', y1, y2, y3⟩ := k.src y hy.1 hy.2
      rw [y3]
      exact h x y' h1 (by omega) (by omega) (by omega)
    · rw [k.out y (by omega)]
      exact h x y h1 h2 h3 h4
theorem Pre.sg (h : Pre a' b' q) (k : Sg a' b' q r) : Pre a' b' r := fun h0 x h1 h2 => by
  obtain ⟨x', x1, x2, x3⟩ := k.src x h1 h2
  rw [x3, k.out (a' - 1) (by omega)]
  exact h h0 x' x1 x2
theorem Od.left (h : Od a b a' b' q) (ha : a ≤ a') (hb : b' ≤ b) (h1 : a' ≤ m) (h2 : m < b') (hl : ∀ x, a' ≤ x → x < m → el q x ≤ el q m) (hr : ∀ x, m < x → x < b' → el q m ≤ el q x) (k : Sg a' m q r) (hs : Srt a' m r) : Od a b (m + 1) b' r := by
  intro x y k1 k2 k3 k4
  by_cases hb2 : a' ≤ x ∧ y < b'
  · have em : el r m = el q m := k.out m (by omega)
    have hlow : ∀ z, a' ≤ z → z < m → el r z ≤ el q m := fun z z1 z2 => by
      obtain ⟨z', w1, w2, w3⟩ := k.src z z1 z2
      rw [w3]
      exact hl z' w1 w2
    have hup : ∀ z, m < z → z < b' → el q m ≤ el r z := fun z z1 z2 => by
      rw [k.out z (by omega)]
      exact hr z z1 z2
    rcases Nat.lt_trichotomy y m with hy | hy | hy
    · exact hs x y hb2.1 (by omega) hy
    · subst hy
      rw [em]
      exact hlow x hb2.1 k2
    · have h9 := hup y hy hb2.2
      rcases Nat.lt_or_ge x m with hx | hx
      · exact Int.le_trans (hlow x hb2.1 hx) h9
      · obtain rfl : x = m := by omega
        rw [em]
        exact h9
  · exact h.sg ha hb (k.mono (by omega) (by omega)) x y k1 k2 k3 hb2
theorem Od.right (h : Od a b a' b' q) (ha : a ≤ a') (hb : b' ≤ b) (h1 : a' ≤ m) (h2 : m < b') (hl : ∀ x, a' ≤ x → x < m → el q x ≤ el q m) (hr : ∀ x, m < x → x < b' → el q m ≤ el q x) (k : Sg (m + 1) b' q r) (hs : Srt (m + 1) b' r) : Od a b a' m r := by
  intro x y k1 k2 k3 k4
  by_cases hb2 : a' ≤ x ∧ y < b'
  · have em : el r m = el q m := k.out m (by omega)
    have hlow : ∀ z, a' ≤ z → z < m → el r z ≤ el q m := fun z z1 z2 => by
      rw [k.out z (by omega)]
      exact hl z z1 z2
    have hup : ∀ z, m < z → z < b' → el q m ≤ el r z := fun z z1 z2 => by
      obtain ⟨z', w1, w2, w3⟩ := k.src z (by omega) z2
      rw [w3]
      exact hr z' (by omega) w2
    rcases Nat.lt_trichotomy x m with hx | hx | hx
    · have h9 := hlow x hb2.1 hx
      rcases Nat.lt_or_ge m y with hy | hy
      · exact Int.le_trans h9 (hup y hy hb2.2)
      · obtain rfl : y = m := by omega
        rw [em]
        exact h9
    · subst hx
      rw [em]
      exact hup y k2 hb2.2
    · exact hs x y (by omega) (by omega) hb2.2
  · exact h.sg ha hb (k.mono (by omega) (by omega)) x y k1 k2 k3 hb2
theorem Od.done (h : Od a b a' b' q) (ha : a ≤ a') (hb : b' ≤ b) (hs : Srt a' b' q) : Srt a b q := fun x y h1 h2 h3 => by
  rcases Nat.lt_or_ge x y with hx | hx
  · by_cases hc : a' ≤ x ∧ y < b'
    · exact hs x y hc.1 h2 hc.2
    · exact h x y h1 hx h3 hc
  · obtain rfl : x = y := by omega
    exact Int.le_refl _
end
set_option maxRecDepth 20000 in
theorem pdqsort_spec : ∀ (N : Nat) {p : List Int} {a b lim : Nat} {K : Value → BH → Prop}, p.length ≤ 1000 → b ≤ p.length → a ≤ b → b - a < N → b ≤ a + 16 → b - a ≤ lim + 12 → lim ≤ 1000 → Pre a b p → (∀ q, Sg a b p q → Srt a b q → K (.tuple ⟨[]⟩) [some (q.map I)]) →
    CallX false F_slices_pdqsortOrdered_int64 [S 0 0 p.length 1, I a, I b, I lim] [some (p.map I)] K
  | 0, _, _, _, _, _, _, _, _, h, _, _, _, _, _ => by omega
  | N + 1, p, a, b, lim, K, hpl, hb, hab, hN0, h16, hlim, hlm, hpre, hK => by
    have ih := fun {p : List Int} {a b lim : Nat} {K : Value → BH → Prop} => @pdqsort_spec N p a b lim K
    refine CallX_body Γ_slices_pdqsortOrdered_int64 ?_; simp only [A_slices_pdqsortOrdered_int64, T_aiff]
    refine T_rseq fun Kr hKr => ?_; simp (disch := omega) only [RA, ↓reduceIte, Nat.reduceEqDiff, RD]; refine hKr _ _ ?_; clear hKr Kr; (try simp only [RN, reduceIte]); try refine T_e rfl ?_
    refine T_rseq fun Kr hKr => ?_; simp (disch := omega) only [RA, ↓reduceIte, Nat.reduceEqDiff, RD]; refine hKr _ _ ?_; clear hKr Kr; (try simp only [RN, reduceIte]); try refine T_e rfl ?_
    refine T_tail ?_
    refine T_wloop (fun m f H' => ∃ (q : List Int) (a' b' lim : Nat) (wb wp : Bool), Sg a b p q ∧ a ≤ a' ∧ a' ≤ b' ∧ b' ≤ b ∧ Od a b a' b' q ∧ Pre a' b' q ∧ b' - a' ≤ lim + 12 ∧ lim ≤ 1000 ∧ m = b' - a' ∧ f 0 = S 0 0 p.length 1 ∧ f 1 = I a' ∧ f 2 = I b' ∧ f 3 = I lim ∧ f 8 = .bool wb ∧ f 9 = .bool wp ∧ H' = [some (q.map I)]) (b - a) ?_ ?_
    · refine ⟨_, _, Gh.refl, p, a, b, lim, true, true, .refl, by omega, by omega, by omega, fun x y h1 h2 h3 h4 => absurd ⟨h1, h3⟩ h4, hpre, hlim, hlm, rfl, ?_, ?_, ?_, ?_, ?_, ?_, rfl⟩
      any_goals (simp (disch := omega) only [RA, ↓reduceIte, Nat.reduceEqDiff, RD, RE, *] <;> rfl)
    · clear hlim hlm hpre
      rintro m f H' R ⟨q, a', b', lim, wb, wp, hq, h1, h2, h3, hod, hpre, hlim, hlm, rfl, g0, g1, g2, g3, g8, g9, rfl⟩ hN hX hR hE
      simp only [A_slices_pdqsortOrdered_int64.l0, T_aiff]
      refine T_block ?_
      (try simp only [RN, reduceIte]); try refine T_e rfl ?_
      obtain ⟨l, hl⟩ : ∃ l, l = b' - a' := ⟨_, rfl⟩
      have hbl : (b' : Int) - (a' : Int) = (l : Int) := by omega
      have hql := hq.len
      refine T_rseq fun Kr hKr => ?_; simp (disch := omega) only [RA, ↓reduceIte, Nat.reduceEqDiff, RD, g1, g2, hbl]; refine hKr _ _ ?_; clear hKr Kr; (try simp only [RN, reduceIte]); try refine T_e rfl ?_
      refine T_rseq fun Kr hKr => ?_; simp (disch := omega) only [RA, ↓reduceIte, Nat.reduceEqDiff, RD]; refine hKr _ _ ?_; clear hKr Kr; (try simp only [RN, reduceIte]); try refine T_e rfl ?_
      refine T_csplit (p := l ≤ 12) (by simp only [RA, ↓reduceIte, Nat.reduceEqDiff] <;> rfl) (by (try simp only [RB]) <;> first | done | exact Iff.rfl | omega | simp) (fun hc => ?_) (fun hc => ?_) <;> (try simp only [RN, reduceIte]) <;> (try refine T_e rfl ?_)
      · refine T_rseq fun Kr hKr => ?_; simp (disch := omega) only [RA, ↓reduceIte, Nat.reduceEqDiff, RD, g0, g1, g2]
        rw [← hql]
        refine insertionSort_spec (by omega) (by omega) h2 ?_
        intro r hr hs
        simp (disch := omega) only [RA, ↓reduceIte, Nat.reduceEqDiff, RD]
        refine hKr _ _ ?_; clear hKr Kr; (try simp only [blkQ, thenQ, loopQ]); (try simp only [RN, reduceIte]); try refine T_e rfl ?_
        simp only [blkQ, thenQ, loopQ, if_true]
        refine hR _ _ ?_
        refine bodyQ_ret (by simp (disch := omega) only [RA, ↓reduceIte, Nat.reduceEqDiff, RD, resAll, resOf]; rfl) GhV.refl ?_; simp only [tup]
        exact hK r (hq.trans (hr.mono h1 h3)) ((hod.sg h1 h3 hr).done h1 h3 hs)
      refine T_rseq fun Kr hKr => ?_; simp (disch := omega) only [RA, ↓reduceIte, Nat.reduceEqDiff, RD, g3]; refine hKr _ _ ?_; clear hKr Kr; (try simp only [RN, reduceIte]); try refine T_e rfl ?_
      refine T_cseq (t := false) (by simp (disch := omega) only [RA, ↓reduceIte, Nat.reduceEqDiff, RD]) ?_; (try simp only [RN, reduceIte]); try refine T_e rfl ?_
      refine T_rseq fun Kr hKr => ?_; simp (disch := omega) only [RA, ↓reduceIte, Nat.reduceEqDiff, RD, g8]; refine hKr _ _ ?_; clear hKr Kr; (try simp only [RN, reduceIte]); try refine T_e rfl ?_
      refine T_mid (fun f H' => ∃ (q : List Int) (lim' : Nat), Sg a b p q ∧ Od a b a' b' q ∧ Pre a' b' q ∧ l ≤ lim' + 13 ∧ lim' ≤ 1000 ∧ f 0 = S 0 0 p.length 1 ∧ f 1 = I a' ∧ f 2 = I b' ∧ f 3 = I lim' ∧ f 8 = .bool wb ∧ f 9 = .bool wp ∧ f 10 = I l ∧ H' = [some (q.map I)]) ?_ ?_
      · intro R1 hR1 hR2 hR3
        cases wb
        · refine T_cond (t := true) (by simp (disch := omega) only [RA, ↓reduceIte, Nat.reduceEqDiff, RD]) ?_; (try simp only [RN, reduceIte]); try refine T_e rfl ?_
          refine T_rseq fun Kr hKr => ?_; simp (disch := omega) only [RA, ↓reduceIte, Nat.reduceEqDiff, RD, g0, g1, g2]
          rw [← hql]
          refine breakPatterns_spec (by omega) (by omega) (by omega) (by omega) ?_
          intro r hr
          simp (disch := omega) only [RA, ↓reduceIte, Nat.reduceEqDiff, RD]
          refine hKr _ _ ?_; clear hKr Kr; (try simp only [blkQ, thenQ, loopQ]); (try simp only [RN, reduceIte]); try refine T_e rfl ?_
          have hl1 : (lim : Int) - 1 = ((lim - 1 : Nat) : Int) := by omega
          have hrl := hr.len
          refine T_reg_k fun Kr hKr => ?_; simp (disch := omega) only [RA, ↓reduceIte, Nat.reduceEqDiff, RD, g3, hl1]; refine hKr _ _ ?_; clear hKr Kr
          refine hR1 _ _ ⟨r, lim - 1, hq.trans (hr.mono h1 h3), hod.sg h1 h3 hr, hpre.sg hr, by omega, by omega, ?_, ?_, ?_, ?_, ?_, ?_, ?_, rfl⟩
          any_goals (simp (disch := omega) only [RA, ↓reduceIte, Nat.reduceEqDiff, RD, RE, *] <;> rfl)
        · refine T_cond (t := false) (by simp (disch := omega) only [RA, ↓reduceIte, Nat.reduceEqDiff, RD]) ?_; (try simp only [RN, reduceIte]); try refine T_e rfl ?_
          refine hR1 _ _ ⟨q, lim, hq, hod, hpre, by omega, by omega, ?_, ?_, ?_, ?_, ?_, ?_, ?_, rfl⟩
          any_goals (simp (disch := omega) only [RA, ↓reduceIte, Nat.reduceEqDiff, RD, RE, *] <;> rfl)
      clear hq hql hod hpre g0 g1 g2 g3 g8 g9 hlim hlm lim q
      rintro f H' ⟨q, lim, hq, hod, hpre, hlim, hlm, g0, g1, g2, g3, g8, g9, g10, rfl⟩
      have hql := hq.len
      (try simp only [RN, reduceIte]); try refine T_e rfl ?_
      refine T_rseq fun Kr hKr => ?_; simp (disch := omega) only [RA, ↓reduceIte, Nat.reduceEqDiff, RD, g0, g1, g2]
      rw [← hql]
      refine choosePivot_spec (by omega) (by omega) (by omega) (by omega) ?_
      intro piv h hp1 hp2
      simp (disch := omega) only [RA, ↓reduceIte, Nat.reduceEqDiff, RD]
      refine hKr _ _ ?_; clear hKr Kr; (try simp only [blkQ, thenQ, loopQ]); (try simp only [RN, reduceIte]); try refine T_e rfl ?_
      refine T_rseq fun Kr hKr => ?_; simp (disch := omega) only [RA, ↓reduceIte, Nat.reduceEqDiff, RD]; refine hKr _ _ ?_; clear hKr Kr; (try simp only [RN, reduceIte]); try refine T_e rfl ?_
      refine T_mid (fun f H' => ∃ (q : List Int) (piv : Nat) (h : Int), a' ≤ piv ∧ piv < b' ∧ Sg a b p q ∧ Od a b a' b' q ∧ Pre a' b' q ∧ f 0 = S 0 0 p.length 1 ∧ f 1 = I a' ∧ f 2 = I b' ∧ f 3 = I lim ∧ f 8 = .bool wb ∧ f 9 = .bool wp ∧ f 10 = I l ∧ f 11 = I piv ∧ f 12 = I h ∧ H' = [some (q.map I)]) ?_ ?_
      · intro R1 hR1 hR2 hR3
        refine T_csplit1 (p := h = 2) (by simp only [RA, ↓reduceIte, Nat.reduceEqDiff] <;> rfl) (by (try simp only [RB]) <;> first | done | exact Iff.rfl | omega | simp) (fun hc => ?_) (fun hc => ?_) <;> (try simp only [RN, reduceIte]) <;> (try refine T_e rfl ?_)
        · refine T_rseq fun Kr hKr => ?_; simp (disch := omega) only [RA, ↓reduceIte, Nat.reduceEqDiff, RD, g0, g1, g2]
          rw [← hql]
          refine reverseRange_spec (by omega) (by omega) (by omega) ?_
          intro r hr
          simp (disch := omega) only [RA, ↓reduceIte, Nat.reduceEqDiff, RD]
          refine hKr _ _ ?_; clear hKr Kr; (try simp only [blkQ, thenQ, loopQ]); (try simp only [RN, reduceIte]); try refine T_e rfl ?_
          have hpv : (b' : Int) - 1 - ((piv : Int) - (a' : Int)) = ((b' - 1 - (piv - a') : Nat) : Int) := by omega
          have hrl := hr.len
          refine T_rseq fun Kr hKr => ?_; simp (disch := omega) only [RA, ↓reduceIte, Nat.reduceEqDiff, RD, g1, g2, hpv]; refine hKr _ _ ?_; clear hKr Kr; (try simp only [RN, reduceIte]); try refine T_e rfl ?_
          refine T_reg_k fun Kr hKr => ?_; simp (disch := omega) only [RA, ↓reduceIte, Nat.reduceEqDiff, RD]; refine hKr _ _ ?_; clear hKr Kr
          refine hR1 _ _ ⟨r, b' - 1 - (piv - a'), 1, by omega, by omega, hq.trans (hr.mono h1 h3), hod.sg h1 h3 hr, hpre.sg hr, ?_, ?_, ?_, ?_, ?_, ?_, ?_, ?_, ?_, rfl⟩
          any_goals (simp (disch := omega) only [RA, ↓reduceIte, Nat.reduceEqDiff, RD, RE, *] <;> rfl)
        · refine hR1 _ _ ⟨q, piv, h, hp1, hp2, hq, hod, hpre, ?_, ?_, ?_, ?_, ?_, ?_, ?_, ?_, ?_, rfl⟩
          any_goals (simp (disch := omega) only [RA, ↓reduceIte, Nat.reduceEqDiff, RD, RE, *] <;> rfl)
      clear hq hql hod hpre g0 g1 g2 g3 g8 g9 g10 hp1 hp2 piv h q
      rintro f H' ⟨q, piv, h, hp1, hp2, hq, hod, hpre, g0, g1, g2, g3, g8, g9, g10, g11, g12, rfl⟩
      have hql := hq.len
      (try simp only [RN, reduceIte]); try refine T_e rfl ?_
      have hpart : ∀ f', f' 0 = S 0 0 p.length 1 → f' 1 = I a' → f' 2 = I b' → f' 3 = I lim → f' 9 = .bool wp → f' 10 = I l → f' 11 = I piv → f' 8 = .bool wb →
          ∀ R1 : Ex → Fr → BH → Prop, (∀ f' H', (f' 0 = S 0 0 p.length 1 ∧ f' 1 = I a' ∧ f' 2 = I b' ∧ f' 3 = I lim ∧ f' 8 = .bool wb ∧ f' 9 = .bool wp ∧ f' 10 = I l ∧ f' 11 = I piv ∧ H' = [some (q.map I)]) → R1 .normal f' H') → (∀ f' H', bodyQ 1 [] K .ret f' H' → R1 .ret f' H') →
          T 1 (.seq A_slices_pdqsortOrdered_int64.r16 (.cond (.t 72) .ret .skip)) R1 f' [some (q.map I)] := by
        intro f' g0 g1 g2 g3 g9 g10 g11 g8 R1 hR1 hR2
        refine T_rseq fun Kr hKr => ?_; simp (disch := omega) only [RA, ↓reduceIte, Nat.reduceEqDiff, RD, g0, g1, g2]
        rw [← hql]
        refine partialInsertionSort_spec (by omega) (by omega) (by omega) (by omega) ?_
        intro r hr
        simp (disch := omega) only [RA, ↓reduceIte, Nat.reduceEqDiff, RD]
        refine hKr _ _ ?_; clear hKr Kr; (try simp only [blkQ, thenQ, loopQ]); (try simp only [RN, reduceIte]); try refine T_e rfl ?_
        cases r
        · refine T_cond (t := false) (by simp (disch := omega) only [RA, ↓reduceIte, Nat.reduceEqDiff, RD]) ?_; (try simp only [RN, reduceIte]); try refine T_e rfl ?_
          refine hR1 _ _ ⟨?_, ?_, ?_, ?_, ?_, ?_, ?_, ?_, rfl⟩
          any_goals (simp (disch := omega) only [RA, ↓reduceIte, Nat.reduceEqDiff, RD, RE, *] <;> rfl)
        · refine T_cond (t := true) (by simp (disch := omega) only [RA, ↓reduceIte, Nat.reduceEqDiff, RD]) ?_; (try simp only [RN, reduceIte]); try refine T_e rfl ?_
          refine hR2 _ _ ?_
          refine bodyQ_ret (by simp (disch := omega) only [RA, ↓reduceIte, Nat.reduceEqDiff, RD, resAll, resOf]; rfl) GhV.refl ?_; simp only [tup]
          exact hK q hq (hod.done h1 h3 (hr rfl))
      have hpart2 : ∀ f' (t : Bool), f' 0 = S 0 0 p.length 1 → f' 1 = I a' → f' 2 = I b' → f' 3 = I lim → f' 9 = .bool wp → f' 10 = I l → f' 11 = I piv → f' 8 = .bool wb → f' 68 = .bool t →
          ∀ R1 : Ex → Fr → BH → Prop, (∀ f' H', (f' 0 = S 0 0 p.length 1 ∧ f' 1 = I a' ∧ f' 2 = I b' ∧ f' 3 = I lim ∧ f' 8 = .bool wb ∧ f' 9 = .bool wp ∧ f' 10 = I l ∧ f' 11 = I piv ∧ H' = [some (q.map I)]) → R1 .normal f' H') → (∀ f' H', bodyQ 1 [] K .ret f' H' → R1 .ret f' H') →
          T 1 (.cond (.t 68) (.seq A_slices_pdqsortOrdered_int64.r16 (.cond (.t 72) .ret .skip)) .skip) R1 f' [some (q.map I)] := by
        intro f' t g0 g1 g2 g3 g9 g10 g11 g8 g68 R1 hR1 hR2
        cases t
        · refine T_cond (t := false) (by simp (disch := omega) only [RA, ↓reduceIte, Nat.reduceEqDiff, RD, g68]) ?_; (try simp only [RN, reduceIte]); try refine T_e rfl ?_
          exact hR1 _ _ ⟨g0, g1, g2, g3, g8, g9, g10, g11, rfl⟩
        · refine T_cond (t := true) g68 ?_
          exact hpart _ g0 g1 g2 g3 g9 g10 g11 g8 R1 hR1 hR2
      refine T_mid (fun f H' => ∃ t : Bool, f 0 = S 0 0 p.length 1 ∧ f 1 = I a' ∧ f 2 = I b' ∧ f 3 = I lim ∧ f 8 = .bool wb ∧ f 9 = .bool wp ∧ f 10 = I l ∧ f 11 = I piv ∧ f 68 = .bool t ∧ H' = [some (q.map I)]) ?_ ?_
      · intro R1 hR1 hR2 hR3
        cases wb
        · refine T_reg_k fun Kr hKr => ?_; simp (disch := omega) only [RA, ↓reduceIte, Nat.reduceEqDiff, RD, g8]; refine hKr _ _ ?_; clear hKr Kr
          refine hR1 _ _ ⟨false, ?_, ?_, ?_, ?_, ?_, ?_, ?_, ?_, ?_, rfl⟩
          any_goals (simp (disch := omega) only [RA, ↓reduceIte, Nat.reduceEqDiff, RD, RE, *] <;> rfl)
        · cases wp
          · refine T_reg_k fun Kr hKr => ?_; simp (disch := omega) only [RA, ↓reduceIte, Nat.reduceEqDiff, RD, g8, g9]; refine hKr _ _ ?_; clear hKr Kr
            refine hR1 _ _ ⟨false, ?_, ?_, ?_, ?_, ?_, ?_, ?_, ?_, ?_, rfl⟩
            any_goals (simp (disch := omega) only [RA, ↓reduceIte, Nat.reduceEqDiff, RD, RE, *] <;> rfl)
          · refine T_reg_k fun Kr hKr => ?_; simp (disch := omega) only [RA, ↓reduceIte, Nat.reduceEqDiff, RD, g8, g9, g12]; refine hKr _ _ ?_; clear hKr Kr
            refine hR1 _ _ ⟨decide (h = 1), ?_, ?_, ?_, ?_, ?_, ?_, ?_, ?_, ?_, rfl⟩
            any_goals (simp (disch := omega) only [RA, ↓reduceIte, Nat.reduceEqDiff, RD, RE, *] <;> rfl)
      clear g0 g1 g2 g3 g8 g9 g10 g11 g12
      rintro f H' ⟨t, g0, g1, g2, g3, g8, g9, g10, g11, g68, rfl⟩
      refine T_mid (fun f H' => f 0 = S 0 0 p.length 1 ∧ f 1 = I a' ∧ f 2 = I b' ∧ f 3 = I lim ∧ f 8 = .bool wb ∧ f 9 = .bool wp ∧ f 10 = I l ∧ f 11 = I piv ∧ H' = [some (q.map I)]) ?_ ?_
      · intro R1 hR1 hR2 hR3
        exact hpart2 f t g0 g1 g2 g3 g9 g10 g11 g8 g68 R1 hR1 (fun f' H' h => hR2 _ _ (hR _ _ h))
      clear hpart hpart2 g0 g1 g2 g3 g8 g9 g10 g11 g68
      rintro f H' ⟨g0, g1, g2, g3, g8, g9, g10, g11, rfl⟩
      (try simp only [RN, reduceIte]); try refine T_e rfl ?_
      refine T_mid (fun f H' => ∃ t : Bool, (t = true → 0 < a' ∧ el q piv ≤ el q (a' - 1)) ∧ f 0 = S 0 0 p.length 1 ∧ f 1 = I a' ∧ f 2 = I b' ∧ f 3 = I lim ∧ f 8 = .bool wb ∧ f 9 = .bool wp ∧ f 10 = I l ∧ f 11 = I piv ∧ f 87 = .bool t ∧ H' = [some (q.map I)]) ?_ ?_
      · intro R1 hR1 hR2 hR3
        by_cases ha0 : 0 < a'
        · have hai : (a' : Int) - 1 = ((a' - 1 : Nat) : Int) := by omega
          refine T_reg_k fun Kr hKr => ?_; simp (disch := omega) only [RA, ↓reduceIte, Nat.reduceEqDiff, RD, g0, g1, g11, ha0, hai, hql]
          refine Less_spec ?_
          simp (disch := omega) only [RA, ↓reduceIte, Nat.reduceEqDiff, RD]
          refine hKr _ _ ?_
          refine hR1 _ _ ⟨!decide (el q (a' - 1) < el q piv), fun h => ⟨ha0, by simpa using h⟩, ?_, ?_, ?_, ?_, ?_, ?_, ?_, ?_, ?_, rfl⟩
          any_goals (simp (disch := omega) only [RA, ↓reduceIte, Nat.reduceEqDiff, RD, RE, *] <;> rfl)
        · refine T_reg_k fun Kr hKr => ?_; simp (disch := omega) only [RA, ↓reduceIte, Nat.reduceEqDiff, RD, g1, ha0]; refine hKr _ _ ?_; clear hKr Kr
          refine hR1 _ _ ⟨false, fun h => (by cases h), ?_, ?_, ?_, ?_, ?_, ?_, ?_, ?_, ?_, rfl⟩
          any_goals (simp (disch := omega) only [RA, ↓reduceIte, Nat.reduceEqDiff, RD, RE, *] <;> rfl)
      clear g0 g1 g2 g3 g8 g9 g10 g11
      rintro f H' ⟨t, ht, g0, g1, g2, g3, g8, g9, g10, g11, g87, rfl⟩
      by_cases htt : t = true
      · subst htt
        obtain ⟨ha0, hle⟩ := ht rfl
        refine T_cseq (t := true) (by simp (disch := omega) only [RA, ↓reduceIte, Nat.reduceEqDiff, RD, g87]) ?_; (try simp only [RN, reduceIte]); try refine T_e rfl ?_
        refine T_rseq fun Kr hKr => ?_; simp (disch := omega) only [RA, ↓reduceIte, Nat.reduceEqDiff, RD, g0, g1, g2, g11]
        rw [← hql]
        refine partitionEqual_spec (by omega) (by omega) hp1 hp2 (fun x x1 x2 => Int.le_trans hle (hpre ha0 x x1 x2)) ?_
        intro r mid hr hm1 hm2 hm3 hm4
        have hrl := hr.len
        simp (disch := omega) only [RA, ↓reduceIte, Nat.reduceEqDiff, RD]
        refine hKr _ _ ?_; clear hKr Kr; (try simp only [blkQ, thenQ, loopQ]); (try simp only [RN, reduceIte]); try refine T_e rfl ?_
        refine T_rseq fun Kr hKr => ?_; simp (disch := omega) only [RA, ↓reduceIte, Nat.reduceEqDiff, RD]; refine hKr _ _ ?_; clear hKr Kr; (try simp only [RN, reduceIte]); try refine T_e rfl ?_
        refine hN (b' - mid) _ _ _ _ (by omega) Gh.refl ⟨r, mid, b', lim, wb, wp, hq.trans (hr.mono h1 h3), by omega, by omega, h3, ?_, fun _ x x1 x2 => (by rw [hm3 (mid - 1) (by omega) (by omega)]; exact hm4 x (by omega) x2), by omega, hlm, rfl, ?_, ?_, ?_, ?_, ?_, ?_, rfl⟩
        any_goals (simp (disch := omega) only [RA, ↓reduceIte, Nat.reduceEqDiff, RD, RE, *] <;> rfl)
        · intro x y k1 k2 k3 k4
          by_cases hb2 : a' ≤ x ∧ y < b'
          · rw [hm3 x hb2.1 (by omega)]
            exact hm4 y (by omega) hb2.2
          · exact hod.sg h1 h3 hr x y k1 k2 k3 hb2
      · have : t = false := by simpa using htt
        subst this
        refine T_cseq (t := false) (by simp (disch := omega) only [RA, ↓reduceIte, Nat.reduceEqDiff, RD, g87]) ?_; (try simp only [RN, reduceIte]); try refine T_e rfl ?_
        refine T_rseq fun Kr hKr => ?_; simp (disch := omega) only [RA, ↓reduceIte, Nat.reduceEqDiff, RD, g0, g1, g2, g11]
        rw [← hql]
        refine partition_spec (by omega) (by omega) hp1 hp2 ?_
        intro r mid al hr hm1 hm2 hm3 hm4
        have hrl := hr.len
        have hod' := hod.sg h1 h3 hr
        have hpre' := hpre.sg hr
        have e1 : (mid : Int) - (a' : Int) = ((mid - a' : Nat) : Int) := by omega
        have e2 : (b' : Int) - (mid : Int) = ((b' - mid : Nat) : Int) := by omega
        have e3 : (l : Int).tdiv 8 = ((l / 8 : Nat) : Int) := (Int.ofNat_tdiv l 8).symm
        have e4 : (mid : Int) + 1 = ((mid + 1 : Nat) : Int) := by omega
        have hdiv : l / 8 ≤ 16 := by omega
        simp (disch := omega) only [RA, ↓reduceIte, Nat.reduceEqDiff, RD]
        refine hKr _ _ ?_; clear hKr Kr; (try simp only [blkQ, thenQ, loopQ]); (try simp only [RN, reduceIte]); try refine T_e rfl ?_
        refine T_rseq fun Kr hKr => ?_; simp (disch := omega) only [RA, ↓reduceIte, Nat.reduceEqDiff, RD]; refine hKr _ _ ?_; clear hKr Kr; (try simp only [RN, reduceIte]); try refine T_e rfl ?_
        refine T_rseq fun Kr hKr => ?_; simp (disch := omega) only [RA, ↓reduceIte, Nat.reduceEqDiff, RD, g1, g2, e1, e2]; refine hKr _ _ ?_; clear hKr Kr; (try simp only [RN, reduceIte]); try refine T_e rfl ?_
        refine T_rseq fun Kr hKr => ?_; simp (disch := omega) only [RA, ↓reduceIte, Nat.reduceEqDiff, Int.reduceEq, RD, g10, e3]; refine hKr _ _ ?_; clear hKr Kr; (try simp only [RN, reduceIte]); try refine T_e rfl ?_
        refine T_rseq fun Kr hKr => ?_; simp (disch := omega) only [RA, ↓reduceIte, Nat.reduceEqDiff, RD]; refine hKr _ _ ?_; clear hKr Kr; (try simp only [RN, reduceIte]); try refine T_e rfl ?_
        refine T_csplit1 (p := mid - a' < b' - mid) (by simp only [RA, ↓reduceIte, Nat.reduceEqDiff] <;> rfl) (by (try simp only [RB]) <;> first | done | exact Iff.rfl | omega | simp) (fun hc => ?_) (fun hc => ?_) <;> (try simp only [RN, reduceIte]) <;> (try refine T_e rfl ?_)
        · refine T_rseq fun Kr hKr => ?_; simp (disch := omega) only [RA, ↓reduceIte, Nat.reduceEqDiff, RD]; refine hKr _ _ ?_; clear hKr Kr; (try simp only [RN, reduceIte]); try refine T_e rfl ?_
          refine T_rseq fun Kr hKr => ?_; simp (disch := omega) only [RA, ↓reduceIte, Nat.reduceEqDiff, RD, g0, g1, g3]
          rw [← hql, ← hrl]
          refine ih (by omega) (by omega) hm1 (by omega) (by omega) (by omega) hlm (fun h0 x x1 x2 => hpre' h0 x x1 (by omega)) ?_
          intro r2 hr2 hs2
          have hr2l := hr2.len
          simp (disch := omega) only [RA, ↓reduceIte, Nat.reduceEqDiff, RD]
          refine hKr _ _ ?_; clear hKr Kr; (try simp only [blkQ, thenQ, loopQ]); (try simp only [RN, reduceIte]); try refine T_e rfl ?_
          refine T_reg_k fun Kr hKr => ?_; simp (disch := omega) only [RA, ↓reduceIte, Nat.reduceEqDiff, RD, e4]; refine hKr _ _ ?_; clear hKr Kr
          refine hN (b' - (mid + 1)) _ _ _ _ (by omega) Gh.refl ⟨r2, mid + 1, b', lim, decide (l / 8 ≤ mid - a'), al, (hq.trans (hr.mono h1 h3)).trans (hr2.mono h1 (by omega)), by omega, by omega, h3, hod'.left h1 h3 hm1 hm2 hm3 hm4 hr2 hs2, fun _ x x1 x2 => ?_, by omega, hlm, rfl, ?_, ?_, ?_, ?_, ?_, ?_, rfl⟩
          any_goals (simp (disch := omega) only [RA, ↓reduceIte, Nat.reduceEqDiff, RD, RE, *] <;> rfl)
          rw [Nat.add_sub_cancel, hr2.out mid (by omega), hr2.out x (by omega)]
          exact hm4 x (by omega) x2
        · refine T_rseq fun Kr hKr => ?_; simp (disch := omega) only [RA, ↓reduceIte, Nat.reduceEqDiff, RD]; refine hKr _ _ ?_; clear hKr Kr; (try simp only [RN, reduceIte]); try refine T_e rfl ?_
          refine T_rseq fun Kr hKr => ?_; simp (disch := omega) only [RA, ↓reduceIte, Nat.reduceEqDiff, RD, g0, g2, g3, e4]
          rw [← hql, ← hrl]
          refine ih (by omega) (by omega) (by omega) (by omega) (by omega) (by omega) hlm (fun _ x x1 x2 => by rw [Nat.add_sub_cancel]; exact hm4 x (by omega) x2) ?_
          intro r2 hr2 hs2
          have hr2l := hr2.len
          simp (disch := omega) only [RA, ↓reduceIte, Nat.reduceEqDiff, RD]
          refine hKr _ _ ?_; clear hKr Kr; (try simp only [blkQ, thenQ, loopQ]); (try simp only [RN, reduceIte]); try refine T_e rfl ?_
          refine T_reg_k fun Kr hKr => ?_; simp (disch := omega) only [RA, ↓reduceIte, Nat.reduceEqDiff, RD]; refine hKr _ _ ?_; clear hKr Kr
          refine hN (mid - a') _ _ _ _ (by omega) Gh.refl ⟨r2, a', mid, lim, decide (l / 8 ≤ b' - mid), al, (hq.trans (hr.mono h1 h3)).trans (hr2.mono (by omega) h3), by omega, by omega, by omega, hod'.right h1 h3 hm1 hm2 hm3 hm4 hr2 hs2, fun h0 x x1 x2 => ?_, by omega, hlm, rfl, ?_, ?_, ?_, ?_, ?_, ?_, rfl⟩
          any_goals (simp (disch := omega) only [RA, ↓reduceIte, Nat.reduceEqDiff, RD, RE, *] <;> rfl)
          rw [hr2.out (a' - 1) (by omega), hr2.out x (by omega)]
          exact hpre' h0 x x1 (by omega)
/-- Sorting in place. -/
theorem Sort_spec {p : List Int} {K : Value → BH → Prop} (hpl : p.length ≤ 16) (hK : ∀ q : List Int, q.Perm p → Srt 0 p.length q → K (.tuple ⟨[]⟩) [some (q.map I)]) :
    CallX false F_slices_Sort_int64_int64 [S 0 0 p.length 1] [some (p.map I)] K := by
  have hle := (lenOf_small p.length (by omega)).1
  have hlt := @lenOf_lt p.length
  refine CallX_body Γ_slices_Sort_int64_int64 ?_; simp only [A_slices_Sort_int64_int64, T_aiff]
  refine T_rseq fun Kr hKr => ?_; simp (disch := omega) only [RA, ↓reduceIte, Nat.reduceEqDiff, RD]; refine hKr _ _ ?_; clear hKr Kr; (try simp only [RN, reduceIte]); try refine T_e rfl ?_
  refine T_reg_k fun Kr hKr => ?_; simp (disch := omega) only [RA, ↓reduceIte, Nat.reduceEqDiff, RD, wu64]
  refine Len_spec (by omega) ?_
  simp (disch := omega) only [RA, ↓reduceIte, Nat.reduceEqDiff, RD]
  refine pdqsort_spec (p.length + 1) (a := 0) (b := p.length) (lim := lenOf p.length) (by omega) (Nat.le_refl _) (Nat.zero_le _) (by omega) (by omega) (by omega) (by omega) (fun h => by omega) ?_
  intro q hq hs
  simp (disch := omega) only [RA, ↓reduceIte, Nat.reduceEqDiff, RD]
  refine hKr _ _ ?_; clear hKr Kr
  refine bodyQ_ret (by simp (disch := omega) only [RA, ↓reduceIte, Nat.reduceEqDiff, RD, resAll, resOf]; rfl) GhV.refl ?_; simp only [tup]
  exact hK q hq.perm hs
end Go.Bm

/- Lists of numbers as cells. -/
set_option linter.unusedVariables false
set_option linter.unusedSimpArgs false
namespace Go.Bm
open Go Go.Am

abbrev N64 (n : Nat) : Value := .int .i64 (n : Int)
theorem getN_64 {p : List Nat} {k : Nat} (h : k < p.length) : getN none (p.map N64) k = some (N64 (nl p k)) := by
  simp [getN, h, nl, List.getD]
theorem app1_64 {H : BH} {b bytes cn : Nat} {xs : List Nat} {y : Nat} (h : (xs.length + 1) * bytes ≤ 140737488355328) : app1 (some [.int .i64 (y : Int)]) (some (xs.map N64)) H b xs.length bytes cn = some (S H.length 0 (xs.length + 1) 1, (H.set b none) ++ [some ((xs ++ [y]).map N64)]) := app1_g (g := N64) rfl h
theorem NNL_F8 {l : List Nat} : NNL (l.map N8) := NNL.map fun _ => .int
end Go.Bm

/- Lists in descending order. -/
set_option linter.unusedVariables false
set_option linter.unusedSimpArgs false
namespace Go.Bm
open Go Go.Am

def ofN (xs : List Nat) : List Int := xs.map fun n : Nat => (n : Int)
theorem map_N64 {xs : List Nat} : xs.map N64 = (ofN xs).map I := by simp [ofN, Function.comp_def]
theorem ofN_len {xs : List Nat} : (ofN xs).length = xs.length := by simp [ofN]
theorem el_ofN {xs : List Nat} {i : Nat} : el (ofN xs) i = (nl xs i : Int) := by
  simp only [el, ofN, nl, List.getD, List.getElem?_map]
  cases xs[i]? <;> rfl
/-- In descending order. -/
def Dsc (p : List Int) : Prop := ∀ i j, i ≤ j → j < p.length → el p j ≤ el p i
theorem Dsc.tail {a : Int} {p : List Int} (h : Dsc (a :: p)) : Dsc p := fun i j h1 h2 => by
  have := h (i + 1) (j + 1) (by omega) (by simp; omega)
  simpa [el, List.getD] using this
theorem Dsc.head {a : Int} {p : List Int} (h : Dsc (a :: p)) : ∀ x ∈ p, x ≤ a := fun x hx => by
  obtain ⟨i, hi, rfl⟩ := List.mem_iff_getElem.1 hx
  have := h 0 (i + 1) (by omega) (by simpa using hi)
  simpa [el, List.getD, hi] using this
/-- There is but one. -/
theorem Dsc.uniq : ∀ {p q : List Int}, Dsc p → Dsc q → p.Perm q → p = q
  | [], q, _, _, h => (List.nil_perm.1 h).symm
  | a :: p, [], _, _, h => by simp at h
  | a :: p, b :: q, hp, hq, h => by
    have hab : a = b := by
      have h1 : a ∈ b :: q := h.subset (by simp)
      have h2 : b ∈ a :: p := h.symm.subset (by simp)
      have h3 : a ≤ b := by
        rcases List.mem_cons.1 h1 with e | e
        · omega
        · exact hq.head a e
      have h4 : b ≤ a := by
        rcases List.mem_cons.1 h2 with e | e
        · omega
        · exact hp.head b e
      omega
    subst hab
    rw [Dsc.uniq hp.tail hq.tail (List.Perm.cons_inv h)]
theorem el_reverse {p : List Int} {i : Nat} (hi : i < p.length) : el p.reverse i = el p (p.length - 1 - i) := by
  simp only [el, List.getD]
  rw [List.getElem?_reverse (by omega)]
theorem descending_spec {p r : List Int} {K : Value → BH → Prop} (hpl : p.length ≤ 16) (hr : Dsc r) (hp : r.Perm p) (hK : K (S 0 0 p.length 1) [some (r.map I)]) :
    CallX false F_impl_descending [S 0 0 p.length 1] [some (p.map I)] K := by
  refine CallX_body Γ_impl_descending ?_; simp only [A_impl_descending, T_aiff]
  refine T_rseq fun Kr hKr => ?_; simp (disch := omega) only [RA, ↓reduceIte, Nat.reduceEqDiff, RD]; refine hKr _ _ ?_; clear hKr Kr; (try simp only [RN, reduceIte]); try refine T_e rfl ?_
  refine T_rseq fun Kr hKr => ?_; simp (disch := omega) only [RA, ↓reduceIte, Nat.reduceEqDiff, RD]
  refine Sort_spec hpl ?_
  intro q hq hs
  have hql : q.length = p.length := hq.length_eq
  simp (disch := omega) only [RA, ↓reduceIte, Nat.reduceEqDiff, RD]
  refine hKr _ _ ?_; clear hKr Kr; (try simp only [blkQ, thenQ, loopQ]); (try simp only [RN, reduceIte]); try refine T_e rfl ?_
  refine T_rseq fun Kr hKr => ?_; simp (disch := omega) only [RA, ↓reduceIte, Nat.reduceEqDiff, RD]
  rw [← hql]
  refine Reverse_spec (by omega) ?_
  have e : q.reverse = r := by
    refine Dsc.uniq (fun i j h1 h2 => ?_) hr ((List.reverse_perm q).trans (hq.trans hp.symm))
    simp only [List.length_reverse] at h2
    rw [el_reverse h2, el_reverse (by omega)]
    exact hs _ _ (Nat.zero_le _) (by omega) (by omega)
  rw [e]
  simp (disch := omega) only [RA, ↓reduceIte, Nat.reduceEqDiff, RD]
  refine hKr _ _ ?_; clear hKr Kr; (try simp only [blkQ, thenQ, loopQ]); (try simp only [RN, reduceIte]); try refine T_e rfl ?_
  refine T_rseq fun Kr hKr => ?_; simp (disch := omega) only [RA, ↓reduceIte, Nat.reduceEqDiff, RD]; refine hKr _ _ ?_; clear hKr Kr; (try simp only [RN, reduceIte]); try refine T_e rfl ?_
  refine bodyQ_ret (by simp (disch := omega) only [RA, ↓reduceIte, Nat.reduceEqDiff, RD, resAll, resOf]; rfl) GhV.refl ?_; simp only [tup]
  rw [hql]
  exact hK
end Go.Bm

/- What laws do with slices: equal, marked, held. -/
set_option linter.unusedVariables false
set_option linter.unusedSimpArgs false
namespace Go.Bm
open Go Go.Am

/-- A slice of numbers: nil, a block of one's own, or one that is only read. -/
def Sl (H : BH) (v : Value) (xs : List Int) : Prop := (v = .slice none 0 0 ∧ xs = []) ∨ (∃ i, v = S i 0 xs.length 1 ∧ blk H i = some (xs.map I)) ∨ v = FI xs
theorem Sl.own {H : BH} {i : Nat} {xs : List Int} (h : blk H i = some (xs.map I)) : Sl H (S i 0 xs.length 1) xs := .inr (.inl ⟨i, rfl, h⟩)
theorem Sl.fz {H : BH} {xs : List Int} : Sl H (FI xs) xs := .inr (.inr rfl)
theorem Sl.nil {H : BH} : Sl H (.slice none 0 0) [] := .inl ⟨rfl, rfl⟩
theorem Sl.len {H : BH} {v : Value} {xs : List Int} (h : Sl H v xs) : lenW v = some (I xs.length) := by
  rcases h with ⟨rfl, rfl⟩ | ⟨i, rfl, _⟩ | rfl <;> rfl
theorem Sl.get {H : BH} {v : Value} {xs : List Int} (h : Sl H v xs) {j : Nat} (hj : j < xs.length) : ∃ p, idxW 1 v (I j) = some p ∧ loadW none H p = some (I (el xs j)) := by
  rcases h with ⟨rfl, rfl⟩ | ⟨i, rfl, hb⟩ | rfl
  · simp at hj
  · refine ⟨_, idxW_s (by omega), ?_⟩
    rw [loadW_p, hb, getO_some, getN_I0 (by omega)]
    simp
  · refine ⟨_, idxW_fz (by omega), ?_⟩
    rw [loadW_fp, getN_I0 (by omega)]
    simp
theorem eqInt64S_spec {v u : Value} {xs ys : List Int} {H : BH} {K : Value → BH → Prop} (hv : Sl H v xs) (hu : Sl H u ys) (hl : xs.length < 4611686018427387904) (hl' : ys.length < 4611686018427387904) (hK : K (.bool (decide (xs = ys))) H) :
    CallX false F_laws_eqInt64S [v, u] H K := by
  have v1 := hv.len
  have u1 := hu.len
  refine CallX_body Γ_laws_eqInt64S ?_; simp only [A_laws_eqInt64S, T_aiff]
  refine T_rseq fun Kr hKr => ?_; simp (disch := omega) only [RA, ↓reduceIte, Nat.reduceEqDiff, RD]; refine hKr _ _ ?_; clear hKr Kr; (try simp only [RN, reduceIte]); try refine T_e rfl ?_
  refine T_rseq fun Kr hKr => ?_; simp (disch := omega) only [RA, ↓reduceIte, Nat.reduceEqDiff, RD, v1, u1]; refine hKr _ _ ?_; clear hKr Kr; (try simp only [RN, reduceIte]); try refine T_e rfl ?_
  refine T_csplit (p := ¬ xs.length = ys.length) (by simp only [RA, ↓reduceIte, Nat.reduceEqDiff] <;> rfl) (by (try simp only [RB]) <;> first | done | exact Iff.rfl | omega | simp) (fun hc => ?_) (fun hc => ?_) <;> (try simp only [RN, reduceIte]) <;> (try refine T_e rfl ?_)
  · refine T_rseq fun Kr hKr => ?_; simp (disch := omega) only [RA, ↓reduceIte, Nat.reduceEqDiff, RD]; refine hKr _ _ ?_; clear hKr Kr; (try simp only [RN, reduceIte]); try refine T_e rfl ?_
    refine bodyQ_ret (by simp (disch := omega) only [RA, ↓reduceIte, Nat.reduceEqDiff, RD, resAll, resOf]; rfl) GhV.refl ?_; simp only [tup]
    rw [show decide (xs = ys) = false by simp; intro e; exact hc (by rw [e])] at hK
    exact hK
  have hll := Decidable.not_not.1 hc
  clear hc
  refine T_rseq fun Kr hKr => ?_; simp (disch := omega) only [RA, ↓reduceIte, Nat.reduceEqDiff, RD]; refine hKr _ _ ?_; clear hKr Kr; (try simp only [RN, reduceIte]); try refine T_e rfl ?_
  refine T_wloop (fun m f H' => ∃ i, i ≤ xs.length ∧ m = xs.length - i ∧ (∀ j, j < i → el xs j = el ys j) ∧ f 0 = v ∧ f 1 = u ∧ f 5 = I i ∧ H' = H) (xs.length) ?_ ?_
  · refine ⟨_, _, Gh.refl, 0, by omega, by omega, fun j hj => by omega, ?_, ?_, ?_, rfl⟩
    any_goals (simp (disch := omega) only [RA, ↓reduceIte, Nat.reduceEqDiff, RD, RE, *] <;> rfl)
  · rintro m f H' R ⟨i, hi, rfl, he, g0, g1, g5, rfl⟩ hN hX hR hE
    simp only [A_laws_eqInt64S.l0, T_aiff]
    refine T_rseq fun Kr hKr => ?_; simp (disch := omega) only [RA, ↓reduceIte, Nat.reduceEqDiff, RD, g0, g5, v1]; refine hKr _ _ ?_; clear hKr Kr; (try simp only [RN, reduceIte]); try refine T_e rfl ?_
    refine T_csplit (p := i < xs.length) (by simp only [RA, ↓reduceIte, Nat.reduceEqDiff] <;> rfl) (by (try simp only [RB]) <;> first | done | exact Iff.rfl | omega | simp) (fun hc => ?_) (fun hc => ?_) <;> (try simp only [RN, reduceIte]) <;> (try refine T_e rfl ?_)
    · obtain ⟨p, p1, p2⟩ := hv.get hc
      obtain ⟨q, q1, q2⟩ := hu.get (show i < ys.length by omega)
      (first | refine T_bfree rfl ?_ | refine T_bfree' rfl ?_); (try simp only [RN, reduceIte]); try refine T_e rfl ?_
      refine T_rseq fun Kr hKr => ?_; simp (disch := omega) only [RA, ↓reduceIte, Nat.reduceEqDiff, RD, g0, g1, g5, p1, p2, q1, q2]; refine hKr _ _ ?_; clear hKr Kr; (try simp only [RN, reduceIte]); try refine T_e rfl ?_
      refine T_csplit (p := ¬ el xs i = el ys i) (by simp only [RA, ↓reduceIte, Nat.reduceEqDiff] <;> rfl) (by (try simp only [RB]) <;> first | done | exact Iff.rfl | omega | simp) (fun hc => ?_) (fun hc => ?_) <;> (try simp only [RN, reduceIte]) <;> (try refine T_e rfl ?_)
      · refine T_rseq fun Kr hKr => ?_; simp (disch := omega) only [RA, ↓reduceIte, Nat.reduceEqDiff, RD]; refine hKr _ _ ?_; clear hKr Kr; (try simp only [RN, reduceIte]); try refine T_e rfl ?_
        refine hR _ _ ?_
        refine bodyQ_ret (by simp (disch := omega) only [RA, ↓reduceIte, Nat.reduceEqDiff, RD, resAll, resOf]; rfl) GhV.refl ?_; simp only [tup]
        rw [show decide (xs = ys) = false by simp; intro e; exact hc (by rw [e])] at hK
        exact hK
      have hee := Decidable.not_not.1 hc
      refine T_reg_k fun Kr hKr => ?_; simp (disch := omega) only [RA, ↓reduceIte, Nat.reduceEqDiff, RD, g5]; refine hKr _ _ ?_; clear hKr Kr
      have he' : ∀ j, j < i + 1 → el xs j = el ys j := fun j hj => by
        by_cases e : j = i
        · rw [e]; exact hee
        · exact he j (by omega)
      refine hN (xs.length - (i + 1)) _ _ _ _ (by omega) Gh.refl ⟨i + 1, by omega, rfl, he', ?_, ?_, ?_, rfl⟩
      any_goals (simp (disch := omega) only [RA, ↓reduceIte, Nat.reduceEqDiff, RD, RE, *] <;> rfl)
    · refine hX _ _ ?_
      have e : xs = ys := by
        apply List.ext_getElem hll
        intro j h1 h2
        have := he j (by omega)
        simpa [el, List.getD, h1, h2] using this
      rw [show decide (xs = ys) = true by simp [e]] at hK
      refine T_rseq fun Kr hKr => ?_; simp (disch := omega) only [RA, ↓reduceIte, Nat.reduceEqDiff, RD]; refine hKr _ _ ?_; clear hKr Kr; (try simp only [RN, reduceIte]); try refine T_e rfl ?_
      refine bodyQ_ret (by simp (disch := omega) only [RA, ↓reduceIte, Nat.reduceEqDiff, RD, resAll, resOf]; rfl) GhV.refl ?_; simp only [tup]
      exact hK
/-- Marks. -/
def mks (m n : Nat) : List Int := (List.range n).map fun i : Nat => ((m + i : Nat) : Int)
theorem mks_len {m n : Nat} : (mks m n).length = n := by simp [mks]
theorem mks_el {m n i : Nat} (h : i < n) : el (mks m n) i = ((m + i : Nat) : Int) := by simp [mks, el, List.getD, h]
def mkK (xs : List Int) (m : Nat) : Nat → List Int
  | 0 => xs
  | k + 1 => (mkK xs m k).set k ((m + k : Nat) : Int)
theorem mkK_len {xs : List Int} {m k : Nat} : (mkK xs m k).length = xs.length := by
  induction k with
  | zero => rfl
  | succ k ih => simp [mkK, ih]
theorem el_set {xs : List Int} {i j : Nat} {c : Int} : el (xs.set i c) j = if j = i ∧ i < xs.length then c else el xs j := by
  unfold el
  simp only [List.getD]
  rw [List.getElem?_set]
  by_cases h : i = j
  · subst h
    by_cases h2 : i < xs.length
    · simp [h2]
    · simp [h2]
  · rw [if_neg h, if_neg (fun e => h e.1.symm)]
theorem mkK_el {xs : List Int} {m k i : Nat} (hi : i < xs.length) : el (mkK xs m k) i = if i < k then ((m + i : Nat) : Int) else el xs i := by
  induction k with
  | zero => rfl
  | succ k ih =>
    rw [mkK, el_set, mkK_len, ih]
    by_cases e : i = k
    · subst e
      rw [if_pos ⟨rfl, hi⟩, if_pos (by omega)]
    · rw [if_neg (fun h => e h.1)]
      by_cases h : i < k
      · rw [if_pos h, if_pos (by omega)]
      · rw [if_neg h, if_neg (by omega)]
theorem mkK_all {xs : List Int} {m : Nat} : mkK xs m xs.length = mks m xs.length := by
  apply List.ext_getElem (by rw [mkK_len, mks_len])
  intro i h1 h2
  rw [mkK_len] at h1
  have a := mkK_el (xs := xs) (m := m) (k := xs.length) h1
  rw [if_pos h1] at a
  have b := mks_el (m := m) h1
  rw [← b] at a
  have e1 : i < (mkK xs m xs.length).length := by rw [mkK_len]; exact h1
  have e2 : i < (mks m xs.length).length := by rw [mks_len]; exact h1
  simpa [el, List.getD, e1, e2] using a
theorem markInt64S_one {xs : List Int} {m : Nat} {K : Value → BH → Prop} (hl : xs.length + m < 4611686018427387904) (hK : K (I ((m + xs.length : Nat) : Int)) [some ((mks m xs.length).map I)]) :
    CallX false F_laws_markInt64S [S 0 0 xs.length 1, I m] [some (xs.map I)] K := by
  refine CallX_body Γ_laws_markInt64S ?_; simp only [A_laws_markInt64S, T_aiff]
  refine T_rseq fun Kr hKr => ?_; simp (disch := omega) only [RA, ↓reduceIte, Nat.reduceEqDiff, RD]; refine hKr _ _ ?_; clear hKr Kr; (try simp only [RN, reduceIte]); try refine T_e rfl ?_
  refine T_rseq fun Kr hKr => ?_; simp (disch := omega) only [RA, ↓reduceIte, Nat.reduceEqDiff, RD]; refine hKr _ _ ?_; clear hKr Kr; (try simp only [RN, reduceIte]); try refine T_e rfl ?_
  refine T_wloop (fun d f H' => ∃ i, i ≤ xs.length ∧ d = xs.length - i ∧ f 0 = S 0 0 xs.length 1 ∧ f 1 = I ((m + i : Nat) : Int) ∧ f 5 = I i ∧ H' = [some ((mkK xs m i).map I)]) (xs.length) ?_ ?_
  · refine ⟨_, _, Gh.refl, 0, by omega, by omega, ?_, ?_, ?_, rfl⟩
    any_goals (simp (disch := omega) only [RA, ↓reduceIte, Nat.reduceEqDiff, RD, RE, *] <;> rfl)
  · rintro d f H' R ⟨i, hi, rfl, g0, g1, g5, rfl⟩ hN hX hR hE
    simp only [A_laws_markInt64S.l0, T_aiff]
    have hml := @mkK_len xs m i
    refine T_rseq fun Kr hKr => ?_; simp (disch := omega) only [RA, ↓reduceIte, Nat.reduceEqDiff, RD, g0, g5]; refine hKr _ _ ?_; clear hKr Kr; (try simp only [RN, reduceIte]); try refine T_e rfl ?_
    refine T_csplit (p := i < xs.length) (by simp only [RA, ↓reduceIte, Nat.reduceEqDiff] <;> rfl) (by (try simp only [RB]) <;> first | done | exact Iff.rfl | omega | simp) (fun hc => ?_) (fun hc => ?_) <;> (try simp only [RN, reduceIte]) <;> (try refine T_e rfl ?_)
    · have e : ((m + i : Nat) : Int) + 1 = ((m + (i + 1) : Nat) : Int) := by omega
      (first | refine T_bfree rfl ?_ | refine T_bfree' rfl ?_); (try simp only [RN, reduceIte]); try refine T_e rfl ?_
      refine T_rseq fun Kr hKr => ?_; simp (disch := omega) only [RA, ↓reduceIte, Nat.reduceEqDiff, RD, g0, g1, g5, hml]; refine hKr _ _ ?_; clear hKr Kr; (try simp only [RN, reduceIte]); try refine T_e rfl ?_
      refine T_rseq fun Kr hKr => ?_; simp (disch := omega) only [RA, ↓reduceIte, Nat.reduceEqDiff, RD, g1, e]; refine hKr _ _ ?_; clear hKr Kr; (try simp only [RN, reduceIte]); try refine T_e rfl ?_
      refine T_reg_k fun Kr hKr => ?_; simp (disch := omega) only [RA, ↓reduceIte, Nat.reduceEqDiff, RD, g5]; refine hKr _ _ ?_; clear hKr Kr
      refine hN (xs.length - (i + 1)) _ _ _ _ (by omega) Gh.refl ⟨i + 1, by omega, rfl, ?_, ?_, ?_, rfl⟩
      any_goals (simp (disch := omega) only [RA, ↓reduceIte, Nat.reduceEqDiff, RD, RE, *] <;> rfl)
    · refine hX _ _ ?_
      obtain rfl : i = xs.length := by omega
      rw [mkK_all]
      refine T_rseq fun Kr hKr => ?_; simp (disch := omega) only [RA, ↓reduceIte, Nat.reduceEqDiff, RD, g1]; refine hKr _ _ ?_; clear hKr Kr; (try simp only [RN, reduceIte]); try refine T_e rfl ?_
      refine bodyQ_ret (by simp (disch := omega) only [RA, ↓reduceIte, Nat.reduceEqDiff, RD, resAll, resOf]; rfl) GhV.refl ?_; simp only [tup]
      exact hK
theorem markInt64S_own {xs : List Int} {m i : Nat} {H : BH} {K : Value → BH → Prop} (hb : blk H i = some (xs.map I)) (hl : xs.length + m < 4611686018427387904) (hK : K (I ((m + xs.length : Nat) : Int)) (H.set i (some ((mks m xs.length).map I)))) :
    CallX false F_laws_markInt64S [S i 0 xs.length 1, I m] H K := by
  refine call1 hb (NNL.map fun _ => .int) ?_
  have e : ([S i 0 xs.length 1, I m] : List Value).map (ren [i]) = [S 0 0 xs.length 1, I m] := by simp [ren, ren1, nm]
  rw [e]
  refine markInt64S_one hl ⟨.int, HN.cons (NNL.map fun _ => .int) HN.nil, ?_⟩
  exact hK
end Go.Bm

/- The cycles of a permutation: the plain law. -/
set_option linter.unusedVariables false
set_option linter.unusedSimpArgs false
namespace Go.Bm
open Go Go.Am

/-- The numbers met, the cycle as far as it was walked, where one stands. -/
abbrev WS := List Bool × List Nat × Nat
def wstep (p : List Nat) (st : WS) : WS := if bl st.1 st.2.2 = true then st else (st.1.set st.2.2 true, st.2.1 ++ [st.2.2], nl p st.2.2)
def wk (p : List Nat) (st : WS) : Nat → WS
  | 0 => st
  | j + 1 => wstep p (wk p st j)
theorem wk_stop {p : List Nat} {st : WS} {i : Nat} (h : bl (wk p st i).1 (wk p st i).2.2 = true) : ∀ j, i ≤ j → wk p st j = wk p st i
  | 0, hj => by
    obtain rfl : i = 0 := by omega
    rfl
  | j + 1, hj => by
    rcases Nat.lt_or_ge j i with h1 | h1
    · obtain rfl : i = j + 1 := by omega
      rfl
    · have ih := wk_stop h j h1
      simp only [wk]
      rw [ih, wstep, if_pos h]
/-- The numbers met and the cycles, once the first k numbers have been looked at. -/
def cycK (p : List Nat) (m : Nat) : Nat → List Bool × List (List Nat)
  | 0 => (List.replicate 16 false, [])
  | k + 1 => if bl (cycK p m k).1 k = true then cycK p m k else ((wk p ((cycK p m k).1, [], k) m).1, (cycK p m k).2 ++ [(wk p ((cycK p m k).1, [], k) m).2.1])
structure IsCyc (p : List Nat) (n : Nat) (c : List Nat) : Prop where
  ne : 0 < c.length
  lt : ∀ x ∈ c, x < n
  nod : c.Nodup
  step : ∀ j, j + 1 < c.length → nl p (nl c j) = nl c (j + 1)
  last : nl p (nl c (c.length - 1)) = nl c 0
  least : ∀ x ∈ c, nl c 0 ≤ x
theorem nl_mem {c : List Nat} {j : Nat} (h : j < c.length) : nl c j ∈ c := by simp [nl, List.getD, h]
theorem mem_nl {c : List Nat} {x : Nat} (h : x ∈ c) : ∃ j, j < c.length ∧ nl c j = x := by
  obtain ⟨i, hi, rfl⟩ := List.mem_iff_getElem.1 h
  exact ⟨i, hi, by simp [nl, List.getD, hi]⟩
theorem nod_nl {c : List Nat} (h : c.Nodup) {i j : Nat} (hi : i < c.length) (hj : j < c.length) (he : nl c i = nl c j) : i = j := by
  have h' := List.pairwise_iff_getElem.1 h
  have e : ∀ k (hk : k < c.length), nl c k = c[k] := fun k hk => by simp [nl, List.getD, hk]
  rcases Nat.lt_trichotomy i j with h1 | h1 | h1
  · exact absurd (by rw [← e i hi, ← e j hj]; exact he) (h' i j hi hj h1)
  · exact h1
  · exact absurd (by rw [← e i hi, ← e j hj]; exact he.symm) (h' j i hj hi h1)
theorem Perm.inj {p : List Nat} {n : Nat} (h : Perm p n) {i j : Nat} (hi : i < n) (hj : j < n) (he : nl p i = nl p j) : i = j := by
  have h1 := h.1
  rcases Nat.lt_trichotomy i j with h2 | h2 | h2
  · exact absurd he (((h.2 j (by omega)).2 (by omega)).2 i h2)
  · exact h2
  · exact absurd he.symm (((h.2 i (by omega)).2 (by omega)).2 j h2)
/-- What stands of the walk. -/
structure WkOk (p : List Nat) (n : Nat) (s0 : List Bool) (i : Nat) (j : Nat) (st : WS) : Prop where
  len : st.1.length = 16
  at_ : st.2.2 < n
  new : bl s0 st.2.2 = false
  mem : ∀ x, bl st.1 x = true ↔ bl s0 x = true ∨ x ∈ st.2.1
  lt : ∀ x ∈ st.2.1, x < n ∧ bl s0 x = false
  nod : st.2.1.Nodup
  cnt : st.1.count true = s0.count true + st.2.1.length
  step : ∀ t, t + 1 < st.2.1.length → nl p (nl st.2.1 t) = nl st.2.1 (t + 1)
  st0 : st.2.1 = [] → st.2.2 = i
  st1 : 0 < st.2.1.length → nl st.2.1 0 = i ∧ nl p (nl st.2.1 (st.2.1.length - 1)) = st.2.2
  go : st.2.1.length = j ∨ bl st.1 st.2.2 = true
theorem WkOk.wk {p : List Nat} {n : Nat} (hp : Perm p n) {s0 : List Bool} {i : Nat} (hl : s0.length = 16) (hi : i < n) (h0 : bl s0 i = false) (hinv : ∀ x, x < n → bl s0 (nl p x) = bl s0 x) : ∀ j, WkOk p n s0 i j (wk p (s0, [], i) j)
  | 0 => by
    refine ⟨hl, hi, h0, fun x => ?_, ?_, ?_, ?_, ?_, ?_, ?_, ?_⟩ <;> simp [Bm.wk]
  | j + 1 => by
    have ih := WkOk.wk hp hl hi h0 hinv j
    have hn := hp.1
    simp only [Bm.wk]
    generalize Bm.wk p (s0, [], i) j = st at ih ⊢
    obtain ⟨s, l, k⟩ := st
    have h1 := ih.len
    have h2 := ih.at_
    have h3 := ih.new
    have h4 := ih.mem
    have h5 := ih.lt
    have h6 := ih.nod
    have h7 := ih.cnt
    have h8 := ih.step
    have h9 := ih.st0
    have h10 := ih.st1
    have h11 := ih.go
    simp only at h1 h2 h3 h4 h5 h6 h7 h8 h9 h10 h11
    unfold wstep
    by_cases hb : bl s k = true
    · rw [if_pos hb]
      exact ⟨h1, h2, h3, h4, h5, h6, h7, h8, h9, h10, .inr hb⟩
    · rw [if_neg hb]
      have hkl : k ∉ l := fun h => hb ((h4 k).2 (.inr h))
      have hk : (l ++ [k]).length = l.length + 1 := by simp
      refine ⟨by simpa using h1, hp.lt h2, by rw [hinv k h2]; exact h3, fun x => ?_, fun x hx => ?_, ?_, ?_, fun t ht => ?_, fun h => by simp at h, fun _ => ?_, .inl ?_⟩
      · show bl (s.set k true) x = true ↔ bl s0 x = true ∨ x ∈ l ++ [k]
        rw [bl_set]
        by_cases e : x = k
        · subst e
          rw [if_pos ⟨rfl, by omega⟩]
          simp
        · rw [if_neg (fun h => e h.1), h4 x]
          simp [e]
      · rcases List.mem_append.1 hx with h | h
        · exact h5 x h
        · rw [List.mem_singleton] at h
          subst h
          exact ⟨h2, h3⟩
      · show (l ++ [k]).Nodup
        rw [List.nodup_append]
        exact ⟨h6, by simp, fun a ha b hb => by
          rw [List.mem_singleton] at hb
          subst hb
          exact fun e => hkl (e ▸ ha)⟩
      · show (s.set k true).count true = s0.count true + (l ++ [k]).length
        rw [count_set_true (by omega) (by simpa using hb), h7, hk]
        omega
      · show nl p (nl (l ++ [k]) t) = nl (l ++ [k]) (t + 1)
        have ht : t + 1 < l.length + 1 := by rw [← hk]; exact ht
        rw [nl_append, nl_append, if_pos (by omega)]
        by_cases e : t + 1 < l.length
        · rw [if_pos e]
          exact h8 t e
        · rw [if_neg e, nl_single (by omega), show t = l.length - 1 by omega]
          exact (h10 (by omega)).2
      · show nl (l ++ [k]) 0 = i ∧ nl p (nl (l ++ [k]) ((l ++ [k]).length - 1)) = nl p k
        rw [hk, Nat.add_sub_cancel]
        refine ⟨?_, by rw [nl_append, if_neg (by omega), Nat.sub_self]; rfl⟩
        rw [nl_append]
        split
        · rename_i h
          exact (h10 h).1
        · rename_i h
          have : l = [] := List.eq_nil_of_length_eq_zero (by omega)
          subst this
          exact h9 rfl
      · show (l ++ [k]).length = j + 1
        rw [hk]
        rcases h11 with h | h
        · omega
        · exact absurd h hb
theorem WkOk.done {p : List Nat} {n m : Nat} (hm : m = 16) (hp : Perm p n) {s0 : List Bool} {i : Nat} (hl : s0.length = 16) (hi : i < n) (h0 : bl s0 i = false) (hinv : ∀ x, x < n → bl s0 (nl p x) = bl s0 x) :
    bl (Bm.wk p (s0, [], i) m).1 (Bm.wk p (s0, [], i) m).2.2 = true := by
  have h16 := WkOk.wk hp hl hi h0 hinv m
  have h17 := WkOk.wk hp hl hi h0 hinv (m + 1)
  rcases h16.go with h | h
  · cases hb : bl (Bm.wk p (s0, [], i) m).1 (Bm.wk p (s0, [], i) m).2.2 with
    | true => rfl
    | false =>
      have e : Bm.wk p (s0, [], i) (m + 1) = wstep p (Bm.wk p (s0, [], i) m) := rfl
      rw [wstep, if_neg (by simp [hb])] at e
      have h1 := h17.cnt
      have h2 := List.count_le_length (a := true) (l := (Bm.wk p (s0, [], i) (m + 1)).1)
      have h3 := h17.len
      have h4 : (Bm.wk p (s0, [], i) (m + 1)).2.1.length = m + 1 := by rw [e]; simp [h]
      omega
  · exact h
theorem WkOk.cyc {p : List Nat} {n m : Nat} (hm : m = 16) (hp : Perm p n) {s0 : List Bool} {i : Nat} (hl : s0.length = 16) (hi : i < n) (h0 : bl s0 i = false) (hinv : ∀ x, x < n → bl s0 (nl p x) = bl s0 x) (hup : ∀ x, x < i → bl s0 x = true) :
    IsCyc p n (Bm.wk p (s0, [], i) m).2.1 ∧ nl (Bm.wk p (s0, [], i) m).2.1 0 = i := by
  have h := WkOk.wk hp hl hi h0 hinv m
  have hd := WkOk.done hm hp hl hi h0 hinv
  generalize Bm.wk p (s0, [], i) m = st at h hd ⊢
  obtain ⟨s, l, k⟩ := st
  have hkl : k ∈ l := by
    rcases (h.mem k).1 hd with h1 | h1
    · exact absurd h1 (by have := h.new; simp only at this; simp [this])
    · exact h1
  have hne : 0 < l.length := List.length_pos_of_mem hkl
  obtain ⟨hz, hla⟩ := h.st1 hne
  simp only at hz hla
  obtain ⟨j, hj, hje⟩ := mem_nl hkl
  have hlt : ∀ t, t < l.length → nl l t < n := fun t ht => (h.lt _ (nl_mem ht)).1
  have hj0 : j = 0 := by
    rcases Nat.eq_zero_or_pos j with h1 | h1
    · exact h1
    · exfalso
      have h2 := h.step (j - 1) (by show j - 1 + 1 < l.length; omega)
      simp only at h2
      rw [show j - 1 + 1 = j by omega, hje, ← hla] at h2
      have h3 := hp.inj (hlt _ (by omega)) (hlt _ (by omega)) h2
      have h4 := nod_nl h.nod (by show j - 1 < l.length; omega) (by show l.length - 1 < l.length; omega) h3
      omega
  subst hj0
  refine ⟨⟨hne, fun x hx => (h.lt x hx).1, h.nod, h.step, by rw [hla]; exact hje.symm, fun x hx => ?_⟩, hz⟩
  rw [hz]
  rcases Nat.lt_or_ge x i with h1 | h1
  · have h2 := (h.lt x hx).2
    rw [hup x h1] at h2
    cases h2
  · exact h1
theorem IsCyc.fwd {p : List Nat} {n : Nat} {c : List Nat} (h : IsCyc p n c) {x : Nat} (hx : x ∈ c) : nl p x ∈ c := by
  obtain ⟨j, hj, rfl⟩ := mem_nl hx
  by_cases e : j + 1 < c.length
  · rw [h.step j e]
    exact nl_mem e
  · rw [show j = c.length - 1 by omega, h.last]
    exact nl_mem h.ne
theorem IsCyc.bwd {p : List Nat} {n : Nat} {c : List Nat} (hp : Perm p n) (h : IsCyc p n c) {x : Nat} (hx : x < n) (hm : nl p x ∈ c) : x ∈ c := by
  obtain ⟨j, hj, hje⟩ := mem_nl hm
  by_cases e : j = 0
  · subst e
    rw [← h.last] at hje
    have := hp.inj (h.lt _ (nl_mem (by have := h.ne; omega))) hx hje
    rw [← this]
    exact nl_mem (by have := h.ne; omega)
  · have h2 := h.step (j - 1) (by omega)
    rw [show j - 1 + 1 = j by omega, hje] at h2
    have := hp.inj (h.lt _ (nl_mem (by omega))) hx h2
    rw [← this]
    exact nl_mem (by omega)
structure CycOk (p : List Nat) (n i : Nat) (sc : List Bool × List (List Nat)) : Prop where
  len : sc.1.length = 16
  mem : ∀ x, bl sc.1 x = true ↔ ∃ c ∈ sc.2, x ∈ c
  inv : ∀ x, x < n → bl sc.1 (nl p x) = bl sc.1 x
  cyc : ∀ c ∈ sc.2, IsCyc p n c
  cnt : sc.1.count true = sc.2.flatten.length
  nod : sc.2.flatten.Nodup
  upto : ∀ x, x < i → bl sc.1 x = true
  hd : ∀ c ∈ sc.2, nl c 0 < i
  num : sc.2.length ≤ i
theorem CycOk.all {p : List Nat} {n m : Nat} (hm : m = 16) (hp : Perm p n) : ∀ {i : Nat}, i ≤ n → CycOk p n i (cycK p m i)
  | 0, _ => by
    have h0 : ∀ x, bl (List.replicate 16 false) x = false := fun x => bl_rep
    rw [show cycK p m 0 = (List.replicate 16 false, []) from rfl]
    have hno : ∀ c : List Nat, c ∉ ([] : List (List Nat)) := fun c => List.not_mem_nil
    have hc0 : (List.replicate 16 false).count true = 0 := rfl
    exact ⟨List.length_replicate, fun x => ⟨fun h => absurd ((h0 x).symm.trans h) Bool.false_ne_true, fun ⟨c, h, _⟩ => absurd h (hno c)⟩, fun x _ => (h0 _).trans (h0 x).symm, fun c h => absurd h (hno c), hc0, List.nodup_nil, fun x h => absurd h (Nat.not_lt_zero x), fun c h => absurd h (hno c), Nat.le_refl _⟩
  | i + 1, hi => by
    have ih := CycOk.all hm hp (i := i) (by omega)
    have hn := hp.1
    simp only [cycK]
    generalize cycK p m i = sc at ih ⊢
    by_cases hb : bl sc.1 i = true
    · rw [if_pos hb]
      exact ⟨ih.len, ih.mem, ih.inv, ih.cyc, ih.cnt, ih.nod, fun x hx => by
        by_cases e : x = i
        · rw [e]; exact hb
        · exact ih.upto x (by omega), fun c hc => by have := ih.hd c hc; omega, by have := ih.num; omega⟩
    · rw [if_neg hb]
      have h0 : bl sc.1 i = false := by simpa using hb
      have hw := WkOk.wk hp ih.len (show i < n by omega) h0 ih.inv m
      obtain ⟨hc, hz⟩ := WkOk.cyc hm hp ih.len (show i < n by omega) h0 ih.inv ih.upto
      generalize Bm.wk p (sc.1, [], i) m = st at hw hc hz ⊢
      obtain ⟨s, l, k⟩ := st
      have hm := hw.mem
      have hlt := hw.lt
      have hwc := hw.cnt
      simp only at hc hz hm hlt hwc ⊢
      have hil : i ∈ l := by rw [← hz]; exact nl_mem hc.ne
      refine ⟨hw.len, fun x => ?_, fun x hx => ?_, fun c hc' => ?_, ?_, ?_, fun x hx => ?_, fun c hc' => ?_, by simp; exact ih.num⟩
      · show bl s x = true ↔ _
        rw [hm x, ih.mem x]
        simp only [List.mem_append, List.mem_singleton]
        constructor
        · rintro (⟨c, h1, h2⟩ | h)
          · exact ⟨c, .inl h1, h2⟩
          · exact ⟨l, .inr rfl, h⟩
        · rintro ⟨c, h1 | rfl, h2⟩
          · exact .inl ⟨c, h1, h2⟩
          · exact .inr h2
      · show bl s (nl p x) = bl s x
        have key : bl s (nl p x) = true ↔ bl s x = true := by
          rw [hm, hm, ih.inv x hx]
          constructor
          · rintro (h | h)
            · exact .inl h
            · exact .inr (hc.bwd hp hx h)
          · rintro (h | h)
            · exact .inl h
            · exact .inr (hc.fwd h)
        exact Bool.eq_iff_iff.2 key
      · rcases List.mem_append.1 hc' with h | h
        · exact ih.cyc c h
        · rw [List.mem_singleton] at h
          subst h
          exact hc
      · show s.count true = (sc.2 ++ [l]).flatten.length
        rw [hwc, ih.cnt]
        simp
      · show (sc.2 ++ [l]).flatten.Nodup
        rw [List.flatten_append, List.nodup_append]
        refine ⟨ih.nod, by simpa using hw.nod, fun a ha b hb' => ?_⟩
        have hb'' : b ∈ l := by simpa using hb'
        rintro rfl
        obtain ⟨c, h1, h2⟩ := List.mem_flatten.1 ha
        have h3 := (ih.mem a).2 ⟨c, h1, h2⟩
        rw [(hlt a hb'').2] at h3
        cases h3
      · show bl s x = true
        rw [hm]
        by_cases e : x = i
        · rw [e]; exact .inr hil
        · exact .inl (ih.upto x (by omega))
      · rcases List.mem_append.1 hc' with h | h
        · have := ih.hd c h; omega
        · rw [List.mem_singleton] at h
          subst h
          omega
def cyc (p : List Nat) (n : Nat) : List (List Nat) := (cycK p 16 n).2
section
variable {p : List Nat} {n : Nat}
theorem cyc_at (hp : Perm p n) {x : Nat} (hx : x < n) : ∃ c ∈ cyc p n, x ∈ c := ((CycOk.all rfl hp (Nat.le_refl n)).mem x).1 ((CycOk.all rfl hp (Nat.le_refl n)).upto x hx)
theorem cyc_is (hp : Perm p n) {c : List Nat} (h : c ∈ cyc p n) : IsCyc p n c := (CycOk.all rfl hp (Nat.le_refl n)).cyc c h
theorem cyc_num (hp : Perm p n) : (cyc p n).length ≤ n := (CycOk.all rfl hp (Nat.le_refl n)).num
theorem cyc_len (hp : Perm p n) {c : List Nat} (h : c ∈ cyc p n) : 1 ≤ c.length ∧ c.length ≤ n := by
  have hc := cyc_is hp h
  refine ⟨hc.ne, ?_⟩
  have : ∀ (m : Nat) (c : List Nat), c.Nodup → (∀ x ∈ c, x < m) → c.length ≤ m := by
    intro m
    induction m with
    | zero =>
      intro c _ hc
      cases c with
      | nil => simp
      | cons a c => exact absurd (hc a (by simp)) (by omega)
    | succ m ih =>
      intro c hn hc
      have h1 := ih (c.erase m) (hn.erase m) fun x hx => by
        have h2 := hc x (List.mem_of_mem_erase hx)
        have h3 : x ≠ m := fun e => by
          subst e
          exact (List.Nodup.not_mem_erase hn) hx
        omega
      have h4 := List.length_erase (a := m) (l := c)
      split at h4 <;> omega
  exact this n c hc.nod hc.lt
end
end Go.Bm

