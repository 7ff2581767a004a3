/- DpP, Dp7a, DpQ, DpCb, DpV, DpVa, DpDa, DpCc, DpCd, DpDg -/
import Derived.Test.YtbfhlajbjfahiaaDpG0
import Derived.Test.YtbfhlajbjfahiaaDpG1
/- Sorting: the whole. -/
set_option linter.unusedVariables false
set_option linter.unusedSimpArgs false
namespace Go.Bm
open Go Go.Am

section
variable {k : Nat} {Q : Ex → Fr → BH → Prop} {f : Fr} {H : BH}
theorem T_mid {a rest : ACode} (P : Fr → BH → Prop) (h1 : ∀ R : Ex → Fr → BH → Prop, (∀ f' H', P f' H' → R .normal f' H') → (∀ f' H', Q .ret f' H' → R .ret f' H') → (∀ i f' H', Q (.exit i) f' H' → R (.exit i) f' H') → T k a R f H) (h2 : ∀ f' H', P f' H' → T k rest Q f' H') : T k (.seq a rest) Q f H :=
  T_seq (h1 (thenQ k rest Q) (fun _ _ h => h2 _ _ h) (fun _ _ h => h) (fun _ _ _ h => h))
end
/-- All pairs are in order but for those within a part. -/
def Od (a b a' b' : Nat) (q : List Int) : Prop := ∀ x y, a ≤ x → x < y → y < b → ¬ (a' ≤ x ∧ y < b') → el q x ≤ el q y
/-- What stands ahead of a part is not above it. -/
def Pre (a b : Nat) (q : List Int) : Prop := 0 < a → ∀ x, a ≤ x → x < b → el q (a - 1) ≤ el q x
section
variable {a b a' b' m : Nat} {q r : List Int}
theorem Od.sg (h : Od a b a' b' q) (ha : a ≤ a') (hb : b' ≤ b) (k : Sg a' b' q r) : Od a b a' b' r := by
  intro x y h1 h2 h3 h4
  by_cases hx : a' ≤ x ∧ x < b'
  · obtain ⟨x', x1, x2, x3⟩ := k.src x hx.1 hx.2
    rw [x3, k.out y (by omega)]
    exact h x' y (by omega) (by omega) h3 (by omega)
  · rw [k.out x (by omega)]
    by_cases hy : a' ≤ y ∧ y < b'
    · obtain ⟨y', y1, y2, y3⟩ := k.src y hy.1 hy.2
      rw [y3]
      exact h x y' h1 (by omega) (by omega) (by omega)
    · rw [k.out y (by omega)]
      exact h x y h1 h2 h3 h4
theorem Pre.sg (h : Pre a' b' q) (k : Sg a' b' q r) : Pre a' b' r := fun h0 x h1 h2 => by
  obtain ⟨x', x1, x2, x3⟩ := k.src x h1 h2
  rw [x3, k.out (a' - 1) (by omega)]
  exact h h0 x' x1 x2
theorem Od.left (h : Od a b a' b' q) (ha : a ≤ a') (hb : b' ≤ b) (h1 : a' ≤ m) (h2 : m < b') (hl : ∀ x, a' ≤ x → x < m → el q x ≤ el q m) (hr : ∀ x, m < x → x < b' → el q m ≤ el q x) (k : Sg a' m q r) (hs : Srt a' m r) : Od a b (m + 1) b' r := by
  intro x y k1 k2 k3 k4
  by_cases hb2 : a' ≤ x ∧ y < b'
  · have em : el r m = el q m := k.out m (by omega)
    have hlow : ∀ z, a' ≤ z → z < m → el r z ≤ el q m := fun z z1 z2 => by
      obtain ⟨z', w1, w2, w3⟩ := k.src z z1 z2
      rw [w3]
      exact hl z' w1 w2
    have hup : ∀ z, m < z → z < b' → el q m ≤ el r z := fun z z1 z2 => by
      rw [k.out z (by omega)]
      exact hr z z1 z2
    rcases Nat.lt_trichotomy y m with hy | hy | hy
    · exact hs x y hb2.1 (by omega) hy
    · subst hy
      rw [em]
      exact hlow x hb2.1 k2
    · have h9 := hup y hy hb2.2
      rcases Nat.lt_or_ge x m with hx | hx
      · exact Int.le_trans (hlow x hb2.1 hx) h9
      · obtain rfl : x = m := by omega
        rw [em]
        exact h9
  · exact h.sg ha hb (k.mono (by omega) (by omega)) x y k1 k2 k3 hb2
theorem Od.right (h : Od a b a' b' q) (ha : a ≤ a') (hb : b' ≤ b) (h1 : a' ≤ m) (h2 : m < b') (hl : ∀ x, a' ≤ x → x < m → el q x ≤ el q m) (hr : ∀ x, m < x → x < b' → el q m ≤ el q x) (k : Sg (m + 1) b' q r) (hs : Srt (m + 1) b' r) : Od a b a' m r := by
  intro x y k1 k2 k3 k4
  by_cases hb2 : a' ≤ x ∧ y < b'
  · have em : el r m = el q m := k.out m (by omega)
    have hlow : ∀ z, a' ≤ z → z < m → el r z ≤ el q m := fun z z1 z2 => by
      rw [k.out z (by omega)]
      exact hl z z1 z2
    have hup : ∀ z, m < z → z < b' → el q m ≤ el r z := fun z z1 z2 => by
      obtain ⟨z', w1, w2, w3⟩ := k.src z (by omega) z2
      rw [w3]
      exact hr z' (by omega) w2
    rcases Nat.lt_trichotomy x m with hx | hx | hx
    · have h9 := hlow x hb2.1 hx
      rcases Nat.lt_or_ge m y with hy | hy
      · exact Int.le_trans h9 (hup y hy hb2.2)
      · obtain rfl : y = m := by omega
        rw [em]
        exact h9
    · subst hx
      rw [em]
      exact hup y k2 hb2.2
    · exact hs x y (by omega) (by omega) hb2.2
  · exact h.sg ha hb (k.mono (by omega) (by omega)) x y k1 k2 k3 hb2
theorem Od.done (h : Od a b a' b' q) (ha : a ≤ a') (hb : b' ≤ b) (hs : Srt a' b' q) : Srt a b q := fun x y h1 h2 h3 => by
  rcases Nat.lt_or_ge x y with hx | hx
  · by_cases hc : a' ≤ x ∧ y < b'
    · exact hs x y hc.1 h2 hc.2
    · exact h x y h1 hx h3 hc
  · obtain rfl : x = y := by omega
    exact Int.le_refl _
end
set_option maxRecDepth 20000 in
theorem pdqsort_spec : ∀ (N : Nat) {p : List Int} {a b lim : Nat} {K : Value → BH → Prop}, p.length ≤ 1000 → b ≤ p.length → a ≤ b → b - a < N → b ≤ a + 16 → b - a ≤ lim + 12 → lim ≤ 1000 → Pre a b p → (∀ q, Sg a b p q → Srt a b q → K (.tuple ⟨[]⟩) [some (q.map I)]) →
    CallX false F_slices_pdqsortOrdered_int64 [S 0 0 p.length 1, I a, I b, I lim] [some (p.map I)] K
  | 0, _, _, _, _, _, _, _, _, h, _, _, _, _, _ => by omega
  | N + 1, p, a, b, lim, K, hpl, hb, hab, hN0, h16, hlim, hlm, hpre, hK => by
    have ih := fun {p : List Int} {a b lim : Nat} {K : Value → BH → Prop} => @pdqsort_spec N p a b lim K
    refine CallX_body Γ_slices_pdqsortOrdered_int64 ?_
    simp only [A_slices_pdqsortOrdered_int64, T_aiff]
    refine T_rseq fun Kr hKr => ?_
    simp (disch := omega) only [RA, ↓reduceIte, Nat.reduceEqDiff, Nat.reduceBEq, Nat.reduceSub, Nat.reduceAdd, Nat.reduceMul, Nat.reduceLT, Nat.reduceLeDiff, Int.reduceLE, Int.reduceLT, Int.reduceEq, Int.reduceNeg, Int.reduceToNat, Int.reduceMul, Int.reduceAdd, Int.reduceSub, Int.reduceBEq, Int.reduceBNe, reduceCtorEq, RD]
    refine hKr _ _ ?_
    clear hKr Kr
    try simp only [RN, reduceIte]
    try refine T_e rfl ?_
    refine T_rseq fun Kr hKr => ?_
    simp (disch := omega) only [RA, ↓reduceIte, Nat.reduceEqDiff, Nat.reduceBEq, Nat.reduceSub, Nat.reduceAdd, Nat.reduceMul, Nat.reduceLT, Nat.reduceLeDiff, Int.reduceLE, Int.reduceLT, Int.reduceEq, Int.reduceNeg, Int.reduceToNat, Int.reduceMul, Int.reduceAdd, Int.reduceSub, Int.reduceBEq, Int.reduceBNe, reduceCtorEq, RD]
    refine hKr _ _ ?_
    clear hKr Kr
    try simp only [RN, reduceIte]
    try refine T_e rfl ?_
    refine T_tail ?_
    refine T_wloop (fun m f H' => ∃ (q : List Int) (a' b' lim : Nat) (wb wp : Bool), Sg a b p q ∧ a ≤ a' ∧ a' ≤ b' ∧ b' ≤ b ∧ Od a b a' b' q ∧ Pre a' b' q ∧ b' - a' ≤ lim + 12 ∧ lim ≤ 1000 ∧ m = b' - a' ∧ f 0 = S 0 0 p.length 1 ∧ f 1 = I a' ∧ f 2 = I b' ∧ f 3 = I lim ∧ f 8 = .bool wb ∧ f 9 = .bool wp ∧ H' = [some (q.map I)]) (b - a) ?_ ?_
    · refine ⟨_, _, Gh.refl, p, a, b, lim, true, true, .refl, by omega, by omega, by omega, fun x y h1 h2 h3 h4 => absurd ⟨h1, h3⟩ h4, hpre, hlim, hlm, rfl, ?_, ?_, ?_, ?_, ?_, ?_, rfl⟩
      any_goals (simp (disch := omega) only [RA, ↓reduceIte, Nat.reduceEqDiff, RD, RE, *] <;> rfl)
    · clear hlim hlm hpre
      rintro m f H' R ⟨q, a', b', lim, wb, wp, hq, h1, h2, h3, hod, hpre, hlim, hlm, rfl, g0, g1, g2, g3, g8, g9, rfl⟩ hN hX hR hE
      simp only [A_slices_pdqsortOrdered_int64.l0, T_aiff]
      refine T_block ?_
      try simp only [RN, reduceIte]
      try refine T_e rfl ?_
      obtain ⟨l, hl⟩ : ∃ l, l = b' - a' := ⟨_, rfl⟩
      have hbl : (b' : Int) - (a' : Int) = (l : Int) := by omega
      have hql := hq.len
      refine T_rseq fun Kr hKr => ?_
      simp (disch := omega) only [RA, ↓reduceIte, Nat.reduceEqDiff, RD, g1, g2, hbl]
      refine hKr _ _ ?_
      clear hKr Kr
      try simp only [RN, reduceIte]
      try refine T_e rfl ?_
      refine T_rseq fun Kr hKr => ?_
      simp (disch := omega) only [RA, ↓reduceIte, Nat.reduceEqDiff, Nat.reduceBEq, Nat.reduceSub, Nat.reduceAdd, Nat.reduceMul, Nat.reduceLT, Nat.reduceLeDiff, Int.reduceLE, Int.reduceLT, Int.reduceEq, Int.reduceNeg, Int.reduceToNat, Int.reduceMul, Int.reduceAdd, Int.reduceSub, Int.reduceBEq, Int.reduceBNe, reduceCtorEq, RD]
      refine hKr _ _ ?_
      clear hKr Kr
      try simp only [RN, reduceIte]
      try refine T_e rfl ?_
      refine T_csplit (p := l ≤ 12) (by simp only [RA, ↓reduceIte, Nat.reduceEqDiff] <;> rfl) (by (try simp only [RB]) <;> first | done | exact Iff.rfl | omega | simp) (fun hc => ?_) (fun hc => ?_) <;> (try simp only [RN, reduceIte]) <;> (try refine T_e rfl ?_)
      · refine T_rseq fun Kr hKr => ?_
        simp (disch := omega) only [RA, ↓reduceIte, Nat.reduceEqDiff, RD, g0, g1, g2]
        rw [← hql]
        refine insertionSort_spec (by omega) (by omega) h2 ?_
        intro r hr hs
        simp (disch := omega) only [RA, ↓reduceIte, Nat.reduceEqDiff, RD]
        refine hKr _ _ ?_
        clear hKr Kr
        try simp only [blkQ, thenQ, loopQ]
        try simp only [RN, reduceIte]
        try refine T_e rfl ?_
        simp only [blkQ, thenQ, loopQ, if_true]
        refine hR _ _ ?_
        refine bodyQ_ret (by simp (disch := omega) only [RA, ↓reduceIte, Nat.reduceEqDiff, RD, resAll, resOf]; rfl) GhV.refl ?_
        simp only [tup]
        exact hK r (hq.trans (hr.mono h1 h3)) ((hod.sg h1 h3 hr).done h1 h3 hs)
      refine T_rseq fun Kr hKr => ?_
      simp (disch := omega) only [RA, ↓reduceIte, Nat.reduceEqDiff, RD, g3]
      refine hKr _ _ ?_
      clear hKr Kr
      try simp only [RN, reduceIte]
      try refine T_e rfl ?_
      refine T_cseq (t := false) (by simp (disch := omega) only [RA, ↓reduceIte, Nat.reduceEqDiff, RD]) ?_
      try simp only [RN, reduceIte]
      try refine T_e rfl ?_
      refine T_rseq fun Kr hKr => ?_
      simp (disch := omega) only [RA, ↓reduceIte, Nat.reduceEqDiff, RD, g8]
      refine hKr _ _ ?_
      clear hKr Kr
      try simp only [RN, reduceIte]
      try refine T_e rfl ?_
      refine T_mid (fun f H' => ∃ (q : List Int) (lim' : Nat), Sg a b p q ∧ Od a b a' b' q ∧ Pre a' b' q ∧ l ≤ lim' + 13 ∧ lim' ≤ 1000 ∧ f 0 = S 0 0 p.length 1 ∧ f 1 = I a' ∧ f 2 = I b' ∧ f 3 = I lim' ∧ f 8 = .bool wb ∧ f 9 = .bool wp ∧ f 10 = I l ∧ H' = [some (q.map I)]) ?_ ?_
      · intro R1 hR1 hR2 hR3
        cases wb
        · refine T_cond (t := true) (by simp (disch := omega) only [RA, ↓reduceIte, Nat.reduceEqDiff, RD]) ?_
          try simp only [RN, reduceIte]
          try refine T_e rfl ?_
          refine T_rseq fun Kr hKr => ?_
          simp (disch := omega) only [RA, ↓reduceIte, Nat.reduceEqDiff, RD, g0, g1, g2]
          rw [← hql]
          refine breakPatterns_spec (by omega) (by omega) (by omega) (by omega) ?_
          intro r hr
          simp (disch := omega) only [RA, ↓reduceIte, Nat.reduceEqDiff, RD]
          refine hKr _ _ ?_
          clear hKr Kr
          try simp only [blkQ, thenQ, loopQ]
          try simp only [RN, reduceIte]
          try refine T_e rfl ?_
          have hl1 : (lim : Int) - 1 = ((lim - 1 : Nat) : Int) := by omega
          have hrl := hr.len
          refine T_reg_k fun Kr hKr => ?_
          simp (disch := omega) only [RA, ↓reduceIte, Nat.reduceEqDiff, RD, g3, hl1]
          refine hKr _ _ ?_
          clear hKr Kr
          refine hR1 _ _ ⟨r, lim - 1, hq.trans (hr.mono h1 h3), hod.sg h1 h3 hr, hpre.sg hr, by omega, by omega, ?_, ?_, ?_, ?_, ?_, ?_, ?_, rfl⟩
          any_goals (simp (disch := omega) only [RA, ↓reduceIte, Nat.reduceEqDiff, RD, RE, *] <;> rfl)
        · refine T_cond (t := false) (by simp (disch := omega) only [RA, ↓reduceIte, Nat.reduceEqDiff, RD]) ?_
          try simp only [RN, reduceIte]
          try refine T_e rfl ?_
          refine hR1 _ _ ⟨q, lim, hq, hod, hpre, by omega, by omega, ?_, ?_, ?_, ?_, ?_, ?_, ?_, rfl⟩
          any_goals (simp (disch := omega) only [RA, ↓reduceIte, Nat.reduceEqDiff, RD, RE, *] <;> rfl)
      clear hq hql hod hpre g0 g1 g2 g3 g8 g9 hlim hlm lim q
      rintro f H' ⟨q, lim, hq, hod, hpre, hlim, hlm, g0, g1, g2, g3, g8, g9, g10, rfl⟩
      have hql := hq.len
      try simp only [RN, reduceIte]
      try refine T_e rfl ?_
      refine T_rseq fun Kr hKr => ?_
      simp (disch := omega) only [RA, ↓reduceIte, Nat.reduceEqDiff, RD, g0, g1, g2]
      rw [← hql]
      refine choosePivot_spec (by omega) (by omega) (by omega) (by omega) ?_
      intro piv h hp1 hp2
      simp (disch := omega) only [RA, ↓reduceIte, Nat.reduceEqDiff, RD]
      refine hKr _ _ ?_
      clear hKr Kr
      try simp only [blkQ, thenQ, loopQ]
      try simp only [RN, reduceIte]
      try refine T_e rfl ?_
      refine T_rseq fun Kr hKr => ?_
      simp (disch := omega) only [RA, ↓reduceIte, Nat.reduceEqDiff, Nat.reduceBEq, Nat.reduceSub, Nat.reduceAdd, Nat.reduceMul, Nat.reduceLT, Nat.reduceLeDiff, Int.reduceLE, Int.reduceLT, Int.reduceEq, Int.reduceNeg, Int.reduceToNat, Int.reduceMul, Int.reduceAdd, Int.reduceSub, Int.reduceBEq, Int.reduceBNe, reduceCtorEq, RD]
      refine hKr _ _ ?_
      clear hKr Kr
      try simp only [RN, reduceIte]
      try refine T_e rfl ?_
      refine T_mid (fun f H' => ∃ (q : List Int) (piv : Nat) (h : Int), a' ≤ piv ∧ piv < b' ∧ Sg a b p q ∧ Od a b a' b' q ∧ Pre a' b' q ∧ f 0 = S 0 0 p.length 1 ∧ f 1 = I a' ∧ f 2 = I b' ∧ f 3 = I lim ∧ f 8 = .bool wb ∧ f 9 = .bool wp ∧ f 10 = I l ∧ f 11 = I piv ∧ f 12 = I h ∧ H' = [some (q.map I)]) ?_ ?_
      · intro R1 hR1 hR2 hR3
        refine T_csplit1 (p := h = 2) (by simp only [RA, ↓reduceIte, Nat.reduceEqDiff] <;> rfl) (by (try simp only [RB]) <;> first | done | exact Iff.rfl | omega | simp) (fun hc => ?_) (fun hc => ?_) <;> (try simp only [RN, reduceIte]) <;> (try refine T_e rfl ?_)
        · refine T_rseq fun Kr hKr => ?_
          simp (disch := omega) only [RA, ↓reduceIte, Nat.reduceEqDiff, RD, g0, g1, g2]
          rw [← hql]
          refine reverseRange_spec (by omega) (by omega) (by omega) ?_
          intro r hr
          simp (disch := omega) only [RA, ↓reduceIte, Nat.reduceEqDiff, RD]
          refine hKr _ _ ?_
          clear hKr Kr
          try simp only [blkQ, thenQ, loopQ]
          try simp only [RN, reduceIte]
          try refine T_e rfl ?_
          have hpv : (b' : Int) - 1 - ((piv : Int) - (a' : Int)) = ((b' - 1 - (piv - a') : Nat) : Int) := by omega
          have hrl := hr.len
          refine T_rseq fun Kr hKr => ?_
          simp (disch := omega) only [RA, ↓reduceIte, Nat.reduceEqDiff, RD, g1, g2, hpv]
          refine hKr _ _ ?_
          clear hKr Kr
          try simp only [RN, reduceIte]
          try refine T_e rfl ?_
          refine T_reg_k fun Kr hKr => ?_
          simp (disch := omega) only [RA, ↓reduceIte, Nat.reduceEqDiff, RD]
          refine hKr _ _ ?_
          clear hKr Kr
          refine hR1 _ _ ⟨r, b' - 1 - (piv - a'), 1, by omega, by omega, hq.trans (hr.mono h1 h3), hod.sg h1 h3 hr, hpre.sg hr, ?_, ?_, ?_, ?_, ?_, ?_, ?_, ?_, ?_, rfl⟩
          any_goals (simp (disch := omega) only [RA, ↓reduceIte, Nat.reduceEqDiff, RD, RE, *] <;> rfl)
        · refine hR1 _ _ ⟨q, piv, h, hp1, hp2, hq, hod, hpre, ?_, ?_, ?_, ?_, ?_, ?_, ?_, ?_, ?_, rfl⟩
          any_goals (simp (disch := omega) only [RA, ↓reduceIte, Nat.reduceEqDiff, RD, RE, *] <;> rfl)
      clear hq hql hod hpre g0 g1 g2 g3 g8 g9 g10 hp1 hp2 piv h q
      rintro f H' ⟨q, piv, h, hp1, hp2, hq, hod, hpre, g0, g1, g2, g3, g8, g9, g10, g11, g12, rfl⟩
      have hql := hq.len
      try simp only [RN, reduceIte]
      try refine T_e rfl ?_
      have hpart : ∀ f', f' 0 = S 0 0 p.length 1 → f' 1 = I a' → f' 2 = I b' → f' 3 = I lim → f' 9 = .bool wp → f' 10 = I l → f' 11 = I piv → f' 8 = .bool wb →
          ∀ R1 : Ex → Fr → BH → Prop, (∀ f' H', (f' 0 = S 0 0 p.length 1 ∧ f' 1 = I a' ∧ f' 2 = I b' ∧ f' 3 = I lim ∧ f' 8 = .bool wb ∧ f' 9 = .bool wp ∧ f' 10 = I l ∧ f' 11 = I piv ∧ H' = [some (q.map I)]) → R1 .normal f' H') → (∀ f' H', bodyQ 1 [] K .ret f' H' → R1 .ret f' H') →
          T 1 (.seq A_slices_pdqsortOrdered_int64.r16 (.cond (.t 72) .ret .skip)) R1 f' [some (q.map I)] := by
        intro f' g0 g1 g2 g3 g9 g10 g11 g8 R1 hR1 hR2
        refine T_rseq fun Kr hKr => ?_
        simp (disch := omega) only [RA, ↓reduceIte, Nat.reduceEqDiff, RD, g0, g1, g2]
        rw [← hql]
        refine partialInsertionSort_spec (by omega) (by omega) (by omega) (by omega) ?_
        intro r hr
        simp (disch := omega) only [RA, ↓reduceIte, Nat.reduceEqDiff, RD]
        refine hKr _ _ ?_
        clear hKr Kr
        try simp only [blkQ, thenQ, loopQ]
        try simp only [RN, reduceIte]
        try refine T_e rfl ?_
        cases r
        · refine T_cond (t := false) (by simp (disch := omega) only [RA, ↓reduceIte, Nat.reduceEqDiff, RD]) ?_
          try simp only [RN, reduceIte]
          try refine T_e rfl ?_
          refine hR1 _ _ ⟨?_, ?_, ?_, ?_, ?_, ?_, ?_, ?_, rfl⟩
          any_goals (simp (disch := omega) only [RA, ↓reduceIte, Nat.reduceEqDiff, RD, RE, *] <;> rfl)
        · refine T_cond (t := true) (by simp (disch := omega) only [RA, ↓reduceIte, Nat.reduceEqDiff, RD]) ?_
          try simp only [RN, reduceIte]
          try refine T_e rfl ?_
          refine hR2 _ _ ?_
          refine bodyQ_ret (by simp (disch := omega) only [RA, ↓reduceIte, Nat.reduceEqDiff, RD, resAll, resOf]; rfl) GhV.refl ?_
          simp only [tup]
          exact hK q hq (hod.done h1 h3 (hr rfl))
      have hpart2 : ∀ f' (t : Bool), f' 0 = S 0 0 p.length 1 → f' 1 = I a' → f' 2 = I b' → f' 3 = I lim → f' 9 = .bool wp → f' 10 = I l → f' 11 = I piv → f' 8 = .bool wb → f' 68 = .bool t →
          ∀ R1 : Ex → Fr → BH → Prop, (∀ f' H', (f' 0 = S 0 0 p.length 1 ∧ f' 1 = I a' ∧ f' 2 = I b' ∧ f' 3 = I lim ∧ f' 8 = .bool wb ∧ f' 9 = .bool wp ∧ f' 10 = I l ∧ f' 11 = I piv ∧ H' = [some (q.map I)]) → R1 .normal f' H') → (∀ f' H', bodyQ 1 [] K .ret f' H' → R1 .ret f' H') →
          T 1 (.cond (.t 68) (.seq A_slices_pdqsortOrdered_int64.r16 (.cond (.t 72) .ret .skip)) .skip) R1 f' [some (q.map I)] := by
        intro f' t g0 g1 g2 g3 g9 g10 g11 g8 g68 R1 hR1 hR2
        cases t
        · refine T_cond (t := false) (by simp (disch := omega) only [RA, ↓reduceIte, Nat.reduceEqDiff, RD, g68]) ?_
          try simp only [RN, reduceIte]
          try refine T_e rfl ?_
          exact hR1 _ _ ⟨g0, g1, g2, g3, g8, g9, g10, g11, rfl⟩
        · refine T_cond (t := true) g68 ?_
          exact hpart _ g0 g1 g2 g3 g9 g10 g11 g8 R1 hR1 hR2
      refine T_mid (fun f H' => ∃ t : Bool, f 0 = S 0 0 p.length 1 ∧ f 1 = I a' ∧ f 2 = I b' ∧ f 3 = I lim ∧ f 8 = .bool wb ∧ f 9 = .bool wp ∧ f 10 = I l ∧ f 11 = I piv ∧ f 68 = .bool t ∧ H' = [some (q.map I)]) ?_ ?_
      · intro R1 hR1 hR2 hR3
        cases wb
        · refine T_reg_k fun Kr hKr => ?_
          simp (disch := omega) only [RA, ↓reduceIte, Nat.reduceEqDiff, RD, g8]
          refine hKr _ _ ?_
          clear hKr Kr
          refine hR1 _ _ ⟨false, ?_, ?_, ?_, ?_, ?_, ?_, ?_, ?_, ?_, rfl⟩
          any_goals (simp (disch := omega) only [RA, ↓reduceIte, Nat.reduceEqDiff, RD, RE, *] <;> rfl)
        · cases wp
          · refine T_reg_k fun Kr hKr => ?_
            simp (disch := omega) only [RA, ↓reduceIte, Nat.reduceEqDiff, RD, g8, g9]
            refine hKr _ _ ?_
            clear hKr Kr
            refine hR1 _ _ ⟨false, ?_, ?_, ?_, ?_, ?_, ?_, ?_, ?_, ?_, rfl⟩
            any_goals (simp (disch := omega) only [RA, ↓reduceIte, Nat.reduceEqDiff, RD, RE, *] <;> rfl)
          · refine T_reg_k fun Kr hKr => ?_
            simp (disch := omega) only [RA, ↓reduceIte, Nat.reduceEqDiff, RD, g8, g9, g12]
            refine hKr _ _ ?_
            clear hKr Kr
            refine hR1 _ _ ⟨decide (h = 1), ?_, ?_, ?_, ?_, ?_, ?_, ?_, ?_, ?_, rfl⟩
            any_goals (simp (disch := omega) only [RA, ↓reduceIte, Nat.reduceEqDiff, RD, RE, *] <;> rfl)
      clear g0 g1 g2 g3 g8 g9 g10 g11 g12
      rintro f H' ⟨t, g0, g1, g2, g3, g8, g9, g10, g11, g68, rfl⟩
      refine T_mid (fun f H' => f 0 = S 0 0 p.length 1 ∧ f 1 = I a' ∧ f 2 = I b' ∧ f 3 = I lim ∧ f 8 = .bool wb ∧ f 9 = .bool wp ∧ f 10 = I l ∧ f 11 = I piv ∧ H' = [some (q.map I)]) ?_ ?_
      · intro R1 hR1 hR2 hR3
        exact hpart2 f t g0 g1 g2 g3 g9 g10 g11 g8 g68 R1 hR1 (fun f' H' h => hR2 _ _ (hR _ _ h))
      clear hpart hpart2 g0 g1 g2 g3 g8 g9 g10 g11 g68
      rintro f H' ⟨g0, g1, g2, g3, g8, g9, g10, g11, rfl⟩
      try simp only [RN, reduceIte]
      try refine T_e rfl ?_
      refine T_mid (fun f H' => ∃ t : Bool, (t = true → 0 < a' ∧ el q piv ≤ el q (a' - 1)) ∧ f 0 = S 0 0 p.length 1 ∧ f 1 = I a' ∧ f 2 = I b' ∧ f 3 = I lim ∧ f 8 = .bool wb ∧ f 9 = .bool wp ∧ f 10 = I l ∧ f 11 = I piv ∧ f 87 = .bool t ∧ H' = [some (q.map I)]) ?_ ?_
      · intro R1 hR1 hR2 hR3
        by_cases ha0 : 0 < a'
        · have hai : (a' : Int) - 1 = ((a' - 1 : Nat) : Int) := by omega
          refine T_reg_k fun Kr hKr => ?_
          simp (disch := omega) only [RA, ↓reduceIte, Nat.reduceEqDiff, RD, g0, g1, g11, ha0, hai, hql]
          refine Less_spec ?_
          simp (disch := omega) only [RA, ↓reduceIte, Nat.reduceEqDiff, RD]
          refine hKr _ _ ?_
          refine hR1 _ _ ⟨!decide (el q (a' - 1) < el q piv), fun h => ⟨ha0, by simpa using h⟩, ?_, ?_, ?_, ?_, ?_, ?_, ?_, ?_, ?_, rfl⟩
          any_goals (simp (disch := omega) only [RA, ↓reduceIte, Nat.reduceEqDiff, RD, RE, *] <;> rfl)
        · refine T_reg_k fun Kr hKr => ?_
          simp (disch := omega) only [RA, ↓reduceIte, Nat.reduceEqDiff, RD, g1, ha0]
          refine hKr _ _ ?_
          clear hKr Kr
          refine hR1 _ _ ⟨false, fun h => (by cases h), ?_, ?_, ?_, ?_, ?_, ?_, ?_, ?_, ?_, rfl⟩
          any_goals (simp (disch := omega) only [RA, ↓reduceIte, Nat.reduceEqDiff, RD, RE, *] <;> rfl)
      clear g0 g1 g2 g3 g8 g9 g10 g11
      rintro f H' ⟨t, ht, g0, g1, g2, g3, g8, g9, g10, g11, g87, rfl⟩
      by_cases htt : t = true
      · subst htt
        obtain ⟨ha0, hle⟩ := ht rfl
        refine T_cseq (t := true) (by simp (disch := omega) only [RA, ↓reduceIte, Nat.reduceEqDiff, RD, g87]) ?_
        try simp only [RN, reduceIte]
        try refine T_e rfl ?_
        refine T_rseq fun Kr hKr => ?_
        simp (disch := omega) only [RA, ↓reduceIte, Nat.reduceEqDiff, RD, g0, g1, g2, g11]
        rw [← hql]
        refine partitionEqual_spec (by omega) (by omega) hp1 hp2 (fun x x1 x2 => Int.le_trans hle (hpre ha0 x x1 x2)) ?_
        intro r mid hr hm1 hm2 hm3 hm4
        have hrl := hr.len
        simp (disch := omega) only [RA, ↓reduceIte, Nat.reduceEqDiff, RD]
        refine hKr _ _ ?_
        clear hKr Kr
        try simp only [blkQ, thenQ, loopQ]
        try simp only [RN, reduceIte]
        try refine T_e rfl ?_
        refine T_rseq fun Kr hKr => ?_
        simp (disch := omega) only [RA, ↓reduceIte, Nat.reduceEqDiff, Nat.reduceBEq, Nat.reduceSub, Nat.reduceAdd, Nat.reduceMul, Nat.reduceLT, Nat.reduceLeDiff, Int.reduceLE, Int.reduceLT, Int.reduceEq, Int.reduceNeg, Int.reduceToNat, Int.reduceMul, Int.reduceAdd, Int.reduceSub, Int.reduceBEq, Int.reduceBNe, reduceCtorEq, RD]
        refine hKr _ _ ?_
        clear hKr Kr
        try simp only [RN, reduceIte]
        try refine T_e rfl ?_
        refine hN (b' - mid) _ _ _ _ (by omega) Gh.refl ⟨r, mid, b', lim, wb, wp, hq.trans (hr.mono h1 h3), by omega, by omega, h3, ?_, fun _ x x1 x2 => (by rw [hm3 (mid - 1) (by omega) (by omega)]; exact hm4 x (by omega) x2), by omega, hlm, rfl, ?_, ?_, ?_, ?_, ?_, ?_, rfl⟩
        any_goals (simp (disch := omega) only [RA, ↓reduceIte, Nat.reduceEqDiff, RD, RE, *] <;> rfl)
        · intro x y k1 k2 k3 k4
          by_cases hb2 : a' ≤ x ∧ y < b'
          · rw [hm3 x hb2.1 (by omega)]
            exact hm4 y (by omega) hb2.2
          · exact hod.sg h1 h3 hr x y k1 k2 k3 hb2
      · have : t = false := by simpa using htt
        subst this
        refine T_cseq (t := false) (by simp (disch := omega) only [RA, ↓reduceIte, Nat.reduceEqDiff, RD, g87]) ?_
        try simp only [RN, reduceIte]
        try refine T_e rfl ?_
        refine T_rseq fun Kr hKr => ?_
        simp (disch := omega) only [RA, ↓reduceIte, Nat.reduceEqDiff, RD, g0, g1, g2, g11]
        rw [← hql]
        refine partition_spec (by omega) (by omega) hp1 hp2 ?_
        intro r mid al hr hm1 hm2 hm3 hm4
        have hrl := hr.len
        have hod' := hod.sg h1 h3 hr
        have hpre' := hpre.sg hr
        have e1 : (mid : Int) - (a' : Int) = ((mid - a' : Nat) : Int) := by omega
        have e2 : (b' : Int) - (mid : Int) = ((b' - mid : Nat) : Int) := by omega
        have e3 : (l : Int).tdiv 8 = ((l / 8 : Nat) : Int) := (Int.ofNat_tdiv l 8).symm
        have e4 : (mid : Int) + 1 = ((mid + 1 : Nat) : Int) := by omega
        have hdiv : l / 8 ≤ 16 := by omega
        simp (disch := omega) only [RA, ↓reduceIte, Nat.reduceEqDiff, RD]
        refine hKr _ _ ?_
        clear hKr Kr
        try simp only [blkQ, thenQ, loopQ]
        try simp only [RN, reduceIte]
        try refine T_e rfl ?_
        refine T_rseq fun Kr hKr => ?_
        simp (disch := omega) only [RA, ↓reduceIte, Nat.reduceEqDiff, Nat.reduceBEq, Nat.reduceSub, Nat.reduceAdd, Nat.reduceMul, Nat.reduceLT, Nat.reduceLeDiff, Int.reduceLE, Int.reduceLT, Int.reduceEq, Int.reduceNeg, Int.reduceToNat, Int.reduceMul, Int.reduceAdd, Int.reduceSub, Int.reduceBEq, Int.reduceBNe, reduceCtorEq, RD]
        refine hKr _ _ ?_
        clear hKr Kr
        try simp only [RN, reduceIte]
        try refine T_e rfl ?_
        refine T_rseq fun Kr hKr => ?_
        simp (disch := omega) only [RA, ↓reduceIte, Nat.reduceEqDiff, Nat.reduceBEq, Nat.reduceSub, Nat.reduceAdd, Nat.reduceMul, Nat.reduceLT, Nat.reduceLeDiff, Int.reduceLE, Int.reduceLT, Int.reduceEq, Int.reduceNeg, Int.reduceToNat, Int.reduceMul, Int.reduceAdd, Int.reduceSub, Int.reduceBEq, Int.reduceBNe, reduceCtorEq, RD, g1, g2, e1, e2]
        refine hKr _ _ ?_
        clear hKr Kr
        try simp only [RN, reduceIte]
        try refine T_e rfl ?_
        refine T_rseq fun Kr hKr => ?_
        simp (disch := omega) only [RA, ↓reduceIte, Nat.reduceEqDiff, Nat.reduceBEq, Nat.reduceSub, Nat.reduceAdd, Nat.reduceMul, Nat.reduceLT, Nat.reduceLeDiff, Int.reduceLE, Int.reduceLT, Int.reduceEq, Int.reduceNeg, Int.reduceToNat, Int.reduceMul, Int.reduceAdd, Int.reduceSub, Int.reduceBEq, Int.reduceBNe, reduceCtorEq, RD, g10, e3]
        refine hKr _ _ ?_
        clear hKr Kr
        try simp only [RN, reduceIte]
        try refine T_e rfl ?_
        refine T_rseq fun Kr hKr => ?_
        simp (disch := omega) only [RA, ↓reduceIte, Nat.reduceEqDiff, Nat.reduceBEq, Nat.reduceSub, Nat.reduceAdd, Nat.reduceMul, Nat.reduceLT, Nat.reduceLeDiff, Int.reduceLE, Int.reduceLT, Int.reduceEq, Int.reduceNeg, Int.reduceToNat, Int.reduceMul, Int.reduceAdd, Int.reduceSub, Int.reduceBEq, Int.reduceBNe, reduceCtorEq, RD]
        refine hKr _ _ ?_
        clear hKr Kr
        try simp only [RN, reduceIte]
        try refine T_e rfl ?_
        refine T_csplit1 (p := mid - a' < b' - mid) (by simp only [RA, ↓reduceIte, Nat.reduceEqDiff] <;> rfl) (by (try simp only [RB]) <;> first | done | exact Iff.rfl | omega | simp) (fun hc => ?_) (fun hc => ?_) <;> (try simp only [RN, reduceIte]) <;> (try refine T_e rfl ?_)
        · refine T_rseq fun Kr hKr => ?_
          simp (disch := omega) only [RA, ↓reduceIte, Nat.reduceEqDiff, RD]
          refine hKr _ _ ?_
          clear hKr Kr
          try simp only [RN, reduceIte]
          try refine T_e rfl ?_
          refine T_rseq fun Kr hKr => ?_
          simp (disch := omega) only [RA, ↓reduceIte, Nat.reduceEqDiff, RD, g0, g1, g3]
          rw [← hql, ← hrl]
          refine ih (by omega) (by omega) hm1 (by omega) (by omega) (by omega) hlm (fun h0 x x1 x2 => hpre' h0 x x1 (by omega)) ?_
          intro r2 hr2 hs2
          have hr2l := hr2.len
          simp (disch := omega) only [RA, ↓reduceIte, Nat.reduceEqDiff, RD]
          refine hKr _ _ ?_
          clear hKr Kr
          try simp only [blkQ, thenQ, loopQ]
          try simp only [RN, reduceIte]
          try refine T_e rfl ?_
          refine T_reg_k fun Kr hKr => ?_
          simp (disch := omega) only [RA, ↓reduceIte, Nat.reduceEqDiff, RD, e4]
          refine hKr _ _ ?_
          clear hKr Kr
          refine hN (b' - (mid + 1)) _ _ _ _ (by omega) Gh.refl ⟨r2, mid + 1, b', lim, decide (l / 8 ≤ mid - a'), al, (hq.trans (hr.mono h1 h3)).trans (hr2.mono h1 (by omega)), by omega, by omega, h3, hod'.left h1 h3 hm1 hm2 hm3 hm4 hr2 hs2, fun _ x x1 x2 => ?_, by omega, hlm, rfl, ?_, ?_, ?_, ?_, ?_, ?_, rfl⟩
          any_goals (simp (disch := omega) only [RA, ↓reduceIte, Nat.reduceEqDiff, RD, RE, *] <;> rfl)
          rw [Nat.add_sub_cancel, hr2.out mid (by omega), hr2.out x (by omega)]
          exact hm4 x (by omega) x2
        · refine T_rseq fun Kr hKr => ?_
          simp (disch := omega) only [RA, ↓reduceIte, Nat.reduceEqDiff, RD]
          refine hKr _ _ ?_
          clear hKr Kr
          try simp only [RN, reduceIte]
          try refine T_e rfl ?_
          refine T_rseq fun Kr hKr => ?_
          simp (disch := omega) only [RA, ↓reduceIte, Nat.reduceEqDiff, RD, g0, g2, g3, e4]
          rw [← hql, ← hrl]
          refine ih (by omega) (by omega) (by omega) (by omega) (by omega) (by omega) hlm (fun _ x x1 x2 => by rw [Nat.add_sub_cancel]; exact hm4 x (by omega) x2) ?_
          intro r2 hr2 hs2
          have hr2l := hr2.len
          simp (disch := omega) only [RA, ↓reduceIte, Nat.reduceEqDiff, RD]
          refine hKr _ _ ?_
          clear hKr Kr
          try simp only [blkQ, thenQ, loopQ]
          try simp only [RN, reduceIte]
          try refine T_e rfl ?_
          refine T_reg_k fun Kr hKr => ?_
          simp (disch := omega) only [RA, ↓reduceIte, Nat.reduceEqDiff, RD]
          refine hKr _ _ ?_
          clear hKr Kr
          refine hN (mid - a') _ _ _ _ (by omega) Gh.refl ⟨r2, a', mid, lim, decide (l / 8 ≤ b' - mid), al, (hq.trans (hr.mono h1 h3)).trans (hr2.mono (by omega) h3), by omega, by omega, by omega, hod'.right h1 h3 hm1 hm2 hm3 hm4 hr2 hs2, fun h0 x x1 x2 => ?_, by omega, hlm, rfl, ?_, ?_, ?_, ?_, ?_, ?_, rfl⟩
          any_goals (simp (disch := omega) only [RA, ↓reduceIte, Nat.reduceEqDiff, RD, RE, *] <;> rfl)
          rw [hr2.out (a' - 1) (by omega), hr2.out x (by omega)]
          exact hpre' h0 x x1 (by omega)
/-- Sorting in place. -/
theorem Sort_spec {p : List Int} {K : Value → BH → Prop} (hpl : p.length ≤ 16) (hK : ∀ q : List Int, q.Perm p → Srt 0 p.length q → K (.tuple ⟨[]⟩) [some (q.map I)]) :
    CallX false F_slices_Sort_int64_int64 [S 0 0 p.length 1] [some (p.map I)] K := by
  have hle := (lenOf_small p.length (by omega)).1
  have hlt := @lenOf_lt p.length
  refine CallX_body Γ_slices_Sort_int64_int64 ?_
  simp only [A_slices_Sort_int64_int64, T_aiff]
  refine T_rseq fun Kr hKr => ?_
  simp (disch := omega) only [RA, ↓reduceIte, Nat.reduceEqDiff, RD]
  refine hKr _ _ ?_
  clear hKr Kr
  try simp only [RN, reduceIte]
  try refine T_e rfl ?_
  refine T_reg_k fun Kr hKr => ?_
  simp (disch := omega) only [RA, ↓reduceIte, Nat.reduceEqDiff, RD, wu64]
  refine Len_spec (by omega) ?_
  simp (disch := omega) only [RA, ↓reduceIte, Nat.reduceEqDiff, RD]
  refine pdqsort_spec (p.length + 1) (a := 0) (b := p.length) (lim := lenOf p.length) (by omega) (Nat.le_refl _) (Nat.zero_le _) (by omega) (by omega) (by omega) (by omega) (fun h => by omega) ?_
  intro q hq hs
  simp (disch := omega) only [RA, ↓reduceIte, Nat.reduceEqDiff, RD]
  refine hKr _ _ ?_
  clear hKr Kr
  refine bodyQ_ret (by simp (disch := omega) only [RA, ↓reduceIte, Nat.reduceEqDiff, RD, resAll, resOf]; rfl) GhV.refl ?_
  simp only [tup]
  exact hK q hq.perm hs
end Go.Bm

/- Lists of numbers as cells. -/
set_option linter.unusedVariables false
set_option linter.unusedSimpArgs false
namespace Go.Bm
open Go Go.Am

abbrev N64 (n : Nat) : Value := .int .i64 (n : Int)
theorem getN_64 {p : List Nat} {k : Nat} (h : k < p.length) : getN none (p.map N64) k = some (N64 (nl p k)) := by
  simp [getN, h, nl, List.getD]
theorem app1_64 {H : BH} {b bytes cn : Nat} {xs : List Nat} {y : Nat} (h : (xs.length + 1) * bytes ≤ 140737488355328) : app1 (some [.int .i64 (y : Int)]) (some (xs.map N64)) H b xs.length bytes cn = some (S H.length 0 (xs.length + 1) 1, (H.set b none) ++ [some ((xs ++ [y]).map N64)]) := app1_g (g := N64) rfl h
theorem NNL_F8 {l : List Nat} : NNL (l.map N8) := NNL.map fun _ => .int
end Go.Bm

/- Lists in descending order. -/
set_option linter.unusedVariables false
set_option linter.unusedSimpArgs false
namespace Go.Bm
open Go Go.Am

def ofN (xs : List Nat) : List Int := xs.map fun n : Nat => (n : Int)
theorem map_N64 {xs : List Nat} : xs.map N64 = (ofN xs).map I := by simp [ofN, Function.comp_def]
theorem ofN_len {xs : List Nat} : (ofN xs).length = xs.length := by simp [ofN]
theorem el_ofN {xs : List Nat} {i : Nat} : el (ofN xs) i = (nl xs i : Int) := by
  simp only [el, ofN, nl, List.getD, List.getElem?_map]
  cases xs[i]? <;> rfl
/-- In descending order. -/
def Dsc (p : List Int) : Prop := ∀ i j, i ≤ j → j < p.length → el p j ≤ el p i
theorem Dsc.tail {a : Int} {p : List Int} (h : Dsc (a :: p)) : Dsc p := fun i j h1 h2 => by
  have := h (i + 1) (j + 1) (by omega) (by simp; omega)
  simpa [el, List.getD] using this
theorem Dsc.head {a : Int} {p : List Int} (h : Dsc (a :: p)) : ∀ x ∈ p, x ≤ a := fun x hx => by
  obtain ⟨i, hi, rfl⟩ := List.mem_iff_getElem.1 hx
  have := h 0 (i + 1) (by omega) (by simpa using hi)
  simpa [el, List.getD, hi] using this
/-- There is but one. -/
theorem Dsc.uniq : ∀ {p q : List Int}, Dsc p → Dsc q → p.Perm q → p = q
  | [], q, _, _, h => (List.nil_perm.1 h).symm
  | a :: p, [], _, _, h => by simp at h
  | a :: p, b :: q, hp, hq, h => by
    have hab : a = b := by
      have h1 : a ∈ b :: q := h.subset (by simp)
      have h2 : b ∈ a :: p := h.symm.subset (by simp)
      have h3 : a ≤ b := by
        rcases List.mem_cons.1 h1 with e | e
        · omega
        · exact hq.head a e
      have h4 : b ≤ a := by
        rcases List.mem_cons.1 h2 with e | e
        · omega
        · exact hp.head b e
      omega
    subst hab
    rw [Dsc.uniq hp.tail hq.tail (List.Perm.cons_inv h)]
theorem el_reverse {p : List Int} {i : Nat} (hi : i < p.length) : el p.reverse i = el p (p.length - 1 - i) := by
  simp only [el, List.getD]
  rw [List.getElem?_reverse (by omega)]
theorem descending_spec {p r : List Int} {K : Value → BH → Prop} (hpl : p.length ≤ 16) (hr : Dsc r) (hp : r.Perm p) (hK : K (S 0 0 p.length 1) [some (r.map I)]) :
    CallX false F_impl_descending [S 0 0 p.length 1] [some (p.map I)] K := by
  refine CallX_body Γ_impl_descending ?_
  simp only [A_impl_descending, T_aiff]
  refine T_rseq fun Kr hKr => ?_
  simp (disch := omega) only [RA, ↓reduceIte, Nat.reduceEqDiff, RD]
  refine hKr _ _ ?_
  clear hKr Kr
  try simp only [RN, reduceIte]
  try refine T_e rfl ?_
  refine T_rseq fun Kr hKr => ?_
  simp (disch := omega) only [RA, ↓reduceIte, Nat.reduceEqDiff, RD]
  refine Sort_spec hpl ?_
  intro q hq hs
  have hql : q.length = p.length := hq.length_eq
  simp (disch := omega) only [RA, ↓reduceIte, Nat.reduceEqDiff, RD]
  refine hKr _ _ ?_
  clear hKr Kr
  try simp only [blkQ, thenQ, loopQ]
  try simp only [RN, reduceIte]
  try refine T_e rfl ?_
  refine T_rseq fun Kr hKr => ?_
  simp (disch := omega) only [RA, ↓reduceIte, Nat.reduceEqDiff, RD]
  rw [← hql]
  refine Reverse_spec (by omega) ?_
  have e : q.reverse = r := by
    refine Dsc.uniq (fun i j h1 h2 => ?_) hr ((List.reverse_perm q).trans (hq.trans hp.symm))
    simp only [List.length_reverse] at h2
    rw [el_reverse h2, el_reverse (by omega)]
    exact hs _ _ (Nat.zero_le _) (by omega) (by omega)
  rw [e]
  simp (disch := omega) only [RA, ↓reduceIte, Nat.reduceEqDiff, RD]
  refine hKr _ _ ?_
  clear hKr Kr
  try simp only [blkQ, thenQ, loopQ]
  try simp only [RN, reduceIte]
  try refine T_e rfl ?_
  refine T_rseq fun Kr hKr => ?_
  simp (disch := omega) only [RA, ↓reduceIte, Nat.reduceEqDiff, RD]
  refine hKr _ _ ?_
  clear hKr Kr
  try simp only [RN, reduceIte]
  try refine T_e rfl ?_
  refine bodyQ_ret (by simp (disch := omega) only [RA, ↓reduceIte, Nat.reduceEqDiff, RD, resAll, resOf]; rfl) GhV.refl ?_
  simp only [tup]
  rw [hql]
  exact hK
end Go.Bm

/- Lists of numbers in descending order, made by counting. -/
set_option linter.unusedVariables false
set_option linter.unusedSimpArgs false
namespace Go.Bm
open Go Go.Am

/-- How many there are of each number, at the first i. -/
def cntT (zs : List Nat) : Nat → List Nat
  | 0 => List.replicate 17 0
  | i + 1 => (cntT zs i).set (nl zs i) (nl (cntT zs i) (nl zs i) + 1)
theorem cntT_len {zs : List Nat} {i : Nat} : (cntT zs i).length = 17 := by
  induction i with
  | zero => simp [cntT]
  | succ i ih => simp [cntT, ih]
theorem take_succ_nl' {zs : List Nat} {i : Nat} (h : i < zs.length) : zs.take (i + 1) = zs.take i ++ [nl zs i] := by
  rw [List.take_add_one]
  simp [nl, List.getD, h]
theorem cntT_nl {zs : List Nat} {i v : Nat} (hi : i ≤ zs.length) (hv : v < 17) : nl (cntT zs i) v = (zs.take i).count v := by
  induction i with
  | zero => simp only [cntT, nl_rep]; split <;> simp
  | succ i ih =>
    rw [take_succ_nl' (by omega), List.count_append, cntT, nl_set, ih (by omega)]
    by_cases h : v = nl zs i
    · subst h
      rw [if_pos ⟨rfl, by rw [cntT_len]; exact hv⟩, ih (by omega)]
      simp
    · rw [if_neg (fun e => h e.1)]
      have : ([nl zs i] : List Nat).count v = 0 := by
        rw [List.count_cons, List.count_nil]
        simp [show (nl zs i == v) = false by simpa using fun e => h e.symm]
      omega
/-- The numbers n, n - 1, .. as often as they come. -/
def typK (cn : List Nat) (n : Nat) : Nat → List Nat
  | 0 => []
  | k + 1 => typK cn n k ++ List.replicate (nl cn (n - k)) (n - k)
def typL (zs : List Nat) (n : Nat) : List Nat := typK (cntT zs zs.length) n n
theorem typK_count {cn : List Nat} {n v : Nat} : ∀ {k : Nat}, k ≤ n → (typK cn n k).count v = if n - k < v ∧ v ≤ n then nl cn v else 0
  | 0, _ => by
    rw [if_neg (by omega)]
    rfl
  | k + 1, hk => by
    rw [typK, List.count_append, typK_count (by omega), List.count_replicate]
    by_cases h : n - k = v
    · subst h
      rw [if_neg (by omega), if_pos (by simp), if_pos (by omega)]
      omega
    · have e : ((n - k) == v) = false := by simpa using h
      rw [e]
      simp only [Bool.false_eq_true, if_false, Nat.add_zero]
      by_cases h2 : n - k < v ∧ v ≤ n
      · rw [if_pos h2, if_pos (by omega)]
      · rw [if_neg h2, if_neg (by omega)]
theorem typK_ge {cn : List Nat} {n : Nat} : ∀ {k : Nat}, k ≤ n → ∀ z ∈ typK cn n k, n + 1 - k ≤ z
  | 0, _, z, hz => by simp [typK] at hz
  | k + 1, hk, z, hz => by
    simp only [typK, List.mem_append, List.mem_replicate] at hz
    rcases hz with hz | ⟨_, rfl⟩
    · have := typK_ge (k := k) (by omega) z hz
      omega
    · omega
theorem typK_dsc {cn : List Nat} {n : Nat} : ∀ {k : Nat}, k ≤ n → ∀ i j, i ≤ j → j < (typK cn n k).length → nl (typK cn n k) j ≤ nl (typK cn n k) i
  | 0, _, i, j, _, h => by simp [typK] at h
  | k + 1, hk, i, j, h1, h2 => by
    have ih := typK_dsc (cn := cn) (n := n) (k := k) (by omega)
    simp only [typK, List.length_append, List.length_replicate] at h2 ⊢
    simp only [nl_append]
    by_cases hj : j < (typK cn n k).length
    · rw [if_pos hj, if_pos (by omega)]
      exact ih i j h1 hj
    · rw [if_neg hj, nl_rep, if_pos (by omega)]
      by_cases hi : i < (typK cn n k).length
      · rw [if_pos hi]
        have : nl (typK cn n k) i ∈ typK cn n k := nl_mem hi
        have := typK_ge (by omega) _ this
        omega
      · rw [if_neg hi, nl_rep, if_pos (by omega)]
        exact Nat.le_refl _
theorem typL_dsc {zs : List Nat} {n : Nat} : Dsc (ofN (typL zs n)) := fun i j h1 h2 => by
  rw [ofN_len] at h2
  rw [el_ofN, el_ofN]
  exact Int.ofNat_le.2 (typK_dsc (Nat.le_refl _) i j h1 h2)
theorem typL_perm {zs : List Nat} {n : Nat} (hn : n ≤ 16) (h : ∀ z ∈ zs, 1 ≤ z ∧ z ≤ n) : (typL zs n).Perm zs := by
  rw [List.perm_iff_count]
  intro v
  rw [typL, typK_count (Nat.le_refl _), Nat.sub_self]
  by_cases hv : 0 < v ∧ v ≤ n
  · rw [if_pos hv, cntT_nl (Nat.le_refl _) (by omega), List.take_length]
  · rw [if_neg hv, List.count_eq_zero.2 fun hm => hv (by have := h v hm; omega)]
theorem typK_le {zs : List Nat} {n k : Nat} (hn : n ≤ 16) (hk : k ≤ n) (h : ∀ z ∈ zs, 1 ≤ z ∧ z ≤ n) : (typK (cntT zs zs.length) n k).length ≤ zs.length := by
  have hp := (typL_perm hn h).length_eq
  have : ∀ j, j ≤ n → (typK (cntT zs zs.length) n j).length ≤ (typK (cntT zs zs.length) n n).length := by
    intro j hj
    obtain ⟨d, rfl⟩ : ∃ d, n = j + d := ⟨n - j, by omega⟩
    have : ∀ m d, (typK (cntT zs zs.length) m j).length ≤ (typK (cntT zs zs.length) m (j + d)).length := by
      intro m d
      induction d with
      | zero => exact Nat.le_refl _
      | succ d ih =>
        rw [show j + (d + 1) = (j + d) + 1 by omega, typK, List.length_append]
        omega
    exact this _ d
  have := this k hk
  rw [typL] at hp
  omega
/-- The lengths of the cycles in descending order. -/
def lens (p : List Nat) (n : Nat) : List Nat := (cyc p n).map List.length
def typ (p : List Nat) (n : Nat) : List Nat := typL (lens p n) n
section
variable {p : List Nat} {n : Nat}
theorem lens_ok (hp : Perm p n) : ∀ z ∈ lens p n, 1 ≤ z ∧ z ≤ n := fun z hz => by
  obtain ⟨c, hc, rfl⟩ := List.mem_map.1 hz
  exact cyc_len hp hc
theorem lens_len (hp : Perm p n) : (lens p n).length ≤ 16 := by
  rw [lens, List.length_map]
  have := cyc_num hp
  have := hp.1
  omega
theorem typ_perm (hp : Perm p n) : (typ p n).Perm (lens p n) := typL_perm (by have := hp.1; omega) (lens_ok hp)
theorem typ_len (hp : Perm p n) : (typ p n).length = (cyc p n).length := by rw [(typ_perm hp).length_eq, lens, List.length_map]
end
end Go.Bm

/- Cycles in memory. -/
set_option linter.unusedVariables false
set_option linter.unusedSimpArgs false
namespace Go.Bm
open Go Go.Am

/-- A list of numbers that is only read. -/
abbrev FN (c : List Nat) : Value := Fz c.length 1 (c.map N64)
theorem NNL_FN {p : List (List Nat)} : NNL (p.map FN) := NNL.map fun _ => NN.fz
theorem NNL_64 {p : List Nat} : NNL (p.map N64) := NNL.map fun _ => NN.int
theorem app1_FN {H : BH} {b bytes cn : Nat} {xs : List (List Nat)} {y : List Nat} (h : (xs.length + 1) * bytes ≤ 140737488355328) : app1 (some [Fz y.length 1 (y.map N64)]) (some (xs.map FN)) H b xs.length bytes cn = some (S H.length 0 (xs.length + 1) 1, (H.set b none) ++ [some ((xs ++ [y]).map FN)]) := app1_g (g := FN) rfl h
theorem getN_FN {xs : List (List Nat)} {k : Nat} (h : k < xs.length) : getN none (xs.map FN) k = some (FN (xs.getD k [])) := by
  simp [getN, h, List.getD]
theorem frz_ne {i j o l e : Nat} {cs : List Value} (h : j ≠ i) : frz i cs (S j o l e) = S j o l e := by
  simp only [frz]
  rw [if_neg (fun k => h k.1)]
theorem RV : (type_of% @NNL_FN) ∧ (type_of% @NNL_64) := ⟨@NNL_FN, @NNL_64⟩
theorem cycles_run {p : List Nat} {n : Nat} (hb : By 16 p) (hp : Perm p n) :
    CallX false F_impl_cycles [PL p, I n] [] fun v H1 => ∃ j, v = S j 0 (cyc p n).length 1 ∧ blk H1 j = some ((cyc p n).map FN) := by
  have hlen := hb.len
  have hn := hp.1
  obtain ⟨M, hM⟩ : ∃ M, M = 16 := ⟨_, rfl⟩
  have hcyc : cyc p n = (cycK p M n).2 := by rw [hM]; rfl
  rw [hcyc]
  refine CallX_body Γ_impl_cycles ?_
  simp only [A_impl_cycles, T_aiff]
  refine T_rseq fun Kr hKr => ?_
  simp (disch := omega) only [RA, ↓reduceIte, Nat.reduceEqDiff, Nat.reduceBEq, Nat.reduceSub, Nat.reduceAdd, Nat.reduceMul, Nat.reduceLT, Nat.reduceLeDiff, Int.reduceLE, Int.reduceLT, Int.reduceEq, Int.reduceNeg, Int.reduceToNat, Int.reduceMul, Int.reduceAdd, Int.reduceSub, Int.reduceBEq, Int.reduceBNe, reduceCtorEq, RD]
  refine hKr _ _ ?_
  clear hKr Kr
  try simp only [RN, reduceIte]
  try refine T_e rfl ?_
  refine T_rseq fun Kr hKr => ?_
  simp (disch := omega) only [RA, ↓reduceIte, Nat.reduceEqDiff, Nat.reduceBEq, Nat.reduceSub, Nat.reduceAdd, Nat.reduceMul, Nat.reduceLT, Nat.reduceLeDiff, Int.reduceLE, Int.reduceLT, Int.reduceEq, Int.reduceNeg, Int.reduceToNat, Int.reduceMul, Int.reduceAdd, Int.reduceSub, Int.reduceBEq, Int.reduceBNe, reduceCtorEq, RD]
  refine hKr _ _ ?_
  clear hKr Kr
  try simp only [RN, reduceIte]
  try refine T_e rfl ?_
  refine T_rseq fun Kr hKr => ?_
  simp (disch := omega) only [RA, ↓reduceIte, Nat.reduceEqDiff, Nat.reduceBEq, Nat.reduceSub, Nat.reduceAdd, Nat.reduceMul, Nat.reduceLT, Nat.reduceLeDiff, Int.reduceLE, Int.reduceLT, Int.reduceEq, Int.reduceNeg, Int.reduceToNat, Int.reduceMul, Int.reduceAdd, Int.reduceSub, Int.reduceBEq, Int.reduceBNe, reduceCtorEq, RD]
  refine hKr _ _ ?_
  clear hKr Kr
  try simp only [RN, reduceIte]
  try refine T_e rfl ?_
  refine T_rseq fun Kr hKr => ?_
  simp (disch := omega) only [RA, ↓reduceIte, Nat.reduceEqDiff, Nat.reduceBEq, Nat.reduceSub, Nat.reduceAdd, Nat.reduceMul, Nat.reduceLT, Nat.reduceLeDiff, Int.reduceLE, Int.reduceLT, Int.reduceEq, Int.reduceNeg, Int.reduceToNat, Int.reduceMul, Int.reduceAdd, Int.reduceSub, Int.reduceBEq, Int.reduceBNe, reduceCtorEq, RD]
  refine hKr _ _ ?_
  clear hKr Kr
  try simp only [RN, reduceIte]
  try refine T_e rfl ?_
  refine T_wloop (fun m f H' => ∃ i sc, i ≤ n ∧ m = n - i ∧ sc = cycK p M i ∧ f 2 = P 0 0 ∧ f 5 = S 1 0 sc.2.length 1 ∧ f 6 = P 2 0 ∧ f 12 = I n ∧ f 13 = I i ∧ H' = [some (p.map N8), some (sc.2.map FN), some (sc.1.map B)]) (n) ?_ ?_
  · refine ⟨_, _, Gh.refl, 0, (List.replicate 16 false, []), by omega, by omega, rfl, ?_, ?_, ?_, ?_, ?_, by simp⟩
    any_goals (simp (disch := omega) only [RA, ↓reduceIte, Nat.reduceEqDiff, RD, RE, *] <;> rfl)
  · rintro m f H' R ⟨i, sc, hi, rfl, hsc, g2, g5, g6, g12, g13, rfl⟩ hN hX hR hE
    simp only [A_impl_cycles.l1, T_aiff]
    have hok := CycOk.all hM hp hi
    rw [← hsc] at hok
    have hsl := hok.len
    have hnum := hok.num
    refine T_rseq fun Kr hKr => ?_
    simp (disch := omega) only [RA, ↓reduceIte, Nat.reduceEqDiff, RD, g12, g13]
    refine hKr _ _ ?_
    clear hKr Kr
    try simp only [RN, reduceIte]
    try refine T_e rfl ?_
    refine T_csplit (p := i < n) (by simp only [RA, ↓reduceIte, Nat.reduceEqDiff] <;> rfl) (by (try simp only [RB]) <;> first | done | exact Iff.rfl | omega | simp) (fun hc => ?_) (fun hc => ?_) <;> (try simp only [RN, reduceIte]) <;> (try refine T_e rfl ?_)
    · have hnext : ∀ f' sc', f' 2 = P 0 0 → f' 5 = S 1 0 sc'.2.length 1 → f' 6 = P 2 0 → f' 12 = I n → f' 13 = I i → sc' = cycK p M (i + 1) → T 0 A_impl_cycles.r14 R f' [some (p.map N8), some (sc'.2.map FN), some (sc'.1.map B)] := by
        intro f' sc' g2 g5 g6 g12 g13 hs
        refine T_reg_k fun Kr hKr => ?_
        simp (disch := omega) only [RA, ↓reduceIte, Nat.reduceEqDiff, RD, g13]
        refine hKr _ _ ?_
        clear hKr Kr
        refine hN (n - (i + 1)) _ _ _ _ (by omega) Gh.refl ⟨i + 1, sc', by omega, rfl, hs, ?_, ?_, ?_, ?_, ?_, rfl⟩
        any_goals (simp (disch := omega) only [RA, ↓reduceIte, Nat.reduceEqDiff, RD, RE, *] <;> rfl)
      refine T_seq (T_block ?_)
      try simp only [RN, reduceIte]
      try refine T_e rfl ?_
      refine T_rseq fun Kr hKr => ?_
      simp (disch := omega) only [RA, ↓reduceIte, Nat.reduceEqDiff, RD, g13]
      refine hKr _ _ ?_
      clear hKr Kr
      try simp only [RN, reduceIte]
      try refine T_e rfl ?_
      refine T_rseq fun Kr hKr => ?_
      simp (disch := omega) only [RA, ↓reduceIte, Nat.reduceEqDiff, RD, g6, hsl]
      refine hKr _ _ ?_
      clear hKr Kr
      try simp only [RN, reduceIte]
      try refine T_e rfl ?_
      refine T_csplit (p := bl sc.1 i = true) (by simp only [RA, ↓reduceIte, Nat.reduceEqDiff] <;> rfl) (by (try simp only [RB]) <;> first | done | exact Iff.rfl | omega | simp) (fun hc => ?_) (fun hc => ?_) <;> (try simp only [RN, reduceIte]) <;> (try refine T_e rfl ?_)
      · simp only [blkQ, thenQ, loopQ, if_true]
        refine hnext _ sc ?_ ?_ ?_ ?_ ?_ (by rw [cycK, ← hsc, if_pos hc])
        any_goals (simp (disch := omega) only [RA, ↓reduceIte, Nat.reduceEqDiff, RD, RE, *] <;> rfl)
      · have h0 : bl sc.1 i = false := by simpa using hc
        have hin : i < n := by assumption
        have hdone := WkOk.done hM hp hsl hin h0 hok.inv
        refine T_rseq fun Kr hKr => ?_
        simp (disch := omega) only [RA, ↓reduceIte, Nat.reduceEqDiff, Nat.reduceBEq, Nat.reduceSub, Nat.reduceAdd, Nat.reduceMul, Nat.reduceLT, Nat.reduceLeDiff, Int.reduceLE, Int.reduceLT, Int.reduceEq, Int.reduceNeg, Int.reduceToNat, Int.reduceMul, Int.reduceAdd, Int.reduceSub, Int.reduceBEq, Int.reduceBNe, reduceCtorEq, RD]
        refine hKr _ _ ?_
        clear hKr Kr
        try simp only [RN, reduceIte]
        try refine T_e rfl ?_
        refine T_rseq fun Kr hKr => ?_
        simp (disch := omega) only [RA, ↓reduceIte, Nat.reduceEqDiff, Nat.reduceBEq, Nat.reduceSub, Nat.reduceAdd, Nat.reduceMul, Nat.reduceLT, Nat.reduceLeDiff, Int.reduceLE, Int.reduceLT, Int.reduceEq, Int.reduceNeg, Int.reduceToNat, Int.reduceMul, Int.reduceAdd, Int.reduceSub, Int.reduceBEq, Int.reduceBNe, reduceCtorEq, RD]
        refine hKr _ _ ?_
        clear hKr Kr
        try simp only [RN, reduceIte]
        try refine T_e rfl ?_
        refine T_wloop (fun m f H' => ∃ j st, j ≤ M ∧ m = M - j ∧ st = wk p (sc.1, [], i) j ∧ f 2 = P 0 0 ∧ f 5 = S 1 0 sc.2.length 1 ∧ f 6 = P 2 0 ∧ f 12 = I n ∧ f 13 = I i ∧ f 8 = S 3 0 st.2.1.length 1 ∧ f 9 = I st.2.2 ∧ H' = [some (p.map N8), some (sc.2.map FN), some (st.1.map B), some (st.2.1.map N64)]) (M) ?_ ?_
        · refine ⟨_, _, Gh.refl, 0, (sc.1, [], i), by omega, by omega, rfl, ?_, ?_, ?_, ?_, ?_, ?_, ?_, by simp⟩
          any_goals (simp (disch := omega) only [RA, ↓reduceIte, Nat.reduceEqDiff, RD, RE, *] <;> rfl)
        · clear g2 g5 g6 g12 g13
          rintro m f H' R1 ⟨j, st, hj, rfl, hst, g2, g5, g6, g12, g13, g8, g9, rfl⟩ hN1 hX1 hR1 hE1
          simp only [A_impl_cycles.l0, T_aiff]
          have hw := WkOk.wk hp hsl hin h0 hok.inv j
          have hstep : wk p (sc.1, [], i) (j + 1) = wstep p st := by rw [hst]; rfl
          have hstop : bl st.1 st.2.2 = true → wk p (sc.1, [], i) M = st := fun h => by
            rw [hst] at h ⊢
            exact wk_stop h M hj
          have hdj : j = M → bl st.1 st.2.2 = true := fun h => by
            rw [hst, h]
            exact hdone
          rw [← hst] at hw
          clear hst hdone
          obtain ⟨s, l, k⟩ := st
          simp only at g8 g9 hstop hdj hstep ⊢
          have hwl : s.length = 16 := hw.len
          have hwk : k < n := hw.at_
          have hpk := hp.lt hwk
          have hll : l.length ≤ 16 := by
            have h1 := hw.cnt
            have h2 := List.count_le_length (a := true) (l := s)
            simp only at h1
            omega
          refine T_rseq fun Kr hKr => ?_
          simp (disch := omega) only [RA, ↓reduceIte, Nat.reduceEqDiff, Nat.reduceBEq, Nat.reduceSub, Nat.reduceAdd, Nat.reduceMul, Nat.reduceLT, Nat.reduceLeDiff, Int.reduceLE, Int.reduceLT, Int.reduceEq, Int.reduceNeg, Int.reduceToNat, Int.reduceMul, Int.reduceAdd, Int.reduceSub, Int.reduceBEq, Int.reduceBNe, reduceCtorEq, RD, g6, g9, hwl]
          refine hKr _ _ ?_
          clear hKr Kr
          try simp only [RN, reduceIte]
          try refine T_e rfl ?_
          refine T_csplit (p := ¬ bl s k = true) (by simp only [RA, ↓reduceIte, Nat.reduceEqDiff, Nat.reduceBEq, Nat.reduceSub, Nat.reduceAdd, Nat.reduceMul, Nat.reduceLT, Nat.reduceLeDiff, Int.reduceLE, Int.reduceLT, Int.reduceEq, Int.reduceNeg, Int.reduceToNat, Int.reduceMul, Int.reduceAdd, Int.reduceSub, Int.reduceBEq, Int.reduceBNe, reduceCtorEq] <;> rfl) (by (try simp only [RB]) <;> first | done | exact Iff.rfl | omega | simp) (fun hc => ?_) (fun hc => ?_) <;> (try simp only [RN, reduceIte]) <;> (try refine T_e rfl ?_)
          · rw [wstep, if_neg hc] at hstep
            have hjM : j < M := by
              rcases Nat.lt_or_ge j M with h | h
              · exact h
              · exact absurd (hdj (by omega)) hc
            first | refine T_bfree rfl ?_ | refine T_bfree' rfl ?_
            try simp only [RN, reduceIte]
            try refine T_e rfl ?_
            refine T_rseq fun Kr hKr => ?_
            simp (disch := omega) only [RA, ↓reduceIte, Nat.reduceEqDiff, Nat.reduceBEq, Nat.reduceSub, Nat.reduceAdd, Nat.reduceMul, Nat.reduceLT, Nat.reduceLeDiff, Int.reduceLE, Int.reduceLT, Int.reduceEq, Int.reduceNeg, Int.reduceToNat, Int.reduceMul, Int.reduceAdd, Int.reduceSub, Int.reduceBEq, Int.reduceBNe, reduceCtorEq, RD, g6, g9, hwl]
            refine hKr _ _ ?_
            clear hKr Kr
            try simp only [RN, reduceIte]
            try refine T_e rfl ?_
            refine T_rseq fun Kr hKr => ?_
            simp (disch := omega) only [RA, ↓reduceIte, Nat.reduceEqDiff, Nat.reduceBEq, Nat.reduceSub, Nat.reduceAdd, Nat.reduceMul, Nat.reduceLT, Nat.reduceLeDiff, Int.reduceLE, Int.reduceLT, Int.reduceEq, Int.reduceNeg, Int.reduceToNat, Int.reduceMul, Int.reduceAdd, Int.reduceSub, Int.reduceBEq, Int.reduceBNe, reduceCtorEq, RD, g8, g9, app1_64]
            refine hKr _ _ ?_
            clear hKr Kr
            try simp only [RN, reduceIte]
            try refine T_e rfl ?_
            refine T_reg_k fun Kr hKr => ?_
            simp (disch := omega) only [RA, ↓reduceIte, Nat.reduceEqDiff, Nat.reduceBEq, Nat.reduceSub, Nat.reduceAdd, Nat.reduceMul, Nat.reduceLT, Nat.reduceLeDiff, Int.reduceLE, Int.reduceLT, Int.reduceEq, Int.reduceNeg, Int.reduceToNat, Int.reduceMul, Int.reduceAdd, Int.reduceSub, Int.reduceBEq, Int.reduceBNe, reduceCtorEq, RD, g2, g9]
            refine hKr _ _ ?_
            clear hKr Kr
            refine hN1 (M - (j + 1)) _ _ _ _ (by omega) (Gh.nrm [0, 1, 2, 5] rfl rfl (by simp only [RH, RV])) ⟨j + 1, (s.set k true, l ++ [k], nl p k), by omega, rfl, hstep.symm, ?_, ?_, ?_, ?_, ?_, ?_, ?_, rfl⟩
            any_goals (simp (disch := omega) only [RA, ↓reduceIte, Nat.reduceEqDiff, Nat.reduceBEq, Nat.reduceSub, Nat.reduceAdd, Nat.reduceMul, Nat.reduceLT, Nat.reduceLeDiff, Int.reduceLE, Int.reduceLT, Int.reduceEq, Int.reduceNeg, Int.reduceToNat, Int.reduceMul, Int.reduceAdd, Int.reduceSub, Int.reduceBEq, Int.reduceBNe, reduceCtorEq, RD, RE, *] <;> rfl)
          · refine hX1 _ _ ?_
            have hc' : bl s k = true := by simpa using hc
            have hfin := hstop hc'
            have hfl : l.length * 1 = (l.map N64).length := by simp
            have hfz : ∀ f2 : Fr, f2 2 = P 0 0 → f2 5 = S 1 0 sc.2.length 1 → f2 6 = P 2 0 → f2 8 = Fz l.length 1 (l.map N64) → f2 12 = I n → f2 13 = I i → T 0 A_impl_cycles.r13 (blkQ 1 (thenQ 0 A_impl_cycles.r14 R)) f2 [some (p.map N8), some (sc.2.map FN), some (s.map B), none] := by
              clear g2 g5 g6 g12 g13 g8 g9
              intro f2 g2 g5 g6 g8 g12 g13
              refine T_reg_k fun Kr hKr => ?_
              simp (disch := omega) only [RA, ↓reduceIte, Nat.reduceEqDiff, Nat.reduceBEq, Nat.reduceSub, Nat.reduceAdd, Nat.reduceMul, Nat.reduceLT, Nat.reduceLeDiff, Int.reduceLE, Int.reduceLT, Int.reduceEq, Int.reduceNeg, Int.reduceToNat, Int.reduceMul, Int.reduceAdd, Int.reduceSub, Int.reduceBEq, Int.reduceBNe, reduceCtorEq, RD, g5, g8, app1_FN]
              refine hKr _ _ ?_
              clear hKr Kr
              simp only [blkQ, thenQ, loopQ, if_true]
              refine T_gh (Gh.nrm [0, 5, 2] rfl rfl (by simp only [RH, RV])) ?_
              refine hnext _ (s, sc.2 ++ [l]) ?_ ?_ ?_ ?_ ?_ ?_
              any_goals (simp (disch := omega) only [RA, ↓reduceIte, Nat.reduceEqDiff, RD, RE, *] <;> rfl)
              rw [cycK, ← hsc, if_neg (by simp [h0]), hfin]
            exact T_gh (Gh.fz (i := 3) (cs := l.map N64) rfl NNL_64) (hfz _ (by simp (disch := omega) only [RA, ↓reduceIte, Nat.reduceEqDiff, RD, RE, RZ, frz_ne, frz_all, *] <;> rfl) (by simp (disch := omega) only [RA, ↓reduceIte, Nat.reduceEqDiff, RD, RE, RZ, frz_ne, frz_all, *] <;> rfl) (by simp (disch := omega) only [RA, ↓reduceIte, Nat.reduceEqDiff, RD, RE, RZ, frz_ne, frz_all, *] <;> rfl) (by simp (disch := omega) only [RA, ↓reduceIte, Nat.reduceEqDiff, RD, RE, RZ, frz_ne, frz_all, *] <;> rfl) (by simp (disch := omega) only [RA, ↓reduceIte, Nat.reduceEqDiff, RD, RE, RZ, frz_ne, frz_all, *] <;> rfl) (by simp (disch := omega) only [RA, ↓reduceIte, Nat.reduceEqDiff, RD, RE, RZ, frz_ne, frz_all, *] <;> rfl))
    · refine hX _ _ ?_
      obtain rfl : i = n := by omega
      refine T_rseq fun Kr hKr => ?_
      simp (disch := omega) only [RA, ↓reduceIte, Nat.reduceEqDiff, RD, g5]
      refine hKr _ _ ?_
      clear hKr Kr
      try simp only [RN, reduceIte]
      try refine T_e rfl ?_
      refine bodyQ_ret (by simp (disch := omega) only [RA, ↓reduceIte, Nat.reduceEqDiff, RD, resAll, resOf, g5]; rfl) GhV.refl ?_
      simp only [tup]
      rw [hsc]
      exact ⟨1, rfl, rfl⟩
theorem cycles_spec {x : Bool} {p : List Nat} {n : Nat} {H : BH} {K : Value → BH → Prop} (hb : By 16 p) (hp : Perm p n) (hK : K (Fz (cyc p n).length 1 ((cyc p n).map FN)) H) : CallX x F_impl_cycles [PL p, I n] H K :=
  callRZ (by (simp only [RH])) NNL_FN (by simp) (cycles_run hb hp) hK
theorem l01Cycles_run {p : List Nat} {n : Nat} (hb : By 16 p) (hp : Perm p n) :
    CallX false F_spec_l01Cycles [PL p, I n] [] fun v H1 => ∃ j, v = S j 0 (cyc p n).length 1 ∧ blk H1 j = some ((cyc p n).map FN) := by
  have hlen := hb.len
  have hn := hp.1
  obtain ⟨M, hM⟩ : ∃ M, M = 16 := ⟨_, rfl⟩
  have hcyc : cyc p n = (cycK p M n).2 := by rw [hM]; rfl
  rw [hcyc]
  refine CallX_body Γ_spec_l01Cycles ?_
  simp only [A_spec_l01Cycles, T_aiff]
  refine T_rseq fun Kr hKr => ?_
  simp (disch := omega) only [RA, ↓reduceIte, Nat.reduceEqDiff, Nat.reduceBEq, Nat.reduceSub, Nat.reduceAdd, Nat.reduceMul, Nat.reduceLT, Nat.reduceLeDiff, Int.reduceLE, Int.reduceLT, Int.reduceEq, Int.reduceNeg, Int.reduceToNat, Int.reduceMul, Int.reduceAdd, Int.reduceSub, Int.reduceBEq, Int.reduceBNe, reduceCtorEq, RD]
  refine hKr _ _ ?_
  clear hKr Kr
  try simp only [RN, reduceIte]
  try refine T_e rfl ?_
  refine T_rseq fun Kr hKr => ?_
  simp (disch := omega) only [RA, ↓reduceIte, Nat.reduceEqDiff, Nat.reduceBEq, Nat.reduceSub, Nat.reduceAdd, Nat.reduceMul, Nat.reduceLT, Nat.reduceLeDiff, Int.reduceLE, Int.reduceLT, Int.reduceEq, Int.reduceNeg, Int.reduceToNat, Int.reduceMul, Int.reduceAdd, Int.reduceSub, Int.reduceBEq, Int.reduceBNe, reduceCtorEq, RD]
  refine hKr _ _ ?_
  clear hKr Kr
  try simp only [RN, reduceIte]
  try refine T_e rfl ?_
  refine T_rseq fun Kr hKr => ?_
  simp (disch := omega) only [RA, ↓reduceIte, Nat.reduceEqDiff, Nat.reduceBEq, Nat.reduceSub, Nat.reduceAdd, Nat.reduceMul, Nat.reduceLT, Nat.reduceLeDiff, Int.reduceLE, Int.reduceLT, Int.reduceEq, Int.reduceNeg, Int.reduceToNat, Int.reduceMul, Int.reduceAdd, Int.reduceSub, Int.reduceBEq, Int.reduceBNe, reduceCtorEq, RD]
  refine hKr _ _ ?_
  clear hKr Kr
  try simp only [RN, reduceIte]
  try refine T_e rfl ?_
  refine T_wloop (fun m f H' => ∃ i sc, i ≤ n ∧ m = n - i ∧ sc = cycK p M i ∧ f 1 = I n ∧ f 2 = P 0 0 ∧ f 5 = S 1 0 sc.2.length 1 ∧ f 6 = P 2 0 ∧ f 7 = I i ∧ H' = [some (p.map N8), some (sc.2.map FN), some (sc.1.map B)]) (n) ?_ ?_
  · refine ⟨_, _, Gh.refl, 0, (List.replicate 16 false, []), by omega, by omega, rfl, ?_, ?_, ?_, ?_, ?_, by simp⟩
    any_goals (simp (disch := omega) only [RA, ↓reduceIte, Nat.reduceEqDiff, RD, RE, *] <;> rfl)
  · rintro m f H' R ⟨i, sc, hi, rfl, hsc, g1, g2, g5, g6, g7, rfl⟩ hN hX hR hE
    simp only [A_spec_l01Cycles.l1, T_aiff]
    have hok := CycOk.all hM hp hi
    rw [← hsc] at hok
    have hsl := hok.len
    have hnum := hok.num
    refine T_rseq fun Kr hKr => ?_
    simp (disch := omega) only [RA, ↓reduceIte, Nat.reduceEqDiff, RD, g1, g7]
    refine hKr _ _ ?_
    clear hKr Kr
    try simp only [RN, reduceIte]
    try refine T_e rfl ?_
    refine T_csplit (p := i < n) (by simp only [RA, ↓reduceIte, Nat.reduceEqDiff] <;> rfl) (by (try simp only [RB]) <;> first | done | exact Iff.rfl | omega | simp) (fun hc => ?_) (fun hc => ?_) <;> (try simp only [RN, reduceIte]) <;> (try refine T_e rfl ?_)
    · have hnext : ∀ f' sc', f' 1 = I n → f' 2 = P 0 0 → f' 5 = S 1 0 sc'.2.length 1 → f' 6 = P 2 0 → f' 7 = I i → sc' = cycK p M (i + 1) → T 0 A_spec_l01Cycles.r4 R f' [some (p.map N8), some (sc'.2.map FN), some (sc'.1.map B)] := by
        intro f' sc' g1 g2 g5 g6 g7 hs
        refine T_reg_k fun Kr hKr => ?_
        simp (disch := omega) only [RA, ↓reduceIte, Nat.reduceEqDiff, RD, g7]
        refine hKr _ _ ?_
        clear hKr Kr
        refine hN (n - (i + 1)) _ _ _ _ (by omega) Gh.refl ⟨i + 1, sc', by omega, rfl, hs, ?_, ?_, ?_, ?_, ?_, rfl⟩
        any_goals (simp (disch := omega) only [RA, ↓reduceIte, Nat.reduceEqDiff, RD, RE, *] <;> rfl)
      have hin : i < n := by assumption
      first | refine T_bfree rfl ?_ | refine T_bfree' rfl ?_
      try simp only [RN, reduceIte]
      try refine T_e rfl ?_
      refine T_rseq fun Kr hKr => ?_
      simp (disch := omega) only [RA, ↓reduceIte, Nat.reduceEqDiff, Nat.reduceBEq, Nat.reduceSub, Nat.reduceAdd, Nat.reduceMul, Nat.reduceLT, Nat.reduceLeDiff, Int.reduceLE, Int.reduceLT, Int.reduceEq, Int.reduceNeg, Int.reduceToNat, Int.reduceMul, Int.reduceAdd, Int.reduceSub, Int.reduceBEq, Int.reduceBNe, reduceCtorEq, RD]
      refine hKr _ _ ?_
      clear hKr Kr
      try simp only [RN, reduceIte]
      try refine T_e rfl ?_
      refine T_rseq fun Kr hKr => ?_
      simp (disch := omega) only [RA, ↓reduceIte, Nat.reduceEqDiff, RD, g7]
      refine hKr _ _ ?_
      clear hKr Kr
      try simp only [RN, reduceIte]
      try refine T_e rfl ?_
      by_cases hm : bl sc.1 i = true
      · refine T_wloop (fun m f H' => m = 0 ∧ f 1 = I n ∧ f 2 = P 0 0 ∧ f 5 = S 1 0 sc.2.length 1 ∧ f 6 = P 2 0 ∧ f 7 = I i ∧ f 8 = S 3 0 0 1 ∧ f 9 = I i ∧ H' = [some (p.map N8), some (sc.2.map FN), some (sc.1.map B), some []]) (0) ?_ ?_
        · refine ⟨_, _, Gh.refl, rfl, ?_, ?_, ?_, ?_, ?_, ?_, ?_, by simp⟩
          any_goals (simp (disch := omega) only [RA, ↓reduceIte, Nat.reduceEqDiff, RD, RE, *] <;> rfl)
        · clear g1 g2 g5 g6 g7
          rintro m f H' R1 ⟨rfl, g1, g2, g5, g6, g7, g8, g9, rfl⟩ hN1 hX1 hR1 hE1
          simp only [A_spec_l01Cycles.l0, T_aiff]
          refine T_rseq fun Kr hKr => ?_
          simp (disch := omega) only [RA, ↓reduceIte, Nat.reduceEqDiff, RD, g6, g9, hsl]
          refine hKr _ _ ?_
          clear hKr Kr
          try simp only [RN, reduceIte]
          try refine T_e rfl ?_
          refine T_cseq (t := false) (by simp (disch := omega) only [RA, ↓reduceIte, Nat.reduceEqDiff, RD, hm]) ?_
          try simp only [RN, reduceIte]
          try refine T_e rfl ?_
          refine hX1 _ _ ?_
          try simp only [RN, reduceIte]
          try refine T_e rfl ?_
          refine T_rseq fun Kr hKr => ?_
          simp (disch := omega) only [RA, ↓reduceIte, Nat.reduceEqDiff, Nat.reduceBEq, Nat.reduceSub, Nat.reduceAdd, Nat.reduceMul, Nat.reduceLT, Nat.reduceLeDiff, Int.reduceLE, Int.reduceLT, Int.reduceEq, Int.reduceNeg, Int.reduceToNat, Int.reduceMul, Int.reduceAdd, Int.reduceSub, Int.reduceBEq, Int.reduceBNe, reduceCtorEq, RD, g8]
          refine hKr _ _ ?_
          clear hKr Kr
          try simp only [RN, reduceIte]
          try refine T_e rfl ?_
          refine T_cseq (t := false) (by simp (disch := omega) only [RA, ↓reduceIte, Nat.reduceEqDiff, RD]) ?_
          try simp only [RN, reduceIte]
          try refine T_e rfl ?_
          refine T_gh (Gh.nrm [0, 1, 2] rfl rfl (by simp only [RH, RV])) ?_
          refine hnext _ sc ?_ ?_ ?_ ?_ ?_ (by rw [cycK, ← hsc, if_pos hm])
          any_goals (simp (disch := omega) only [RA, ↓reduceIte, Nat.reduceEqDiff, RD, RE, *] <;> rfl)
      · have h0 : bl sc.1 i = false := by simpa using hm
        have hdone := WkOk.done hM hp hsl hin h0 hok.inv
        have hcyc1 := (WkOk.cyc hM hp hsl hin h0 hok.inv hok.upto).1.ne
        refine T_wloop (fun m f H' => ∃ j st, j ≤ M ∧ m = M - j ∧ st = wk p (sc.1, [], i) j ∧ f 1 = I n ∧ f 2 = P 0 0 ∧ f 5 = S 1 0 sc.2.length 1 ∧ f 6 = P 2 0 ∧ f 7 = I i ∧ f 8 = S 3 0 st.2.1.length 1 ∧ f 9 = I st.2.2 ∧ H' = [some (p.map N8), some (sc.2.map FN), some (st.1.map B), some (st.2.1.map N64)]) (M) ?_ ?_
        · refine ⟨_, _, Gh.refl, 0, (sc.1, [], i), by omega, by omega, rfl, ?_, ?_, ?_, ?_, ?_, ?_, ?_, by simp⟩
          any_goals (simp (disch := omega) only [RA, ↓reduceIte, Nat.reduceEqDiff, RD, RE, *] <;> rfl)
        · clear g1 g2 g5 g6 g7
          rintro m f H' R1 ⟨j, st, hj, rfl, hst, g1, g2, g5, g6, g7, g8, g9, rfl⟩ hN1 hX1 hR1 hE1
          simp only [A_spec_l01Cycles.l0, T_aiff]
          have hw := WkOk.wk hp hsl hin h0 hok.inv j
          have hstep : wk p (sc.1, [], i) (j + 1) = wstep p st := by rw [hst]; rfl
          have hstop : bl st.1 st.2.2 = true → wk p (sc.1, [], i) M = st := fun h => by
            rw [hst] at h ⊢
            exact wk_stop h M hj
          have hdj : j = M → bl st.1 st.2.2 = true := fun h => by
            rw [hst, h]
            exact hdone
          rw [← hst] at hw
          clear hst hdone
          obtain ⟨s, l, k⟩ := st
          simp only at g8 g9 hstop hdj hstep ⊢
          have hwl : s.length = 16 := hw.len
          have hwk : k < n := hw.at_
          have hpk := hp.lt hwk
          have hll : l.length ≤ 16 := by
            have h1 := hw.cnt
            have h2 := List.count_le_length (a := true) (l := s)
            simp only at h1
            omega
          refine T_rseq fun Kr hKr => ?_
          simp (disch := omega) only [RA, ↓reduceIte, Nat.reduceEqDiff, Nat.reduceBEq, Nat.reduceSub, Nat.reduceAdd, Nat.reduceMul, Nat.reduceLT, Nat.reduceLeDiff, Int.reduceLE, Int.reduceLT, Int.reduceEq, Int.reduceNeg, Int.reduceToNat, Int.reduceMul, Int.reduceAdd, Int.reduceSub, Int.reduceBEq, Int.reduceBNe, reduceCtorEq, RD, g6, g9, hwl]
          refine hKr _ _ ?_
          clear hKr Kr
          try simp only [RN, reduceIte]
          try refine T_e rfl ?_
          refine T_csplit (p := ¬ bl s k = true) (by simp only [RA, ↓reduceIte, Nat.reduceEqDiff, Nat.reduceBEq, Nat.reduceSub, Nat.reduceAdd, Nat.reduceMul, Nat.reduceLT, Nat.reduceLeDiff, Int.reduceLE, Int.reduceLT, Int.reduceEq, Int.reduceNeg, Int.reduceToNat, Int.reduceMul, Int.reduceAdd, Int.reduceSub, Int.reduceBEq, Int.reduceBNe, reduceCtorEq] <;> rfl) (by (try simp only [RB]) <;> first | done | exact Iff.rfl | omega | simp) (fun hc => ?_) (fun hc => ?_) <;> (try simp only [RN, reduceIte]) <;> (try refine T_e rfl ?_)
          · rw [wstep, if_neg hc] at hstep
            have hjM : j < M := by
              rcases Nat.lt_or_ge j M with h | h
              · exact h
              · exact absurd (hdj (by omega)) hc
            first | refine T_bfree rfl ?_ | refine T_bfree' rfl ?_
            try simp only [RN, reduceIte]
            try refine T_e rfl ?_
            refine T_rseq fun Kr hKr => ?_
            simp (disch := omega) only [RA, ↓reduceIte, Nat.reduceEqDiff, Nat.reduceBEq, Nat.reduceSub, Nat.reduceAdd, Nat.reduceMul, Nat.reduceLT, Nat.reduceLeDiff, Int.reduceLE, Int.reduceLT, Int.reduceEq, Int.reduceNeg, Int.reduceToNat, Int.reduceMul, Int.reduceAdd, Int.reduceSub, Int.reduceBEq, Int.reduceBNe, reduceCtorEq, RD, g6, g9, hwl]
            refine hKr _ _ ?_
            clear hKr Kr
            try simp only [RN, reduceIte]
            try refine T_e rfl ?_
            refine T_rseq fun Kr hKr => ?_
            simp (disch := omega) only [RA, ↓reduceIte, Nat.reduceEqDiff, Nat.reduceBEq, Nat.reduceSub, Nat.reduceAdd, Nat.reduceMul, Nat.reduceLT, Nat.reduceLeDiff, Int.reduceLE, Int.reduceLT, Int.reduceEq, Int.reduceNeg, Int.reduceToNat, Int.reduceMul, Int.reduceAdd, Int.reduceSub, Int.reduceBEq, Int.reduceBNe, reduceCtorEq, RD, g8, g9, app1_64]
            refine hKr _ _ ?_
            clear hKr Kr
            try simp only [RN, reduceIte]
            try refine T_e rfl ?_
            refine T_reg_k fun Kr hKr => ?_
            simp (disch := omega) only [RA, ↓reduceIte, Nat.reduceEqDiff, RD, g2, g9]
            refine hKr _ _ ?_
            clear hKr Kr
            refine hN1 (M - (j + 1)) _ _ _ _ (by omega) (Gh.nrm [0, 1, 2, 5] rfl rfl (by simp only [RH, RV])) ⟨j + 1, (s.set k true, l ++ [k], nl p k), by omega, rfl, hstep.symm, ?_, ?_, ?_, ?_, ?_, ?_, ?_, rfl⟩
            any_goals (simp (disch := omega) only [RA, ↓reduceIte, Nat.reduceEqDiff, Nat.reduceAdd, Nat.reduceMul, Int.reduceToNat, Nat.reduceLT, reduceCtorEq, RD, RE, *] <;> rfl)
          · refine hX1 _ _ ?_
            have hc' : bl s k = true := by simpa using hc
            have hfin := hstop hc'
            rw [hfin] at hcyc1
            have hfl : l.length * 1 = (l.map N64).length := by simp
            have hl0 : 0 < l.length := hcyc1
            try simp only [RN, reduceIte]
            try refine T_e rfl ?_
            refine T_rseq fun Kr hKr => ?_
            simp (disch := omega) only [RA, ↓reduceIte, Nat.reduceEqDiff, Nat.reduceBEq, Nat.reduceSub, Nat.reduceAdd, Nat.reduceMul, Nat.reduceLT, Nat.reduceLeDiff, Int.reduceLE, Int.reduceLT, Int.reduceEq, Int.reduceNeg, Int.reduceToNat, Int.reduceMul, Int.reduceAdd, Int.reduceSub, Int.reduceBEq, Int.reduceBNe, reduceCtorEq, RD, g8]
            refine hKr _ _ ?_
            clear hKr Kr
            try simp only [RN, reduceIte]
            try refine T_e rfl ?_
            refine T_cseq (t := true) (by simp (disch := omega) only [RA, ↓reduceIte, Nat.reduceEqDiff, Nat.reduceBEq, Nat.reduceSub, Nat.reduceAdd, Nat.reduceMul, Nat.reduceLT, Nat.reduceLeDiff, Int.reduceLE, Int.reduceLT, Int.reduceEq, Int.reduceNeg, Int.reduceToNat, Int.reduceMul, Int.reduceAdd, Int.reduceSub, Int.reduceBEq, Int.reduceBNe, reduceCtorEq, RD]) ?_
            try simp only [RN, reduceIte]
            try refine T_e rfl ?_
            have hfz : ∀ f2 : Fr, f2 1 = I n → f2 2 = P 0 0 → f2 5 = S 1 0 sc.2.length 1 → f2 6 = P 2 0 → f2 7 = I i → f2 8 = Fz l.length 1 (l.map N64) → T 0 (.seq A_spec_l01Cycles.r12 A_spec_l01Cycles.r4) R f2 [some (p.map N8), some (sc.2.map FN), some (s.map B), none] := by
              clear g1 g2 g5 g6 g7 g8 g9
              intro f2 g1 g2 g5 g6 g7 g8
              refine T_rseq fun Kr hKr => ?_
              simp (disch := omega) only [RA, ↓reduceIte, Nat.reduceEqDiff, Nat.reduceBEq, Nat.reduceSub, Nat.reduceAdd, Nat.reduceMul, Nat.reduceLT, Nat.reduceLeDiff, Int.reduceLE, Int.reduceLT, Int.reduceEq, Int.reduceNeg, Int.reduceToNat, Int.reduceMul, Int.reduceAdd, Int.reduceSub, Int.reduceBEq, Int.reduceBNe, reduceCtorEq, RD, g5, g8, app1_FN]
              refine hKr _ _ ?_
              clear hKr Kr
              try simp only [RN, reduceIte]
              try refine T_e rfl ?_
              refine T_gh (Gh.nrm [0, 5, 2] rfl rfl (by simp only [RH, RV])) ?_
              refine hnext _ (s, sc.2 ++ [l]) ?_ ?_ ?_ ?_ ?_ ?_
              any_goals (simp (disch := omega) only [RA, ↓reduceIte, Nat.reduceEqDiff, RD, RE, *] <;> rfl)
              rw [cycK, ← hsc, if_neg (by simp [h0]), hfin]
            exact T_gh (Gh.fz (i := 3) (cs := l.map N64) rfl NNL_64) (hfz _ (by simp (disch := omega) only [RA, ↓reduceIte, Nat.reduceEqDiff, RD, RE, RZ, frz_ne, frz_all, *] <;> rfl) (by simp (disch := omega) only [RA, ↓reduceIte, Nat.reduceEqDiff, RD, RE, RZ, frz_ne, frz_all, *] <;> rfl) (by simp (disch := omega) only [RA, ↓reduceIte, Nat.reduceEqDiff, RD, RE, RZ, frz_ne, frz_all, *] <;> rfl) (by simp (disch := omega) only [RA, ↓reduceIte, Nat.reduceEqDiff, RD, RE, RZ, frz_ne, frz_all, *] <;> rfl) (by simp (disch := omega) only [RA, ↓reduceIte, Nat.reduceEqDiff, RD, RE, RZ, frz_ne, frz_all, *] <;> rfl) (by simp (disch := omega) only [RA, ↓reduceIte, Nat.reduceEqDiff, RD, RE, RZ, frz_ne, frz_all, *] <;> rfl))
    · refine hX _ _ ?_
      obtain rfl : i = n := by omega
      refine T_rseq fun Kr hKr => ?_
      simp (disch := omega) only [RA, ↓reduceIte, Nat.reduceEqDiff, RD, g5]
      refine hKr _ _ ?_
      clear hKr Kr
      try simp only [RN, reduceIte]
      try refine T_e rfl ?_
      refine bodyQ_ret (by simp (disch := omega) only [RA, ↓reduceIte, Nat.reduceEqDiff, RD, resAll, resOf, g5]; rfl) GhV.refl ?_
      simp only [tup]
      rw [hsc]
      exact ⟨1, rfl, rfl⟩
theorem l01Cycles_spec {x : Bool} {p : List Nat} {n : Nat} {H : BH} {K : Value → BH → Prop} (hb : By 16 p) (hp : Perm p n) (hK : K (Fz (cyc p n).length 1 ((cyc p n).map FN)) H) : CallX x F_spec_l01Cycles [PL p, I n] H K :=
  callRZ (by (simp only [RH])) NNL_FN (by simp) (l01Cycles_run hb hp) hK
end Go.Bm

/- Lists put behind lists. -/
set_option linter.unusedVariables false
set_option linter.unusedSimpArgs false
namespace Go.Bm
open Go Go.Am

section
variable {H : BH} {b bytes : Nat}
end
end Go.Bm

/- Draws: a source of numbers. What it draws is not followed, but its range. -/
set_option linter.unusedVariables false
set_option linter.unusedSimpArgs false
namespace Go.Bm
open Go Go.Am

section
variable {code : List Nat} {a b : Nat} {h : Int} {H : BH}
end
end Go.Bm

/- What is reached from each dart, and names from a dart: the plain law. -/
set_option linter.unusedVariables false
set_option linter.unusedSimpArgs false
namespace Go.Bm
open Go Go.Am

def none16 : List Bool := List.replicate 16 false
theorem none16_bl {x : Nat} : bl none16 x = false := bl_rep
theorem none16_len : none16.length = 16 := by simp [none16]
/-- One starts at x, nothing met but x. -/
def stA (x : Nat) : BS := (none16.set x true, [x])
/-- What stands once what the first d lead to has been met. -/
structure BfOk (ls : List (List Nat)) (n x d : Nat) (st : BS) : Prop where
  len : st.1.length = 16
  mem : ∀ y, bl st.1 y = true ↔ y ∈ st.2
  nod : st.2.Nodup
  lt : ∀ y ∈ st.2, y < n
  pre : ∃ r, st.2 = x :: r
  le : d ≤ st.2.length
  done : ∀ j, j < d → ∀ p ∈ ls, nl p (nl st.2 j) ∈ st.2
theorem BfOk.visit {ls : List (List Nat)} {n x d y : Nat} {st : BS} (hn : n ≤ 16) (h : BfOk ls n x d st) (hy : y < n) : BfOk ls n x d (Bm.visit st y) ∧ (∃ q, (Bm.visit st y).2 = st.2 ++ q) ∧ y ∈ (Bm.visit st y).2 := by
  unfold Bm.visit
  by_cases hb : bl st.1 y = true
  · rw [if_pos hb]
    exact ⟨h, ⟨[], by simp⟩, (h.mem y).1 hb⟩
  · rw [if_neg hb]
    have hny : y ∉ st.2 := fun hm => hb ((h.mem y).2 hm)
    refine ⟨⟨by simpa using h.len, fun z => ?_, ?_, fun z hz => ?_, ?_, ?_, fun j hj1 p hp => ?_⟩, ⟨[y], rfl⟩, by simp⟩
    · show bl (st.1.set y true) z = true ↔ z ∈ st.2 ++ [y]
      rw [bl_set]
      by_cases e : z = y
      · subst e
        rw [if_pos ⟨rfl, by have := h.len; omega⟩]
        simp
      · rw [if_neg (fun k => e k.1), h.mem z]
        simp [e]
    · show (st.2 ++ [y]).Nodup
      rw [List.nodup_append]
      exact ⟨h.nod, by simp, fun a ha b hb => by
        rw [List.mem_singleton] at hb
        subst hb
        exact fun e => hny (e ▸ ha)⟩
    · rcases List.mem_append.1 hz with k | k
      · exact h.lt z k
      · rw [List.mem_singleton] at k
        omega
    · obtain ⟨r, hr⟩ := h.pre
      exact ⟨r ++ [y], by show st.2 ++ [y] = _; rw [hr]; rfl⟩
    · show d ≤ (st.2 ++ [y]).length
      have := h.le
      simp
      omega
    · show nl p (nl (st.2 ++ [y]) j) ∈ st.2 ++ [y]
      rw [nl_append, if_pos (by have := h.le; omega)]
      exact List.mem_append_left _ (h.done j hj1 p hp)
theorem BfOk.round {ls : List (List Nat)} {n x d z : Nat} (hn : n ≤ 16) : ∀ {l2 : List (List Nat)} {st : BS}, BfOk ls n x d st → (∀ p ∈ l2, nl p z < n) → BfOk ls n x d (roundX l2 z st) ∧ (∃ q, (roundX l2 z st).2 = st.2 ++ q) ∧ ∀ p ∈ l2, nl p z ∈ (roundX l2 z st).2
  | [], st, h, _ => ⟨h, ⟨[], by simp [roundX]⟩, by simp⟩
  | p :: l2, st, h, hp => by
    obtain ⟨h1, ⟨q1, h2⟩, h3⟩ := h.visit hn (hp p (by simp))
    obtain ⟨h4, ⟨q2, h5⟩, h6⟩ := BfOk.round hn (l2 := l2) h1 fun q hq => hp q (by simp [hq])
    have e : roundX (p :: l2) z st = roundX l2 z (Bm.visit st (nl p z)) := rfl
    rw [e]
    refine ⟨h4, ⟨q1 ++ q2, by rw [h5, h2, List.append_assoc]⟩, fun q hq => ?_⟩
    rcases List.mem_cons.1 hq with rfl | hq
    · rw [h5]
      exact List.mem_append_left _ h3
    · exact h6 q hq
theorem BfOk.bfs {ls : List (List Nat)} {n x : Nat} {st : BS} (hn : n ≤ 16) (hl : ∀ p ∈ ls, ∀ y, y < n → nl p y < n) (h : BfOk ls n x 0 st) : ∀ i, BfOk ls n x (min i (Bm.bfs ls st i).2.length) (Bm.bfs ls st i)
  | 0 => by rw [Nat.zero_min]; exact h
  | i + 1 => by
    have ih := BfOk.bfs hn hl h i
    simp only [Bm.bfs]
    generalize Bm.bfs ls st i = s at ih ⊢
    by_cases hi : i < s.2.length
    · rw [if_pos hi]
      rw [Nat.min_eq_left (by omega)] at ih
      obtain ⟨h1, ⟨q, h2⟩, h3⟩ := ih.round hn (z := nl s.2 i) (l2 := ls) fun p hp => hl p hp _ (ih.lt _ (nl_mem hi))
      have hlen : i + 1 ≤ (roundX ls (nl s.2 i) s).2.length := by rw [h2]; simp; omega
      rw [Nat.min_eq_left hlen]
      refine ⟨h1.len, h1.mem, h1.nod, h1.lt, h1.pre, hlen, fun j hj p hp => ?_⟩
      by_cases e : j = i
      · subst e
        have : nl (roundX ls (nl s.2 j) s).2 j = nl s.2 j := by rw [h2, nl_append, if_pos hi]
        rw [this]
        exact h3 p hp
      · exact h1.done j (by omega) p hp
    · rw [if_neg hi]
      rw [Nat.min_eq_right (by omega)] at ih
      rw [Nat.min_eq_right (by omega)]
      exact ih
theorem BfOk.start {ls : List (List Nat)} {n x : Nat} (hn : n ≤ 16) (hx : x < n) : BfOk ls n x 0 (stA x) := by
  refine ⟨by simp [stA, none16_len], fun y => ?_, by simp [stA], fun y hy => ?_, ⟨[], rfl⟩, Nat.zero_le _, fun j hj => by omega⟩
  · show bl (none16.set x true) y = true ↔ y ∈ [x]
    rw [bl_set, none16_len, none16_bl]
    by_cases e : y = x
    · rw [if_pos ⟨e, by omega⟩]; simp [e]
    · rw [if_neg (fun k => e k.1)]; simp [e]
  · rw [show (stA x).2 = [x] from rfl, List.mem_singleton] at hy
    omega
theorem nodup_le {n : Nat} {l : List Nat} (h : l.Nodup) (hl : ∀ x ∈ l, x < n) : l.length ≤ n := by
  have := List.Nodup.length_le_of_subset h (l₂ := List.range n) fun x hx => List.mem_range.2 (hl x hx)
  simpa using this
theorem nodup_full {n : Nat} {l : List Nat} (h : l.Nodup) (hl : ∀ x ∈ l, x < n) (hn : n ≤ l.length) {x : Nat} (hx : x < n) : x ∈ l := by
  apply Classical.byContradiction
  intro hxl
  have := nodup_le (n := n) (l := x :: l) (List.nodup_cons.2 ⟨hxl, h⟩) (by
    intro y hy
    rcases List.mem_cons.1 hy with rfl | hy
    · exact hx
    · exact hl y hy)
  rw [List.length_cons] at this
  omega
/-- The darts in the order in which they are met from x. -/
def ord (b w : List Nat) (x : Nat) : List Nat := (bfs [b, w] (stA x) 16).2
section
variable {b w : List Nat} {n : Nat}
theorem ord_bf (hb : Perm b n) (hw : Perm w n) {x : Nat} (hx : x < n) : BfOk [b, w] n x (ord b w x).length (bfs [b, w] (stA x) 16) := by
  have hn := hb.1
  have h := (BfOk.start (ls := [b, w]) (x := x) (n := n) (by omega) hx).bfs (by omega) (by
    intro p hp y hy
    simp only [List.mem_cons, List.not_mem_nil, or_false] at hp
    rcases hp with rfl | rfl
    · exact hb.lt hy
    · exact hw.lt hy) 16
  have h16 := nodup_le h.nod h.lt
  rw [Nat.min_eq_right (by omega)] at h
  exact h
theorem ord_cl (hb : Perm b n) (hw : Perm w n) {x : Nat} (hx : x < n) : ∀ y ∈ ord b w x, nl b y ∈ ord b w x ∧ nl w y ∈ ord b w x := fun y hy => by
  have h := ord_bf hb hw hx
  obtain ⟨j, hj, rfl⟩ := mem_nl hy
  exact ⟨h.done j hj b (by simp), h.done j hj w (by simp)⟩
/-- What a permutation leads into itself is also led into itself backwards. -/
theorem closed_bwd {p : List Nat} (hp : Perm p n) {S : Nat → Prop} (hS : ∀ x, x < n → S x → S (nl p x)) {x : Nat} (hx : x < n) (h : S (nl p x)) : S x := by
  obtain ⟨c, hc, hxc⟩ := cyc_at hp hx
  have hi := cyc_is hp hc
  obtain ⟨j, hj, hje⟩ := mem_nl (hi.fwd hxc)
  have hup : ∀ d, j + d < c.length → S (nl c (j + d)) := by
    intro d
    induction d with
    | zero => intro _; rw [Nat.add_zero, hje]; exact h
    | succ d ih =>
      intro hd
      rw [← Nat.add_assoc, ← hi.step (j + d) (by omega)]
      exact hS _ (hi.lt _ (nl_mem (by omega))) (ih (by omega))
  have h0 : S (nl c 0) := by
    rw [← hi.last]
    have := hup (c.length - 1 - j) (by omega)
    rw [show j + (c.length - 1 - j) = c.length - 1 by omega] at this
    exact hS _ (hi.lt _ (nl_mem (by omega))) this
  have hall : ∀ k, k < c.length → S (nl c k) := by
    intro k
    induction k with
    | zero => intro _; exact h0
    | succ k ih =>
      intro hk
      rw [← hi.step k hk]
      exact hS _ (hi.lt _ (nl_mem (by omega))) (ih (by omega))
  obtain ⟨k, hk, rfl⟩ := mem_nl hxc
  exact hall k hk
theorem Des.reach (h : Des n b w) {y : Nat} (hy : y < n) : y ∈ ord b w 0 := by
  obtain ⟨hb, hw, hr⟩ := h
  have hn := hb.1
  have h1 := ord_bf hb hw (x := 0) (by omega)
  refine nodup_full h1.nod h1.lt ?_ hy
  have : (Bm.reach b w).2.length = n := by omega
  have e : (bfs [b, w] (stA 0) 16).2.length = n := this
  omega
/-- What is true of 0 and led on by both permutations is true of all darts. -/
theorem Des.ind (h : Des n b w) (S : Nat → Prop) (s1 : ∀ z, z < n → S z → S (nl b z)) (s2 : ∀ z, z < n → S z → S (nl w z)) (s0 : S 0) : ∀ z, z < n → S z := by
  obtain ⟨hb, hw, hr⟩ := id h
  have hn := hb.1
  intro z hz
  have hcl : ∀ i, ∀ z ∈ (bfs [b, w] (stA 0) i).2, z < n ∧ S z := by
    have hv : ∀ (st : BS) (y : Nat), (∀ z ∈ st.2, z < n ∧ S z) → y < n → S y → ∀ z ∈ (visit st y).2, z < n ∧ S z := by
      intro st y h1 h2 h3 z hz
      unfold visit at hz
      split at hz
      · exact h1 z hz
      · rcases List.mem_append.1 hz with k | k
        · exact h1 z k
        · rw [List.mem_singleton] at k
          subst k
          exact ⟨h2, h3⟩
    intro i
    induction i with
    | zero =>
      intro z hz
      have : z = 0 := by simpa [bfs, stA] using hz
      subst this
      exact ⟨by omega, s0⟩
    | succ i ih =>
      simp only [bfs]
      split
      · rename_i hi
        obtain ⟨hz1, hz2⟩ := ih _ (nl_mem hi)
        exact hv _ _ (hv _ _ ih (hb.lt hz1) (s1 _ hz1 hz2)) (hw.lt hz1) (s2 _ hz1 hz2)
      · exact ih
  exact (hcl 16 z (h.reach hz)).2
/-- From each dart all are reached. -/
theorem Des.all (h : Des n b w) {x y : Nat} (hx : x < n) (hy : y < n) : y ∈ ord b w x := by
  obtain ⟨hb, hw, hr⟩ := id h
  have hn := hb.1
  have h0 := h.ind
  have hx0 : (ord b w x) = (ord b w x) := rfl
  have hfw := ord_cl hb hw hx
  have key : ∀ z, z < n → (z ∈ ord b w x ↔ 0 ∈ ord b w x) := by
    refine h0 _ ?_ ?_ Iff.rfl
    · intro z hz hS
      rw [← hS]
      exact ⟨closed_bwd hb (S := fun z => z ∈ ord b w x) (fun z _ h => (hfw z h).1) hz, fun h => (hfw z h).1⟩
    · intro z hz hS
      rw [← hS]
      exact ⟨closed_bwd hw (S := fun z => z ∈ ord b w x) (fun z _ h => (hfw z h).2) hz, fun h => (hfw z h).2⟩
  have hxx : x ∈ ord b w x := by
    obtain ⟨r, hr⟩ := (ord_bf hb hw hx).pre
    rw [ord, hr]
    simp
  exact (key y hy).2 ((key x hx).1 hxx)
/-! ### Names -/
end
section
variable {b w b' w' : List Nat} {n : Nat}
/-- Two dessins that a map of the darts leads to each other. -/
structure Iso (n : Nat) (b w b' w' : List Nat) (φ : Nat → Nat) : Prop where
  lt : ∀ y, y < n → φ y < n
  inj : ∀ y z, y < n → z < n → φ y = φ z → y = z
  b : ∀ y, y < n → nl b' (φ y) = φ (nl b y)
  w : ∀ y, y < n → nl w' (φ y) = φ (nl w y)
structure BfRel (n : Nat) (φ : Nat → Nat) (st st' : BS) : Prop where
  ord : st'.2 = st.2.map φ
  lt : ∀ y ∈ st.2, y < n
  met : ∀ y, y < n → bl st'.1 (φ y) = bl st.1 y
  len : st.1.length = 16 ∧ st'.1.length = 16
theorem BfRel.visit {φ : Nat → Nat} {st st' : BS} {y : Nat} (hn : n ≤ 16) (hl : ∀ y, y < n → φ y < n) (hinj : ∀ y z, y < n → z < n → φ y = φ z → y = z) (h : BfRel n φ st st') (hy : y < n) : BfRel n φ (Bm.visit st y) (Bm.visit st' (φ y)) := by
  unfold Bm.visit
  rw [h.met y hy]
  by_cases hb : bl st.1 y = true
  · rw [if_pos hb, if_pos hb]; exact h
  · rw [if_neg hb, if_neg hb]
    refine ⟨by simp [h.ord], fun z hz => ?_, fun z hz => ?_, by simpa using h.len⟩
    · rcases List.mem_append.1 hz with k | k
      · exact h.lt z k
      · rw [List.mem_singleton] at k; omega
    · show bl (st'.1.set (φ y) true) (φ z) = bl (st.1.set y true) z
      have := hl y hy
      rw [bl_set, bl_set, h.len.1, h.len.2, h.met z hz]
      by_cases e : z = y
      · subst e; rw [if_pos ⟨rfl, by omega⟩, if_pos ⟨rfl, by omega⟩]
      · rw [if_neg (fun k => e (hinj _ _ hz hy k.1)), if_neg (fun k => e k.1)]
theorem nl_map {φ : Nat → Nat} {l : List Nat} {i : Nat} (h : i < l.length) : nl (l.map φ) i = φ (nl l i) := by simp [nl, List.getD, h]
theorem Iso.ord {φ : Nat → Nat} (hn : n ≤ 16) (hb : Perm b n) (hw : Perm w n) (h : Iso n b w b' w' φ) {x : Nat} (hx : x < n) : Bm.ord b' w' (φ x) = (Bm.ord b w x).map φ := by
  have key : ∀ i, BfRel n φ (bfs [b, w] (stA x) i) (bfs [b', w'] (stA (φ x)) i) := by
    intro i
    induction i with
    | zero =>
      refine ⟨rfl, fun y hy => ?_, fun y hy => ?_, by simp [bfs, stA, none16_len]⟩
      · have : y = x := by simpa [bfs, stA] using hy
        omega
      · show bl (none16.set (φ x) true) (φ y) = bl (none16.set x true) y
        have := h.lt x hx
        rw [bl_set, bl_set, none16_len, none16_bl, none16_bl]
        by_cases e : y = x
        · subst e; rw [if_pos ⟨rfl, by omega⟩, if_pos ⟨rfl, by omega⟩]
        · rw [if_neg (fun k => e (h.inj _ _ hy hx k.1)), if_neg (fun k => e k.1)]
    | succ i ih =>
      simp only [bfs]
      generalize bfs [b, w] (stA x) i = st at ih ⊢
      generalize bfs [b', w'] (stA (φ x)) i = st' at ih ⊢
      have hle : st'.2.length = st.2.length := by rw [ih.ord, List.length_map]
      rw [hle]
      by_cases hi : i < st.2.length
      · rw [if_pos hi, if_pos hi]
        have e : nl st'.2 i = φ (nl st.2 i) := by rw [ih.ord, nl_map hi]
        rw [e]
        generalize hz : nl st.2 i = z
        have hz1 : z < n := by rw [← hz]; exact ih.lt _ (nl_mem hi)
        show BfRel n φ (Bm.visit (Bm.visit st (nl b z)) (nl w z)) (Bm.visit (Bm.visit st' (nl b' (φ z))) (nl w' (φ z)))
        rw [h.b z hz1, h.w z hz1]
        exact (ih.visit hn h.lt h.inj (hb.lt hz1)).visit hn h.lt h.inj (hw.lt hz1)
      · rw [if_neg hi, if_neg hi]
        exact ih
  exact (key 16).ord
end

/-! ### The least one -/
abbrev L2 := List Nat × List Nat
def lt2 (x y : L2) : Prop := x.1 < y.1 ∨ (x.1 = y.1 ∧ x.2 < y.2)
instance (x y : L2) : Decidable (lt2 x y) := by unfold lt2; infer_instance
section
variable {b w b' w' : List Nat} {n : Nat}
end
end Go.Bm

/- Mirror images are dessins: the plain law. -/
set_option linter.unusedVariables false
set_option linter.unusedSimpArgs false
namespace Go.Bm
open Go Go.Am

/-! ### Mirror images are dessins -/
section
variable {p b w : List Nat} {n : Nat}
theorem Perm.surj (hp : Perm p n) {y : Nat} (hy : y < n) : ∃ x, x < n ∧ nl p x = y := by
  obtain ⟨c, hc, hyc⟩ := cyc_at hp hy
  have hi := cyc_is hp hc
  obtain ⟨j, hj, rfl⟩ := mem_nl hyc
  by_cases e : j = 0
  · subst e
    exact ⟨_, hi.lt _ (nl_mem (by omega)), hi.last⟩
  · have := hi.step (j - 1) (by omega)
    rw [show j - 1 + 1 = j by omega] at this
    exact ⟨_, hi.lt _ (nl_mem (by omega)), this⟩
theorem back_at (hp : Perm p n) : ∀ {k i : Nat}, k ≤ n → i < k → nl (backK p k) (nl p i) = i
  | 0, _, _, h => by omega
  | k + 1, i, hk, hi => by
    have hn := hp.1
    rw [backK, nl_set, backK_len]
    by_cases e : i = k
    · subst e
      rw [if_pos ⟨rfl, by have := hp.lt (show i < n by omega); omega⟩]
    · rw [if_neg (fun h => e (hp.inj (by omega) (by omega) h.1)), back_at hp (by omega) (by omega)]
theorem back_out (hp : Perm p n) {i : Nat} (hi : n ≤ i) : ∀ {k : Nat}, k ≤ n → nl (backK p k) i = 0
  | 0, _ => by simp only [backK, nl_rep]; split <;> rfl
  | k + 1, hk => by
    have := hp.lt (show k < n by omega)
    rw [backK, nl_set, if_neg (by omega), back_out hp hi (by omega)]
theorem Perm.back (hp : Perm p n) : Perm (backK p n) n := by
  refine ⟨hp.1, fun i _ => ⟨fun h => back_out hp (by omega) (Nat.le_refl _), fun h => ?_⟩⟩
  obtain ⟨x, hx, rfl⟩ := hp.surj (show i < n by omega)
  rw [back_at hp (Nat.le_refl _) hx]
  refine ⟨by omega, fun j hj => ?_⟩
  obtain ⟨y, hy, rfl⟩ := hp.surj (show j < n by omega)
  rw [back_at hp (Nat.le_refl _) hy]
  intro e
  subst e
  omega
end
end Go.Bm

/- Draws: permutations and stars. -/
set_option linter.unusedVariables false
set_option linter.unusedSimpArgs false
namespace Go.Bm
open Go Go.Am

/-- The same, up to k. -/
def idK : Nat → List Nat
  | 0 => z16
  | i + 1 => (idK i).set i i
theorem z16_nl {i : Nat} : nl z16 i = 0 := by rw [z16, nl_rep]; split <;> rfl
theorem idK_len {k : Nat} : (idK k).length = 16 := by
  induction k with
  | zero => exact z16_len
  | succ k ih => rw [idK, List.length_set, ih]
theorem idK_nl {k i : Nat} (hk : k ≤ 16) : nl (idK k) i = if i < k then i else 0 := by
  induction k with
  | zero => rw [idK, z16_nl, if_neg (by omega)]
  | succ k ih =>
    rw [idK, nl_set, ih (by omega), idK_len]
    by_cases e : i = k
    · subst e; rw [if_pos ⟨rfl, by omega⟩, if_pos (by omega)]
    · rw [if_neg (by omega)]
      by_cases h : i < k
      · rw [if_pos h, if_pos (by omega)]
      · rw [if_neg h, if_neg (by omega)]
theorem Perm.of {p : List Nat} {n : Nat} (hn : 1 ≤ n ∧ n ≤ 16) (h0 : ∀ i, n ≤ i → i < 16 → nl p i = 0) (h1 : ∀ i, i < n → nl p i < n) (h2 : ∀ i j, i < n → j < i → nl p j ≠ nl p i) : Perm p n :=
  ⟨by omega, fun i hi => ⟨fun h => h0 i (by omega) hi, fun h => ⟨by have := h1 i (by omega); omega, fun j hj => h2 i j (by omega) hj⟩⟩⟩
theorem Perm.zero {p : List Nat} {n : Nat} (h : Perm p n) {i : Nat} (h1 : n ≤ i) (h2 : i < 16) : nl p i = 0 := (h.2 i h2).1 (by omega)
theorem idK_perm {n : Nat} (hn : 1 ≤ n ∧ n ≤ 16) : Perm (idK n) n := .of hn
  (fun i h1 h2 => by rw [idK_nl hn.2, if_neg (by omega)]) (fun i h => by rw [idK_nl hn.2, if_pos h]; exact h)
  (fun i j h1 h2 => by rw [idK_nl hn.2, idK_nl hn.2, if_pos h1, if_pos (by omega)]; omega)
theorem mod_one {n i : Nat} (h : i < n) : (i + 1) % n = if i + 1 = n then 0 else i + 1 := by
  split
  · rename_i e; rw [e, Nat.mod_self]
  · exact Nat.mod_eq_of_lt (by omega)
theorem Perm.swap {p : List Nat} {n : Nat} (h : Perm p n) (hl : p.length = 16) {i k : Nat} (hi : i < n) (hk : k < n) : Perm ((p.set i (nl p k)).set k (nl p i)) n := by
  have hn := h.1
  have e : ∀ j, nl ((p.set i (nl p k)).set k (nl p i)) j = if j = k then nl p i else if j = i then nl p k else nl p j := fun j => by
    rw [nl_set, nl_set, List.length_set, hl]
    by_cases e1 : j = k
    · rw [if_pos ⟨e1, by omega⟩, if_pos e1]
    · rw [if_neg (by omega), if_neg e1]
      by_cases e2 : j = i
      · rw [if_pos ⟨e2, by omega⟩, if_pos e2]
      · rw [if_neg (by omega), if_neg e2]
  refine .of (by omega) (fun j h1 h2 => ?_) (fun j hj => ?_) (fun j j' hj hj' => ?_)
  · rw [e, if_neg (by omega), if_neg (by omega)]; exact h.zero h1 h2
  · rw [e]; split
    · exact h.lt hi
    · split
      · exact h.lt hk
      · exact h.lt hj
  · rw [e, e]
    intro he
    have key : ∀ a b, a < n → b < n → nl p a = nl p b → a = b := fun a b ha hb hab => h.inj ha hb hab
    split at he <;> split at he <;> (try split at he) <;> (try split at he)
    all_goals first
      | (have := key _ _ (by omega) (by omega) he; omega)
theorem l01Same_spec {x : Bool} {n : Int} {H : BH} {K : Value → BH → Prop} (hn : n ≤ 16) (hK : K (PL (idK n.toNat)) H) : CallX x F_spec_l01Same [I n] H K := by
  have hz := z16_len
  refine callP (by simp only [RH]) ?_
  refine CallX_body Γ_spec_l01Same ?_
  simp only [A_spec_l01Same, T_aiff]
  refine T_rseq fun Kr hKr => ?_
  simp (disch := omega) only [RA, ↓reduceIte, Nat.reduceEqDiff, Nat.reduceBEq, Nat.reduceSub, Nat.reduceAdd, Nat.reduceMul, Nat.reduceLT, Nat.reduceLeDiff, Int.reduceLE, Int.reduceLT, Int.reduceEq, Int.reduceNeg, Int.reduceToNat, Int.reduceMul, Int.reduceAdd, Int.reduceSub, Int.reduceBEq, Int.reduceBNe, reduceCtorEq, RD]
  refine hKr _ _ ?_
  clear hKr Kr
  try simp only [RN, reduceIte]
  try refine T_e rfl ?_
  refine T_rseq fun Kr hKr => ?_
  simp (disch := omega) only [RA, ↓reduceIte, Nat.reduceEqDiff, Nat.reduceBEq, Nat.reduceSub, Nat.reduceAdd, Nat.reduceMul, Nat.reduceLT, Nat.reduceLeDiff, Int.reduceLE, Int.reduceLT, Int.reduceEq, Int.reduceNeg, Int.reduceToNat, Int.reduceMul, Int.reduceAdd, Int.reduceSub, Int.reduceBEq, Int.reduceBNe, reduceCtorEq, RD]
  refine hKr _ _ ?_
  clear hKr Kr
  try simp only [RN, reduceIte]
  try refine T_e rfl ?_
  refine T_rseq fun Kr hKr => ?_
  simp (disch := omega) only [RA, ↓reduceIte, Nat.reduceEqDiff, Nat.reduceBEq, Nat.reduceSub, Nat.reduceAdd, Nat.reduceMul, Nat.reduceLT, Nat.reduceLeDiff, Int.reduceLE, Int.reduceLT, Int.reduceEq, Int.reduceNeg, Int.reduceToNat, Int.reduceMul, Int.reduceAdd, Int.reduceSub, Int.reduceBEq, Int.reduceBNe, reduceCtorEq, RD]
  refine hKr _ _ ?_
  clear hKr Kr
  try simp only [RN, reduceIte]
  try refine T_e rfl ?_
  refine T_wloop (fun m f H' => ∃ k : Nat, k ≤ n.toNat ∧ m = n.toNat - k ∧ f 0 = I n ∧ f 2 = P 0 0 ∧ f 3 = P 1 0 ∧ f 4 = I k ∧ H' = [some (List.replicate 16 (.int .u8 0)), some ((idK k).map N8)]) (n.toNat) ?_ ?_
  · refine ⟨_, _, Gh.refl, 0, by omega, by omega, ?_, ?_, ?_, ?_, rfl⟩
    any_goals (simp (disch := omega) only [RA, ↓reduceIte, Nat.reduceEqDiff, Nat.reduceBEq, Nat.reduceSub, Nat.reduceAdd, Nat.reduceMul, Nat.reduceLT, Nat.reduceLeDiff, Int.reduceLE, Int.reduceLT, Int.reduceEq, Int.reduceNeg, Int.reduceToNat, Int.reduceMul, Int.reduceAdd, Int.reduceSub, Int.reduceBEq, Int.reduceBNe, reduceCtorEq, RD, RE, *] <;> rfl)
  · rintro m f H' R ⟨k, hk, rfl, g0, g2, g3, g4, rfl⟩ hN hX hR hE
    simp only [A_spec_l01Same.l0, T_aiff]
    have hlk := @idK_len k
    refine T_rseq fun Kr hKr => ?_
    simp (disch := omega) only [RA, ↓reduceIte, Nat.reduceEqDiff, Nat.reduceBEq, Nat.reduceSub, Nat.reduceAdd, Nat.reduceMul, Nat.reduceLT, Nat.reduceLeDiff, Int.reduceLE, Int.reduceLT, Int.reduceEq, Int.reduceNeg, Int.reduceToNat, Int.reduceMul, Int.reduceAdd, Int.reduceSub, Int.reduceBEq, Int.reduceBNe, reduceCtorEq, RD, g0, g4]
    refine hKr _ _ ?_
    clear hKr Kr
    try simp only [RN, reduceIte]
    try refine T_e rfl ?_
    refine T_csplit (p := (k : Int) < n) (by simp only [RA, ↓reduceIte, Nat.reduceEqDiff, Nat.reduceBEq, Nat.reduceSub, Nat.reduceAdd, Nat.reduceMul, Nat.reduceLT, Nat.reduceLeDiff, Int.reduceLE, Int.reduceLT, Int.reduceEq, Int.reduceNeg, Int.reduceToNat, Int.reduceMul, Int.reduceAdd, Int.reduceSub, Int.reduceBEq, Int.reduceBNe, reduceCtorEq] <;> rfl) (by (try simp only [RB]) <;> first | done | exact Iff.rfl | omega | simp) (fun hc => ?_) (fun hc => ?_) <;> (try simp only [RN, reduceIte]) <;> (try refine T_e rfl ?_)
    · have hk16 : k < 16 := by omega
      first | refine T_bfree rfl ?_ | refine T_bfree' rfl ?_
      try simp only [RN, reduceIte]
      try refine T_e rfl ?_
      refine T_rseq fun Kr hKr => ?_
      simp (disch := omega) only [RA, ↓reduceIte, Nat.reduceEqDiff, Nat.reduceBEq, Nat.reduceSub, Nat.reduceAdd, Nat.reduceMul, Nat.reduceLT, Nat.reduceLeDiff, Int.reduceLE, Int.reduceLT, Int.reduceEq, Int.reduceNeg, Int.reduceToNat, Int.reduceMul, Int.reduceAdd, Int.reduceSub, Int.reduceBEq, Int.reduceBNe, reduceCtorEq, RD, g3, g4, hlk]
      refine hKr _ _ ?_
      clear hKr Kr
      try simp only [RN, reduceIte]
      try refine T_e rfl ?_
      refine T_reg_k fun Kr hKr => ?_
      simp (disch := omega) only [RA, ↓reduceIte, Nat.reduceEqDiff, Nat.reduceBEq, Nat.reduceSub, Nat.reduceAdd, Nat.reduceMul, Nat.reduceLT, Nat.reduceLeDiff, Int.reduceLE, Int.reduceLT, Int.reduceEq, Int.reduceNeg, Int.reduceToNat, Int.reduceMul, Int.reduceAdd, Int.reduceSub, Int.reduceBEq, Int.reduceBNe, reduceCtorEq, RD, g4]
      refine hKr _ _ ?_
      clear hKr Kr
      refine hN (n.toNat - (k + 1)) _ _ _ _ (by omega) Gh.refl ⟨k + 1, by omega, rfl, ?_, ?_, ?_, ?_, rfl⟩
      any_goals (simp (disch := omega) only [RA, ↓reduceIte, Nat.reduceEqDiff, Nat.reduceBEq, Nat.reduceSub, Nat.reduceAdd, Nat.reduceMul, Nat.reduceLT, Nat.reduceLeDiff, Int.reduceLE, Int.reduceLT, Int.reduceEq, Int.reduceNeg, Int.reduceToNat, Int.reduceMul, Int.reduceAdd, Int.reduceSub, Int.reduceBEq, Int.reduceBNe, reduceCtorEq, RD, RE, *] <;> rfl)
    · refine hX _ _ ?_
      obtain rfl : k = n.toNat := by omega
      refine T_rseq fun Kr hKr => ?_
      simp (disch := omega) only [RA, ↓reduceIte, Nat.reduceEqDiff, Nat.reduceBEq, Nat.reduceSub, Nat.reduceAdd, Nat.reduceMul, Nat.reduceLT, Nat.reduceLeDiff, Int.reduceLE, Int.reduceLT, Int.reduceEq, Int.reduceNeg, Int.reduceToNat, Int.reduceMul, Int.reduceAdd, Int.reduceSub, Int.reduceBEq, Int.reduceBNe, reduceCtorEq, RD, g2, g3, hlk]
      refine hKr _ _ ?_
      clear hKr Kr
      try simp only [RN, reduceIte]
      try refine T_e rfl ?_
      refine bodyQ_ret (by simp (disch := omega) only [RA, ↓reduceIte, Nat.reduceEqDiff, Nat.reduceBEq, Nat.reduceSub, Nat.reduceAdd, Nat.reduceMul, Nat.reduceLT, Nat.reduceLeDiff, Int.reduceLE, Int.reduceLT, Int.reduceEq, Int.reduceNeg, Int.reduceToNat, Int.reduceMul, Int.reduceAdd, Int.reduceSub, Int.reduceBEq, Int.reduceBNe, reduceCtorEq, RD, resAll, resOf, g2, hlk]; rfl) GhV.refl ?_
      simp only [tup]
      exact ⟨NN_agg (by (simp only [RH])), hK⟩
section
variable {code : List Nat} {a : Nat} {h : Int}
end
end Go.Bm

