/- Sorting: the whole. -/
import Derived.Test.YtbbgifoamnjhoaaDpM
import Derived.Test.YtbbgifoamnjhoaaDpO
set_option linter.unusedVariables false
set_option linter.unusedSimpArgs false
namespace Go.Bm
open Go Go.Am

section
variable {k : Nat} {Q : Ex → Fr → BH → Prop} {f : Fr} {H : BH}
theorem T_mid {a rest : ACode} (P : Fr → BH → Prop) (h1 : ∀ R : Ex → Fr → BH → Prop, (∀ f' H', P f' H' → R .normal f' H') → (∀ f' H', Q .ret f' H' → R .ret f' H') → (∀ i f' H', Q (.exit i) f' H' → R (.exit i) f' H') → T k a R f H) (h2 : ∀ f' H', P f' H' → T k rest Q f' H') : T k (.seq a rest) Q f H :=
  T_seq (h1 (thenQ k rest Q) (fun _ _ h => h2 _ _ h) (fun _ _ h => h) (fun _ _ _ h => h))
end
/-- All pairs are in order but for those within a part. -/
def Od (a b a' b' : Nat) (q : List Int) : Prop := ∀ x y, a ≤ x → x < y → y < b → ¬ (a' ≤ x ∧ y < b') → el q x ≤ el q y
/-- What stands ahead of a part is not above it. -/
def Pre (a b : Nat) (q : List Int) : Prop := 0 < a → ∀ x, a ≤ x → x < b → el q (a - 1) ≤ el q x
section
variable {a b a' b' m : Nat} {q r : List Int}
theorem Od.sg (h : Od a b a' b' q) (ha : a ≤ a') (hb : b' ≤ b) (k : Sg a' b' q r) : Od a b a' b' r := by
  intro x y h1 h2 h3 h4
  by_cases hx : a' ≤ x ∧ x < b'
  · obtain ⟨x', x1, x2, x3⟩ := k.src x hx.1 hx.2
    rw [x3, k.out y (by omega)]
    exact h x' y (by omega) (by omega) h3 (by omega)
  · rw [k.out x (by omega)]
    by_cases hy : a' ≤ y ∧ y < b'
    · obtain ⟨y', y1, y2, y3⟩ := k.src y hy.1 hy.2
      rw [y3]
      exact h x y' h1 (by omega) (by omega) (by omega)
    · rw [k.out y (by omega)]
      exact h x y h1 h2 h3 h4
theorem Pre.sg (h : Pre a' b' q) (k : Sg a' b' q r) : Pre a' b' r := fun h0 x h1 h2 => by
  obtain ⟨x', x1, x2, x3⟩ := k.src x h1 h2
  rw [x3, k.out (a' - 1) (by omega)]
  exact h h0 x' x1 x2
theorem Od.left (h : Od a b a' b' q) (ha : a ≤ a') (hb : b' ≤ b) (h1 : a' ≤ m) (h2 : m < b') (hl : ∀ x, a' ≤ x → x < m → el q x ≤ el q m) (hr : ∀ x, m < x → x < b' → el q m ≤ el q x) (k : Sg a' m q r) (hs : Srt a' m r) : Od a b (m + 1) b' r := by
  intro x y k1 k2 k3 k4
  by_cases hb2 : a' ≤ x ∧ y < b'
  · have em : el r m = el q m := k.out m (by omega)
    have hlow : ∀ z, a' ≤ z → z < m → el r z ≤ el q m := fun z z1 z2 => by
      obtain ⟨z', w1, w2, w3⟩ := k.src z z1 z2
      rw [w3]
      exact hl z' w1 w2
    have hup : ∀ z, m < z → z < b' → el q m ≤ el r z := fun z z1 z2 => by
      rw [k.out z (by omega)]
      exact hr z z1 z2
    rcases Nat.lt_trichotomy y m with hy | hy | hy
    · exact hs x y hb2.1 (by omega) hy
    · subst hy
      rw [em]
      exact hlow x hb2.1 k2
    · have h9 := hup y hy hb2.2
      rcases Nat.lt_or_ge x m with hx | hx
      · exact Int.le_trans (hlow x hb2.1 hx) h9
      · obtain rfl : x = m := by omega
        rw [em]
        exact h9
  · exact h.sg ha hb (k.mono (by omega) (by omega)) x y k1 k2 k3 hb2
theorem Od.right (h : Od a b a' b' q) (ha : a ≤ a') (hb : b' ≤ b) (h1 : a' ≤ m) (h2 : m < b') (hl : ∀ x, a' ≤ x → x < m → el q x ≤ el q m) (hr : ∀ x, m < x → x < b' → el q m ≤ el q x) (k : Sg (m + 1) b' q r) (hs : Srt (m + 1) b' r) : Od a b a' m r := by
  intro x y k1 k2 k3 k4
  by_cases hb2 : a' ≤ x ∧ y < b'
  · have em : el r m = el q m := k.out m (by omega)
    have hlow : ∀ z, a' ≤ z → z < m → el r z ≤ el q m := fun z z1 z2 => by
      rw [k.out z (by omega)]
      exact hl z z1 z2
    have hup : ∀ z, m < z → z < b' → el q m ≤ el r z := fun z z1 z2 => by
      obtain ⟨z', w1, w2, w3⟩ := k.src z (by omega) z2
      rw [w3]
      exact hr z' (by omega) w2
    rcases Nat.lt_trichotomy x m with hx | hx | hx
    · have h9 := hlow x hb2.1 hx
      rcases Nat.lt_or_ge m y with hy | hy
      · exact Int.le_trans h9 (hup y hy hb2.2)
      · obtain rfl : y = m := by omega
        rw [em]
        exact h9
    · subst hx
      rw [em]
      exact hup y k2 hb2.2
    · exact hs x y (by omega) (by omega) hb2.2
  · exact h.sg ha hb (k.mono (by omega) (by omega)) x y k1 k2 k3 hb2
theorem Od.done (h : Od a b a' b' q) (ha : a ≤ a') (hb : b' ≤ b) (hs : Srt a' b' q) : Srt a b q := fun x y h1 h2 h3 => by
  rcases Nat.lt_or_ge x y with hx | hx
  · by_cases hc : a' ≤ x ∧ y < b'
    · exact hs x y hc.1 h2 hc.2
    · exact h x y h1 hx h3 hc
  · obtain rfl : x = y := by omega
    exact Int.le_refl _
end
set_option maxRecDepth 20000 in
theorem pdqsort_spec : ∀ (N : Nat) {p : List Int} {a b lim : Nat} {K : Value → BH → Prop}, p.length ≤ 1000 → b ≤ p.length → a ≤ b → b - a < N → b ≤ a + 16 → b - a ≤ lim + 12 → lim ≤ 1000 → Pre a b p → (∀ q, Sg a b p q → Srt a b q → K (.tuple ⟨[]⟩) [some (q.map I)]) →
    CallX false F_slices_pdqsortOrdered_int64 [S 0 0 p.length 1, I a, I b, I lim] [some (p.map I)] K
  | 0, _, _, _, _, _, _, _, _, h, _, _, _, _, _ => by omega
  | N + 1, p, a, b, lim, K, hpl, hb, hab, hN0, h16, hlim, hlm, hpre, hK => by
    have ih := fun {p : List Int} {a b lim : Nat} {K : Value → BH → Prop} => @pdqsort_spec N p a b lim K
    refine CallX_body Γ_slices_pdqsortOrdered_int64 ?_
    simp only [A_slices_pdqsortOrdered_int64, T_aiff]
    refine T_rseq fun Kr hKr => ?_
    simp (disch := omega) only [RA, ↓reduceIte, Nat.reduceEqDiff, Nat.reduceBEq, Nat.reduceSub, Nat.reduceAdd, Nat.reduceMul, Nat.reduceLT, Nat.reduceLeDiff, Int.reduceLE, Int.reduceLT, Int.reduceEq, Int.reduceNeg, Int.reduceToNat, Int.reduceMul, Int.reduceAdd, Int.reduceSub, Int.reduceBEq, Int.reduceBNe, reduceCtorEq, RD]
    refine hKr _ _ ?_
    clear hKr Kr
    try simp only [RN, reduceIte]
    try refine T_e rfl ?_
    refine T_rseq fun Kr hKr => ?_
    simp (disch := omega) only [RA, ↓reduceIte, Nat.reduceEqDiff, Nat.reduceBEq, Nat.reduceSub, Nat.reduceAdd, Nat.reduceMul, Nat.reduceLT, Nat.reduceLeDiff, Int.reduceLE, Int.reduceLT, Int.reduceEq, Int.reduceNeg, Int.reduceToNat, Int.reduceMul, Int.reduceAdd, Int.reduceSub, Int.reduceBEq, Int.reduceBNe, reduceCtorEq, RD]
    refine hKr _ _ ?_
    clear hKr Kr
    try simp only [RN, reduceIte]
    try refine T_e rfl ?_
    refine T_tail ?_
    refine T_wloop (fun m f H' => ∃ (q : List Int) (a' b' lim : Nat) (wb wp : Bool), Sg a b p q ∧ a ≤ a' ∧ a' ≤ b' ∧ b' ≤ b ∧ Od a b a' b' q ∧ Pre a' b' q ∧ b' - a' ≤ lim + 12 ∧ lim ≤ 1000 ∧ m = b' - a' ∧ f 0 = S 0 0 p.length 1 ∧ f 1 = I a' ∧ f 2 = I b' ∧ f 3 = I lim ∧ f 8 = .bool wb ∧ f 9 = .bool wp ∧ H' = [some (q.map I)]) (b - a) ?_ ?_
    · refine ⟨_, _, Gh.refl, p, a, b, lim, true, true, .refl, by omega, by omega, by omega, fun x y h1 h2 h3 h4 => absurd ⟨h1, h3⟩ h4, hpre, hlim, hlm, rfl, ?_, ?_, ?_, ?_, ?_, ?_, rfl⟩
      any_goals (simp (disch := omega) only [RA, ↓reduceIte, Nat.reduceEqDiff, RD, RE, *] <;> rfl)
    · clear hlim hlm hpre
      rintro m f H' R ⟨q, a', b', lim, wb, wp, hq, h1, h2, h3, hod, hpre, hlim, hlm, rfl, g0, g1, g2, g3, g8, g9, rfl⟩ hN hX hR hE
      simp only [A_slices_pdqsortOrdered_int64.l0, T_aiff]
      refine T_block ?_
      try simp only [RN, reduceIte]
      try refine T_e rfl ?_
      obtain ⟨l, hl⟩ : ∃ l, l = b' - a' := ⟨_, rfl⟩
      have hbl : (b' : Int) - (a' : Int) = (l : Int) := by omega
      have hql := hq.len
      refine T_rseq fun Kr hKr => ?_
      simp (disch := omega) only [RA, ↓reduceIte, Nat.reduceEqDiff, RD, g1, g2, hbl]
      refine hKr _ _ ?_
      clear hKr Kr
      try simp only [RN, reduceIte]
      try refine T_e rfl ?_
      refine T_rseq fun Kr hKr => ?_
      simp (disch := omega) only [RA, ↓reduceIte, Nat.reduceEqDiff, Nat.reduceBEq, Nat.reduceSub, Nat.reduceAdd, Nat.reduceMul, Nat.reduceLT, Nat.reduceLeDiff, Int.reduceLE, Int.reduceLT, Int.reduceEq, Int.reduceNeg, Int.reduceToNat, Int.reduceMul, Int.reduceAdd, Int.reduceSub, Int.reduceBEq, Int.reduceBNe, reduceCtorEq, RD]
      refine hKr _ _ ?_
      clear hKr Kr
      try simp only [RN, reduceIte]
      try refine T_e rfl ?_
      refine T_csplit (p := l ≤ 12) (by simp only [RA, ↓reduceIte, Nat.reduceEqDiff] <;> rfl) (by (try simp only [RB]) <;> first | done | exact Iff.rfl | omega | simp) (fun hc => ?_) (fun hc => ?_) <;> (try simp only [RN, reduceIte]) <;> (try refine T_e rfl ?_)
      · refine T_rseq fun Kr hKr => ?_
        simp (disch := omega) only [RA, ↓reduceIte, Nat.reduceEqDiff, RD, g0, g1, g2]
        rw [← hql]
        refine insertionSort_spec (by omega) (by omega) h2 ?_
        intro r hr hs
        simp (disch := omega) only [RA, ↓reduceIte, Nat.reduceEqDiff, RD]
        refine hKr _ _ ?_
        clear hKr Kr
        try simp only [blkQ, thenQ, loopQ]
        try simp only [RN, reduceIte]
        try refine T_e rfl ?_
        simp only [blkQ, thenQ, loopQ, if_true]
        refine hR _ _ ?_
        refine bodyQ_ret (by simp (disch := omega) only [RA, ↓reduceIte, Nat.reduceEqDiff, RD, resAll, resOf]; rfl) GhV.refl ?_
        simp only [tup]
        exact hK r (hq.trans (hr.mono h1 h3)) ((hod.sg h1 h3 hr).done h1 h3 hs)
      refine T_rseq fun Kr hKr => ?_
      simp (disch := omega) only [RA, ↓reduceIte, Nat.reduceEqDiff, RD, g3]
      refine hKr _ _ ?_
      clear hKr Kr
      try simp only [RN, reduceIte]
      try refine T_e rfl ?_
      refine T_cseq (t := false) (by simp (disch := omega) only [RA, ↓reduceIte, Nat.reduceEqDiff, RD]) ?_
      try simp only [RN, reduceIte]
      try refine T_e rfl ?_
      refine T_rseq fun Kr hKr => ?_
      simp (disch := omega) only [RA, ↓reduceIte, Nat.reduceEqDiff, RD, g8]
      refine hKr _ _ ?_
      clear hKr Kr
      try simp only [RN, reduceIte]
      try refine T_e rfl ?_
      refine T_mid (fun f H' => ∃ (q : List Int) (lim' : Nat), Sg a b p q ∧ Od a b a' b' q ∧ Pre a' b' q ∧ l ≤ lim' + 13 ∧ lim' ≤ 1000 ∧ f 0 = S 0 0 p.length 1 ∧ f 1 = I a' ∧ f 2 = I b' ∧ f 3 = I lim' ∧ f 8 = .bool wb ∧ f 9 = .bool wp ∧ f 10 = I l ∧ H' = [some (q.map I)]) ?_ ?_
      · intro R1 hR1 hR2 hR3
        cases wb
        · refine T_cond (t := true) (by simp (disch := omega) only [RA, ↓reduceIte, Nat.reduceEqDiff, RD]) ?_
          try simp only [RN, reduceIte]
          try refine T_e rfl ?_
          refine T_rseq fun Kr hKr => ?_
          simp (disch := omega) only [RA, ↓reduceIte, Nat.reduceEqDiff, RD, g0, g1, g2]
          rw [← hql]
          refine breakPatterns_spec (by omega) (by omega) (by omega) (by omega) ?_
          intro r hr
          simp (disch := omega) only [RA, ↓reduceIte, Nat.reduceEqDiff, RD]
          refine hKr _ _ ?_
          clear hKr Kr
          try simp only [blkQ, thenQ, loopQ]
          try simp only [RN, reduceIte]
          try refine T_e rfl ?_
          have hl1 : (lim : Int) - 1 = ((lim - 1 : Nat) : Int) := by omega
          have hrl := hr.len
          refine T_reg_k fun Kr hKr => ?_
          simp (disch := omega) only [RA, ↓reduceIte, Nat.reduceEqDiff, RD, g3, hl1]
          refine hKr _ _ ?_
          clear hKr Kr
          refine hR1 _ _ ⟨r, lim - 1, hq.trans (hr.mono h1 h3), hod.sg h1 h3 hr, hpre.sg hr, by omega, by omega, ?_, ?_, ?_, ?_, ?_, ?_, ?_, rfl⟩
          any_goals (simp (disch := omega) only [RA, ↓reduceIte, Nat.reduceEqDiff, RD, RE, *] <;> rfl)
        · refine T_cond (t := false) (by simp (disch := omega) only [RA, ↓reduceIte, Nat.reduceEqDiff, RD]) ?_
          try simp only [RN, reduceIte]
          try refine T_e rfl ?_
          refine hR1 _ _ ⟨q, lim, hq, hod, hpre, by omega, by omega, ?_, ?_, ?_, ?_, ?_, ?_, ?_, rfl⟩
          any_goals (simp (disch := omega) only [RA, ↓reduceIte, Nat.reduceEqDiff, RD, RE, *] <;> rfl)
      clear hq hql hod hpre g0 g1 g2 g3 g8 g9 hlim hlm lim q
      rintro f H' ⟨q, lim, hq, hod, hpre, hlim, hlm, g0, g1, g2, g3, g8, g9, g10, rfl⟩
      have hql := hq.len
      try simp only [RN, reduceIte]
      try refine T_e rfl ?_
      refine T_rseq fun Kr hKr => ?_
      simp (disch := omega) only [RA, ↓reduceIte, Nat.reduceEqDiff, RD, g0, g1, g2]
      rw [← hql]
      refine choosePivot_spec (by omega) (by omega) (by omega) (by omega) ?_
      intro piv h hp1 hp2
      simp (disch := omega) only [RA, ↓reduceIte, Nat.reduceEqDiff, RD]
      refine hKr _ _ ?_
      clear hKr Kr
      try simp only [blkQ, thenQ, loopQ]
      try simp only [RN, reduceIte]
      try refine T_e rfl ?_
      refine T_rseq fun Kr hKr => ?_
      simp (disch := omega) only [RA, ↓reduceIte, Nat.reduceEqDiff, Nat.reduceBEq, Nat.reduceSub, Nat.reduceAdd, Nat.reduceMul, Nat.reduceLT, Nat.reduceLeDiff, Int.reduceLE, Int.reduceLT, Int.reduceEq, Int.reduceNeg, Int.reduceToNat, Int.reduceMul, Int.reduceAdd, Int.reduceSub, Int.reduceBEq, Int.reduceBNe, reduceCtorEq, RD]
      refine hKr _ _ ?_
      clear hKr Kr
      try simp only [RN, reduceIte]
      try refine T_e rfl ?_
      refine T_mid (fun f H' => ∃ (q : List Int) (piv : Nat) (h : Int), a' ≤ piv ∧ piv < b' ∧ Sg a b p q ∧ Od a b a' b' q ∧ Pre a' b' q ∧ f 0 = S 0 0 p.length 1 ∧ f 1 = I a' ∧ f 2 = I b' ∧ f 3 = I lim ∧ f 8 = .bool wb ∧ f 9 = .bool wp ∧ f 10 = I l ∧ f 11 = I piv ∧ f 12 = I h ∧ H' = [some (q.map I)]) ?_ ?_
      · intro R1 hR1 hR2 hR3
        refine T_csplit1 (p := h = 2) (by simp only [RA, ↓reduceIte, Nat.reduceEqDiff] <;> rfl) (by (try simp only [RB]) <;> first | done | exact Iff.rfl | omega | simp) (fun hc => ?_) (fun hc => ?_) <;> (try simp only [RN, reduceIte]) <;> (try refine T_e rfl ?_)
        · refine T_rseq fun Kr hKr => ?_
          simp (disch := omega) only [RA, ↓reduceIte, Nat.reduceEqDiff, RD, g0, g1, g2]
          rw [← hql]
          refine reverseRange_spec (by omega) (by omega) (by omega) ?_
          intro r hr
          simp (disch := omega) only [RA, ↓reduceIte, Nat.reduceEqDiff, RD]
          refine hKr _ _ ?_
          clear hKr Kr
          try simp only [blkQ, thenQ, loopQ]
          try simp only [RN, reduceIte]
          try refine T_e rfl ?_
          have hpv : (b' : Int) - 1 - ((piv : Int) - (a' : Int)) = ((b' - 1 - (piv - a') : Nat) : Int) := by omega
          have hrl := hr.len
          refine T_rseq fun Kr hKr => ?_
          simp (disch := omega) only [RA, ↓reduceIte, Nat.reduceEqDiff, RD, g1, g2, hpv]
          refine hKr _ _ ?_
          clear hKr Kr
          try simp only [RN, reduceIte]
          try refine T_e rfl ?_
          refine T_reg_k fun Kr hKr => ?_
          simp (disch := omega) only [RA, ↓reduceIte, Nat.reduceEqDiff, RD]
          refine hKr _ _ ?_
          clear hKr Kr
          refine hR1 _ _ ⟨r, b' - 1 - (piv - a'), 1, by omega, by omega, hq.trans (hr.mono h1 h3), hod.sg h1 h3 hr, hpre.sg hr, ?_, ?_, ?_, ?_, ?_, ?_, ?_, ?_, ?_, rfl⟩
          any_goals (simp (disch := omega) only [RA, ↓reduceIte, Nat.reduceEqDiff, RD, RE, *] <;> rfl)
        · refine hR1 _ _ ⟨q, piv, h, hp1, hp2, hq, hod, hpre, ?_, ?_, ?_, ?_, ?_, ?_, ?_, ?_, ?_, rfl⟩
          any_goals (simp (disch := omega) only [RA, ↓reduceIte, Nat.reduceEqDiff, RD, RE, *] <;> rfl)
      clear hq hql hod hpre g0 g1 g2 g3 g8 g9 g10 hp1 hp2 piv h q
      rintro f H' ⟨q, piv, h, hp1, hp2, hq, hod, hpre, g0, g1, g2, g3, g8, g9, g10, g11, g12, rfl⟩
      have hql := hq.len
      try simp only [RN, reduceIte]
      try refine T_e rfl ?_
      have hpart : ∀ f', f' 0 = S 0 0 p.length 1 → f' 1 = I a' → f' 2 = I b' → f' 3 = I lim → f' 9 = .bool wp → f' 10 = I l → f' 11 = I piv → f' 8 = .bool wb →
          ∀ R1 : Ex → Fr → BH → Prop, (∀ f' H', (f' 0 = S 0 0 p.length 1 ∧ f' 1 = I a' ∧ f' 2 = I b' ∧ f' 3 = I lim ∧ f' 8 = .bool wb ∧ f' 9 = .bool wp ∧ f' 10 = I l ∧ f' 11 = I piv ∧ H' = [some (q.map I)]) → R1 .normal f' H') → (∀ f' H', bodyQ 1 [] K .ret f' H' → R1 .ret f' H') →
          T 1 (.seq A_slices_pdqsortOrdered_int64.r16 (.cond (.t 72) .ret .skip)) R1 f' [some (q.map I)] := by
        intro f' g0 g1 g2 g3 g9 g10 g11 g8 R1 hR1 hR2
        refine T_rseq fun Kr hKr => ?_
        simp (disch := omega) only [RA, ↓reduceIte, Nat.reduceEqDiff, RD, g0, g1, g2]
        rw [← hql]
        refine partialInsertionSort_spec (by omega) (by omega) (by omega) (by omega) ?_
        intro r hr
        simp (disch := omega) only [RA, ↓reduceIte, Nat.reduceEqDiff, RD]
        refine hKr _ _ ?_
        clear hKr Kr
        try simp only [blkQ, thenQ, loopQ]
        try simp only [RN, reduceIte]
        try refine T_e rfl ?_
        cases r
        · refine T_cond (t := false) (by simp (disch := omega) only [RA, ↓reduceIte, Nat.reduceEqDiff, RD]) ?_
          try simp only [RN, reduceIte]
          try refine T_e rfl ?_
          refine hR1 _ _ ⟨?_, ?_, ?_, ?_, ?_, ?_, ?_, ?_, rfl⟩
          any_goals (simp (disch := omega) only [RA, ↓reduceIte, Nat.reduceEqDiff, RD, RE, *] <;> rfl)
        · refine T_cond (t := true) (by simp (disch := omega) only [RA, ↓reduceIte, Nat.reduceEqDiff, RD]) ?_
          try simp only [RN, reduceIte]
          try refine T_e rfl ?_
          refine hR2 _ _ ?_
          refine bodyQ_ret (by simp (disch := omega) only [RA, ↓reduceIte, Nat.reduceEqDiff, RD, resAll, resOf]; rfl) GhV.refl ?_
          simp only [tup]
          exact hK q hq (hod.done h1 h3 (hr rfl))
      have hpart2 : ∀ f' (t : Bool), f' 0 = S 0 0 p.length 1 → f' 1 = I a' → f' 2 = I b' → f' 3 = I lim → f' 9 = .bool wp → f' 10 = I l → f' 11 = I piv → f' 8 = .bool wb → f' 68 = .bool t →
          ∀ R1 : Ex → Fr → BH → Prop, (∀ f' H', (f' 0 = S 0 0 p.length 1 ∧ f' 1 = I a' ∧ f' 2 = I b' ∧ f' 3 = I lim ∧ f' 8 = .bool wb ∧ f' 9 = .bool wp ∧ f' 10 = I l ∧ f' 11 = I piv ∧ H' = [some (q.map I)]) → R1 .normal f' H') → (∀ f' H', bodyQ 1 [] K .ret f' H' → R1 .ret f' H') →
          T 1 (.cond (.t 68) (.seq A_slices_pdqsortOrdered_int64.r16 (.cond (.t 72) .ret .skip)) .skip) R1 f' [some (q.map I)] := by
        intro f' t g0 g1 g2 g3 g9 g10 g11 g8 g68 R1 hR1 hR2
        cases t
        · refine T_cond (t := false) (by simp (disch := omega) only [RA, ↓reduceIte, Nat.reduceEqDiff, RD, g68]) ?_
          try simp only [RN, reduceIte]
          try refine T_e rfl ?_
          exact hR1 _ _ ⟨g0, g1, g2, g3, g8, g9, g10, g11, rfl⟩
        · refine T_cond (t := true) g68 ?_
          exact hpart _ g0 g1 g2 g3 g9 g10 g11 g8 R1 hR1 hR2
      refine T_mid (fun f H' => ∃ t : Bool, f 0 = S 0 0 p.length 1 ∧ f 1 = I a' ∧ f 2 = I b' ∧ f 3 = I lim ∧ f 8 = .bool wb ∧ f 9 = .bool wp ∧ f 10 = I l ∧ f 11 = I piv ∧ f 68 = .bool t ∧ H' = [some (q.map I)]) ?_ ?_
      · intro R1 hR1 hR2 hR3
        cases wb
        · refine T_reg_k fun Kr hKr => ?_
          simp (disch := omega) only [RA, ↓reduceIte, Nat.reduceEqDiff, RD, g8]
          refine hKr _ _ ?_
          clear hKr Kr
          refine hR1 _ _ ⟨false, ?_, ?_, ?_, ?_, ?_, ?_, ?_, ?_, ?_, rfl⟩
          any_goals (simp (disch := omega) only [RA, ↓reduceIte, Nat.reduceEqDiff, RD, RE, *] <;> rfl)
        · cases wp
          · refine T_reg_k fun Kr hKr => ?_
            simp (disch := omega) only [RA, ↓reduceIte, Nat.reduceEqDiff, RD, g8, g9]
            refine hKr _ _ ?_
            clear hKr Kr
            refine hR1 _ _ ⟨false, ?_, ?_, ?_, ?_, ?_, ?_, ?_, ?_, ?_, rfl⟩
            any_goals (simp (disch := omega) only [RA, ↓reduceIte, Nat.reduceEqDiff, RD, RE, *] <;> rfl)
          · refine T_reg_k fun Kr hKr => ?_
            simp (disch := omega) only [RA, ↓reduceIte, Nat.reduceEqDiff, RD, g8, g9, g12]
            refine hKr _ _ ?_
            clear hKr Kr
            refine hR1 _ _ ⟨decide (h = 1), ?_, ?_, ?_, ?_, ?_, ?_, ?_, ?_, ?_, rfl⟩
            any_goals (simp (disch := omega) only [RA, ↓reduceIte, Nat.reduceEqDiff, RD, RE, *] <;> rfl)
      clear g0 g1 g2 g3 g8 g9 g10 g11 g12
      rintro f H' ⟨t, g0, g1, g2, g3, g8, g9, g10, g11, g68, rfl⟩
      refine T_mid (fun f H' => f 0 = S 0 0 p.length 1 ∧ f 1 = I a' ∧ f 2 = I b' ∧ f 3 = I lim ∧ f 8 = .bool wb ∧ f 9 = .bool wp ∧ f 10 = I l ∧ f 11 = I piv ∧ H' = [some (q.map I)]) ?_ ?_
      · intro R1 hR1 hR2 hR3
        exact hpart2 f t g0 g1 g2 g3 g9 g10 g11 g8 g68 R1 hR1 (fun f' H' h => hR2 _ _ (hR _ _ h))
      clear hpart hpart2 g0 g1 g2 g3 g8 g9 g10 g11 g68
      rintro f H' ⟨g0, g1, g2, g3, g8, g9, g10, g11, rfl⟩
      try simp only [RN, reduceIte]
      try refine T_e rfl ?_
      refine T_mid (fun f H' => ∃ t : Bool, (t = true → 0 < a' ∧ el q piv ≤ el q (a' - 1)) ∧ f 0 = S 0 0 p.length 1 ∧ f 1 = I a' ∧ f 2 = I b' ∧ f 3 = I lim ∧ f 8 = .bool wb ∧ f 9 = .bool wp ∧ f 10 = I l ∧ f 11 = I piv ∧ f 87 = .bool t ∧ H' = [some (q.map I)]) ?_ ?_
      · intro R1 hR1 hR2 hR3
        by_cases ha0 : 0 < a'
        · have hai : (a' : Int) - 1 = ((a' - 1 : Nat) : Int) := by omega
          refine T_reg_k fun Kr hKr => ?_
          simp (disch := omega) only [RA, ↓reduceIte, Nat.reduceEqDiff, RD, g0, g1, g11, ha0, hai, hql]
          refine Less_spec ?_
          simp (disch := omega) only [RA, ↓reduceIte, Nat.reduceEqDiff, RD]
          refine hKr _ _ ?_
          refine hR1 _ _ ⟨!decide (el q (a' - 1) < el q piv), fun h => ⟨ha0, by simpa using h⟩, ?_, ?_, ?_, ?_, ?_, ?_, ?_, ?_, ?_, rfl⟩
          any_goals (simp (disch := omega) only [RA, ↓reduceIte, Nat.reduceEqDiff, RD, RE, *] <;> rfl)
        · refine T_reg_k fun Kr hKr => ?_
          simp (disch := omega) only [RA, ↓reduceIte, Nat.reduceEqDiff, RD, g1, ha0]
          refine hKr _ _ ?_
          clear hKr Kr
          refine hR1 _ _ ⟨false, fun h => (by cases h), ?_, ?_, ?_, ?_, ?_, ?_, ?_, ?_, ?_, rfl⟩
          any_goals (simp (disch := omega) only [RA, ↓reduceIte, Nat.reduceEqDiff, RD, RE, *] <;> rfl)
      clear g0 g1 g2 g3 g8 g9 g10 g11
      rintro f H' ⟨t, ht, g0, g1, g2, g3, g8, g9, g10, g11, g87, rfl⟩
      by_cases htt : t = true
      · subst htt
        obtain ⟨ha0, hle⟩ := ht rfl
        refine T_cseq (t := true) (by simp (disch := omega) only [RA, ↓reduceIte, Nat.reduceEqDiff, RD, g87]) ?_
        try simp only [RN, reduceIte]
        try refine T_e rfl ?_
        refine T_rseq fun Kr hKr => ?_
        simp (disch := omega) only [RA, ↓reduceIte, Nat.reduceEqDiff, RD, g0, g1, g2, g11]
        rw [← hql]
        refine partitionEqual_spec (by omega) (by omega) hp1 hp2 (fun x x1 x2 => Int.le_trans hle (hpre ha0 x x1 x2)) ?_
        intro r mid hr hm1 hm2 hm3 hm4
        have hrl := hr.len
        simp (disch := omega) only [RA, ↓reduceIte, Nat.reduceEqDiff, RD]
        refine hKr _ _ ?_
        clear hKr Kr
        try simp only [blkQ, thenQ, loopQ]
        try simp only [RN, reduceIte]
        try refine T_e rfl ?_
        refine T_rseq fun Kr hKr => ?_
        simp (disch := omega) only [RA, ↓reduceIte, Nat.reduceEqDiff, Nat.reduceBEq, Nat.reduceSub, Nat.reduceAdd, Nat.reduceMul, Nat.reduceLT, Nat.reduceLeDiff, Int.reduceLE, Int.reduceLT, Int.reduceEq, Int.reduceNeg, Int.reduceToNat, Int.reduceMul, Int.reduceAdd, Int.reduceSub, Int.reduceBEq, Int.reduceBNe, reduceCtorEq, RD]
        refine hKr _ _ ?_
        clear hKr Kr
        try simp only [RN, reduceIte]
        try refine T_e rfl ?_
        refine hN (b' - mid) _ _ _ _ (by omega) Gh.refl ⟨r, mid, b', lim, wb, wp, hq.trans (hr.mono h1 h3), by omega, by omega, h3, ?_, fun _ x x1 x2 => (by rw [hm3 (mid - 1) (by omega) (by omega)]; exact hm4 x (by omega) x2), by omega, hlm, rfl, ?_, ?_, ?_, ?_, ?_, ?_, rfl⟩
        any_goals (simp (disch := omega) only [RA, ↓reduceIte, Nat.reduceEqDiff, RD, RE, *] <;> rfl)
        · intro x y k1 k2 k3 k4
          by_cases hb2 : a' ≤ x ∧ y < b'
          · rw [hm3 x hb2.1 (by omega)]
            exact hm4 y (by omega) hb2.2
          · exact hod.sg h1 h3 hr x y k1 k2 k3 hb2
      · have : t = false := by simpa using htt
        subst this
        refine T_cseq (t := false) (by simp (disch := omega) only [RA, ↓reduceIte, Nat.reduceEqDiff, RD, g87]) ?_
        try simp only [RN, reduceIte]
        try refine T_e rfl ?_
        refine T_rseq fun Kr hKr => ?_
        simp (disch := omega) only [RA, ↓reduceIte, Nat.reduceEqDiff, RD, g0, g1, g2, g11]
        rw [← hql]
        refine partition_spec (by omega) (by omega) hp1 hp2 ?_
        intro r mid al hr hm1 hm2 hm3 hm4
        have hrl := hr.len
        have hod' := hod.sg h1 h3 hr
        have hpre' := hpre.sg hr
        have e1 : (mid : Int) - (a' : Int) = ((mid - a' : Nat) : Int) := by omega
        have e2 : (b' : Int) - (mid : Int) = ((b' - mid : Nat) : Int) := by omega
        have e3 : (l : Int).tdiv 8 = ((l / 8 : Nat) : Int) := (Int.ofNat_tdiv l 8).symm
        have e4 : (mid : Int) + 1 = ((mid + 1 : Nat) : Int) := by omega
        have hdiv : l / 8 ≤ 16 := by omega
        simp (disch := omega) only [RA, ↓reduceIte, Nat.reduceEqDiff, RD]
        refine hKr _ _ ?_
        clear hKr Kr
        try simp only [blkQ, thenQ, loopQ]
        try simp only [RN, reduceIte]
        try refine T_e rfl ?_
        refine T_rseq fun Kr hKr => ?_
        simp (disch := omega) only [RA, ↓reduceIte, Nat.reduceEqDiff, Nat.reduceBEq, Nat.reduceSub, Nat.reduceAdd, Nat.reduceMul, Nat.reduceLT, Nat.reduceLeDiff, Int.reduceLE, Int.reduceLT, Int.reduceEq, Int.reduceNeg, Int.reduceToNat, Int.reduceMul, Int.reduceAdd, Int.reduceSub, Int.reduceBEq, Int.reduceBNe, reduceCtorEq, RD]
        refine hKr _ _ ?_
        clear hKr Kr
        try simp only [RN, reduceIte]
        try refine T_e rfl ?_
        refine T_rseq fun Kr hKr => ?_
        simp (disch := omega) only [RA, ↓reduceIte, Nat.reduceEqDiff, Nat.reduceBEq, Nat.reduceSub, Nat.reduceAdd, Nat.reduceMul, Nat.reduceLT, Nat.reduceLeDiff, Int.reduceLE, Int.reduceLT, Int.reduceEq, Int.reduceNeg, Int.reduceToNat, Int.reduceMul, Int.reduceAdd, Int.reduceSub, Int.reduceBEq, Int.reduceBNe, reduceCtorEq, RD, g1, g2, e1, e2]
        refine hKr _ _ ?_
        clear hKr Kr
        try simp only [RN, reduceIte]
        try refine T_e rfl ?_
        refine T_rseq fun Kr hKr => ?_
        simp (disch := omega) only [RA, ↓reduceIte, Nat.reduceEqDiff, Nat.reduceBEq, Nat.reduceSub, Nat.reduceAdd, Nat.reduceMul, Nat.reduceLT, Nat.reduceLeDiff, Int.reduceLE, Int.reduceLT, Int.reduceEq, Int.reduceNeg, Int.reduceToNat, Int.reduceMul, Int.reduceAdd, Int.reduceSub, Int.reduceBEq, Int.reduceBNe, reduceCtorEq, RD, g10, e3]
        refine hKr _ _ ?_
        clear hKr Kr
        try simp only [RN, reduceIte]
        try refine T_e rfl ?_
        refine T_rseq fun Kr hKr => ?_
        simp (disch := omega) only [RA, ↓reduceIte, Nat.reduceEqDiff, Nat.reduceBEq, Nat.reduceSub, Nat.reduceAdd, Nat.reduceMul, Nat.reduceLT, Nat.reduceLeDiff, Int.reduceLE, Int.reduceLT, Int.reduceEq, Int.reduceNeg, Int.reduceToNat, Int.reduceMul, Int.reduceAdd, Int.reduceSub, Int.reduceBEq, Int.reduceBNe, reduceCtorEq, RD]
        refine hKr _ _ ?_
        clear hKr Kr
        try simp only [RN, reduceIte]
        try refine T_e rfl ?_
        refine T_csplit1 (p := mid - a' < b' - mid) (by simp only [RA, ↓reduceIte, Nat.reduceEqDiff] <;> rfl) (by (try simp only [RB]) <;> first | done | exact Iff.rfl | omega | simp) (fun hc => ?_) (fun hc => ?_) <;> (try simp only [RN, reduceIte]) <;> (try refine T_e rfl ?_)
        · refine T_rseq fun Kr hKr => ?_
          simp (disch := omega) only [RA, ↓reduceIte, Nat.reduceEqDiff, RD]
          refine hKr _ _ ?_
          clear hKr Kr
          try simp only [RN, reduceIte]
          try refine T_e rfl ?_
          refine T_rseq fun Kr hKr => ?_
          simp (disch := omega) only [RA, ↓reduceIte, Nat.reduceEqDiff, RD, g0, g1, g3]
          rw [← hql, ← hrl]
          refine ih (by omega) (by omega) hm1 (by omega) (by omega) (by omega) hlm (fun h0 x x1 x2 => hpre' h0 x x1 (by omega)) ?_
          intro r2 hr2 hs2
          have hr2l := hr2.len
          simp (disch := omega) only [RA, ↓reduceIte, Nat.reduceEqDiff, RD]
          refine hKr _ _ ?_
          clear hKr Kr
          try simp only [blkQ, thenQ, loopQ]
          try simp only [RN, reduceIte]
          try refine T_e rfl ?_
          refine T_reg_k fun Kr hKr => ?_
          simp (disch := omega) only [RA, ↓reduceIte, Nat.reduceEqDiff, RD, e4]
          refine hKr _ _ ?_
          clear hKr Kr
          refine hN (b' - (mid + 1)) _ _ _ _ (by omega) Gh.refl ⟨r2, mid + 1, b', lim, decide (l / 8 ≤ mid - a'), al, (hq.trans (hr.mono h1 h3)).trans (hr2.mono h1 (by omega)), by omega, by omega, h3, hod'.left h1 h3 hm1 hm2 hm3 hm4 hr2 hs2, fun _ x x1 x2 => ?_, by omega, hlm, rfl, ?_, ?_, ?_, ?_, ?_, ?_, rfl⟩
          any_goals (simp (disch := omega) only [RA, ↓reduceIte, Nat.reduceEqDiff, RD, RE, *] <;> rfl)
          rw [Nat.add_sub_cancel, hr2.out mid (by omega), hr2.out x (by omega)]
          exact hm4 x (by omega) x2
        · refine T_rseq fun Kr hKr => ?_
          simp (disch := omega) only [RA, ↓reduceIte, Nat.reduceEqDiff, RD]
          refine hKr _ _ ?_
          clear hKr Kr
          try simp only [RN, reduceIte]
          try refine T_e rfl ?_
          refine T_rseq fun Kr hKr => ?_
          simp (disch := omega) only [RA, ↓reduceIte, Nat.reduceEqDiff, RD, g0, g2, g3, e4]
          rw [← hql, ← hrl]
          refine ih (by omega) (by omega) (by omega) (by omega) (by omega) (by omega) hlm (fun _ x x1 x2 => by rw [Nat.add_sub_cancel]; exact hm4 x (by omega) x2) ?_
          intro r2 hr2 hs2
          have hr2l := hr2.len
          simp (disch := omega) only [RA, ↓reduceIte, Nat.reduceEqDiff, RD]
          refine hKr _ _ ?_
          clear hKr Kr
          try simp only [blkQ, thenQ, loopQ]
          try simp only [RN, reduceIte]
          try refine T_e rfl ?_
          refine T_reg_k fun Kr hKr => ?_
          simp (disch := omega) only [RA, ↓reduceIte, Nat.reduceEqDiff, RD]
          refine hKr _ _ ?_
          clear hKr Kr
          refine hN (mid - a') _ _ _ _ (by omega) Gh.refl ⟨r2, a', mid, lim, decide (l / 8 ≤ b' - mid), al, (hq.trans (hr.mono h1 h3)).trans (hr2.mono (by omega) h3), by omega, by omega, by omega, hod'.right h1 h3 hm1 hm2 hm3 hm4 hr2 hs2, fun h0 x x1 x2 => ?_, by omega, hlm, rfl, ?_, ?_, ?_, ?_, ?_, ?_, rfl⟩
          any_goals (simp (disch := omega) only [RA, ↓reduceIte, Nat.reduceEqDiff, RD, RE, *] <;> rfl)
          rw [hr2.out (a' - 1) (by omega), hr2.out x (by omega)]
          exact hpre' h0 x x1 (by omega)
/-- Sorting in place. -/
theorem Sort_spec {p : List Int} {K : Value → BH → Prop} (hpl : p.length ≤ 16) (hK : ∀ q : List Int, q.Perm p → Srt 0 p.length q → K (.tuple ⟨[]⟩) [some (q.map I)]) :
    CallX false F_slices_Sort_int64_int64 [S 0 0 p.length 1] [some (p.map I)] K := by
  have hle := (lenOf_small p.length (by omega)).1
  have hlt := @lenOf_lt p.length
  refine CallX_body Γ_slices_Sort_int64_int64 ?_
  simp only [A_slices_Sort_int64_int64, T_aiff]
  refine T_rseq fun Kr hKr => ?_
  simp (disch := omega) only [RA, ↓reduceIte, Nat.reduceEqDiff, RD]
  refine hKr _ _ ?_
  clear hKr Kr
  try simp only [RN, reduceIte]
  try refine T_e rfl ?_
  refine T_reg_k fun Kr hKr => ?_
  simp (disch := omega) only [RA, ↓reduceIte, Nat.reduceEqDiff, RD, wu64]
  refine Len_spec (by omega) ?_
  simp (disch := omega) only [RA, ↓reduceIte, Nat.reduceEqDiff, RD]
  refine pdqsort_spec (p.length + 1) (a := 0) (b := p.length) (lim := lenOf p.length) (by omega) (Nat.le_refl _) (Nat.zero_le _) (by omega) (by omega) (by omega) (by omega) (fun h => by omega) ?_
  intro q hq hs
  simp (disch := omega) only [RA, ↓reduceIte, Nat.reduceEqDiff, RD]
  refine hKr _ _ ?_
  clear hKr Kr
  refine bodyQ_ret (by simp (disch := omega) only [RA, ↓reduceIte, Nat.reduceEqDiff, RD, resAll, resOf]; rfl) GhV.refl ?_
  simp only [tup]
  exact hK q hq.perm hs
end Go.Bm
