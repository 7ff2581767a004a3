/- Sorting: what equals the pivot. Written by genpart.py. -/
import Derived.Test.YtbbgifoamnjhoaaDpL
set_option linter.unusedVariables false
set_option linter.unusedSimpArgs false
namespace Go.Bm
open Go Go.Am

theorem partitionEqual_spec {p : List Int} {a b t : Nat} {K : Value → BH → Prop} (hpl : p.length ≤ 1000) (hb : b ≤ p.length) (h1 : a ≤ t) (h2 : t < b) (hge : ∀ x, a ≤ x → x < b → el p t ≤ el p x)
    (hK : ∀ q mid, Sg a b p q → a < mid → mid ≤ b → (∀ x, a ≤ x → x < mid → el q x = el p t) → (∀ x, a ≤ x → x < b → el p t ≤ el q x) → K (I (mid : Nat)) [some (q.map I)]) :
    CallX false F_slices_partitionEqualOrdered_int64 [S 0 0 p.length 1, I a, I b, I t] [some (p.map I)] K := by
  have hp0 := PIE.start hb h1 h2
  have hps : (p.set a (el p t)).length = p.length := by simp
  have hb1 : (b : Int) - 1 = ((b - 1 : Nat) : Int) := by omega
  have ha1 : (a : Int) + 1 = ((a + 1 : Nat) : Int) := by omega
  have hfin : ∀ q i j, PIE p q (el p t) a b i j → j < i → K (I (i : Nat)) [some (q.map I)] := by
    intro q i j hp hji
    have h3 := hp.lo
    have h4 := hp.ij
    have h5 := hp.jb
    have hall : ∀ x, a ≤ x → x < b → el p t ≤ el q x := fun x x1 x2 => by
      obtain ⟨y, y1, y2, y3⟩ := hp.sg.src x x1 x2
      rw [y3]
      exact hge y y1 y2
    refine hK q i hp.sg (by omega) (by omega) (fun x x1 x2 => ?_) hall
    rcases Nat.lt_or_ge a x with h | h
    · have := hp.lt x h x2
      have := hall x x1 (by omega)
      omega
    · obtain rfl : x = a := by omega
      exact hp.va
  refine CallX_body Γ_slices_partitionEqualOrdered_int64 ?_
  simp only [A_slices_partitionEqualOrdered_int64, T_aiff]
  refine T_rseq fun Kr hKr => ?_
  simp (disch := omega) only [RA, ↓reduceIte, Nat.reduceEqDiff, RD]
  refine hKr _ _ ?_
  clear hKr Kr
  try simp only [RN, reduceIte]
  try refine T_e rfl ?_
  refine T_rseq fun Kr hKr => ?_
  simp (disch := omega) only [RA, ↓reduceIte, Nat.reduceEqDiff, RD, hps]
  refine hKr _ _ ?_
  clear hKr Kr
  try simp only [RN, reduceIte]
  try refine T_e rfl ?_
  refine T_rseq fun Kr hKr => ?_
  simp (disch := omega) only [RA, ↓reduceIte, Nat.reduceEqDiff, RD, hb1, ha1]
  refine hKr _ _ ?_
  clear hKr Kr
  try simp only [RN, reduceIte]
  try refine T_e rfl ?_
  have hsw : (p.set a (el p t)).set t (el p a) = swp p a t := rfl
  rw [hsw]
  clear hge hK
  generalize el p t = v at hp0 hfin
  generalize swp p a t = q at hp0
  clear hsw hps
  refine T_wloop (fun m f H' => ∃ (q : List Int) (i j : Nat), PIE p q v a b i j ∧ m = j + 1 - i ∧ f 0 = S 0 0 p.length 1 ∧ f 1 = I a ∧ f 9 = I i ∧ f 10 = I j ∧ H' = [some (q.map I)]) (b - 1 + 1 - (a + 1)) ?_ ?_
  · refine ⟨_, _, Gh.refl, q, a + 1, b - 1, hp0, rfl, ?_, ?_, ?_, ?_, rfl⟩
    any_goals (simp (disch := omega) only [RA, ↓reduceIte, Nat.reduceEqDiff, RD, RE, *] <;> rfl)
  · clear hp0 ha1 hb1 q
    rintro m f H' R ⟨q, i0, j, hp0, rfl, g0, g1, g9, g10, rfl⟩ hN hX hR hE
    simp only [A_slices_partitionEqualOrdered_int64.l2, T_aiff]
    first | refine T_bfree rfl ?_ | refine T_bfree' rfl ?_
    try simp only [RN, reduceIte]
    try refine T_e rfl ?_
    refine T_scan (fun m f H' => ∃ i, i0 ≤ i ∧ PIE p q v a b i j ∧ m = j + 1 - i ∧ f 0 = S 0 0 p.length 1 ∧ f 1 = I a ∧ f 9 = I i ∧ f 10 = I j ∧ H' = [some (q.map I)]) (fun f H' => ∃ i, i0 ≤ i ∧ PIE p q v a b i j ∧ (j < i ∨ ¬ (¬ v < el q i)) ∧ f 0 = S 0 0 p.length 1 ∧ f 1 = I a ∧ f 9 = I i ∧ f 10 = I j ∧ H' = [some (q.map I)]) (j + 1 - i0) ?_ ?_ ?_
    · refine ⟨_, _, Gh.refl, i0, Nat.le_refl _, hp0, rfl, ?_, ?_, ?_, ?_, rfl⟩
      any_goals (simp (disch := omega) only [RA, ↓reduceIte, Nat.reduceEqDiff, RD, RE, *] <;> rfl)
    · clear g0 g1 g9 g10
      rintro m f H' R2 ⟨i, hi0, hp, rfl, g0, g1, g9, g10, rfl⟩ hN2 hX2 hR2
      simp only [A_slices_partitionEqualOrdered_int64.l0, T_aiff]
      have hql := hp.sg.len
      have hge := hp.ge
      have hjb := hp.jb
      have hva := hp.va
      have hlo := hp.lo
      by_cases hij : i ≤ j
      · refine T_rseq fun Kr hKr => ?_
        simp (disch := omega) only [RA, ↓reduceIte, Nat.reduceEqDiff, RD, g0, g1, g9, g10, hij, hql, hva]
        refine Less_spec ?_
        simp (disch := omega) only [RA, ↓reduceIte, Nat.reduceEqDiff, RD]
        refine hKr _ _ ?_
        clear hKr Kr
        try simp only [blkQ, thenQ, loopQ]
        try simp only [RN, reduceIte]
        try refine T_e rfl ?_
        refine T_csplit (p := ¬ v < el q i) (by simp only [RA, ↓reduceIte, Nat.reduceEqDiff] <;> rfl) (by (try simp only [RB]) <;> first | done | exact Iff.rfl | omega | simp) (fun hc => ?_) (fun hc => ?_) <;> (try simp only [RN, reduceIte]) <;> (try refine T_e rfl ?_)
        · first | refine T_bfree rfl ?_ | refine T_bfree' rfl ?_
          try simp only [RN, reduceIte]
          try refine T_e rfl ?_
          refine T_reg_k fun Kr hKr => ?_
          simp (disch := omega) only [RA, ↓reduceIte, Nat.reduceEqDiff, RD, g9]
          refine hKr _ _ ?_
          clear hKr Kr
          refine hN2 (j + 1 - (i + 1)) _ _ _ _ (by omega) Gh.refl ⟨i + 1, by omega, hp.upE hij hc, rfl, ?_, ?_, ?_, ?_, rfl⟩
          any_goals (simp (disch := omega) only [RA, ↓reduceIte, Nat.reduceEqDiff, RD, RE, *] <;> rfl)
        · refine hX2 _ _ ⟨i, hi0, hp, .inr (by first | exact hc | exact fun h => h hc | exact fun h => hc h), ?_, ?_, ?_, ?_, rfl⟩
          any_goals (simp (disch := omega) only [RA, ↓reduceIte, Nat.reduceEqDiff, RD, RE, *] <;> rfl)
      · refine T_rseq fun Kr hKr => ?_
        simp (disch := omega) only [RA, ↓reduceIte, Nat.reduceEqDiff, RD, g9, g10, hij]
        refine hKr _ _ ?_
        clear hKr Kr
        try simp only [RN, reduceIte]
        try refine T_e rfl ?_
        refine T_cseq (t := false) (by simp (disch := omega) only [RA, ↓reduceIte, Nat.reduceEqDiff, RD]) ?_
        try simp only [RN, reduceIte]
        try refine T_e rfl ?_
        refine hX2 _ _ ⟨i, hi0, hp, .inl (by omega), ?_, ?_, ?_, ?_, rfl⟩
        any_goals (simp (disch := omega) only [RA, ↓reduceIte, Nat.reduceEqDiff, RD, RE, *] <;> rfl)
    · clear g0 g1 g9 g10
      rintro f H' ⟨i, hi0, hp1, hs, g0, g1, g9, g10, rfl⟩
      obtain ⟨j0, hj0e⟩ : ∃ j0, j0 = j := ⟨_, rfl⟩
      rw [← hj0e] at hp1 g10 hs
      rw [← hj0e] at hN
      clear hp0 hj0e j
      refine T_scan (fun m f H' => ∃ j, j ≤ j0 ∧ PIE p q v a b i j ∧ j = m ∧ (j < i ∨ ¬ (¬ v < el q i)) ∧ f 0 = S 0 0 p.length 1 ∧ f 1 = I a ∧ f 9 = I i ∧ f 10 = I j ∧ H' = [some (q.map I)]) (fun f H' => ∃ j, j ≤ j0 ∧ PIE p q v a b i j ∧ (j < i ∨ ¬ (¬ v < el q i)) ∧ (j < i ∨ ¬ (v < el q j)) ∧ f 0 = S 0 0 p.length 1 ∧ f 1 = I a ∧ f 9 = I i ∧ f 10 = I j ∧ H' = [some (q.map I)]) (j0) ?_ ?_ ?_
      · refine ⟨_, _, Gh.refl, j0, Nat.le_refl _, hp1, rfl, hs, ?_, ?_, ?_, ?_, rfl⟩
        any_goals (simp (disch := omega) only [RA, ↓reduceIte, Nat.reduceEqDiff, RD, RE, *] <;> rfl)
      · clear g0 g1 g9 g10 hs
        rintro m f H' R2 ⟨j, hj0, hp, rfl, hs, g0, g1, g9, g10, rfl⟩ hN2 hX2 hR2
        simp only [A_slices_partitionEqualOrdered_int64.l1, T_aiff]
        have hql := hp.sg.len
        have hge := hp.ge
        have hjb := hp.jb
        have hva := hp.va
        have hlo := hp.lo
        by_cases hij : i ≤ j
        · refine T_rseq fun Kr hKr => ?_
          simp (disch := omega) only [RA, ↓reduceIte, Nat.reduceEqDiff, RD, g0, g1, g9, g10, hij, hql, hva]
          refine Less_spec ?_
          simp (disch := omega) only [RA, ↓reduceIte, Nat.reduceEqDiff, RD]
          refine hKr _ _ ?_
          clear hKr Kr
          try simp only [blkQ, thenQ, loopQ]
          try simp only [RN, reduceIte]
          try refine T_e rfl ?_
          refine T_csplit (p := v < el q j) (by simp only [RA, ↓reduceIte, Nat.reduceEqDiff] <;> rfl) (by (try simp only [RB]) <;> first | done | exact Iff.rfl | omega | simp) (fun hc => ?_) (fun hc => ?_) <;> (try simp only [RN, reduceIte]) <;> (try refine T_e rfl ?_)
          · first | refine T_bfree rfl ?_ | refine T_bfree' rfl ?_
            try simp only [RN, reduceIte]
            try refine T_e rfl ?_
            have hj1 : (j : Int) - 1 = ((j - 1 : Nat) : Int) := by omega
            refine T_reg_k fun Kr hKr => ?_
            simp (disch := omega) only [RA, ↓reduceIte, Nat.reduceEqDiff, RD, g10, hj1]
            refine hKr _ _ ?_
            clear hKr Kr
            refine hN2 (j - 1) _ _ _ _ (by omega) Gh.refl ⟨j - 1, by omega, hp.dnE hij hc, rfl, hp.keepE hs hij, ?_, ?_, ?_, ?_, rfl⟩
            any_goals (simp (disch := omega) only [RA, ↓reduceIte, Nat.reduceEqDiff, RD, RE, *] <;> rfl)
          · refine hX2 _ _ ⟨j, hj0, hp, hs, .inr (by first | exact hc | exact fun h => h hc | exact fun h => hc h), ?_, ?_, ?_, ?_, rfl⟩
            any_goals (simp (disch := omega) only [RA, ↓reduceIte, Nat.reduceEqDiff, RD, RE, *] <;> rfl)
        · refine T_rseq fun Kr hKr => ?_
          simp (disch := omega) only [RA, ↓reduceIte, Nat.reduceEqDiff, RD, g9, g10, hij]
          refine hKr _ _ ?_
          clear hKr Kr
          try simp only [RN, reduceIte]
          try refine T_e rfl ?_
          refine T_cseq (t := false) (by simp (disch := omega) only [RA, ↓reduceIte, Nat.reduceEqDiff, RD]) ?_
          try simp only [RN, reduceIte]
          try refine T_e rfl ?_
          refine hX2 _ _ ⟨j, hj0, hp, hs, .inl (by omega), ?_, ?_, ?_, ?_, rfl⟩
          any_goals (simp (disch := omega) only [RA, ↓reduceIte, Nat.reduceEqDiff, RD, RE, *] <;> rfl)
      · clear g0 g1 g9 g10 hs
        rintro f H' ⟨j, hj0, hp, hs, hs2, g0, g1, g9, g10, rfl⟩
        have hql := hp.sg.len
        have hge := hp.ge
        have hjb := hp.jb
        have hva := hp.va
        have hlo := hp.lo
        try simp only [RN, reduceIte]
        try refine T_e rfl ?_
        refine T_rseq fun Kr hKr => ?_
        simp (disch := omega) only [RA, ↓reduceIte, Nat.reduceEqDiff, RD, g9, g10]
        refine hKr _ _ ?_
        clear hKr Kr
        try simp only [RN, reduceIte]
        try refine T_e rfl ?_
        refine T_csplit (p := j < i) (by simp only [RA, ↓reduceIte, Nat.reduceEqDiff] <;> rfl) (by (try simp only [RB]) <;> first | done | exact Iff.rfl | omega | simp) (fun hc => ?_) (fun hc => ?_) <;> (try simp only [RN, reduceIte]) <;> (try refine T_e rfl ?_)
        · refine hX _ _ ?_
          refine T_rseq fun Kr hKr => ?_
          simp (disch := omega) only [RA, ↓reduceIte, Nat.reduceEqDiff, RD, g9]
          refine hKr _ _ ?_
          clear hKr Kr
          try simp only [RN, reduceIte]
          try refine T_e rfl ?_
          refine bodyQ_ret (by simp (disch := omega) only [RA, ↓reduceIte, Nat.reduceEqDiff, RD, resAll, resOf]; rfl) GhV.refl ?_
          simp only [tup]
          exact hfin q i j hp hc
        · have hq1 : v < el q i := by rcases hs with h | h; omega; omega
          have hq2 : ¬ v < el q j := by rcases hs2 with h | h; omega; exact h
          have hij : i < j := by
            rcases Nat.lt_or_ge i j with h | h
            · exact h
            · have : i = j := by omega
              subst this
              exact absurd hq1 hq2
          have hqs : (q.set i (el q j)).length = p.length := by simp [hql]
          have hj1 : (j : Int) - 1 = ((j - 1 : Nat) : Int) := by omega
          have hi1 : (i : Int) + 1 = ((i + 1 : Nat) : Int) := by omega
          have hp' := hp.exE hb hij hq1 hq2
          have hsw2 : (q.set i (el q j)).set j (el q i) = swp q i j := rfl
          refine T_rseq fun Kr hKr => ?_
          simp (disch := omega) only [RA, ↓reduceIte, Nat.reduceEqDiff, RD, g0, g9, g10, hql, hqs]
          refine hKr _ _ ?_
          clear hKr Kr
          try simp only [RN, reduceIte]
          try refine T_e rfl ?_
          rw [hsw2]
          refine T_rseq fun Kr hKr => ?_
          simp (disch := omega) only [RA, ↓reduceIte, Nat.reduceEqDiff, RD, g9, hi1]
          refine hKr _ _ ?_
          clear hKr Kr
          try simp only [RN, reduceIte]
          try refine T_e rfl ?_
          refine T_reg_k fun Kr hKr => ?_
          simp (disch := omega) only [RA, ↓reduceIte, Nat.reduceEqDiff, RD, g10, hj1]
          refine hKr _ _ ?_
          clear hKr Kr
          refine hN (j - 1 + 1 - (i + 1)) _ _ _ _ (by omega) Gh.refl ⟨swp q i j, i + 1, j - 1, hp', rfl, ?_, ?_, ?_, ?_, rfl⟩
          any_goals (simp (disch := omega) only [RA, ↓reduceIte, Nat.reduceEqDiff, RD, RE, *] <;> rfl)
end Go.Bm
