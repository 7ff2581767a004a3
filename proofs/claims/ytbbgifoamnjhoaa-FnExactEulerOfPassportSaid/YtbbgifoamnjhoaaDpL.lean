/- Sorting: the partitions. Written by genpart.py. -/
import Derived.Test.YtbbgifoamnjhoaaDpK
set_option linter.unusedVariables false
set_option linter.unusedSimpArgs false
namespace Go.Bm
open Go Go.Am

section
variable {k : Nat} {Q : Ex → Fr → BH → Prop} {f : Fr} {H : BH}
/-- A loop, and what is known when it is left. -/
theorem T_scan {id : Nat} {a rest : ACode} (J : Nat → Fr → BH → Prop) (P : Fr → BH → Prop) (n : Nat) (h0 : ∃ f1 H1, Gh k f H f1 H1 ∧ J n f1 H1)
    (hr : ∀ n f H (R : Ex → Fr → BH → Prop), J n f H → (∀ m f' H' f1 H1, m < n → Gh k f' H' f1 H1 → J m f1 H1 → R .normal f' H') → (∀ f' H', P f' H' → R (.exit id) f' H') → (∀ f' H', Q .ret f' H' → R .ret f' H') → T k a R f H)
    (hp : ∀ f H, P f H → T k rest Q f H) : T k (.seq (.block id (.loop a)) rest) Q f H :=
  T_wloop J n h0 fun n f H R hJ hN hX hR hE => hr n f H R hJ hN (fun f' H' h => hX f' H' (hp f' H' h)) hR
end
/-- A partition under way: behind a up to i what is less than v, from j on what is not. -/
structure PI (p q : List Int) (v : Int) (a b i j : Nat) : Prop where
  sg : Sg a b p q
  lo : a + 1 ≤ i
  ij : i ≤ j + 1
  jb : j < b
  ge : a ≤ j
  va : el q a = v
  lt : ∀ x, a < x → x < i → el q x < v
  gt : ∀ x, j < x → x < b → v ≤ el q x
section
variable {p q : List Int} {v : Int} {a b i j : Nat}
theorem PI.up (h : PI p q v a b i j) (hij : i ≤ j) (hx : el q i < v) : PI p q v a b (i + 1) j := ⟨h.sg, by have := h.lo; omega, by omega, h.jb, h.ge, h.va, fun x h1 h2 => by
  rcases Nat.lt_or_ge x i with h3 | h3
  · exact h.lt x h1 h3
  · obtain rfl : x = i := by omega
    exact hx, h.gt⟩
theorem PI.dn (h : PI p q v a b i j) (hij : i ≤ j) (hx : ¬ el q j < v) : PI p q v a b i (j - 1) := ⟨h.sg, h.lo, by have := h.lo; omega, by have := h.jb; omega, by have := h.lo; omega, h.va, h.lt, fun x h1 h2 => by
  rcases Nat.lt_or_ge j x with h3 | h3
  · exact h.gt x h3 h2
  · obtain rfl : x = j := by have := h.lo; omega
    omega⟩
theorem PI.keep (h : PI p q v a b i j) (hs : j < i ∨ ¬ (el q i < v)) (hij : i ≤ j) : j - 1 < i ∨ ¬ (el q i < v) := by
  rcases hs with hs | hs
  · omega
  · exact .inr hs
theorem PI.ex (h : PI p q v a b i j) (hb : b ≤ p.length) (h1 : i < j) (h2 : ¬ el q i < v) (h3 : el q j < v) : PI p (swp q i j) v a b (i + 1) (j - 1) := by
  have hl := h.sg.len
  have lo := h.lo
  have jb := h.jb
  refine ⟨h.sg.trans (.swp (by omega) (by omega) (by omega) (by omega) (by omega)), by omega, by omega, by omega, by omega, ?_, fun x x1 x2 => ?_, fun x x1 x2 => ?_⟩
  · rw [swp_el (by omega) (by omega), if_neg (by omega), if_neg (by omega)]; exact h.va
  · rw [swp_el (by omega) (by omega), if_neg (by omega)]
    split
    · exact h3
    · exact h.lt x x1 (by omega)
  · rw [swp_el (by omega) (by omega)]
    split
    · omega
    · rw [if_neg (by omega)]
      exact h.gt x (by omega) x2
/-- Done: the pivot comes to its place. -/
theorem PI.fin (h : PI p q v a b i j) (hb : b ≤ p.length) (h1 : j < i) : Sg a b p (swp q j a) ∧ (∀ x, a ≤ x → x < j → el (swp q j a) x ≤ el (swp q j a) j) ∧ (∀ x, j < x → x < b → el (swp q j a) j ≤ el (swp q j a) x) := by
  have hl := h.sg.len
  have lo := h.lo
  have jb := h.jb
  have ge := h.ge
  have ij := h.ij
  have ej : el (swp q j a) j = v := by
    rw [swp_el (by omega) (by omega)]
    split
    · rename_i e; rw [e]; exact h.va
    · rw [if_pos rfl]; exact h.va
  refine ⟨h.sg.trans (.swp (by omega) (by omega) (by omega) (by omega) (by omega)), fun x x1 x2 => ?_, fun x x1 x2 => ?_⟩
  · rw [ej, swp_el (by omega) (by omega)]
    split
    · exact Int.le_of_lt (h.lt j (by omega) (by omega))
    · rw [if_neg (by omega)]
      exact Int.le_of_lt (h.lt x (by omega) (by omega))
  · rw [ej, swp_el (by omega) (by omega), if_neg (by omega), if_neg (by omega)]
    exact h.gt x x1 x2
end
/-- The same for what equals the pivot. -/
structure PIE (p q : List Int) (v : Int) (a b i j : Nat) : Prop where
  sg : Sg a b p q
  lo : a + 1 ≤ i
  ij : i ≤ j + 1
  jb : j < b
  ge : a ≤ j
  va : el q a = v
  lt : ∀ x, a < x → x < i → el q x ≤ v
  gt : ∀ x, j < x → x < b → v < el q x
section
variable {p q : List Int} {v : Int} {a b i j : Nat}
theorem PIE.upE (h : PIE p q v a b i j) (hij : i ≤ j) (hx : ¬ v < el q i) : PIE p q v a b (i + 1) j := ⟨h.sg, by have := h.lo; omega, by omega, h.jb, h.ge, h.va, fun x h1 h2 => by
  rcases Nat.lt_or_ge x i with h3 | h3
  · exact h.lt x h1 h3
  · obtain rfl : x = i := by omega
    omega, h.gt⟩
theorem PIE.dnE (h : PIE p q v a b i j) (hij : i ≤ j) (hx : v < el q j) : PIE p q v a b i (j - 1) := ⟨h.sg, h.lo, by have := h.lo; omega, by have := h.jb; omega, by have := h.lo; omega, h.va, h.lt, fun x h1 h2 => by
  rcases Nat.lt_or_ge j x with h3 | h3
  · exact h.gt x h3 h2
  · obtain rfl : x = j := by have := h.lo; omega
    exact hx⟩
theorem PIE.keepE (h : PIE p q v a b i j) (hs : j < i ∨ ¬ (¬ v < el q i)) (hij : i ≤ j) : j - 1 < i ∨ ¬ (¬ v < el q i) := by
  rcases hs with hs | hs
  · omega
  · exact .inr hs
theorem PIE.exE (h : PIE p q v a b i j) (hb : b ≤ p.length) (h1 : i < j) (h2 : v < el q i) (h3 : ¬ v < el q j) : PIE p (swp q i j) v a b (i + 1) (j - 1) := by
  have hl := h.sg.len
  have lo := h.lo
  have jb := h.jb
  refine ⟨h.sg.trans (.swp (by omega) (by omega) (by omega) (by omega) (by omega)), by omega, by omega, by omega, by omega, ?_, fun x x1 x2 => ?_, fun x x1 x2 => ?_⟩
  · rw [swp_el (by omega) (by omega), if_neg (by omega), if_neg (by omega)]; exact h.va
  · rw [swp_el (by omega) (by omega), if_neg (by omega)]
    split
    · omega
    · exact h.lt x x1 (by omega)
  · rw [swp_el (by omega) (by omega)]
    split
    · exact h2
    · rw [if_neg (by omega)]
      exact h.gt x (by omega) x2
end
theorem PI.start {p : List Int} {a b t : Nat} (hb : b ≤ p.length) (h1 : a ≤ t) (h2 : t < b) : PI p (swp p a t) (el p t) a b (a + 1) (b - 1) := ⟨.swp (by omega) (by omega) (by omega) (by omega) hb, by omega, by omega, by omega, by omega, by
  rw [swp_el (by omega) (by omega)]
  split
  · rename_i e; rw [e]
  · rw [if_pos rfl], fun x x1 x2 => by omega, fun x x1 x2 => by omega⟩
theorem PIE.start {p : List Int} {a b t : Nat} (hb : b ≤ p.length) (h1 : a ≤ t) (h2 : t < b) : PIE p (swp p a t) (el p t) a b (a + 1) (b - 1) := ⟨.swp (by omega) (by omega) (by omega) (by omega) hb, by omega, by omega, by omega, by omega, by
  rw [swp_el (by omega) (by omega)]
  split
  · rename_i e; rw [e]
  · rw [if_pos rfl], fun x x1 x2 => by omega, fun x x1 x2 => by omega⟩

theorem partition_spec {p : List Int} {a b t : Nat} {K : Value → BH → Prop} (hpl : p.length ≤ 1000) (hb : b ≤ p.length) (h1 : a ≤ t) (h2 : t < b)
    (hK : ∀ q mid al, Sg a b p q → a ≤ mid → mid < b → (∀ x, a ≤ x → x < mid → el q x ≤ el q mid) → (∀ x, mid < x → x < b → el q mid ≤ el q x) → K (.tuple ⟨[I (mid : Nat), .bool al]⟩) [some (q.map I)]) :
    CallX false F_slices_partitionOrdered_int64 [S 0 0 p.length 1, I a, I b, I t] [some (p.map I)] K := by
  have hp0 := PI.start hb h1 h2
  have hps : (p.set a (el p t)).length = p.length := by simp
  have hb1 : (b : Int) - 1 = ((b - 1 : Nat) : Int) := by omega
  have ha1 : (a : Int) + 1 = ((a + 1 : Nat) : Int) := by omega
  refine CallX_body Γ_slices_partitionOrdered_int64 ?_
  simp only [A_slices_partitionOrdered_int64, T_aiff]
  refine T_rseq fun Kr hKr => ?_
  simp (disch := omega) only [RA, ↓reduceIte, Nat.reduceEqDiff, RD]
  refine hKr _ _ ?_
  clear hKr Kr
  try simp only [RN, reduceIte]
  try refine T_e rfl ?_
  refine T_rseq fun Kr hKr => ?_
  simp (disch := omega) only [RA, ↓reduceIte, Nat.reduceEqDiff, RD, hps]
  refine hKr _ _ ?_
  clear hKr Kr
  try simp only [RN, reduceIte]
  try refine T_e rfl ?_
  refine T_rseq fun Kr hKr => ?_
  simp (disch := omega) only [RA, ↓reduceIte, Nat.reduceEqDiff, RD, hb1, ha1]
  refine hKr _ _ ?_
  clear hKr Kr
  try simp only [RN, reduceIte]
  try refine T_e rfl ?_
  have hsw : (p.set a (el p t)).set t (el p a) = swp p a t := rfl
  rw [hsw]
  generalize el p t = v at hp0
  generalize swp p a t = q at hp0
  clear hsw hps
  obtain ⟨i0, hi0⟩ : ∃ i0, i0 = a + 1 := ⟨_, rfl⟩
  obtain ⟨j, hj⟩ : ∃ j, j = b - 1 := ⟨_, rfl⟩
  rw [← hi0, ← hj] at hp0
  rw [← hi0] at ha1
  rw [← hj] at hb1
  simp only [← hi0, ← hj]
  clear hi0 hj
  refine T_scan (fun m f H' => ∃ i, i0 ≤ i ∧ PI p q v a b i j ∧ m = j + 1 - i ∧ f 0 = S 0 0 p.length 1 ∧ f 1 = I a ∧ f 10 = I i ∧ f 11 = I j ∧ H' = [some (q.map I)]) (fun f H' => ∃ i, i0 ≤ i ∧ PI p q v a b i j ∧ (j < i ∨ ¬ (el q i < v)) ∧ f 0 = S 0 0 p.length 1 ∧ f 1 = I a ∧ f 10 = I i ∧ f 11 = I j ∧ H' = [some (q.map I)]) (j + 1 - i0) ?_ ?_ ?_
  · refine ⟨_, _, Gh.refl, i0, Nat.le_refl _, hp0, rfl, ?_, ?_, ?_, ?_, rfl⟩
    any_goals (simp (disch := omega) only [RA, ↓reduceIte, Nat.reduceEqDiff, RD, RE, *] <;> rfl)
  · clear hp0 ha1 hb1
    rintro m f H' R2 ⟨i, hi0, hp, rfl, g0, g1, g10, g11, rfl⟩ hN2 hX2 hR2
    simp only [A_slices_partitionOrdered_int64.l0, T_aiff]
    have hql := hp.sg.len
    have hge := hp.ge
    have hjb := hp.jb
    have hva := hp.va
    have hlo := hp.lo
    by_cases hij : i ≤ j
    · refine T_rseq fun Kr hKr => ?_
      simp (disch := omega) only [RA, ↓reduceIte, Nat.reduceEqDiff, RD, g0, g1, g10, g11, hij, hql, hva]
      refine Less_spec ?_
      simp (disch := omega) only [RA, ↓reduceIte, Nat.reduceEqDiff, RD]
      refine hKr _ _ ?_
      clear hKr Kr
      try simp only [blkQ, thenQ, loopQ]
      try simp only [RN, reduceIte]
      try refine T_e rfl ?_
      refine T_csplit (p := el q i < v) (by simp only [RA, ↓reduceIte, Nat.reduceEqDiff] <;> rfl) (by (try simp only [RB]) <;> first | done | exact Iff.rfl | omega | simp) (fun hc => ?_) (fun hc => ?_) <;> (try simp only [RN, reduceIte]) <;> (try refine T_e rfl ?_)
      · first | refine T_bfree rfl ?_ | refine T_bfree' rfl ?_
        try simp only [RN, reduceIte]
        try refine T_e rfl ?_
        refine T_reg_k fun Kr hKr => ?_
        simp (disch := omega) only [RA, ↓reduceIte, Nat.reduceEqDiff, RD, g10]
        refine hKr _ _ ?_
        clear hKr Kr
        refine hN2 (j + 1 - (i + 1)) _ _ _ _ (by omega) Gh.refl ⟨i + 1, by omega, hp.up hij hc, rfl, ?_, ?_, ?_, ?_, rfl⟩
        any_goals (simp (disch := omega) only [RA, ↓reduceIte, Nat.reduceEqDiff, RD, RE, *] <;> rfl)
      · refine hX2 _ _ ⟨i, hi0, hp, .inr (by first | exact hc | exact fun h => h hc | exact fun h => hc h), ?_, ?_, ?_, ?_, rfl⟩
        any_goals (simp (disch := omega) only [RA, ↓reduceIte, Nat.reduceEqDiff, RD, RE, *] <;> rfl)
    · refine T_rseq fun Kr hKr => ?_
      simp (disch := omega) only [RA, ↓reduceIte, Nat.reduceEqDiff, RD, g10, g11, hij]
      refine hKr _ _ ?_
      clear hKr Kr
      try simp only [RN, reduceIte]
      try refine T_e rfl ?_
      refine T_cseq (t := false) (by simp (disch := omega) only [RA, ↓reduceIte, Nat.reduceEqDiff, RD]) ?_
      try simp only [RN, reduceIte]
      try refine T_e rfl ?_
      refine hX2 _ _ ⟨i, hi0, hp, .inl (by omega), ?_, ?_, ?_, ?_, rfl⟩
      any_goals (simp (disch := omega) only [RA, ↓reduceIte, Nat.reduceEqDiff, RD, RE, *] <;> rfl)
  · clear hp0 ha1 hb1
    rintro f H' ⟨i, hi0, hp0, hs, g0, g1, g10, g11, rfl⟩
    clear hi0
    obtain ⟨j0, hj0⟩ : ∃ j0, j0 = j := ⟨_, rfl⟩
    rw [← hj0] at hp0 g11 hs
    clear hj0 j
    refine T_scan (fun m f H' => ∃ j, j ≤ j0 ∧ PI p q v a b i j ∧ j = m ∧ (j < i ∨ ¬ (el q i < v)) ∧ f 0 = S 0 0 p.length 1 ∧ f 1 = I a ∧ f 10 = I i ∧ f 11 = I j ∧ H' = [some (q.map I)]) (fun f H' => ∃ j, j ≤ j0 ∧ PI p q v a b i j ∧ (j < i ∨ ¬ (el q i < v)) ∧ (j < i ∨ ¬ (¬ el q j < v)) ∧ f 0 = S 0 0 p.length 1 ∧ f 1 = I a ∧ f 10 = I i ∧ f 11 = I j ∧ H' = [some (q.map I)]) (j0) ?_ ?_ ?_
    · refine ⟨_, _, Gh.refl, j0, Nat.le_refl _, hp0, rfl, hs, ?_, ?_, ?_, ?_, rfl⟩
      any_goals (simp (disch := omega) only [RA, ↓reduceIte, Nat.reduceEqDiff, RD, RE, *] <;> rfl)
    · clear hp0 g0 g1 g10 g11 hs
      rintro m f H' R2 ⟨j, hj0, hp, rfl, hs, g0, g1, g10, g11, rfl⟩ hN2 hX2 hR2
      simp only [A_slices_partitionOrdered_int64.l1, T_aiff]
      have hql := hp.sg.len
      have hge := hp.ge
      have hjb := hp.jb
      have hva := hp.va
      have hlo := hp.lo
      by_cases hij : i ≤ j
      · refine T_rseq fun Kr hKr => ?_
        simp (disch := omega) only [RA, ↓reduceIte, Nat.reduceEqDiff, RD, g0, g1, g10, g11, hij, hql, hva]
        refine Less_spec ?_
        simp (disch := omega) only [RA, ↓reduceIte, Nat.reduceEqDiff, RD]
        refine hKr _ _ ?_
        clear hKr Kr
        try simp only [blkQ, thenQ, loopQ]
        try simp only [RN, reduceIte]
        try refine T_e rfl ?_
        refine T_csplit (p := ¬ el q j < v) (by simp only [RA, ↓reduceIte, Nat.reduceEqDiff] <;> rfl) (by (try simp only [RB]) <;> first | done | exact Iff.rfl | omega | simp) (fun hc => ?_) (fun hc => ?_) <;> (try simp only [RN, reduceIte]) <;> (try refine T_e rfl ?_)
        · first | refine T_bfree rfl ?_ | refine T_bfree' rfl ?_
          try simp only [RN, reduceIte]
          try refine T_e rfl ?_
          have hj1 : (j : Int) - 1 = ((j - 1 : Nat) : Int) := by omega
          refine T_reg_k fun Kr hKr => ?_
          simp (disch := omega) only [RA, ↓reduceIte, Nat.reduceEqDiff, RD, g11, hj1]
          refine hKr _ _ ?_
          clear hKr Kr
          refine hN2 (j - 1) _ _ _ _ (by omega) Gh.refl ⟨j - 1, by omega, hp.dn hij hc, rfl, hp.keep hs hij, ?_, ?_, ?_, ?_, rfl⟩
          any_goals (simp (disch := omega) only [RA, ↓reduceIte, Nat.reduceEqDiff, RD, RE, *] <;> rfl)
        · refine hX2 _ _ ⟨j, hj0, hp, hs, .inr (by first | exact hc | exact fun h => h hc | exact fun h => hc h), ?_, ?_, ?_, ?_, rfl⟩
          any_goals (simp (disch := omega) only [RA, ↓reduceIte, Nat.reduceEqDiff, RD, RE, *] <;> rfl)
      · refine T_rseq fun Kr hKr => ?_
        simp (disch := omega) only [RA, ↓reduceIte, Nat.reduceEqDiff, RD, g10, g11, hij]
        refine hKr _ _ ?_
        clear hKr Kr
        try simp only [RN, reduceIte]
        try refine T_e rfl ?_
        refine T_cseq (t := false) (by simp (disch := omega) only [RA, ↓reduceIte, Nat.reduceEqDiff, RD]) ?_
        try simp only [RN, reduceIte]
        try refine T_e rfl ?_
        refine hX2 _ _ ⟨j, hj0, hp, hs, .inl (by omega), ?_, ?_, ?_, ?_, rfl⟩
        any_goals (simp (disch := omega) only [RA, ↓reduceIte, Nat.reduceEqDiff, RD, RE, *] <;> rfl)
    · clear hp0 g0 g1 g10 g11 hs
      rintro f H' ⟨j, hj0, hp, hs, hs2, g0, g1, g10, g11, rfl⟩
      have hql := hp.sg.len
      have hge := hp.ge
      have hjb := hp.jb
      have hva := hp.va
      have hlo := hp.lo
      try simp only [RN, reduceIte]
      try refine T_e rfl ?_
      refine T_rseq fun Kr hKr => ?_
      simp (disch := omega) only [RA, ↓reduceIte, Nat.reduceEqDiff, RD, g10, g11]
      refine hKr _ _ ?_
      clear hKr Kr
      try simp only [RN, reduceIte]
      try refine T_e rfl ?_
      refine T_csplit (p := j < i) (by simp only [RA, ↓reduceIte, Nat.reduceEqDiff] <;> rfl) (by (try simp only [RB]) <;> first | done | exact Iff.rfl | omega | simp) (fun hc => ?_) (fun hc => ?_) <;> (try simp only [RN, reduceIte]) <;> (try refine T_e rfl ?_)
      · have hqs : (q.set j (el q a)).length = p.length := by simp [hql]
        refine T_rseq fun Kr hKr => ?_
        simp (disch := omega) only [RA, ↓reduceIte, Nat.reduceEqDiff, RD, g0, g1, g11, hql, hqs]
        refine hKr _ _ ?_
        clear hKr Kr
        try simp only [RN, reduceIte]
        try refine T_e rfl ?_
        refine T_rseq fun Kr hKr => ?_
        simp (disch := omega) only [RA, ↓reduceIte, Nat.reduceEqDiff, RD, g11]
        refine hKr _ _ ?_
        clear hKr Kr
        try simp only [RN, reduceIte]
        try refine T_e rfl ?_
        refine bodyQ_ret (by simp (disch := omega) only [RA, ↓reduceIte, Nat.reduceEqDiff, RD, resAll, resOf]; rfl) GhV.refl ?_
        simp only [tup]
        obtain ⟨r1, r2, r3⟩ := hp.fin hb hc
        exact hK (swp q j a) j true r1 (by omega) (by omega) r2 r3
      · have hq1 : ¬ el q i < v := by rcases hs with h | h; omega; exact h
        have hq2 : el q j < v := by rcases hs2 with h | h; omega; omega
        have hij : i < j := by
          rcases Nat.lt_or_ge i j with h | h
          · exact h
          · have : i = j := by omega
            subst this
            exact absurd hq2 hq1
        have hqs : (q.set i (el q j)).length = p.length := by simp [hql]
        have hj1 : (j : Int) - 1 = ((j - 1 : Nat) : Int) := by omega
        have hi1 : (i : Int) + 1 = ((i + 1 : Nat) : Int) := by omega
        have hp' := hp.ex hb hij hq1 hq2
        have hsw2 : (q.set i (el q j)).set j (el q i) = swp q i j := rfl
        refine T_rseq fun Kr hKr => ?_
        simp (disch := omega) only [RA, ↓reduceIte, Nat.reduceEqDiff, RD, g0, g10, g11, hql, hqs]
        refine hKr _ _ ?_
        clear hKr Kr
        try simp only [RN, reduceIte]
        try refine T_e rfl ?_
        refine T_rseq fun Kr hKr => ?_
        simp (disch := omega) only [RA, ↓reduceIte, Nat.reduceEqDiff, RD, g10, hi1]
        refine hKr _ _ ?_
        clear hKr Kr
        try simp only [RN, reduceIte]
        try refine T_e rfl ?_
        refine T_rseq fun Kr hKr => ?_
        simp (disch := omega) only [RA, ↓reduceIte, Nat.reduceEqDiff, RD, g11, hj1]
        refine hKr _ _ ?_
        clear hKr Kr
        try simp only [RN, reduceIte]
        try refine T_e rfl ?_
        rw [hsw2]
        refine T_wloop (fun m f H' => ∃ (q : List Int) (i j : Nat), PI p q v a b i j ∧ m = j + 1 - i ∧ f 0 = S 0 0 p.length 1 ∧ f 1 = I a ∧ f 10 = I i ∧ f 11 = I j ∧ H' = [some (q.map I)]) (j - 1 + 1 - (i + 1)) ?_ ?_
        · refine ⟨_, _, Gh.refl, swp q i j, i + 1, j - 1, hp', rfl, ?_, ?_, ?_, ?_, rfl⟩
          any_goals (simp (disch := omega) only [RA, ↓reduceIte, Nat.reduceEqDiff, RD, RE, *] <;> rfl)
        · clear hql hge hjb hva hlo hc hq1 hq2 hij hqs hj1 hi1 hp' hsw2 hp hs hs2 g0 g1 g10 g11 hj0
          rintro m f H' R ⟨q, i0, j, hp0, rfl, g0, g1, g10, g11, rfl⟩ hN hX hR hE
          simp only [A_slices_partitionOrdered_int64.l4, T_aiff]
          first | refine T_bfree rfl ?_ | refine T_bfree' rfl ?_
          try simp only [RN, reduceIte]
          try refine T_e rfl ?_
          refine T_scan (fun m f H' => ∃ i, i0 ≤ i ∧ PI p q v a b i j ∧ m = j + 1 - i ∧ f 0 = S 0 0 p.length 1 ∧ f 1 = I a ∧ f 10 = I i ∧ f 11 = I j ∧ H' = [some (q.map I)]) (fun f H' => ∃ i, i0 ≤ i ∧ PI p q v a b i j ∧ (j < i ∨ ¬ (el q i < v)) ∧ f 0 = S 0 0 p.length 1 ∧ f 1 = I a ∧ f 10 = I i ∧ f 11 = I j ∧ H' = [some (q.map I)]) (j + 1 - i0) ?_ ?_ ?_
          · refine ⟨_, _, Gh.refl, i0, Nat.le_refl _, hp0, rfl, ?_, ?_, ?_, ?_, rfl⟩
            any_goals (simp (disch := omega) only [RA, ↓reduceIte, Nat.reduceEqDiff, RD, RE, *] <;> rfl)
          · clear g0 g1 g10 g11
            rintro m f H' R2 ⟨i, hi0, hp, rfl, g0, g1, g10, g11, rfl⟩ hN2 hX2 hR2
            simp only [A_slices_partitionOrdered_int64.l2, T_aiff]
            have hql := hp.sg.len
            have hge := hp.ge
            have hjb := hp.jb
            have hva := hp.va
            have hlo := hp.lo
            by_cases hij : i ≤ j
            · refine T_rseq fun Kr hKr => ?_
              simp (disch := omega) only [RA, ↓reduceIte, Nat.reduceEqDiff, RD, g0, g1, g10, g11, hij, hql, hva]
              refine Less_spec ?_
              simp (disch := omega) only [RA, ↓reduceIte, Nat.reduceEqDiff, RD]
              refine hKr _ _ ?_
              clear hKr Kr
              try simp only [blkQ, thenQ, loopQ]
              try simp only [RN, reduceIte]
              try refine T_e rfl ?_
              refine T_csplit (p := el q i < v) (by simp only [RA, ↓reduceIte, Nat.reduceEqDiff] <;> rfl) (by (try simp only [RB]) <;> first | done | exact Iff.rfl | omega | simp) (fun hc => ?_) (fun hc => ?_) <;> (try simp only [RN, reduceIte]) <;> (try refine T_e rfl ?_)
              · first | refine T_bfree rfl ?_ | refine T_bfree' rfl ?_
                try simp only [RN, reduceIte]
                try refine T_e rfl ?_
                refine T_reg_k fun Kr hKr => ?_
                simp (disch := omega) only [RA, ↓reduceIte, Nat.reduceEqDiff, RD, g10]
                refine hKr _ _ ?_
                clear hKr Kr
                refine hN2 (j + 1 - (i + 1)) _ _ _ _ (by omega) Gh.refl ⟨i + 1, by omega, hp.up hij hc, rfl, ?_, ?_, ?_, ?_, rfl⟩
                any_goals (simp (disch := omega) only [RA, ↓reduceIte, Nat.reduceEqDiff, RD, RE, *] <;> rfl)
              · refine hX2 _ _ ⟨i, hi0, hp, .inr (by first | exact hc | exact fun h => h hc | exact fun h => hc h), ?_, ?_, ?_, ?_, rfl⟩
                any_goals (simp (disch := omega) only [RA, ↓reduceIte, Nat.reduceEqDiff, RD, RE, *] <;> rfl)
            · refine T_rseq fun Kr hKr => ?_
              simp (disch := omega) only [RA, ↓reduceIte, Nat.reduceEqDiff, RD, g10, g11, hij]
              refine hKr _ _ ?_
              clear hKr Kr
              try simp only [RN, reduceIte]
              try refine T_e rfl ?_
              refine T_cseq (t := false) (by simp (disch := omega) only [RA, ↓reduceIte, Nat.reduceEqDiff, RD]) ?_
              try simp only [RN, reduceIte]
              try refine T_e rfl ?_
              refine hX2 _ _ ⟨i, hi0, hp, .inl (by omega), ?_, ?_, ?_, ?_, rfl⟩
              any_goals (simp (disch := omega) only [RA, ↓reduceIte, Nat.reduceEqDiff, RD, RE, *] <;> rfl)
          · clear g0 g1 g10 g11
            rintro f H' ⟨i, hi0, hp1, hs, g0, g1, g10, g11, rfl⟩
            obtain ⟨j0, hj0e⟩ : ∃ j0, j0 = j := ⟨_, rfl⟩
            rw [← hj0e] at hp1 g11 hs
            rw [← hj0e] at hN
            clear hp0 hj0e j
            refine T_scan (fun m f H' => ∃ j, j ≤ j0 ∧ PI p q v a b i j ∧ j = m ∧ (j < i ∨ ¬ (el q i < v)) ∧ f 0 = S 0 0 p.length 1 ∧ f 1 = I a ∧ f 10 = I i ∧ f 11 = I j ∧ H' = [some (q.map I)]) (fun f H' => ∃ j, j ≤ j0 ∧ PI p q v a b i j ∧ (j < i ∨ ¬ (el q i < v)) ∧ (j < i ∨ ¬ (¬ el q j < v)) ∧ f 0 = S 0 0 p.length 1 ∧ f 1 = I a ∧ f 10 = I i ∧ f 11 = I j ∧ H' = [some (q.map I)]) (j0) ?_ ?_ ?_
            · refine ⟨_, _, Gh.refl, j0, Nat.le_refl _, hp1, rfl, hs, ?_, ?_, ?_, ?_, rfl⟩
              any_goals (simp (disch := omega) only [RA, ↓reduceIte, Nat.reduceEqDiff, RD, RE, *] <;> rfl)
            · clear g0 g1 g10 g11 hs
              rintro m f H' R2 ⟨j, hj0, hp, rfl, hs, g0, g1, g10, g11, rfl⟩ hN2 hX2 hR2
              simp only [A_slices_partitionOrdered_int64.l3, T_aiff]
              have hql := hp.sg.len
              have hge := hp.ge
              have hjb := hp.jb
              have hva := hp.va
              have hlo := hp.lo
              by_cases hij : i ≤ j
              · refine T_rseq fun Kr hKr => ?_
                simp (disch := omega) only [RA, ↓reduceIte, Nat.reduceEqDiff, RD, g0, g1, g10, g11, hij, hql, hva]
                refine Less_spec ?_
                simp (disch := omega) only [RA, ↓reduceIte, Nat.reduceEqDiff, RD]
                refine hKr _ _ ?_
                clear hKr Kr
                try simp only [blkQ, thenQ, loopQ]
                try simp only [RN, reduceIte]
                try refine T_e rfl ?_
                refine T_csplit (p := ¬ el q j < v) (by simp only [RA, ↓reduceIte, Nat.reduceEqDiff] <;> rfl) (by (try simp only [RB]) <;> first | done | exact Iff.rfl | omega | simp) (fun hc => ?_) (fun hc => ?_) <;> (try simp only [RN, reduceIte]) <;> (try refine T_e rfl ?_)
                · first | refine T_bfree rfl ?_ | refine T_bfree' rfl ?_
                  try simp only [RN, reduceIte]
                  try refine T_e rfl ?_
                  have hj1 : (j : Int) - 1 = ((j - 1 : Nat) : Int) := by omega
                  refine T_reg_k fun Kr hKr => ?_
                  simp (disch := omega) only [RA, ↓reduceIte, Nat.reduceEqDiff, RD, g11, hj1]
                  refine hKr _ _ ?_
                  clear hKr Kr
                  refine hN2 (j - 1) _ _ _ _ (by omega) Gh.refl ⟨j - 1, by omega, hp.dn hij hc, rfl, hp.keep hs hij, ?_, ?_, ?_, ?_, rfl⟩
                  any_goals (simp (disch := omega) only [RA, ↓reduceIte, Nat.reduceEqDiff, RD, RE, *] <;> rfl)
                · refine hX2 _ _ ⟨j, hj0, hp, hs, .inr (by first | exact hc | exact fun h => h hc | exact fun h => hc h), ?_, ?_, ?_, ?_, rfl⟩
                  any_goals (simp (disch := omega) only [RA, ↓reduceIte, Nat.reduceEqDiff, RD, RE, *] <;> rfl)
              · refine T_rseq fun Kr hKr => ?_
                simp (disch := omega) only [RA, ↓reduceIte, Nat.reduceEqDiff, RD, g10, g11, hij]
                refine hKr _ _ ?_
                clear hKr Kr
                try simp only [RN, reduceIte]
                try refine T_e rfl ?_
                refine T_cseq (t := false) (by simp (disch := omega) only [RA, ↓reduceIte, Nat.reduceEqDiff, RD]) ?_
                try simp only [RN, reduceIte]
                try refine T_e rfl ?_
                refine hX2 _ _ ⟨j, hj0, hp, hs, .inl (by omega), ?_, ?_, ?_, ?_, rfl⟩
                any_goals (simp (disch := omega) only [RA, ↓reduceIte, Nat.reduceEqDiff, RD, RE, *] <;> rfl)
            · clear g0 g1 g10 g11 hs
              rintro f H' ⟨j, hj0, hp, hs, hs2, g0, g1, g10, g11, rfl⟩
              have hql := hp.sg.len
              have hge := hp.ge
              have hjb := hp.jb
              have hva := hp.va
              have hlo := hp.lo
              try simp only [RN, reduceIte]
              try refine T_e rfl ?_
              refine T_rseq fun Kr hKr => ?_
              simp (disch := omega) only [RA, ↓reduceIte, Nat.reduceEqDiff, RD, g10, g11]
              refine hKr _ _ ?_
              clear hKr Kr
              try simp only [RN, reduceIte]
              try refine T_e rfl ?_
              refine T_csplit (p := j < i) (by simp only [RA, ↓reduceIte, Nat.reduceEqDiff] <;> rfl) (by (try simp only [RB]) <;> first | done | exact Iff.rfl | omega | simp) (fun hc => ?_) (fun hc => ?_) <;> (try simp only [RN, reduceIte]) <;> (try refine T_e rfl ?_)
              · refine hX _ _ ?_
                have hqs : (q.set j (el q a)).length = p.length := by simp [hql]
                refine T_rseq fun Kr hKr => ?_
                simp (disch := omega) only [RA, ↓reduceIte, Nat.reduceEqDiff, RD, g0, g1, g11, hql, hqs]
                refine hKr _ _ ?_
                clear hKr Kr
                try simp only [RN, reduceIte]
                try refine T_e rfl ?_
                refine T_rseq fun Kr hKr => ?_
                simp (disch := omega) only [RA, ↓reduceIte, Nat.reduceEqDiff, RD, g11]
                refine hKr _ _ ?_
                clear hKr Kr
                try simp only [RN, reduceIte]
                try refine T_e rfl ?_
                refine bodyQ_ret (by simp (disch := omega) only [RA, ↓reduceIte, Nat.reduceEqDiff, RD, resAll, resOf]; rfl) GhV.refl ?_
                simp only [tup]
                obtain ⟨r1, r2, r3⟩ := hp.fin hb hc
                exact hK (swp q j a) j false r1 (by omega) (by omega) r2 r3
              · have hq1 : ¬ el q i < v := by rcases hs with h | h; omega; exact h
                have hq2 : el q j < v := by rcases hs2 with h | h; omega; omega
                have hij : i < j := by
                  rcases Nat.lt_or_ge i j with h | h
                  · exact h
                  · have : i = j := by omega
                    subst this
                    exact absurd hq2 hq1
                have hqs : (q.set i (el q j)).length = p.length := by simp [hql]
                have hj1 : (j : Int) - 1 = ((j - 1 : Nat) : Int) := by omega
                have hi1 : (i : Int) + 1 = ((i + 1 : Nat) : Int) := by omega
                have hp' := hp.ex hb hij hq1 hq2
                have hsw2 : (q.set i (el q j)).set j (el q i) = swp q i j := rfl
                refine T_rseq fun Kr hKr => ?_
                simp (disch := omega) only [RA, ↓reduceIte, Nat.reduceEqDiff, RD, g0, g10, g11, hql, hqs]
                refine hKr _ _ ?_
                clear hKr Kr
                try simp only [RN, reduceIte]
                try refine T_e rfl ?_
                rw [hsw2]
                refine T_rseq fun Kr hKr => ?_
                simp (disch := omega) only [RA, ↓reduceIte, Nat.reduceEqDiff, RD, g10, hi1]
                refine hKr _ _ ?_
                clear hKr Kr
                try simp only [RN, reduceIte]
                try refine T_e rfl ?_
                refine T_reg_k fun Kr hKr => ?_
                simp (disch := omega) only [RA, ↓reduceIte, Nat.reduceEqDiff, RD, g11, hj1]
                refine hKr _ _ ?_
                clear hKr Kr
                refine hN (j - 1 + 1 - (i + 1)) _ _ _ _ (by omega) Gh.refl ⟨swp q i j, i + 1, j - 1, hp', rfl, ?_, ?_, ?_, ?_, rfl⟩
                any_goals (simp (disch := omega) only [RA, ↓reduceIte, Nat.reduceEqDiff, RD, RE, *] <;> rfl)
end Go.Bm
