/- DpL, DpM, DpN, DpO -/
import Derived.Test.YtbfhlajbjfahiaaDpG0
/- Sorting: the partitions. Written by genpart.py. -/
set_option linter.unusedVariables false
set_option linter.unusedSimpArgs false
namespace Go.Bm
open Go Go.Am

section
variable {k : Nat} {Q : Ex → Fr → BH → Prop} {f : Fr} {H : BH}
/-- A loop, and what is known when it is left. -/
theorem T_scan {id : Nat} {a rest : ACode} (J : Nat → Fr → BH → Prop) (P : Fr → BH → Prop) (n : Nat) (h0 : ∃ f1 H1, Gh k f H f1 H1 ∧ J n f1 H1)
    (hr : ∀ n f H (R : Ex → Fr → BH → Prop), J n f H → (∀ m f' H' f1 H1, m < n → Gh k f' H' f1 H1 → J m f1 H1 → R .normal f' H') → (∀ f' H', P f' H' → R (.exit id) f' H') → (∀ f' H', Q .ret f' H' → R .ret f' H') → T k a R f H)
    (hp : ∀ f H, P f H → T k rest Q f H) : T k (.seq (.block id (.loop a)) rest) Q f H :=
  T_wloop J n h0 fun n f H R hJ hN hX hR hE => hr n f H R hJ hN (fun f' H' h => hX f' H' (hp f' H' h)) hR
end
/-- A partition under way: behind a up to i what is less than v, from j on what is not. -/
structure PI (p q : List Int) (v : Int) (a b i j : Nat) : Prop where
  sg : Sg a b p q
  lo : a + 1 ≤ i
  ij : i ≤ j + 1
  jb : j < b
  ge : a ≤ j
  va : el q a = v
  lt : ∀ x, a < x → x < i → el q x < v
  gt : ∀ x, j < x → x < b → v ≤ el q x
section
variable {p q : List Int} {v : Int} {a b i j : Nat}
theorem PI.up (h : PI p q v a b i j) (hij : i ≤ j) (hx : el q i < v) : PI p q v a b (i + 1) j := ⟨h.sg, by have := h.lo; omega, by omega, h.jb, h.ge, h.va, fun x h1 h2 => by
  rcases Nat.lt_or_ge x i with h3 | h3
  · exact h.lt x h1 h3
  · obtain rfl : x = i := by omega
    exact hx, h.gt⟩
theorem PI.dn (h : PI p q v a b i j) (hij : i ≤ j) (hx : ¬ el q j < v) : PI p q v a b i (j - 1) := ⟨h.sg, h.lo, by have := h.lo; omega, by have := h.jb; omega, by have := h.lo; omega, h.va, h.lt, fun x h1 h2 => by
  rcases Nat.lt_or_ge j x with h3 | h3
  · exact h.gt x h3 h2
  · obtain rfl : x = j := by have := h.lo; omega
    omega⟩
theorem PI.keep (h : PI p q v a b i j) (hs : j < i ∨ ¬ (el q i < v)) (hij : i ≤ j) : j - 1 < i ∨ ¬ (el q i < v) := by
  rcases hs with hs | hs
  · omega
  · exact .inr hs
theorem PI.ex (h : PI p q v a b i j) (hb : b ≤ p.length) (h1 : i < j) (h2 : ¬ el q i < v) (h3 : el q j < v) : PI p (swp q i j) v a b (i + 1) (j - 1) := by
  have hl := h.sg.len
  have lo := h.lo
  have jb := h.jb
  refine ⟨h.sg.trans (.swp (by omega) (by omega) (by omega) (by omega) (by omega)), by omega, by omega, by omega, by omega, ?_, fun x x1 x2 => ?_, fun x x1 x2 => ?_⟩
  · rw [swp_el (by omega) (by omega), if_neg (by omega), if_neg (by omega)]; exact h.va
  · rw [swp_el (by omega) (by omega), if_neg (by omega)]
    split
    · exact h3
    · exact h.lt x x1 (by omega)
  · rw [swp_el (by omega) (by omega)]
    split
    · omega
    · rw [if_neg (by omega)]
      exact h.gt x (by omega) x2
/-- Done: the pivot comes to its place. -/
theorem PI.fin (h : PI p q v a b i j) (hb : b ≤ p.length) (h1 : j < i) : Sg a b p (swp q j a) ∧ (∀ x, a ≤ x → x < j → el (swp q j a) x ≤ el (swp q j a) j) ∧ (∀ x, j < x → x < b → el (swp q j a) j ≤ el (swp q j a) x) := by
  have hl := h.sg.len
  have lo := h.lo
  have jb := h.jb
  have ge := h.ge
  have ij := h.ij
  have ej : el (swp q j a) j = v := by
    rw [swp_el (by omega) (by omega)]
    split
    · rename_i e; rw [e]; exact h.va
    · rw [if_pos rfl]; exact h.va
  refine ⟨h.sg.trans (.swp (by omega) (by omega) (by omega) (by omega) (by omega)), fun x x1 x2 => ?_, fun x x1 x2 => ?_⟩
  · rw [ej, swp_el (by omega) (by omega)]
    split
    · exact Int.le_of_lt (h.lt j (by omega) (by omega))
    · rw [if_neg (by omega)]
      exact Int.le_of_lt (h.lt x (by omega) (by omega))
  · rw [ej, swp_el (by omega) (by omega), if_neg (by omega), if_neg (by omega)]
    exact h.gt x x1 x2
end
/-- The same for what equals the pivot. -/
structure PIE (p q : List Int) (v : Int) (a b i j : Nat) : Prop where
  sg : Sg a b p q
  lo : a + 1 ≤ i
  ij : i ≤ j + 1
  jb : j < b
  ge : a ≤ j
  va : el q a = v
  lt : ∀ x, a < x → x < i → el q x ≤ v
  gt : ∀ x, j < x → x < b → v < el q x
section
variable {p q : List Int} {v : Int} {a b i j : Nat}
theorem PIE.upE (h : PIE p q v a b i j) (hij : i ≤ j) (hx : ¬ v < el q i) : PIE p q v a b (i + 1) j := ⟨h.sg, by have := h.lo; omega, by omega, h.jb, h.ge, h.va, fun x h1 h2 => by
  rcases Nat.lt_or_ge x i with h3 | h3
  · exact h.lt x h1 h3
  · obtain rfl : x = i := by omega
    omega, h.gt⟩
theorem PIE.dnE (h : PIE p q v a b i j) (hij : i ≤ j) (hx : v < el q j) : PIE p q v a b i (j - 1) := ⟨h.sg, h.lo, by have := h.lo; omega, by have := h.jb; omega, by have := h.lo; omega, h.va, h.lt, fun x h1 h2 => by
  rcases Nat.lt_or_ge j x with h3 | h3
  · exact h.gt x h3 h2
  · obtain rfl : x = j := by have := h.lo; omega
    exact hx⟩
theorem PIE.keepE (h : PIE p q v a b i j) (hs : j < i ∨ ¬ (¬ v < el q i)) (hij : i ≤ j) : j - 1 < i ∨ ¬ (¬ v < el q i) := by
  rcases hs with hs | hs
  · omega
  · exact .inr hs
theorem PIE.exE (h : PIE p q v a b i j) (hb : b ≤ p.length) (h1 : i < j) (h2 : v < el q i) (h3 : ¬ v < el q j) : PIE p (swp q i j) v a b (i + 1) (j - 1) := by
  have hl := h.sg.len
  have lo := h.lo
  have jb := h.jb
  refine ⟨h.sg.trans (.swp (by omega) (by omega) (by omega) (by omega) (by omega)), by omega, by omega, by omega, by omega, ?_, fun x x1 x2 => ?_, fun x x1 x2 => ?_⟩
  · rw [swp_el (by omega) (by omega), if_neg (by omega), if_neg (by omega)]; exact h.va
  · rw [swp_el (by omega) (by omega), if_neg (by omega)]
    split
    · omega
    · exact h.lt x x1 (by omega)
  · rw [swp_el (by omega) (by omega)]
    split
    · exact h2
    · rw [if_neg (by omega)]
      exact h.gt x (by omega) x2
end
theorem PI.start {p : List Int} {a b t : Nat} (hb : b ≤ p.length) (h1 : a ≤ t) (h2 : t < b) : PI p (swp p a t) (el p t) a b (a + 1) (b - 1) := ⟨.swp (by omega) (by omega) (by omega) (by omega) hb, by omega, by omega, by omega, by omega, by
  rw [swp_el (by omega) (by omega)]
  split
  · rename_i e; rw [e]
  · rw [if_pos rfl], fun x x1 x2 => by omega, fun x x1 x2 => by omega⟩
theorem PIE.start {p : List Int} {a b t : Nat} (hb : b ≤ p.length) (h1 : a ≤ t) (h2 : t < b) : PIE p (swp p a t) (el p t) a b (a + 1) (b - 1) := ⟨.swp (by omega) (by omega) (by omega) (by omega) hb, by omega, by omega, by omega, by omega, by
  rw [swp_el (by omega) (by omega)]
  split
  · rename_i e; rw [e]
  · rw [if_pos rfl], fun x x1 x2 => by omega, fun x x1 x2 => by omega⟩

theorem partition_spec {p : List Int} {a b t : Nat} {K : Value → BH → Prop} (hpl : p.length ≤ 1000) (hb : b ≤ p.length) (h1 : a ≤ t) (h2 : t < b)
    (hK : ∀ q mid al, Sg a b p q → a ≤ mid → mid < b → (∀ x, a ≤ x → x < mid → el q x ≤ el q mid) → (∀ x, mid < x → x < b → el q mid ≤ el q x) → K (.tuple ⟨[I (mid : Nat), .bool al]⟩) [some (q.map I)]) :
    CallX false F_slices_partitionOrdered_int64 [S 0 0 p.length 1, I a, I b, I t] [some (p.map I)] K := by
  have hp0 := PI.start hb h1 h2
  have hps : (p.set a (el p t)).length = p.length := by simp
  have hb1 : (b : Int) - 1 = ((b - 1 : Nat) : Int) := by omega
  have ha1 : (a : Int) + 1 = ((a + 1 : Nat) : Int) := by omega
  refine CallX_body Γ_slices_partitionOrdered_int64 ?_
  simp only [A_slices_partitionOrdered_int64, T_aiff]
  refine T_rseq fun Kr hKr => ?_
  simp (disch := omega) only [RA, ↓reduceIte, Nat.reduceEqDiff, RD]
  refine hKr _ _ ?_
  clear hKr Kr
  try simp only [RN, reduceIte]
  try refine T_e rfl ?_
  refine T_rseq fun Kr hKr => ?_
  simp (disch := omega) only [RA, ↓reduceIte, Nat.reduceEqDiff, RD, hps]
  refine hKr _ _ ?_
  clear hKr Kr
  try simp only [RN, reduceIte]
  try refine T_e rfl ?_
  refine T_rseq fun Kr hKr => ?_
  simp (disch := omega) only [RA, ↓reduceIte, Nat.reduceEqDiff, RD, hb1, ha1]
  refine hKr _ _ ?_
  clear hKr Kr
  try simp only [RN, reduceIte]
  try refine T_e rfl ?_
  have hsw : (p.set a (el p t)).set t (el p a) = swp p a t := rfl
  rw [hsw]
  generalize el p t = v at hp0
  generalize swp p a t = q at hp0
  clear hsw hps
  obtain ⟨i0, hi0⟩ : ∃ i0, i0 = a + 1 := ⟨_, rfl⟩
  obtain ⟨j, hj⟩ : ∃ j, j = b - 1 := ⟨_, rfl⟩
  rw [← hi0, ← hj] at hp0
  rw [← hi0] at ha1
  rw [← hj] at hb1
  simp only [← hi0, ← hj]
  clear hi0 hj
  refine T_scan (fun m f H' => ∃ i, i0 ≤ i ∧ PI p q v a b i j ∧ m = j + 1 - i ∧ f 0 = S 0 0 p.length 1 ∧ f 1 = I a ∧ f 10 = I i ∧ f 11 = I j ∧ H' = [some (q.map I)]) (fun f H' => ∃ i, i0 ≤ i ∧ PI p q v a b i j ∧ (j < i ∨ ¬ (el q i < v)) ∧ f 0 = S 0 0 p.length 1 ∧ f 1 = I a ∧ f 10 = I i ∧ f 11 = I j ∧ H' = [some (q.map I)]) (j + 1 - i0) ?_ ?_ ?_
  · refine ⟨_, _, Gh.refl, i0, Nat.le_refl _, hp0, rfl, ?_, ?_, ?_, ?_, rfl⟩
    any_goals (simp (disch := omega) only [RA, ↓reduceIte, Nat.reduceEqDiff, RD, RE, *] <;> rfl)
  · clear hp0 ha1 hb1
    rintro m f H' R2 ⟨i, hi0, hp, rfl, g0, g1, g10, g11, rfl⟩ hN2 hX2 hR2
    simp only [A_slices_partitionOrdered_int64.l0, T_aiff]
    have hql := hp.sg.len
    have hge := hp.ge
    have hjb := hp.jb
    have hva := hp.va
    have hlo := hp.lo
    by_cases hij : i ≤ j
    · refine T_rseq fun Kr hKr => ?_
      simp (disch := omega) only [RA, ↓reduceIte, Nat.reduceEqDiff, RD, g0, g1, g10, g11, hij, hql, hva]
      refine Less_spec ?_
      simp (disch := omega) only [RA, ↓reduceIte, Nat.reduceEqDiff, RD]
      refine hKr _ _ ?_
      clear hKr Kr
      try simp only [blkQ, thenQ, loopQ]
      try simp only [RN, reduceIte]
      try refine T_e rfl ?_
      refine T_csplit (p := el q i < v) (by simp only [RA, ↓reduceIte, Nat.reduceEqDiff] <;> rfl) (by (try simp only [RB]) <;> first | done | exact Iff.rfl | omega | simp) (fun hc => ?_) (fun hc => ?_) <;> (try simp only [RN, reduceIte]) <;> (try refine T_e rfl ?_)
      · first | refine T_bfree rfl ?_ | refine T_bfree' rfl ?_
        try simp only [RN, reduceIte]
        try refine T_e rfl ?_
        refine T_reg_k fun Kr hKr => ?_
        simp (disch := omega) only [RA, ↓reduceIte, Nat.reduceEqDiff, RD, g10]
        refine hKr _ _ ?_
        clear hKr Kr
        refine hN2 (j + 1 - (i + 1)) _ _ _ _ (by omega) Gh.refl ⟨i + 1, by omega, hp.up hij hc, rfl, ?_, ?_, ?_, ?_, rfl⟩
        any_goals (simp (disch := omega) only [RA, ↓reduceIte, Nat.reduceEqDiff, RD, RE, *] <;> rfl)
      · refine hX2 _ _ ⟨i, hi0, hp, .inr (by first | exact hc | exact fun h => h hc | exact fun h => hc h), ?_, ?_, ?_, ?_, rfl⟩
        any_goals (simp (disch := omega) only [RA, ↓reduceIte, Nat.reduceEqDiff, RD, RE, *] <;> rfl)
    · refine T_rseq fun Kr hKr => ?_
      simp (disch := omega) only [RA, ↓reduceIte, Nat.reduceEqDiff, RD, g10, g11, hij]
      refine hKr _ _ ?_
      clear hKr Kr
      try simp only [RN, reduceIte]
      try refine T_e rfl ?_
      refine T_cseq (t := false) (by simp (disch := omega) only [RA, ↓reduceIte, Nat.reduceEqDiff, RD]) ?_
      try simp only [RN, reduceIte]
      try refine T_e rfl ?_
      refine hX2 _ _ ⟨i, hi0, hp, .inl (by omega), ?_, ?_, ?_, ?_, rfl⟩
      any_goals (simp (disch := omega) only [RA, ↓reduceIte, Nat.reduceEqDiff, RD, RE, *] <;> rfl)
  · clear hp0 ha1 hb1
    rintro f H' ⟨i, hi0, hp0, hs, g0, g1, g10, g11, rfl⟩
    clear hi0
    obtain ⟨j0, hj0⟩ : ∃ j0, j0 = j := ⟨_, rfl⟩
    rw [← hj0] at hp0 g11 hs
    clear hj0 j
    refine T_scan (fun m f H' => ∃ j, j ≤ j0 ∧ PI p q v a b i j ∧ j = m ∧ (j < i ∨ ¬ (el q i < v)) ∧ f 0 = S 0 0 p.length 1 ∧ f 1 = I a ∧ f 10 = I i ∧ f 11 = I j ∧ H' = [some (q.map I)]) (fun f H' => ∃ j, j ≤ j0 ∧ PI p q v a b i j ∧ (j < i ∨ ¬ (el q i < v)) ∧ (j < i ∨ ¬ (¬ el q j < v)) ∧ f 0 = S 0 0 p.length 1 ∧ f 1 = I a ∧ f 10 = I i ∧ f 11 = I j ∧ H' = [some (q.map I)]) (j0) ?_ ?_ ?_
    · refine ⟨_, _, Gh.refl, j0, Nat.le_refl _, hp0, rfl, hs, ?_, ?_, ?_, ?_, rfl⟩
      any_goals (simp (disch := omega) only [RA, ↓reduceIte, Nat.reduceEqDiff, RD, RE, *] <;> rfl)
    · clear hp0 g0 g1 g10 g11 hs
      rintro m f H' R2 ⟨j, hj0, hp, rfl, hs, g0, g1, g10, g11, rfl⟩ hN2 hX2 hR2
      simp only [A_slices_partitionOrdered_int64.l1, T_aiff]
      have hql := hp.sg.len
      have hge := hp.ge
      have hjb := hp.jb
      have hva := hp.va
      have hlo := hp.lo
      by_cases hij : i ≤ j
      · refine T_rseq fun Kr hKr => ?_
        simp (disch := omega) only [RA, ↓reduceIte, Nat.reduceEqDiff, RD, g0, g1, g10, g11, hij, hql, hva]
        refine Less_spec ?_
        simp (disch := omega) only [RA, ↓reduceIte, Nat.reduceEqDiff, RD]
        refine hKr _ _ ?_
        clear hKr Kr
        try simp only [blkQ, thenQ, loopQ]
        try simp only [RN, reduceIte]
        try refine T_e rfl ?_
        refine T_csplit (p := ¬ el q j < v) (by simp only [RA, ↓reduceIte, Nat.reduceEqDiff] <;> rfl) (by (try simp only [RB]) <;> first | done | exact Iff.rfl | omega | simp) (fun hc => ?_) (fun hc => ?_) <;> (try simp only [RN, reduceIte]) <;> (try refine T_e rfl ?_)
        · first | refine T_bfree rfl ?_ | refine T_bfree' rfl ?_
          try simp only [RN, reduceIte]
          try refine T_e rfl ?_
          have hj1 : (j : Int) - 1 = ((j - 1 : Nat) : Int) := by omega
          refine T_reg_k fun Kr hKr => ?_
          simp (disch := omega) only [RA, ↓reduceIte, Nat.reduceEqDiff, RD, g11, hj1]
          refine hKr _ _ ?_
          clear hKr Kr
          refine hN2 (j - 1) _ _ _ _ (by omega) Gh.refl ⟨j - 1, by omega, hp.dn hij hc, rfl, hp.keep hs hij, ?_, ?_, ?_, ?_, rfl⟩
          any_goals (simp (disch := omega) only [RA, ↓reduceIte, Nat.reduceEqDiff, RD, RE, *] <;> rfl)
        · refine hX2 _ _ ⟨j, hj0, hp, hs, .inr (by first | exact hc | exact fun h => h hc | exact fun h => hc h), ?_, ?_, ?_, ?_, rfl⟩
          any_goals (simp (disch := omega) only [RA, ↓reduceIte, Nat.reduceEqDiff, RD, RE, *] <;> rfl)
      · refine T_rseq fun Kr hKr => ?_
        simp (disch := omega) only [RA, ↓reduceIte, Nat.reduceEqDiff, RD, g10, g11, hij]
        refine hKr _ _ ?_
        clear hKr Kr
        try simp only [RN, reduceIte]
        try refine T_e rfl ?_
        refine T_cseq (t := false) (by simp (disch := omega) only [RA, ↓reduceIte, Nat.reduceEqDiff, RD]) ?_
        try simp only [RN, reduceIte]
        try refine T_e rfl ?_
        refine hX2 _ _ ⟨j, hj0, hp, hs, .inl (by omega), ?_, ?_, ?_, ?_, rfl⟩
        any_goals (simp (disch := omega) only [RA, ↓reduceIte, Nat.reduceEqDiff, RD, RE, *] <;> rfl)
    · clear hp0 g0 g1 g10 g11 hs
      rintro f H' ⟨j, hj0, hp, hs, hs2, g0, g1, g10, g11, rfl⟩
      have hql := hp.sg.len
      have hge := hp.ge
      have hjb := hp.jb
      have hva := hp.va
      have hlo := hp.lo
      try simp only [RN, reduceIte]
      try refine T_e rfl ?_
      refine T_rseq fun Kr hKr => ?_
      simp (disch := omega) only [RA, ↓reduceIte, Nat.reduceEqDiff, RD, g10, g11]
      refine hKr _ _ ?_
      clear hKr Kr
      try simp only [RN, reduceIte]
      try refine T_e rfl ?_
      refine T_csplit (p := j < i) (by simp only [RA, ↓reduceIte, Nat.reduceEqDiff] <;> rfl) (by (try simp only [RB]) <;> first | done | exact Iff.rfl | omega | simp) (fun hc => ?_) (fun hc => ?_) <;> (try simp only [RN, reduceIte]) <;> (try refine T_e rfl ?_)
      · have hqs : (q.set j (el q a)).length = p.length := by simp [hql]
        refine T_rseq fun Kr hKr => ?_
        simp (disch := omega) only [RA, ↓reduceIte, Nat.reduceEqDiff, RD, g0, g1, g11, hql, hqs]
        refine hKr _ _ ?_
        clear hKr Kr
        try simp only [RN, reduceIte]
        try refine T_e rfl ?_
        refine T_rseq fun Kr hKr => ?_
        simp (disch := omega) only [RA, ↓reduceIte, Nat.reduceEqDiff, RD, g11]
        refine hKr _ _ ?_
        clear hKr Kr
        try simp only [RN, reduceIte]
        try refine T_e rfl ?_
        refine bodyQ_ret (by simp (disch := omega) only [RA, ↓reduceIte, Nat.reduceEqDiff, RD, resAll, resOf]; rfl) GhV.refl ?_
        simp only [tup]
        obtain ⟨r1, r2, r3⟩ := hp.fin hb hc
        exact hK (swp q j a) j true r1 (by omega) (by omega) r2 r3
      · have hq1 : ¬ el q i < v := by rcases hs with h | h; omega; exact h
        have hq2 : el q j < v := by rcases hs2 with h | h; omega; omega
        have hij : i < j := by
          rcases Nat.lt_or_ge i j with h | h
          · exact h
          · have : i = j := by omega
            subst this
            exact absurd hq2 hq1
        have hqs : (q.set i (el q j)).length = p.length := by simp [hql]
        have hj1 : (j : Int) - 1 = ((j - 1 : Nat) : Int) := by omega
        have hi1 : (i : Int) + 1 = ((i + 1 : Nat) : Int) := by omega
        have hp' := hp.ex hb hij hq1 hq2
        have hsw2 : (q.set i (el q j)).set j (el q i) = swp q i j := rfl
        refine T_rseq fun Kr hKr => ?_
        simp (disch := omega) only [RA, ↓reduceIte, Nat.reduceEqDiff, RD, g0, g10, g11, hql, hqs]
        refine hKr _ _ ?_
        clear hKr Kr
        try simp only [RN, reduceIte]
        try refine T_e rfl ?_
        refine T_rseq fun Kr hKr => ?_
        simp (disch := omega) only [RA, ↓reduceIte, Nat.reduceEqDiff, RD, g10, hi1]
        refine hKr _ _ ?_
        clear hKr Kr
        try simp only [RN, reduceIte]
        try refine T_e rfl ?_
        refine T_rseq fun Kr hKr => ?_
        simp (disch := omega) only [RA, ↓reduceIte, Nat.reduceEqDiff, RD, g11, hj1]
        refine hKr _ _ ?_
        clear hKr Kr
        try simp only [RN, reduceIte]
        try refine T_e rfl ?_
        rw [hsw2]
        refine T_wloop (fun m f H' => ∃ (q : List Int) (i j : Nat), PI p q v a b i j ∧ m = j + 1 - i ∧ f 0 = S 0 0 p.length 1 ∧ f 1 = I a ∧ f 10 = I i ∧ f 11 = I j ∧ H' = [some (q.map I)]) (j - 1 + 1 - (i + 1)) ?_ ?_
        · refine ⟨_, _, Gh.refl, swp q i j, i + 1, j - 1, hp', rfl, ?_, ?_, ?_, ?_, rfl⟩
          any_goals (simp (disch := omega) only [RA, ↓reduceIte, Nat.reduceEqDiff, RD, RE, *] <;> rfl)
        · clear hql hge hjb hva hlo hc hq1 hq2 hij hqs hj1 hi1 hp' hsw2 hp hs hs2 g0 g1 g10 g11 hj0
          rintro m f H' R ⟨q, i0, j, hp0, rfl, g0, g1, g10, g11, rfl⟩ hN hX hR hE
          simp only [A_slices_partitionOrdered_int64.l4, T_aiff]
          first | refine T_bfree rfl ?_ | refine T_bfree' rfl ?_
          try simp only [RN, reduceIte]
          try refine T_e rfl ?_
          refine T_scan (fun m f H' => ∃ i, i0 ≤ i ∧ PI p q v a b i j ∧ m = j + 1 - i ∧ f 0 = S 0 0 p.length 1 ∧ f 1 = I a ∧ f 10 = I i ∧ f 11 = I j ∧ H' = [some (q.map I)]) (fun f H' => ∃ i, i0 ≤ i ∧ PI p q v a b i j ∧ (j < i ∨ ¬ (el q i < v)) ∧ f 0 = S 0 0 p.length 1 ∧ f 1 = I a ∧ f 10 = I i ∧ f 11 = I j ∧ H' = [some (q.map I)]) (j + 1 - i0) ?_ ?_ ?_
          · refine ⟨_, _, Gh.refl, i0, Nat.le_refl _, hp0, rfl, ?_, ?_, ?_, ?_, rfl⟩
            any_goals (simp (disch := omega) only [RA, ↓reduceIte, Nat.reduceEqDiff, RD, RE, *] <;> rfl)
          · clear g0 g1 g10 g11
            rintro m f H' R2 ⟨i, hi0, hp, rfl, g0, g1, g10, g11, rfl⟩ hN2 hX2 hR2
            simp only [A_slices_partitionOrdered_int64.l2, T_aiff]
            have hql := hp.sg.len
            have hge := hp.ge
            have hjb := hp.jb
            have hva := hp.va
            have hlo := hp.lo
            by_cases hij : i ≤ j
            · refine T_rseq fun Kr hKr => ?_
              simp (disch := omega) only [RA, ↓reduceIte, Nat.reduceEqDiff, RD, g0, g1, g10, g11, hij, hql, hva]
              refine Less_spec ?_
              simp (disch := omega) only [RA, ↓reduceIte, Nat.reduceEqDiff, RD]
              refine hKr _ _ ?_
              clear hKr Kr
              try simp only [blkQ, thenQ, loopQ]
              try simp only [RN, reduceIte]
              try refine T_e rfl ?_
              refine T_csplit (p := el q i < v) (by simp only [RA, ↓reduceIte, Nat.reduceEqDiff] <;> rfl) (by (try simp only [RB]) <;> first | done | exact Iff.rfl | omega | simp) (fun hc => ?_) (fun hc => ?_) <;> (try simp only [RN, reduceIte]) <;> (try refine T_e rfl ?_)
              · first | refine T_bfree rfl ?_ | refine T_bfree' rfl ?_
                try simp only [RN, reduceIte]
                try refine T_e rfl ?_
                refine T_reg_k fun Kr hKr => ?_
                simp (disch := omega) only [RA, ↓reduceIte, Nat.reduceEqDiff, RD, g10]
                refine hKr _ _ ?_
                clear hKr Kr
                refine hN2 (j + 1 - (i + 1)) _ _ _ _ (by omega) Gh.refl ⟨i + 1, by omega, hp.up hij hc, rfl, ?_, ?_, ?_, ?_, rfl⟩
                any_goals (simp (disch := omega) only [RA, ↓reduceIte, Nat.reduceEqDiff, RD, RE, *] <;> rfl)
              · refine hX2 _ _ ⟨i, hi0, hp, .inr (by first | exact hc | exact fun h => h hc | exact fun h => hc h), ?_, ?_, ?_, ?_, rfl⟩
                any_goals (simp (disch := omega) only [RA, ↓reduceIte, Nat.reduceEqDiff, RD, RE, *] <;> rfl)
            · refine T_rseq fun Kr hKr => ?_
              simp (disch := omega) only [RA, ↓reduceIte, Nat.reduceEqDiff, RD, g10, g11, hij]
              refine hKr _ _ ?_
              clear hKr Kr
              try simp only [RN, reduceIte]
              try refine T_e rfl ?_
              refine T_cseq (t := false) (by simp (disch := omega) only [RA, ↓reduceIte, Nat.reduceEqDiff, RD]) ?_
              try simp only [RN, reduceIte]
              try refine T_e rfl ?_
              refine hX2 _ _ ⟨i, hi0, hp, .inl (by omega), ?_, ?_, ?_, ?_, rfl⟩
              any_goals (simp (disch := omega) only [RA, ↓reduceIte, Nat.reduceEqDiff, RD, RE, *] <;> rfl)
          · clear g0 g1 g10 g11
            rintro f H' ⟨i, hi0, hp1, hs, g0, g1, g10, g11, rfl⟩
            obtain ⟨j0, hj0e⟩ : ∃ j0, j0 = j := ⟨_, rfl⟩
            rw [← hj0e] at hp1 g11 hs
            rw [← hj0e] at hN
            clear hp0 hj0e j
            refine T_scan (fun m f H' => ∃ j, j ≤ j0 ∧ PI p q v a b i j ∧ j = m ∧ (j < i ∨ ¬ (el q i < v)) ∧ f 0 = S 0 0 p.length 1 ∧ f 1 = I a ∧ f 10 = I i ∧ f 11 = I j ∧ H' = [some (q.map I)]) (fun f H' => ∃ j, j ≤ j0 ∧ PI p q v a b i j ∧ (j < i ∨ ¬ (el q i < v)) ∧ (j < i ∨ ¬ (¬ el q j < v)) ∧ f 0 = S 0 0 p.length 1 ∧ f 1 = I a ∧ f 10 = I i ∧ f 11 = I j ∧ H' = [some (q.map I)]) (j0) ?_ ?_ ?_
            · refine ⟨_, _, Gh.refl, j0, Nat.le_refl _, hp1, rfl, hs, ?_, ?_, ?_, ?_, rfl⟩
              any_goals (simp (disch := omega) only [RA, ↓reduceIte, Nat.reduceEqDiff, RD, RE, *] <;> rfl)
            · clear g0 g1 g10 g11 hs
              rintro m f H' R2 ⟨j, hj0, hp, rfl, hs, g0, g1, g10, g11, rfl⟩ hN2 hX2 hR2
              simp only [A_slices_partitionOrdered_int64.l3, T_aiff]
              have hql := hp.sg.len
              have hge := hp.ge
              have hjb := hp.jb
              have hva := hp.va
              have hlo := hp.lo
              by_cases hij : i ≤ j
              · refine T_rseq fun Kr hKr => ?_
                simp (disch := omega) only [RA, ↓reduceIte, Nat.reduceEqDiff, RD, g0, g1, g10, g11, hij, hql, hva]
                refine Less_spec ?_
                simp (disch := omega) only [RA, ↓reduceIte, Nat.reduceEqDiff, RD]
                refine hKr _ _ ?_
                clear hKr Kr
                try simp only [blkQ, thenQ, loopQ]
                try simp only [RN, reduceIte]
                try refine T_e rfl ?_
                refine T_csplit (p := ¬ el q j < v) (by simp only [RA, ↓reduceIte, Nat.reduceEqDiff] <;> rfl) (by (try simp only [RB]) <;> first | done | exact Iff.rfl | omega | simp) (fun hc => ?_) (fun hc => ?_) <;> (try simp only [RN, reduceIte]) <;> (try refine T_e rfl ?_)
                · first | refine T_bfree rfl ?_ | refine T_bfree' rfl ?_
                  try simp only [RN, reduceIte]
                  try refine T_e rfl ?_
                  have hj1 : (j : Int) - 1 = ((j - 1 : Nat) : Int) := by omega
                  refine T_reg_k fun Kr hKr => ?_
                  simp (disch := omega) only [RA, ↓reduceIte, Nat.reduceEqDiff, RD, g11, hj1]
                  refine hKr _ _ ?_
                  clear hKr Kr
                  refine hN2 (j - 1) _ _ _ _ (by omega) Gh.refl ⟨j - 1, by omega, hp.dn hij hc, rfl, hp.keep hs hij, ?_, ?_, ?_, ?_, rfl⟩
                  any_goals (simp (disch := omega) only [RA, ↓reduceIte, Nat.reduceEqDiff, RD, RE, *] <;> rfl)
                · refine hX2 _ _ ⟨j, hj0, hp, hs, .inr (by first | exact hc | exact fun h => h hc | exact fun h => hc h), ?_, ?_, ?_, ?_, rfl⟩
                  any_goals (simp (disch := omega) only [RA, ↓reduceIte, Nat.reduceEqDiff, RD, RE, *] <;> rfl)
              · refine T_rseq fun Kr hKr => ?_
                simp (disch := omega) only [RA, ↓reduceIte, Nat.reduceEqDiff, RD, g10, g11, hij]
                refine hKr _ _ ?_
                clear hKr Kr
                try simp only [RN, reduceIte]
                try refine T_e rfl ?_
                refine T_cseq (t := false) (by simp (disch := omega) only [RA, ↓reduceIte, Nat.reduceEqDiff, RD]) ?_
                try simp only [RN, reduceIte]
                try refine T_e rfl ?_
                refine hX2 _ _ ⟨j, hj0, hp, hs, .inl (by omega), ?_, ?_, ?_, ?_, rfl⟩
                any_goals (simp (disch := omega) only [RA, ↓reduceIte, Nat.reduceEqDiff, RD, RE, *] <;> rfl)
            · clear g0 g1 g10 g11 hs
              rintro f H' ⟨j, hj0, hp, hs, hs2, g0, g1, g10, g11, rfl⟩
              have hql := hp.sg.len
              have hge := hp.ge
              have hjb := hp.jb
              have hva := hp.va
              have hlo := hp.lo
              try simp only [RN, reduceIte]
              try refine T_e rfl ?_
              refine T_rseq fun Kr hKr => ?_
              simp (disch := omega) only [RA, ↓reduceIte, Nat.reduceEqDiff, RD, g10, g11]
              refine hKr _ _ ?_
              clear hKr Kr
              try simp only [RN, reduceIte]
              try refine T_e rfl ?_
              refine T_csplit (p := j < i) (by simp only [RA, ↓reduceIte, Nat.reduceEqDiff] <;> rfl) (by (try simp only [RB]) <;> first | done | exact Iff.rfl | omega | simp) (fun hc => ?_) (fun hc => ?_) <;> (try simp only [RN, reduceIte]) <;> (try refine T_e rfl ?_)
              · refine hX _ _ ?_
                have hqs : (q.set j (el q a)).length = p.length := by simp [hql]
                refine T_rseq fun Kr hKr => ?_
                simp (disch := omega) only [RA, ↓reduceIte, Nat.reduceEqDiff, RD, g0, g1, g11, hql, hqs]
                refine hKr _ _ ?_
                clear hKr Kr
                try simp only [RN, reduceIte]
                try refine T_e rfl ?_
                refine T_rseq fun Kr hKr => ?_
                simp (disch := omega) only [RA, ↓reduceIte, Nat.reduceEqDiff, RD, g11]
                refine hKr _ _ ?_
                clear hKr Kr
                try simp only [RN, reduceIte]
                try refine T_e rfl ?_
                refine bodyQ_ret (by simp (disch := omega) only [RA, ↓reduceIte, Nat.reduceEqDiff, RD, resAll, resOf]; rfl) GhV.refl ?_
                simp only [tup]
                obtain ⟨r1, r2, r3⟩ := hp.fin hb hc
                exact hK (swp q j a) j false r1 (by omega) (by omega) r2 r3
              · have hq1 : ¬ el q i < v := by rcases hs with h | h; omega; exact h
                have hq2 : el q j < v := by rcases hs2 with h | h; omega; omega
                have hij : i < j := by
                  rcases Nat.lt_or_ge i j with h | h
                  · exact h
                  · have : i = j := by omega
                    subst this
                    exact absurd hq2 hq1
                have hqs : (q.set i (el q j)).length = p.length := by simp [hql]
                have hj1 : (j : Int) - 1 = ((j - 1 : Nat) : Int) := by omega
                have hi1 : (i : Int) + 1 = ((i + 1 : Nat) : Int) := by omega
                have hp' := hp.ex hb hij hq1 hq2
                have hsw2 : (q.set i (el q j)).set j (el q i) = swp q i j := rfl
                refine T_rseq fun Kr hKr => ?_
                simp (disch := omega) only [RA, ↓reduceIte, Nat.reduceEqDiff, RD, g0, g10, g11, hql, hqs]
                refine hKr _ _ ?_
                clear hKr Kr
                try simp only [RN, reduceIte]
                try refine T_e rfl ?_
                rw [hsw2]
                refine T_rseq fun Kr hKr => ?_
                simp (disch := omega) only [RA, ↓reduceIte, Nat.reduceEqDiff, RD, g10, hi1]
                refine hKr _ _ ?_
                clear hKr Kr
                try simp only [RN, reduceIte]
                try refine T_e rfl ?_
                refine T_reg_k fun Kr hKr => ?_
                simp (disch := omega) only [RA, ↓reduceIte, Nat.reduceEqDiff, RD, g11, hj1]
                refine hKr _ _ ?_
                clear hKr Kr
                refine hN (j - 1 + 1 - (i + 1)) _ _ _ _ (by omega) Gh.refl ⟨swp q i j, i + 1, j - 1, hp', rfl, ?_, ?_, ?_, ?_, rfl⟩
                any_goals (simp (disch := omega) only [RA, ↓reduceIte, Nat.reduceEqDiff, RD, RE, *] <;> rfl)
end Go.Bm

/- Sorting: what equals the pivot. Written by genpart.py. -/
set_option linter.unusedVariables false
set_option linter.unusedSimpArgs false
namespace Go.Bm
open Go Go.Am

theorem partitionEqual_spec {p : List Int} {a b t : Nat} {K : Value → BH → Prop} (hpl : p.length ≤ 1000) (hb : b ≤ p.length) (h1 : a ≤ t) (h2 : t < b) (hge : ∀ x, a ≤ x → x < b → el p t ≤ el p x)
    (hK : ∀ q mid, Sg a b p q → a < mid → mid ≤ b → (∀ x, a ≤ x → x < mid → el q x = el p t) → (∀ x, a ≤ x → x < b → el p t ≤ el q x) → K (I (mid : Nat)) [some (q.map I)]) :
    CallX false F_slices_partitionEqualOrdered_int64 [S 0 0 p.length 1, I a, I b, I t] [some (p.map I)] K := by
  have hp0 := PIE.start hb h1 h2
  have hps : (p.set a (el p t)).length = p.length := by simp
  have hb1 : (b : Int) - 1 = ((b - 1 : Nat) : Int) := by omega
  have ha1 : (a : Int) + 1 = ((a + 1 : Nat) : Int) := by omega
  have hfin : ∀ q i j, PIE p q (el p t) a b i j → j < i → K (I (i : Nat)) [some (q.map I)] := by
    intro q i j hp hji
    have h3 := hp.lo
    have h4 := hp.ij
    have h5 := hp.jb
    have hall : ∀ x, a ≤ x → x < b → el p t ≤ el q x := fun x x1 x2 => by
      obtain ⟨y, y1, y2, y3⟩ := hp.sg.src x x1 x2
      rw [y3]
      exact hge y y1 y2
    refine hK q i hp.sg (by omega) (by omega) (fun x x1 x2 => ?_) hall
    rcases Nat.lt_or_ge a x with h | h
    · have := hp.lt x h x2
      have := hall x x1 (by omega)
      omega
    · obtain rfl : x = a := by omega
      exact hp.va
  refine CallX_body Γ_slices_partitionEqualOrdered_int64 ?_
  simp only [A_slices_partitionEqualOrdered_int64, T_aiff]
  refine T_rseq fun Kr hKr => ?_
  simp (disch := omega) only [RA, ↓reduceIte, Nat.reduceEqDiff, RD]
  refine hKr _ _ ?_
  clear hKr Kr
  try simp only [RN, reduceIte]
  try refine T_e rfl ?_
  refine T_rseq fun Kr hKr => ?_
  simp (disch := omega) only [RA, ↓reduceIte, Nat.reduceEqDiff, RD, hps]
  refine hKr _ _ ?_
  clear hKr Kr
  try simp only [RN, reduceIte]
  try refine T_e rfl ?_
  refine T_rseq fun Kr hKr => ?_
  simp (disch := omega) only [RA, ↓reduceIte, Nat.reduceEqDiff, RD, hb1, ha1]
  refine hKr _ _ ?_
  clear hKr Kr
  try simp only [RN, reduceIte]
  try refine T_e rfl ?_
  have hsw : (p.set a (el p t)).set t (el p a) = swp p a t := rfl
  rw [hsw]
  clear hge hK
  generalize el p t = v at hp0 hfin
  generalize swp p a t = q at hp0
  clear hsw hps
  refine T_wloop (fun m f H' => ∃ (q : List Int) (i j : Nat), PIE p q v a b i j ∧ m = j + 1 - i ∧ f 0 = S 0 0 p.length 1 ∧ f 1 = I a ∧ f 9 = I i ∧ f 10 = I j ∧ H' = [some (q.map I)]) (b - 1 + 1 - (a + 1)) ?_ ?_
  · refine ⟨_, _, Gh.refl, q, a + 1, b - 1, hp0, rfl, ?_, ?_, ?_, ?_, rfl⟩
    any_goals (simp (disch := omega) only [RA, ↓reduceIte, Nat.reduceEqDiff, RD, RE, *] <;> rfl)
  · clear hp0 ha1 hb1 q
    rintro m f H' R ⟨q, i0, j, hp0, rfl, g0, g1, g9, g10, rfl⟩ hN hX hR hE
    simp only [A_slices_partitionEqualOrdered_int64.l2, T_aiff]
    first | refine T_bfree rfl ?_ | refine T_bfree' rfl ?_
    try simp only [RN, reduceIte]
    try refine T_e rfl ?_
    refine T_scan (fun m f H' => ∃ i, i0 ≤ i ∧ PIE p q v a b i j ∧ m = j + 1 - i ∧ f 0 = S 0 0 p.length 1 ∧ f 1 = I a ∧ f 9 = I i ∧ f 10 = I j ∧ H' = [some (q.map I)]) (fun f H' => ∃ i, i0 ≤ i ∧ PIE p q v a b i j ∧ (j < i ∨ ¬ (¬ v < el q i)) ∧ f 0 = S 0 0 p.length 1 ∧ f 1 = I a ∧ f 9 = I i ∧ f 10 = I j ∧ H' = [some (q.map I)]) (j + 1 - i0) ?_ ?_ ?_
    · refine ⟨_, _, Gh.refl, i0, Nat.le_refl _, hp0, rfl, ?_, ?_, ?_, ?_, rfl⟩
      any_goals (simp (disch := omega) only [RA, ↓reduceIte, Nat.reduceEqDiff, RD, RE, *] <;> rfl)
    · clear g0 g1 g9 g10
      rintro m f H' R2 ⟨i, hi0, hp, rfl, g0, g1, g9, g10, rfl⟩ hN2 hX2 hR2
      simp only [A_slices_partitionEqualOrdered_int64.l0, T_aiff]
      have hql := hp.sg.len
      have hge := hp.ge
      have hjb := hp.jb
      have hva := hp.va
      have hlo := hp.lo
      by_cases hij : i ≤ j
      · refine T_rseq fun Kr hKr => ?_
        simp (disch := omega) only [RA, ↓reduceIte, Nat.reduceEqDiff, RD, g0, g1, g9, g10, hij, hql, hva]
        refine Less_spec ?_
        simp (disch := omega) only [RA, ↓reduceIte, Nat.reduceEqDiff, RD]
        refine hKr _ _ ?_
        clear hKr Kr
        try simp only [blkQ, thenQ, loopQ]
        try simp only [RN, reduceIte]
        try refine T_e rfl ?_
        refine T_csplit (p := ¬ v < el q i) (by simp only [RA, ↓reduceIte, Nat.reduceEqDiff] <;> rfl) (by (try simp only [RB]) <;> first | done | exact Iff.rfl | omega | simp) (fun hc => ?_) (fun hc => ?_) <;> (try simp only [RN, reduceIte]) <;> (try refine T_e rfl ?_)
        · first | refine T_bfree rfl ?_ | refine T_bfree' rfl ?_
          try simp only [RN, reduceIte]
          try refine T_e rfl ?_
          refine T_reg_k fun Kr hKr => ?_
          simp (disch := omega) only [RA, ↓reduceIte, Nat.reduceEqDiff, RD, g9]
          refine hKr _ _ ?_
          clear hKr Kr
          refine hN2 (j + 1 - (i + 1)) _ _ _ _ (by omega) Gh.refl ⟨i + 1, by omega, hp.upE hij hc, rfl, ?_, ?_, ?_, ?_, rfl⟩
          any_goals (simp (disch := omega) only [RA, ↓reduceIte, Nat.reduceEqDiff, RD, RE, *] <;> rfl)
        · refine hX2 _ _ ⟨i, hi0, hp, .inr (by first | exact hc | exact fun h => h hc | exact fun h => hc h), ?_, ?_, ?_, ?_, rfl⟩
          any_goals (simp (disch := omega) only [RA, ↓reduceIte, Nat.reduceEqDiff, RD, RE, *] <;> rfl)
      · refine T_rseq fun Kr hKr => ?_
        simp (disch := omega) only [RA, ↓reduceIte, Nat.reduceEqDiff, RD, g9, g10, hij]
        refine hKr _ _ ?_
        clear hKr Kr
        try simp only [RN, reduceIte]
        try refine T_e rfl ?_
        refine T_cseq (t := false) (by simp (disch := omega) only [RA, ↓reduceIte, Nat.reduceEqDiff, RD]) ?_
        try simp only [RN, reduceIte]
        try refine T_e rfl ?_
        refine hX2 _ _ ⟨i, hi0, hp, .inl (by omega), ?_, ?_, ?_, ?_, rfl⟩
        any_goals (simp (disch := omega) only [RA, ↓reduceIte, Nat.reduceEqDiff, RD, RE, *] <;> rfl)
    · clear g0 g1 g9 g10
      rintro f H' ⟨i, hi0, hp1, hs, g0, g1, g9, g10, rfl⟩
      obtain ⟨j0, hj0e⟩ : ∃ j0, j0 = j := ⟨_, rfl⟩
      rw [← hj0e] at hp1 g10 hs
      rw [← hj0e] at hN
      clear hp0 hj0e j
      refine T_scan (fun m f H' => ∃ j, j ≤ j0 ∧ PIE p q v a b i j ∧ j = m ∧ (j < i ∨ ¬ (¬ v < el q i)) ∧ f 0 = S 0 0 p.length 1 ∧ f 1 = I a ∧ f 9 = I i ∧ f 10 = I j ∧ H' = [some (q.map I)]) (fun f H' => ∃ j, j ≤ j0 ∧ PIE p q v a b i j ∧ (j < i ∨ ¬ (¬ v < el q i)) ∧ (j < i ∨ ¬ (v < el q j)) ∧ f 0 = S 0 0 p.length 1 ∧ f 1 = I a ∧ f 9 = I i ∧ f 10 = I j ∧ H' = [some (q.map I)]) (j0) ?_ ?_ ?_
      · refine ⟨_, _, Gh.refl, j0, Nat.le_refl _, hp1, rfl, hs, ?_, ?_, ?_, ?_, rfl⟩
        any_goals (simp (disch := omega) only [RA, ↓reduceIte, Nat.reduceEqDiff, RD, RE, *] <;> rfl)
      · clear g0 g1 g9 g10 hs
        rintro m f H' R2 ⟨j, hj0, hp, rfl, hs, g0, g1, g9, g10, rfl⟩ hN2 hX2 hR2
        simp only [A_slices_partitionEqualOrdered_int64.l1, T_aiff]
        have hql := hp.sg.len
        have hge := hp.ge
        have hjb := hp.jb
        have hva := hp.va
        have hlo := hp.lo
        by_cases hij : i ≤ j
        · refine T_rseq fun Kr hKr => ?_
          simp (disch := omega) only [RA, ↓reduceIte, Nat.reduceEqDiff, RD, g0, g1, g9, g10, hij, hql, hva]
          refine Less_spec ?_
          simp (disch := omega) only [RA, ↓reduceIte, Nat.reduceEqDiff, RD]
          refine hKr _ _ ?_
          clear hKr Kr
          try simp only [blkQ, thenQ, loopQ]
          try simp only [RN, reduceIte]
          try refine T_e rfl ?_
          refine T_csplit (p := v < el q j) (by simp only [RA, ↓reduceIte, Nat.reduceEqDiff] <;> rfl) (by (try simp only [RB]) <;> first | done | exact Iff.rfl | omega | simp) (fun hc => ?_) (fun hc => ?_) <;> (try simp only [RN, reduceIte]) <;> (try refine T_e rfl ?_)
          · first | refine T_bfree rfl ?_ | refine T_bfree' rfl ?_
            try simp only [RN, reduceIte]
            try refine T_e rfl ?_
            have hj1 : (j : Int) - 1 = ((j - 1 : Nat) : Int) := by omega
            refine T_reg_k fun Kr hKr => ?_
            simp (disch := omega) only [RA, ↓reduceIte, Nat.reduceEqDiff, RD, g10, hj1]
            refine hKr _ _ ?_
            clear hKr Kr
            refine hN2 (j - 1) _ _ _ _ (by omega) Gh.refl ⟨j - 1, by omega, hp.dnE hij hc, rfl, hp.keepE hs hij, ?_, ?_, ?_, ?_, rfl⟩
            any_goals (simp (disch := omega) only [RA, ↓reduceIte, Nat.reduceEqDiff, RD, RE, *] <;> rfl)
          · refine hX2 _ _ ⟨j, hj0, hp, hs, .inr (by first | exact hc | exact fun h => h hc | exact fun h => hc h), ?_, ?_, ?_, ?_, rfl⟩
            any_goals (simp (disch := omega) only [RA, ↓reduceIte, Nat.reduceEqDiff, RD, RE, *] <;> rfl)
        · refine T_rseq fun Kr hKr => ?_
          simp (disch := omega) only [RA, ↓reduceIte, Nat.reduceEqDiff, RD, g9, g10, hij]
          refine hKr _ _ ?_
          clear hKr Kr
          try simp only [RN, reduceIte]
          try refine T_e rfl ?_
          refine T_cseq (t := false) (by simp (disch := omega) only [RA, ↓reduceIte, Nat.reduceEqDiff, RD]) ?_
          try simp only [RN, reduceIte]
          try refine T_e rfl ?_
          refine hX2 _ _ ⟨j, hj0, hp, hs, .inl (by omega), ?_, ?_, ?_, ?_, rfl⟩
          any_goals (simp (disch := omega) only [RA, ↓reduceIte, Nat.reduceEqDiff, RD, RE, *] <;> rfl)
      · clear g0 g1 g9 g10 hs
        rintro f H' ⟨j, hj0, hp, hs, hs2, g0, g1, g9, g10, rfl⟩
        have hql := hp.sg.len
        have hge := hp.ge
        have hjb := hp.jb
        have hva := hp.va
        have hlo := hp.lo
        try simp only [RN, reduceIte]
        try refine T_e rfl ?_
        refine T_rseq fun Kr hKr => ?_
        simp (disch := omega) only [RA, ↓reduceIte, Nat.reduceEqDiff, RD, g9, g10]
        refine hKr _ _ ?_
        clear hKr Kr
        try simp only [RN, reduceIte]
        try refine T_e rfl ?_
        refine T_csplit (p := j < i) (by simp only [RA, ↓reduceIte, Nat.reduceEqDiff] <;> rfl) (by (try simp only [RB]) <;> first | done | exact Iff.rfl | omega | simp) (fun hc => ?_) (fun hc => ?_) <;> (try simp only [RN, reduceIte]) <;> (try refine T_e rfl ?_)
        · refine hX _ _ ?_
          refine T_rseq fun Kr hKr => ?_
          simp (disch := omega) only [RA, ↓reduceIte, Nat.reduceEqDiff, RD, g9]
          refine hKr _ _ ?_
          clear hKr Kr
          try simp only [RN, reduceIte]
          try refine T_e rfl ?_
          refine bodyQ_ret (by simp (disch := omega) only [RA, ↓reduceIte, Nat.reduceEqDiff, RD, resAll, resOf]; rfl) GhV.refl ?_
          simp only [tup]
          exact hfin q i j hp hc
        · have hq1 : v < el q i := by rcases hs with h | h; omega; omega
          have hq2 : ¬ v < el q j := by rcases hs2 with h | h; omega; exact h
          have hij : i < j := by
            rcases Nat.lt_or_ge i j with h | h
            · exact h
            · have : i = j := by omega
              subst this
              exact absurd hq1 hq2
          have hqs : (q.set i (el q j)).length = p.length := by simp [hql]
          have hj1 : (j : Int) - 1 = ((j - 1 : Nat) : Int) := by omega
          have hi1 : (i : Int) + 1 = ((i + 1 : Nat) : Int) := by omega
          have hp' := hp.exE hb hij hq1 hq2
          have hsw2 : (q.set i (el q j)).set j (el q i) = swp q i j := rfl
          refine T_rseq fun Kr hKr => ?_
          simp (disch := omega) only [RA, ↓reduceIte, Nat.reduceEqDiff, RD, g0, g9, g10, hql, hqs]
          refine hKr _ _ ?_
          clear hKr Kr
          try simp only [RN, reduceIte]
          try refine T_e rfl ?_
          rw [hsw2]
          refine T_rseq fun Kr hKr => ?_
          simp (disch := omega) only [RA, ↓reduceIte, Nat.reduceEqDiff, RD, g9, hi1]
          refine hKr _ _ ?_
          clear hKr Kr
          try simp only [RN, reduceIte]
          try refine T_e rfl ?_
          refine T_reg_k fun Kr hKr => ?_
          simp (disch := omega) only [RA, ↓reduceIte, Nat.reduceEqDiff, RD, g10, hj1]
          refine hKr _ _ ?_
          clear hKr Kr
          refine hN (j - 1 + 1 - (i + 1)) _ _ _ _ (by omega) Gh.refl ⟨swp q i j, i + 1, j - 1, hp', rfl, ?_, ?_, ?_, ?_, rfl⟩
          any_goals (simp (disch := omega) only [RA, ↓reduceIte, Nat.reduceEqDiff, RD, RE, *] <;> rfl)
end Go.Bm

/- Sorting: reversing, the choice of a pivot, the test for order. -/
set_option linter.unusedVariables false
set_option linter.unusedSimpArgs false
namespace Go.Bm
open Go Go.Am

theorem reverseRange_spec {p : List Int} {a b : Nat} {K : Value → BH → Prop} (hpl : p.length ≤ 1000) (hb : b ≤ p.length) (hab : a < b) (hK : ∀ q, Sg a b p q → K (.tuple ⟨[]⟩) [some (q.map I)]) :
    CallX false F_slices_reverseRangeOrdered_int64 [S 0 0 p.length 1, I a, I b] [some (p.map I)] K := by
  have hb1 : (b : Int) - 1 = ((b - 1 : Nat) : Int) := by omega
  refine CallX_body Γ_slices_reverseRangeOrdered_int64 ?_
  simp only [A_slices_reverseRangeOrdered_int64, T_aiff]
  refine T_rseq fun Kr hKr => ?_
  simp (disch := omega) only [RA, ↓reduceIte, Nat.reduceEqDiff, RD]
  refine hKr _ _ ?_
  clear hKr Kr
  try simp only [RN, reduceIte]
  try refine T_e rfl ?_
  refine T_rseq fun Kr hKr => ?_
  simp (disch := omega) only [RA, ↓reduceIte, Nat.reduceEqDiff, RD, hb1]
  refine hKr _ _ ?_
  clear hKr Kr
  try simp only [RN, reduceIte]
  try refine T_e rfl ?_
  refine T_tail ?_
  refine T_wloop (fun m f H' => ∃ (q : List Int) (i j : Nat), Sg a b p q ∧ a ≤ i ∧ i ≤ j + 1 ∧ j < b ∧ m = j + 1 - i ∧ f 0 = S 0 0 p.length 1 ∧ f 6 = I i ∧ f 7 = I j ∧ H' = [some (q.map I)]) (b - 1 + 1 - a) ?_ ?_
  · refine ⟨_, _, Gh.refl, p, a, b - 1, .refl, by omega, by omega, by omega, rfl, ?_, ?_, ?_, rfl⟩
    any_goals (simp (disch := omega) only [RA, ↓reduceIte, Nat.reduceEqDiff, RD, RE, *] <;> rfl)
  · rintro m f H' R ⟨q, i, j, hq, h1, h2, h3, rfl, g0, g6, g7, rfl⟩ hN hX hR hE
    simp only [A_slices_reverseRangeOrdered_int64.l0, T_aiff]
    have hql := hq.len
    refine T_rseq fun Kr hKr => ?_
    simp (disch := omega) only [RA, ↓reduceIte, Nat.reduceEqDiff, RD, g6, g7]
    refine hKr _ _ ?_
    clear hKr Kr
    try simp only [RN, reduceIte]
    try refine T_e rfl ?_
    refine T_csplit (p := i < j) (by simp only [RA, ↓reduceIte, Nat.reduceEqDiff] <;> rfl) (by (try simp only [RB]) <;> first | done | exact Iff.rfl | omega | simp) (fun hc => ?_) (fun hc => ?_) <;> (try simp only [RN, reduceIte]) <;> (try refine T_e rfl ?_)
    · have hqs : (q.set i (el q j)).length = p.length := by simp [hql]
      have hj1 : (j : Int) - 1 = ((j - 1 : Nat) : Int) := by omega
      have hi1 : (i : Int) + 1 = ((i + 1 : Nat) : Int) := by omega
      have hsw : (q.set i (el q j)).set j (el q i) = swp q i j := rfl
      first | refine T_bfree rfl ?_ | refine T_bfree' rfl ?_
      try simp only [RN, reduceIte]
      try refine T_e rfl ?_
      refine T_rseq fun Kr hKr => ?_
      simp (disch := omega) only [RA, ↓reduceIte, Nat.reduceEqDiff, RD, g0, g6, g7, hql, hqs]
      refine hKr _ _ ?_
      clear hKr Kr
      try simp only [RN, reduceIte]
      try refine T_e rfl ?_
      rw [hsw]
      refine T_rseq fun Kr hKr => ?_
      simp (disch := omega) only [RA, ↓reduceIte, Nat.reduceEqDiff, RD, g6, hi1]
      refine hKr _ _ ?_
      clear hKr Kr
      try simp only [RN, reduceIte]
      try refine T_e rfl ?_
      refine T_reg_k fun Kr hKr => ?_
      simp (disch := omega) only [RA, ↓reduceIte, Nat.reduceEqDiff, RD, g7, hj1]
      refine hKr _ _ ?_
      clear hKr Kr
      refine hN (j - 1 + 1 - (i + 1)) _ _ _ _ (by omega) Gh.refl ⟨swp q i j, i + 1, j - 1, hq.trans (.swp (by omega) (by omega) (by omega) (by omega) (by omega)), by omega, by omega, by omega, rfl, ?_, ?_, ?_, rfl⟩
      any_goals (simp (disch := omega) only [RA, ↓reduceIte, Nat.reduceEqDiff, RD, RE, *] <;> rfl)
    · refine hX _ _ ?_
      refine T_skip ?_
      refine bodyQ_ret (by simp (disch := omega) only [RA, ↓reduceIte, Nat.reduceEqDiff, RD, resAll, resOf]; rfl) GhV.refl ?_
      simp only [tup]
      exact hK q hq
/-- The first and the last i in the other order. -/
theorem Reverse_spec {p : List Int} {K : Value → BH → Prop} (hpl : p.length ≤ 1000) (hK : K (.tuple ⟨[]⟩) [some (p.reverse.map I)]) :
    CallX false F_slices_Reverse_int64_int64 [S 0 0 p.length 1] [some (p.map I)] K := by
  refine CallX_body Γ_slices_Reverse_int64_int64 ?_
  simp only [A_slices_Reverse_int64_int64, T_aiff]
  refine T_rseq fun Kr hKr => ?_
  simp (disch := omega) only [RA, ↓reduceIte, Nat.reduceEqDiff, RD]
  refine hKr _ _ ?_
  clear hKr Kr
  try simp only [RN, reduceIte]
  try refine T_e rfl ?_
  refine T_tail ?_
  refine T_wloop (fun m f H' => ∃ (q : List Int) (i : Nat) (j : Int), q.length = p.length ∧ j = (p.length : Int) - 1 - i ∧ 2 * (i : Int) ≤ p.length + 1 ∧ (∀ x, x < p.length → el q x = if x < i ∨ p.length ≤ x + i then el p (p.length - 1 - x) else el p x) ∧ m = p.length - i ∧ f 0 = S 0 0 p.length 1 ∧ f 2 = I i ∧ f 3 = I j ∧ H' = [some (q.map I)]) (p.length) ?_ ?_
  · refine ⟨_, _, Gh.refl, p, 0, (p.length : Int) - 1, rfl, by omega, by omega, fun x hx => ?_, rfl, ?_, ?_, ?_, rfl⟩
    any_goals (simp (disch := omega) only [RA, ↓reduceIte, Nat.reduceEqDiff, RD, RE, *] <;> rfl)
    rw [if_neg (by omega)]
  · rintro m f H' R ⟨q, i, j, hql, hj, h2, hq, rfl, g0, g2, g3, rfl⟩ hN hX hR hE
    simp only [A_slices_Reverse_int64_int64.l0, T_aiff]
    refine T_rseq fun Kr hKr => ?_
    simp (disch := omega) only [RA, ↓reduceIte, Nat.reduceEqDiff, RD, g2, g3]
    refine hKr _ _ ?_
    clear hKr Kr
    try simp only [RN, reduceIte]
    try refine T_e rfl ?_
    refine T_csplit (p := (i : Int) < j) (by simp only [RA, ↓reduceIte, Nat.reduceEqDiff] <;> rfl) (by (try simp only [RB]) <;> first | done | exact Iff.rfl | omega | simp) (fun hc => ?_) (fun hc => ?_) <;> (try simp only [RN, reduceIte]) <;> (try refine T_e rfl ?_)
    · obtain ⟨k, rfl⟩ : ∃ k : Nat, j = k := ⟨j.toNat, by omega⟩
      have hqs : (q.set i (el q k)).length = p.length := by simp [hql]
      have hsw : (q.set i (el q k)).set k (el q i) = swp q i k := rfl
      first | refine T_bfree rfl ?_ | refine T_bfree' rfl ?_
      try simp only [RN, reduceIte]
      try refine T_e rfl ?_
      refine T_rseq fun Kr hKr => ?_
      simp (disch := omega) only [RA, ↓reduceIte, Nat.reduceEqDiff, RD, g0, g2, g3, hql, hqs]
      refine hKr _ _ ?_
      clear hKr Kr
      try simp only [RN, reduceIte]
      try refine T_e rfl ?_
      rw [hsw]
      refine T_reg_k fun Kr hKr => ?_
      simp (disch := omega) only [RA, ↓reduceIte, Nat.reduceEqDiff, RD, g2, g3]
      refine hKr _ _ ?_
      clear hKr Kr
      refine hN (p.length - (i + 1)) _ _ _ _ (by omega) Gh.refl ⟨swp q i k, i + 1, (k : Int) - 1, by rw [swp_len, hql], by omega, by omega, fun x hx => ?_, rfl, ?_, ?_, ?_, rfl⟩
      any_goals (simp (disch := omega) only [RA, ↓reduceIte, Nat.reduceEqDiff, RD, RE, *] <;> rfl)
      rw [swp_el (by omega) (by omega)]
      split
      · rw [hq i (by omega), if_neg (by omega), if_pos (by omega)]
        congr 1
        omega
      · split
        · rw [hq k (by omega), if_neg (by omega), if_pos (by omega)]
          congr 1
          omega
        · rw [hq x hx]
          by_cases hc2 : x < i ∨ p.length ≤ x + i
          · rw [if_pos hc2, if_pos (by omega)]
          · rw [if_neg hc2, if_neg (by omega)]
    · refine hX _ _ ?_
      refine T_skip ?_
      refine bodyQ_ret (by simp (disch := omega) only [RA, ↓reduceIte, Nat.reduceEqDiff, RD, resAll, resOf]; rfl) GhV.refl ?_
      simp only [tup]
      have : q = p.reverse := el_ext (by simp [hql]) fun x hx => by
        have e : el p.reverse x = el p (p.length - 1 - x) := by
          simp only [el, List.getD]
          rw [List.getElem?_reverse (by omega)]
        rw [e, hq x (by omega)]
        split
        · rfl
        · congr 1
          omega
      rw [this]
      exact hK
theorem getN_c {v : Value} : getN none [v] 0 = some v := rfl
theorem st_c {H : BH} {b : Nat} {v : Value} {k : IntKind} {n : Int} : stO (some [v]) H b 0 1 (.int k n) = some (undef, H.set b (some [.int k n])) := rfl
theorem order2_spec {p : List Int} {a b : Nat} {s : Nat} {K : Value → BH → Prop} (hpl : p.length ≤ 1000) (ha : a < p.length) (hb : b < p.length) (hs : s ≤ 1000)
    (hK : ∀ (x y s' : Nat), (x = a ∧ y = b) ∨ (x = b ∧ y = a) → s' ≤ s + 1 → K (.tuple ⟨[I x, I y]⟩) [some (p.map I), some [I s']]) :
    CallX false F_slices_order2Ordered_int64 [S 0 0 p.length 1, I a, I b, P 1 0] [some (p.map I), some [I s]] K := by
  have hs1 : (s : Int) + 1 = ((s + 1 : Nat) : Int) := by omega
  refine CallX_body Γ_slices_order2Ordered_int64 ?_
  simp only [A_slices_order2Ordered_int64, T_aiff]
  refine T_rseq fun Kr hKr => ?_
  simp (disch := omega) only [RA, ↓reduceIte, Nat.reduceEqDiff, RD]
  refine hKr _ _ ?_
  clear hKr Kr
  try simp only [RN, reduceIte]
  try refine T_e rfl ?_
  refine T_rseq fun Kr hKr => ?_
  simp (disch := omega) only [RA, ↓reduceIte, Nat.reduceEqDiff, RD]
  refine Less_spec ?_
  simp (disch := omega) only [RA, ↓reduceIte, Nat.reduceEqDiff, RD]
  refine hKr _ _ ?_
  clear hKr Kr
  try simp only [blkQ, thenQ, loopQ]
  try simp only [RN, reduceIte]
  try refine T_e rfl ?_
  refine T_csplit (p := el p b < el p a) (by simp only [RA, ↓reduceIte, Nat.reduceEqDiff] <;> rfl) (by (try simp only [RB]) <;> first | done | exact Iff.rfl | omega | simp) (fun hc => ?_) (fun hc => ?_) <;> (try simp only [RN, reduceIte]) <;> (try refine T_e rfl ?_)
  · refine T_rseq fun Kr hKr => ?_
    simp (disch := omega) only [RA, ↓reduceIte, Nat.reduceEqDiff, RD, getN_c, st_c, hs1]
    refine hKr _ _ ?_
    clear hKr Kr
    try simp only [RN, reduceIte]
    try refine T_e rfl ?_
    refine T_rseq fun Kr hKr => ?_
    simp (disch := omega) only [RA, ↓reduceIte, Nat.reduceEqDiff, RD]
    refine hKr _ _ ?_
    clear hKr Kr
    try simp only [RN, reduceIte]
    try refine T_e rfl ?_
    refine bodyQ_ret (by simp (disch := omega) only [RA, ↓reduceIte, Nat.reduceEqDiff, RD, resAll, resOf]; rfl) GhV.refl ?_
    simp only [tup]
    exact hK b a (s + 1) (.inr ⟨rfl, rfl⟩) (by omega)
  · refine T_rseq fun Kr hKr => ?_
    simp (disch := omega) only [RA, ↓reduceIte, Nat.reduceEqDiff, RD]
    refine hKr _ _ ?_
    clear hKr Kr
    try simp only [RN, reduceIte]
    try refine T_e rfl ?_
    refine bodyQ_ret (by simp (disch := omega) only [RA, ↓reduceIte, Nat.reduceEqDiff, RD, resAll, resOf]; rfl) GhV.refl ?_
    simp only [tup]
    exact hK a b s (.inl ⟨rfl, rfl⟩) (by omega)
theorem median_spec {p : List Int} {a b c : Nat} {s : Nat} {K : Value → BH → Prop} (hpl : p.length ≤ 1000) (ha : a < p.length) (hb : b < p.length) (hc : c < p.length) (hs : s ≤ 900)
    (hK : ∀ (x s' : Nat), x = a ∨ x = b ∨ x = c → s' ≤ s + 3 → K (I x) [some (p.map I), some [I s']]) :
    CallX false F_slices_medianOrdered_int64 [S 0 0 p.length 1, I a, I b, I c, P 1 0] [some (p.map I), some [I s]] K := by
  refine CallX_body Γ_slices_medianOrdered_int64 ?_
  simp only [A_slices_medianOrdered_int64, T_aiff]
  refine T_rseq fun Kr hKr => ?_
  simp (disch := omega) only [RA, ↓reduceIte, Nat.reduceEqDiff, RD]
  refine hKr _ _ ?_
  clear hKr Kr
  try simp only [RN, reduceIte]
  try refine T_e rfl ?_
  refine T_rseq fun Kr hKr => ?_
  simp (disch := omega) only [RA, ↓reduceIte, Nat.reduceEqDiff, RD]
  refine order2_spec hpl ha hb (by omega) ?_
  intro a1 b1 s1 h1 hs1
  have ha1 : a1 < p.length := by omega
  have hb1 : b1 < p.length := by omega
  simp (disch := omega) only [RA, ↓reduceIte, Nat.reduceEqDiff, RD]
  refine hKr _ _ ?_
  clear hKr Kr
  try simp only [blkQ, thenQ, loopQ]
  try simp only [RN, reduceIte]
  try refine T_e rfl ?_
  refine T_rseq fun Kr hKr => ?_
  simp (disch := omega) only [RA, ↓reduceIte, Nat.reduceEqDiff, RD]
  refine order2_spec hpl hb1 hc (by omega) ?_
  intro b2 c2 s2 h2 hs2
  have hb2 : b2 < p.length := by omega
  simp (disch := omega) only [RA, ↓reduceIte, Nat.reduceEqDiff, RD]
  refine hKr _ _ ?_
  clear hKr Kr
  try simp only [blkQ, thenQ, loopQ]
  try simp only [RN, reduceIte]
  try refine T_e rfl ?_
  refine T_rseq fun Kr hKr => ?_
  simp (disch := omega) only [RA, ↓reduceIte, Nat.reduceEqDiff, RD]
  refine order2_spec hpl ha1 hb2 (by omega) ?_
  intro a3 b3 s3 h3 hs3
  simp (disch := omega) only [RA, ↓reduceIte, Nat.reduceEqDiff, RD]
  refine hKr _ _ ?_
  clear hKr Kr
  try simp only [blkQ, thenQ, loopQ]
  try simp only [RN, reduceIte]
  try refine T_e rfl ?_
  refine T_rseq fun Kr hKr => ?_
  simp (disch := omega) only [RA, ↓reduceIte, Nat.reduceEqDiff, RD]
  refine hKr _ _ ?_
  clear hKr Kr
  try simp only [RN, reduceIte]
  try refine T_e rfl ?_
  refine bodyQ_ret (by simp (disch := omega) only [RA, ↓reduceIte, Nat.reduceEqDiff, RD, resAll, resOf]; rfl) GhV.refl ?_
  simp only [tup]
  exact hK b3 s3 (by omega) (by omega)
theorem choosePivot_spec {p : List Int} {a b : Nat} {K : Value → BH → Prop} (hpl : p.length ≤ 1000) (hb : b ≤ p.length) (h8 : a + 8 ≤ b) (h50 : b < a + 50)
    (hK : ∀ (x : Nat) (h : Int), a ≤ x → x < b → K (.tuple ⟨[I x, I h]⟩) [some (p.map I)]) :
    CallX false F_slices_choosePivotOrdered_int64 [S 0 0 p.length 1, I a, I b] [some (p.map I)] K := by
  obtain ⟨l, hl⟩ : ∃ l, l = b - a := ⟨_, rfl⟩
  have hbl : (b : Int) - (a : Int) = (l : Int) := by omega
  have hd : (l : Int).tdiv 4 = ((l / 4 : Nat) : Int) := (Int.ofNat_tdiv l 4).symm
  obtain ⟨q, hq⟩ : ∃ q, q = l / 4 := ⟨_, rfl⟩
  rw [← hq] at hd
  have e1 : (a : Int) + (q : Int) * 1 = ((a + q : Nat) : Int) := by omega
  have e2 : (a : Int) + (q : Int) * 2 = ((a + q * 2 : Nat) : Int) := by omega
  have e3 : (a : Int) + (q : Int) * 3 = ((a + q * 3 : Nat) : Int) := by omega
  have e4 : (q : Int) * 1 = q := by omega
  have e5 : (a : Int) + (q : Int) = ((a + q : Nat) : Int) := by omega
  refine CallX_body Γ_slices_choosePivotOrdered_int64 ?_
  simp only [A_slices_choosePivotOrdered_int64, T_aiff]
  refine T_rseq fun Kr hKr => ?_
  simp (disch := omega) only [RA, ↓reduceIte, Nat.reduceEqDiff, Nat.reduceBEq, Nat.reduceSub, Nat.reduceAdd, Nat.reduceMul, Nat.reduceLT, Nat.reduceLeDiff, Int.reduceLE, Int.reduceLT, Int.reduceEq, Int.reduceNeg, Int.reduceToNat, Int.reduceMul, Int.reduceAdd, Int.reduceSub, Int.reduceBEq, Int.reduceBNe, reduceCtorEq, RD]
  refine hKr _ _ ?_
  clear hKr Kr
  try simp only [RN, reduceIte]
  try refine T_e rfl ?_
  refine T_rseq fun Kr hKr => ?_
  simp (disch := omega) only [RA, ↓reduceIte, Nat.reduceEqDiff, Nat.reduceBEq, Nat.reduceSub, Nat.reduceAdd, Nat.reduceMul, Nat.reduceLT, Nat.reduceLeDiff, Int.reduceLE, Int.reduceLT, Int.reduceEq, Int.reduceNeg, Int.reduceToNat, Int.reduceMul, Int.reduceAdd, Int.reduceSub, Int.reduceBEq, Int.reduceBNe, reduceCtorEq, RD, hbl]
  refine hKr _ _ ?_
  clear hKr Kr
  try simp only [RN, reduceIte]
  try refine T_e rfl ?_
  refine T_rseq fun Kr hKr => ?_
  simp (disch := omega) only [RA, ↓reduceIte, Nat.reduceEqDiff, Nat.reduceBEq, Nat.reduceSub, Nat.reduceAdd, Nat.reduceMul, Nat.reduceLT, Nat.reduceLeDiff, Int.reduceLE, Int.reduceLT, Int.reduceEq, Int.reduceNeg, Int.reduceToNat, Int.reduceMul, Int.reduceAdd, Int.reduceSub, Int.reduceBEq, Int.reduceBNe, reduceCtorEq, RD]
  refine hKr _ _ ?_
  clear hKr Kr
  try simp only [RN, reduceIte]
  try refine T_e rfl ?_
  refine T_rseq fun Kr hKr => ?_
  simp (disch := omega) only [RA, ↓reduceIte, Nat.reduceEqDiff, Nat.reduceBEq, Nat.reduceSub, Nat.reduceAdd, Nat.reduceMul, Nat.reduceLT, Nat.reduceLeDiff, Int.reduceLE, Int.reduceLT, Int.reduceEq, Int.reduceNeg, Int.reduceToNat, Int.reduceMul, Int.reduceAdd, Int.reduceSub, Int.reduceBEq, Int.reduceBNe, reduceCtorEq, RD, hd, e1, e4, e5]
  refine hKr _ _ ?_
  clear hKr Kr
  try simp only [RN, reduceIte]
  try refine T_e rfl ?_
  refine T_rseq fun Kr hKr => ?_
  simp (disch := omega) only [RA, ↓reduceIte, Nat.reduceEqDiff, Nat.reduceBEq, Nat.reduceSub, Nat.reduceAdd, Nat.reduceMul, Nat.reduceLT, Nat.reduceLeDiff, Int.reduceLE, Int.reduceLT, Int.reduceEq, Int.reduceNeg, Int.reduceToNat, Int.reduceMul, Int.reduceAdd, Int.reduceSub, Int.reduceBEq, Int.reduceBNe, reduceCtorEq, RD, hd, e2]
  refine hKr _ _ ?_
  clear hKr Kr
  try simp only [RN, reduceIte]
  try refine T_e rfl ?_
  refine T_rseq fun Kr hKr => ?_
  simp (disch := omega) only [RA, ↓reduceIte, Nat.reduceEqDiff, Nat.reduceBEq, Nat.reduceSub, Nat.reduceAdd, Nat.reduceMul, Nat.reduceLT, Nat.reduceLeDiff, Int.reduceLE, Int.reduceLT, Int.reduceEq, Int.reduceNeg, Int.reduceToNat, Int.reduceMul, Int.reduceAdd, Int.reduceSub, Int.reduceBEq, Int.reduceBNe, reduceCtorEq, RD, hd, e3]
  refine hKr _ _ ?_
  clear hKr Kr
  try simp only [RN, reduceIte]
  try refine T_e rfl ?_
  refine T_rseq fun Kr hKr => ?_
  simp (disch := omega) only [RA, ↓reduceIte, Nat.reduceEqDiff, Nat.reduceBEq, Nat.reduceSub, Nat.reduceAdd, Nat.reduceMul, Nat.reduceLT, Nat.reduceLeDiff, Int.reduceLE, Int.reduceLT, Int.reduceEq, Int.reduceNeg, Int.reduceToNat, Int.reduceMul, Int.reduceAdd, Int.reduceSub, Int.reduceBEq, Int.reduceBNe, reduceCtorEq, RD]
  refine hKr _ _ ?_
  clear hKr Kr
  try simp only [RN, reduceIte]
  try refine T_e rfl ?_
  refine T_cseq (t := true) (by simp (disch := omega) only [RA, ↓reduceIte, Nat.reduceEqDiff, RD]) ?_
  try simp only [RN, reduceIte]
  try refine T_e rfl ?_
  refine T_rseq fun Kr hKr => ?_
  simp (disch := omega) only [RA, ↓reduceIte, Nat.reduceEqDiff, Nat.reduceBEq, Nat.reduceSub, Nat.reduceAdd, Nat.reduceMul, Nat.reduceLT, Nat.reduceLeDiff, Int.reduceLE, Int.reduceLT, Int.reduceEq, Int.reduceNeg, Int.reduceToNat, Int.reduceMul, Int.reduceAdd, Int.reduceSub, Int.reduceBEq, Int.reduceBNe, reduceCtorEq, RD]
  refine hKr _ _ ?_
  clear hKr Kr
  try simp only [RN, reduceIte]
  try refine T_e rfl ?_
  refine T_cseq (t := false) (by simp (disch := omega) only [RA, ↓reduceIte, Nat.reduceEqDiff, RD]) ?_
  try simp only [RN, reduceIte]
  try refine T_e rfl ?_
  refine T_rseq fun Kr hKr => ?_
  simp (disch := omega) only [RA, ↓reduceIte, Nat.reduceEqDiff, RD]
  refine median_spec (s := 0) hpl (by omega) (by omega) (by omega) (by omega) ?_
  intro x s' hx hs'
  simp (disch := omega) only [RA, ↓reduceIte, Nat.reduceEqDiff, RD]
  refine hKr _ _ ?_
  clear hKr Kr
  try simp only [blkQ, thenQ, loopQ]
  try simp only [RN, reduceIte]
  try refine T_e rfl ?_
  refine T_rseq fun Kr hKr => ?_
  simp (disch := omega) only [RA, ↓reduceIte, Nat.reduceEqDiff, RD, getN_c]
  refine hKr _ _ ?_
  clear hKr Kr
  try simp only [RN, reduceIte]
  try refine T_e rfl ?_
  first | refine T_bfree rfl ?_ | refine T_bfree' rfl ?_
  try simp only [RN, reduceIte]
  try refine T_e rfl ?_
  refine T_rseq fun Kr hKr => ?_
  simp (disch := omega) only [RA, ↓reduceIte, Nat.reduceEqDiff, Nat.reduceBEq, Nat.reduceSub, Nat.reduceAdd, Nat.reduceMul, Nat.reduceLT, Nat.reduceLeDiff, Int.reduceLE, Int.reduceLT, Int.reduceEq, Int.reduceNeg, Int.reduceToNat, Int.reduceMul, Int.reduceAdd, Int.reduceSub, Int.reduceBEq, Int.reduceBNe, reduceCtorEq, RD]
  refine hKr _ _ ?_
  clear hKr Kr
  try simp only [RN, reduceIte]
  try refine T_e rfl ?_
  refine T_csplit1 (p := s' = 0) (by simp only [RA, ↓reduceIte, Nat.reduceEqDiff] <;> rfl) (by (try simp only [RB]) <;> first | done | exact Iff.rfl | omega | simp) (fun hc => ?_) (fun hc => ?_) <;> (try simp only [RN, reduceIte]) <;> (try refine T_e rfl ?_)
  · refine T_rseq fun Kr hKr => ?_
    simp (disch := omega) only [RA, ↓reduceIte, Nat.reduceEqDiff, RD]
    refine hKr _ _ ?_
    clear hKr Kr
    try simp only [RN, reduceIte]
    try refine T_e rfl ?_
    refine bodyQ_ret (by simp (disch := omega) only [RA, ↓reduceIte, Nat.reduceEqDiff, RD, resAll, resOf]; rfl) (GhV.nrm [0] rfl rfl (by simp only [RH]) (by simp only [tup, RH])) ?_
    simp only [tup]
    exact hK x 1 (by omega) (by omega)
  · refine T_rseq fun Kr hKr => ?_
    simp (disch := omega) only [RA, ↓reduceIte, Nat.reduceEqDiff, RD]
    refine hKr _ _ ?_
    clear hKr Kr
    try simp only [RN, reduceIte]
    try refine T_e rfl ?_
    refine T_cond (t := false) (by simp (disch := omega) only [RA, ↓reduceIte, Nat.reduceEqDiff, RD]) ?_
    try simp only [RN, reduceIte]
    try refine T_e rfl ?_
    refine T_rseq fun Kr hKr => ?_
    simp (disch := omega) only [RA, ↓reduceIte, Nat.reduceEqDiff, Nat.reduceBEq, Nat.reduceSub, Nat.reduceAdd, Nat.reduceMul, Nat.reduceLT, Nat.reduceLeDiff, Int.reduceLE, Int.reduceLT, Int.reduceEq, Int.reduceNeg, Int.reduceToNat, Int.reduceMul, Int.reduceAdd, Int.reduceSub, Int.reduceBEq, Int.reduceBNe, reduceCtorEq, RD]
    refine hKr _ _ ?_
    clear hKr Kr
    try simp only [RN, reduceIte]
    try refine T_e rfl ?_
    refine bodyQ_ret (by simp (disch := omega) only [RA, ↓reduceIte, Nat.reduceEqDiff, RD, resAll, resOf]; rfl) (GhV.nrm [0] rfl rfl (by simp only [RH]) (by simp only [tup, RH])) ?_
    simp only [tup]
    exact hK x 0 (by omega) (by omega)
/-- Of short lists only whether they are in order. -/
theorem partialInsertionSort_spec {p : List Int} {a b : Nat} {K : Value → BH → Prop} (hpl : p.length ≤ 1000) (hb : b ≤ p.length) (hab : a < b) (h50 : b < a + 50) (hK : ∀ r, (r = true → Srt a b p) → K (.bool r) [some (p.map I)]) :
    CallX false F_slices_partialInsertionSortOrdered_int64 [S 0 0 p.length 1, I a, I b] [some (p.map I)] K := by
  have ha1 : (a : Int) + 1 = ((a + 1 : Nat) : Int) := by omega
  have hl1 : (b : Int) - (a : Int) = ((b - a : Nat) : Int) := by omega
  refine CallX_body Γ_slices_partialInsertionSortOrdered_int64 ?_
  simp only [A_slices_partialInsertionSortOrdered_int64, T_aiff]
  refine T_rseq fun Kr hKr => ?_
  simp (disch := omega) only [RA, ↓reduceIte, Nat.reduceEqDiff, RD]
  refine hKr _ _ ?_
  clear hKr Kr
  try simp only [RN, reduceIte]
  try refine T_e rfl ?_
  refine T_rseq fun Kr hKr => ?_
  simp (disch := omega) only [RA, ↓reduceIte, Nat.reduceEqDiff, RD, ha1]
  refine hKr _ _ ?_
  clear hKr Kr
  try simp only [RN, reduceIte]
  try refine T_e rfl ?_
  refine T_rseq fun Kr hKr => ?_
  simp (disch := omega) only [RA, ↓reduceIte, Nat.reduceEqDiff, RD]
  refine hKr _ _ ?_
  clear hKr Kr
  try simp only [RN, reduceIte]
  try refine T_e rfl ?_
  refine T_wloop (fun m f H' => m = 1 ∧ f 0 = S 0 0 p.length 1 ∧ f 1 = I a ∧ f 2 = I b ∧ f 7 = I (a + 1 : Nat) ∧ f 8 = I 0 ∧ H' = [some (p.map I)]) (1) ?_ ?_
  · refine ⟨_, _, Gh.refl, rfl, ?_, ?_, ?_, ?_, ?_, rfl⟩
    any_goals (simp (disch := omega) only [RA, ↓reduceIte, Nat.reduceEqDiff, RD, RE, *] <;> rfl)
  · rintro m f H' R ⟨rfl, g0, g1, g2, g7, g8, rfl⟩ hN hX hR hE
    simp only [A_slices_partialInsertionSortOrdered_int64.l3, T_aiff]
    refine T_rseq fun Kr hKr => ?_
    simp (disch := omega) only [RA, ↓reduceIte, Nat.reduceEqDiff, RD, g8]
    refine hKr _ _ ?_
    clear hKr Kr
    try simp only [RN, reduceIte]
    try refine T_e rfl ?_
    refine T_cseq (t := true) (by simp (disch := omega) only [RA, ↓reduceIte, Nat.reduceEqDiff, RD]) ?_
    try simp only [RN, reduceIte]
    try refine T_e rfl ?_
    first | refine T_bfree rfl ?_ | refine T_bfree' rfl ?_
    try simp only [RN, reduceIte]
    try refine T_e rfl ?_
    refine T_scan (fun m f H' => ∃ i : Nat, a + 1 ≤ i ∧ i ≤ b ∧ Srt a i p ∧ m = b - i ∧ f 0 = S 0 0 p.length 1 ∧ f 1 = I a ∧ f 2 = I b ∧ f 7 = I i ∧ H' = [some (p.map I)]) (fun f H' => ∃ i : Nat, a + 1 ≤ i ∧ i ≤ b ∧ Srt a i p ∧ f 0 = S 0 0 p.length 1 ∧ f 1 = I a ∧ f 2 = I b ∧ f 7 = I i ∧ H' = [some (p.map I)]) (b - (a + 1)) ?_ ?_ ?_
    · refine ⟨_, _, Gh.refl, a + 1, by omega, by omega, .one, rfl, ?_, ?_, ?_, ?_, rfl⟩
      any_goals (simp (disch := omega) only [RA, ↓reduceIte, Nat.reduceEqDiff, RD, RE, *] <;> rfl)
    · clear g0 g1 g2 g7 g8
      rintro m f H' R2 ⟨i, hi1, hi2, hs, rfl, g0, g1, g2, g7, rfl⟩ hN2 hX2 hR2
      simp only [A_slices_partialInsertionSortOrdered_int64.l0, T_aiff]
      by_cases hib : i < b
      · have hi1' : (i : Int) - 1 = ((i - 1 : Nat) : Int) := by omega
        have hi2' : (i : Int) + 1 = ((i + 1 : Nat) : Int) := by omega
        refine T_rseq fun Kr hKr => ?_
        simp (disch := omega) only [RA, ↓reduceIte, Nat.reduceEqDiff, RD, g0, g2, g7, hib, hi1']
        refine Less_spec ?_
        simp (disch := omega) only [RA, ↓reduceIte, Nat.reduceEqDiff, RD]
        refine hKr _ _ ?_
        clear hKr Kr
        try simp only [blkQ, thenQ, loopQ]
        try simp only [RN, reduceIte]
        try refine T_e rfl ?_
        refine T_csplit (p := ¬ el p i < el p (i - 1)) (by simp only [RA, ↓reduceIte, Nat.reduceEqDiff] <;> rfl) (by (try simp only [RB]) <;> first | done | exact Iff.rfl | omega | simp) (fun hc => ?_) (fun hc => ?_) <;> (try simp only [RN, reduceIte]) <;> (try refine T_e rfl ?_)
        · first | refine T_bfree rfl ?_ | refine T_bfree' rfl ?_
          try simp only [RN, reduceIte]
          try refine T_e rfl ?_
          refine T_reg_k fun Kr hKr => ?_
          simp (disch := omega) only [RA, ↓reduceIte, Nat.reduceEqDiff, RD, g7, hi2']
          refine hKr _ _ ?_
          clear hKr Kr
          refine hN2 (b - (i + 1)) _ _ _ _ (by omega) Gh.refl ⟨i + 1, by omega, by omega, fun x y h1 h2 h3 => ?_, rfl, ?_, ?_, ?_, ?_, rfl⟩
          any_goals (simp (disch := omega) only [RA, ↓reduceIte, Nat.reduceEqDiff, RD, RE, *] <;> rfl)
          rcases Nat.lt_or_ge y i with h | h
          · exact hs x y h1 h2 h
          · obtain rfl : y = i := by omega
            rcases Nat.lt_or_ge x y with h' | h'
            · exact Int.le_trans (hs x (y - 1) h1 (by omega) (by omega)) (by omega)
            · obtain rfl : x = y := by omega
              exact Int.le_refl _
        · refine hX2 _ _ ⟨i, by omega, by omega, hs, ?_, ?_, ?_, ?_, rfl⟩
          any_goals (simp (disch := omega) only [RA, ↓reduceIte, Nat.reduceEqDiff, RD, RE, *] <;> rfl)
      · refine T_rseq fun Kr hKr => ?_
        simp (disch := omega) only [RA, ↓reduceIte, Nat.reduceEqDiff, RD, g2, g7, hib]
        refine hKr _ _ ?_
        clear hKr Kr
        try simp only [RN, reduceIte]
        try refine T_e rfl ?_
        refine T_cseq (t := false) (by simp (disch := omega) only [RA, ↓reduceIte, Nat.reduceEqDiff, RD]) ?_
        try simp only [RN, reduceIte]
        try refine T_e rfl ?_
        refine hX2 _ _ ⟨i, by omega, by omega, hs, ?_, ?_, ?_, ?_, rfl⟩
        any_goals (simp (disch := omega) only [RA, ↓reduceIte, Nat.reduceEqDiff, RD, RE, *] <;> rfl)
    · clear g0 g1 g2 g7 g8
      rintro f H' ⟨i, hi1, hi2, hs, g0, g1, g2, g7, rfl⟩
      try simp only [RN, reduceIte]
      try refine T_e rfl ?_
      refine T_rseq fun Kr hKr => ?_
      simp (disch := omega) only [RA, ↓reduceIte, Nat.reduceEqDiff, RD, g2, g7]
      refine hKr _ _ ?_
      clear hKr Kr
      try simp only [RN, reduceIte]
      try refine T_e rfl ?_
      refine T_csplit (p := i = b) (by simp only [RA, ↓reduceIte, Nat.reduceEqDiff] <;> rfl) (by (try simp only [RB]) <;> first | done | exact Iff.rfl | omega | simp) (fun hc => ?_) (fun hc => ?_) <;> (try simp only [RN, reduceIte]) <;> (try refine T_e rfl ?_)
      · refine T_rseq fun Kr hKr => ?_
        simp (disch := omega) only [RA, ↓reduceIte, Nat.reduceEqDiff, RD]
        refine hKr _ _ ?_
        clear hKr Kr
        try simp only [RN, reduceIte]
        try refine T_e rfl ?_
        refine hR _ _ ?_
        refine bodyQ_ret (by simp (disch := omega) only [RA, ↓reduceIte, Nat.reduceEqDiff, RD, resAll, resOf]; rfl) GhV.refl ?_
        simp only [tup]
        subst hc
        exact hK true fun _ => hs
      · refine T_rseq fun Kr hKr => ?_
        simp (disch := omega) only [RA, ↓reduceIte, Nat.reduceEqDiff, RD, g1, g2, hl1]
        refine hKr _ _ ?_
        clear hKr Kr
        try simp only [RN, reduceIte]
        try refine T_e rfl ?_
        refine T_cseq (t := true) (by simp (disch := omega) only [RA, ↓reduceIte, Nat.reduceEqDiff, RD]) ?_
        try simp only [RN, reduceIte]
        try refine T_e rfl ?_
        refine T_rseq fun Kr hKr => ?_
        simp (disch := omega) only [RA, ↓reduceIte, Nat.reduceEqDiff, RD]
        refine hKr _ _ ?_
        clear hKr Kr
        try simp only [RN, reduceIte]
        try refine T_e rfl ?_
        refine hR _ _ ?_
        refine bodyQ_ret (by simp (disch := omega) only [RA, ↓reduceIte, Nat.reduceEqDiff, RD, resAll, resOf]; rfl) GhV.refl ?_
        simp only [tup]
        exact hK false fun h => by cases h
end Go.Bm

/- Sorting: lengths of numbers in bits, patterns broken. -/
set_option linter.unusedVariables false
set_option linter.unusedSimpArgs false
namespace Go.Bm
open Go Go.Am

set_option maxRecDepth 10000
def len8 : ByteArray := ⟨#[0, 1, 2, 2, 3, 3, 3, 3, 4, 4, 4, 4, 4, 4, 4, 4, 5, 5, 5, 5, 5, 5, 5, 5, 5, 5, 5, 5, 5, 5, 5, 5, 6, 6, 6, 6, 6, 6, 6, 6, 6, 6, 6, 6, 6, 6, 6, 6, 6, 6, 6, 6, 6, 6, 6, 6, 6, 6, 6, 6, 6, 6, 6, 6, 7, 7, 7, 7, 7, 7, 7, 7, 7, 7, 7, 7, 7, 7, 7, 7, 7, 7, 7, 7, 7, 7, 7, 7, 7, 7, 7, 7, 7, 7, 7, 7, 7, 7, 7, 7, 7, 7, 7, 7, 7, 7, 7, 7, 7, 7, 7, 7, 7, 7, 7, 7, 7, 7, 7, 7, 7, 7, 7, 7, 7, 7, 7, 7, 8, 8, 8, 8, 8, 8, 8, 8, 8, 8, 8, 8, 8, 8, 8, 8, 8, 8, 8, 8, 8, 8, 8, 8, 8, 8, 8, 8, 8, 8, 8, 8, 8, 8, 8, 8, 8, 8, 8, 8, 8, 8, 8, 8, 8, 8, 8, 8, 8, 8, 8, 8, 8, 8, 8, 8, 8, 8, 8, 8, 8, 8, 8, 8, 8, 8, 8, 8, 8, 8, 8, 8, 8, 8, 8, 8, 8, 8, 8, 8, 8, 8, 8, 8, 8, 8, 8, 8, 8, 8, 8, 8, 8, 8, 8, 8, 8, 8, 8, 8, 8, 8, 8, 8, 8, 8, 8, 8, 8, 8, 8, 8, 8, 8, 8, 8, 8, 8, 8, 8, 8, 8, 8, 8, 8, 8, 8, 8]⟩
def lenOf (x : Nat) : Nat := match len8[x]? with | some b => b.toNat | none => 0
theorem len8_is : (⟨#[0, 1, 2, 2, 3, 3, 3, 3, 4, 4, 4, 4, 4, 4, 4, 4, 5, 5, 5, 5, 5, 5, 5, 5, 5, 5, 5, 5, 5, 5, 5, 5, 6, 6, 6, 6, 6, 6, 6, 6, 6, 6, 6, 6, 6, 6, 6, 6, 6, 6, 6, 6, 6, 6, 6, 6, 6, 6, 6, 6, 6, 6, 6, 6, 7, 7, 7, 7, 7, 7, 7, 7, 7, 7, 7, 7, 7, 7, 7, 7, 7, 7, 7, 7, 7, 7, 7, 7, 7, 7, 7, 7, 7, 7, 7, 7, 7, 7, 7, 7, 7, 7, 7, 7, 7, 7, 7, 7, 7, 7, 7, 7, 7, 7, 7, 7, 7, 7, 7, 7, 7, 7, 7, 7, 7, 7, 7, 7, 8, 8, 8, 8, 8, 8, 8, 8, 8, 8, 8, 8, 8, 8, 8, 8, 8, 8, 8, 8, 8, 8, 8, 8, 8, 8, 8, 8, 8, 8, 8, 8, 8, 8, 8, 8, 8, 8, 8, 8, 8, 8, 8, 8, 8, 8, 8, 8, 8, 8, 8, 8, 8, 8, 8, 8, 8, 8, 8, 8, 8, 8, 8, 8, 8, 8, 8, 8, 8, 8, 8, 8, 8, 8, 8, 8, 8, 8, 8, 8, 8, 8, 8, 8, 8, 8, 8, 8, 8, 8, 8, 8, 8, 8, 8, 8, 8, 8, 8, 8, 8, 8, 8, 8, 8, 8, 8, 8, 8, 8, 8, 8, 8, 8, 8, 8, 8, 8, 8, 8, 8, 8, 8, 8, 8, 8, 8, 8]⟩ : ByteArray) = len8 := rfl
theorem len8_size : len8.size = 256 := by decide +kernel
theorem ixS_len8 {x : Nat} (h : x < 256) : ixS (.string len8) (.int .u8 (x : Int)) = some (.int .u8 (lenOf x : Int)) := by
  have hb : len8[x]? = some (len8[x]'(by rw [len8_size]; exact h)) := getElem?_pos len8 x (by rw [len8_size]; exact h)
  simp only [ixS, lenOf, Int.natCast_nonneg, if_true, Int.toNat_natCast, hb, Option.map_some]
theorem lenOf_lt {x : Nat} : lenOf x < 256 := by
  unfold lenOf
  split
  · exact UInt8.toNat_lt _
  · omega
theorem lenOf_small : ∀ x, x < 17 → x ≤ lenOf x + 12 ∧ (8 ≤ x → lenOf x = if x < 16 then 4 else 5) := by decide +kernel
theorem Len64_spec {x : Bool} {n : Nat} {H : BH} {K : Value → BH → Prop} (hn : n < 256) (hK : K (I (lenOf n)) H) : CallX x F_math_bits_Len64 [.int .u64 (n : Int)] H K := by
  have hl := @lenOf_lt n
  refine callP (by simp only [RH]) ?_
  refine CallX_body Γ_math_bits_Len64 ?_
  simp only [A_math_bits_Len64, T_aiff]
  refine T_rseq fun Kr hKr => ?_
  simp (disch := omega) only [RA, ↓reduceIte, Nat.reduceEqDiff, RD]
  refine hKr _ _ ?_
  clear hKr Kr
  try simp only [RN, reduceIte]
  try refine T_e rfl ?_
  refine T_rseq fun Kr hKr => ?_
  simp (disch := omega) only [RA, ↓reduceIte, Nat.reduceEqDiff, RD]
  refine hKr _ _ ?_
  clear hKr Kr
  try simp only [RN, reduceIte]
  try refine T_e rfl ?_
  refine T_cseq (t := false) (by simp (disch := omega) only [RA, ↓reduceIte, Nat.reduceEqDiff, RD]) ?_
  try simp only [RN, reduceIte]
  try refine T_e rfl ?_
  refine T_rseq fun Kr hKr => ?_
  simp (disch := omega) only [RA, ↓reduceIte, Nat.reduceEqDiff, RD]
  refine hKr _ _ ?_
  clear hKr Kr
  try simp only [RN, reduceIte]
  try refine T_e rfl ?_
  refine T_cseq (t := false) (by simp (disch := omega) only [RA, ↓reduceIte, Nat.reduceEqDiff, RD]) ?_
  try simp only [RN, reduceIte]
  try refine T_e rfl ?_
  refine T_rseq fun Kr hKr => ?_
  simp (disch := omega) only [RA, ↓reduceIte, Nat.reduceEqDiff, RD]
  refine hKr _ _ ?_
  clear hKr Kr
  try simp only [RN, reduceIte]
  try refine T_e rfl ?_
  refine T_cseq (t := false) (by simp (disch := omega) only [RA, ↓reduceIte, Nat.reduceEqDiff, RD]) ?_
  try simp only [RN, reduceIte]
  try refine T_e rfl ?_
  refine T_rseq fun Kr hKr => ?_
  simp (disch := omega) only [RA, ↓reduceIte, Nat.reduceEqDiff, RD, len8_is, ixS_len8, Int.zero_add]
  refine hKr _ _ ?_
  clear hKr Kr
  try simp only [blkQ, thenQ, loopQ]
  try simp only [RN, reduceIte]
  try refine T_e rfl ?_
  refine bodyQ_ret (by simp (disch := omega) only [RA, ↓reduceIte, Nat.reduceEqDiff, RD, resAll, resOf]; rfl) GhV.refl ?_
  simp only [tup]
  exact ⟨NN.int, hK⟩
theorem Len_spec {x : Bool} {n : Nat} {H : BH} {K : Value → BH → Prop} (hn : n < 256) (hK : K (I (lenOf n)) H) : CallX x F_math_bits_Len [.int .u64 (n : Int)] H K := by
  refine callP (by simp only [RH]) ?_
  refine CallX_body Γ_math_bits_Len ?_
  simp only [A_math_bits_Len, T_aiff]
  refine T_rseq fun Kr hKr => ?_
  simp (disch := omega) only [RA, ↓reduceIte, Nat.reduceEqDiff, RD]
  refine hKr _ _ ?_
  clear hKr Kr
  try simp only [RN, reduceIte]
  try refine T_e rfl ?_
  refine T_cseq (t := false) (by simp (disch := omega) only [RA, ↓reduceIte, Nat.reduceEqDiff, RD]) ?_
  try simp only [RN, reduceIte]
  try refine T_e rfl ?_
  refine T_rseq fun Kr hKr => ?_
  simp (disch := omega) only [RA, ↓reduceIte, Nat.reduceEqDiff, RD]
  refine Len64_spec hn ?_
  simp (disch := omega) only [RA, ↓reduceIte, Nat.reduceEqDiff, RD]
  refine hKr _ _ ?_
  clear hKr Kr
  try simp only [blkQ, thenQ, loopQ]
  try simp only [RN, reduceIte]
  try refine T_e rfl ?_
  refine bodyQ_ret (by simp (disch := omega) only [RA, ↓reduceIte, Nat.reduceEqDiff, RD, resAll, resOf]; rfl) GhV.refl ?_
  simp only [tup]
  exact ⟨NN.int, hK⟩
theorem wu64 {n : Int} (h0 : 0 ≤ n) (h1 : n < 18446744073709551616) : IntKind.u64.wrap n = n := by
  have hb : (2 : Int) ^ (64 : Nat) = 18446744073709551616 := by decide
  simp only [IntKind.wrap, IntKind.bits, IntKind.signed, hb]
  simp
  omega
theorem nextPow_spec {x : Bool} {n : Nat} {H : BH} {K : Value → BH → Prop} (h8 : 8 ≤ n) (hn : n ≤ 16) (hK : K (.int .u64 (if n < 16 then 16 else 32)) H) : CallX x F_slices_nextPowerOfTwo [I n] H K := by
  have hl := (lenOf_small n (by omega)).2 h8
  refine callP (by simp only [RH]) ?_
  refine CallX_body Γ_slices_nextPowerOfTwo ?_
  simp only [A_slices_nextPowerOfTwo, T_aiff]
  refine T_rseq fun Kr hKr => ?_
  simp (disch := omega) only [RA, ↓reduceIte, Nat.reduceEqDiff, RD]
  refine hKr _ _ ?_
  clear hKr Kr
  try simp only [RN, reduceIte]
  try refine T_e rfl ?_
  refine T_rseq fun Kr hKr => ?_
  simp (disch := omega) only [RA, ↓reduceIte, Nat.reduceEqDiff, RD, wu64]
  refine Len_spec (by omega) ?_
  rw [hl]
  by_cases h : n < 16
  · rw [if_pos h] at hK ⊢
    simp (disch := omega) only [RA, ↓reduceIte, Nat.reduceEqDiff, RD]
    refine hKr _ _ ?_
    clear hKr Kr
    try simp only [blkQ, thenQ, loopQ]
    try simp only [RN, reduceIte]
    try refine T_e rfl ?_
    refine bodyQ_ret (by simp (disch := omega) only [RA, ↓reduceIte, Nat.reduceEqDiff, RD, resAll, resOf]; rfl) GhV.refl ?_
    simp only [tup]
    exact ⟨NN.int, hK⟩
  · rw [if_neg h] at hK ⊢
    simp (disch := omega) only [RA, ↓reduceIte, Nat.reduceEqDiff, RD]
    refine hKr _ _ ?_
    clear hKr Kr
    try simp only [blkQ, thenQ, loopQ]
    try simp only [RN, reduceIte]
    try refine T_e rfl ?_
    refine bodyQ_ret (by simp (disch := omega) only [RA, ↓reduceIte, Nat.reduceEqDiff, RD, resAll, resOf]; rfl) GhV.refl ?_
    simp only [tup]
    exact ⟨NN.int, hK⟩
theorem st_cu {H : BH} {b : Nat} {v : Value} {k : IntKind} {n : Int} : stO (some [v]) H b 0 1 (.int k n) = some (undef, H.set b (some [.int k n])) := rfl
theorem Next_spec {v : Int} {K : Value → BH → Prop} (hK : ∀ v' : Int, K (.int .u64 v') [some [.int .u64 v']]) : CallX false F_slices_xorshift_Next [P 0 0] [some [.int .u64 v]] K := by
  refine CallX_body Γ_slices_xorshift_Next ?_
  simp only [A_slices_xorshift_Next, T_aiff]
  refine T_rseq fun Kr hKr => ?_
  simp (disch := omega) only [RA, ↓reduceIte, Nat.reduceEqDiff, RD]
  refine hKr _ _ ?_
  clear hKr Kr
  try simp only [RN, reduceIte]
  try refine T_e rfl ?_
  refine T_rseq fun Kr hKr => ?_
  simp (disch := omega) only [RA, ↓reduceIte, Nat.reduceEqDiff, RD, getN_c, st_cu]
  refine hKr _ _ ?_
  clear hKr Kr
  try simp only [RN, reduceIte]
  try refine T_e rfl ?_
  generalize IntKind.u64.wrap _ = v1
  refine T_rseq fun Kr hKr => ?_
  simp (disch := omega) only [RA, ↓reduceIte, Nat.reduceEqDiff, RD, getN_c, st_cu]
  refine hKr _ _ ?_
  clear hKr Kr
  try simp only [RN, reduceIte]
  try refine T_e rfl ?_
  generalize IntKind.u64.wrap _ = v2
  refine T_rseq fun Kr hKr => ?_
  simp (disch := omega) only [RA, ↓reduceIte, Nat.reduceEqDiff, RD, getN_c, st_cu]
  refine hKr _ _ ?_
  clear hKr Kr
  try simp only [RN, reduceIte]
  try refine T_e rfl ?_
  generalize IntKind.u64.wrap _ = v3
  refine T_rseq fun Kr hKr => ?_
  simp (disch := omega) only [RA, ↓reduceIte, Nat.reduceEqDiff, RD, getN_c]
  refine hKr _ _ ?_
  clear hKr Kr
  try simp only [RN, reduceIte]
  try refine T_e rfl ?_
  refine bodyQ_ret (by simp (disch := omega) only [RA, ↓reduceIte, Nat.reduceEqDiff, RD, resAll, resOf]; rfl) GhV.refl ?_
  simp only [tup]
  exact hK _
/-- What is kept of a number. -/
theorem mask_lt {a : Int} {m : Nat} (hm : m = 16 ∨ m = 32) : ∃ o : Nat, IntKind.i64.wrap (IntKind.u64.wrap ((BitVec.ofInt IntKind.u64.bits a &&& BitVec.ofInt IntKind.u64.bits (IntKind.u64.wrap ((m : Int) - 1))).toNat : Int)) = o ∧ o < m := by
  have h1 : (BitVec.ofInt IntKind.u64.bits a &&& BitVec.ofInt IntKind.u64.bits (IntKind.u64.wrap ((m : Int) - 1))).toNat ≤ m - 1 := by
    rw [BitVec.toNat_and]
    refine Nat.le_trans Nat.and_le_right ?_
    rcases hm with rfl | rfl <;> decide
  refine ⟨(BitVec.ofInt IntKind.u64.bits a &&& BitVec.ofInt IntKind.u64.bits (IntKind.u64.wrap ((m : Int) - 1))).toNat, ?_, by omega⟩
  generalize (BitVec.ofInt IntKind.u64.bits a &&& BitVec.ofInt IntKind.u64.bits (IntKind.u64.wrap ((m : Int) - 1))).toNat = x at h1
  rw [wu64 (by omega) (by omega), w64 (by omega) (by omega)]
theorem breakPatterns_spec {p : List Int} {a b : Nat} {K : Value → BH → Prop} (hpl : p.length ≤ 1000) (hb : b ≤ p.length) (h8 : a + 8 ≤ b) (h16 : b ≤ a + 16) (hK : ∀ q, Sg a b p q → K (.tuple ⟨[]⟩) [some (q.map I)]) :
    CallX false F_slices_breakPatternsOrdered_int64 [S 0 0 p.length 1, I a, I b] [some (p.map I)] K := by
  obtain ⟨l, hl⟩ : ∃ l, l = b - a := ⟨_, rfl⟩
  have hbl : (b : Int) - (a : Int) = (l : Int) := by omega
  have hd : (l : Int).tdiv 4 = ((l / 4 : Nat) : Int) := (Int.ofNat_tdiv l 4).symm
  obtain ⟨t, ht⟩ : ∃ t, t = l / 4 := ⟨_, rfl⟩
  rw [← ht] at hd
  have e2 : (a : Int) + (t : Int) * 2 = ((a + t * 2 : Nat) : Int) := by omega
  have e3 : ((a + t * 2 : Nat) : Int) - 1 = ((a + t * 2 - 1 : Nat) : Int) := by omega
  have e4 : ((a + t * 2 : Nat) : Int) + 1 = ((a + t * 2 + 1 : Nat) : Int) := by omega
  obtain ⟨m, hm, hml⟩ : ∃ m : Nat, (if l < 16 then (16 : Int) else 32) = m ∧ (m = 16 ∧ l < 16 ∨ m = 32 ∧ l = 16) := by
    by_cases h : l < 16
    · exact ⟨16, by rw [if_pos h]; rfl, .inl ⟨rfl, h⟩⟩
    · exact ⟨32, by rw [if_neg h]; rfl, .inr ⟨rfl, by omega⟩⟩
  refine CallX_body Γ_slices_breakPatternsOrdered_int64 ?_
  simp only [A_slices_breakPatternsOrdered_int64, T_aiff]
  refine T_rseq fun Kr hKr => ?_
  simp (disch := omega) only [RA, ↓reduceIte, Nat.reduceEqDiff, RD, hbl]
  refine hKr _ _ ?_
  clear hKr Kr
  try simp only [RN, reduceIte]
  try refine T_e rfl ?_
  refine T_rseq fun Kr hKr => ?_
  simp (disch := omega) only [RA, ↓reduceIte, Nat.reduceEqDiff, RD]
  refine hKr _ _ ?_
  clear hKr Kr
  try simp only [RN, reduceIte]
  try refine T_e rfl ?_
  refine T_cond (t := true) (by simp (disch := omega) only [RA, ↓reduceIte, Nat.reduceEqDiff, RD]) ?_
  try simp only [RN, reduceIte]
  try refine T_e rfl ?_
  refine T_rseq fun Kr hKr => ?_
  simp (disch := omega) only [RA, ↓reduceIte, Nat.reduceEqDiff, RD, wu64, st_cu]
  refine hKr _ _ ?_
  clear hKr Kr
  try simp only [RN, reduceIte]
  try refine T_e rfl ?_
  refine T_rseq fun Kr hKr => ?_
  simp (disch := omega) only [RA, ↓reduceIte, Nat.reduceEqDiff, Nat.reduceBEq, Nat.reduceSub, Nat.reduceAdd, Nat.reduceMul, Nat.reduceLT, Nat.reduceLeDiff, Int.reduceLE, Int.reduceLT, Int.reduceEq, Int.reduceNeg, Int.reduceToNat, Int.reduceMul, Int.reduceAdd, Int.reduceSub, Int.reduceBEq, Int.reduceBNe, reduceCtorEq, RD]
  refine nextPow_spec (by omega) (by omega) ?_
  rw [hm]
  simp (disch := omega) only [RA, ↓reduceIte, Nat.reduceEqDiff, Nat.reduceBEq, Nat.reduceSub, Nat.reduceAdd, Nat.reduceMul, Nat.reduceLT, Nat.reduceLeDiff, Int.reduceLE, Int.reduceLT, Int.reduceEq, Int.reduceNeg, Int.reduceToNat, Int.reduceMul, Int.reduceAdd, Int.reduceSub, Int.reduceBEq, Int.reduceBNe, reduceCtorEq, RD]
  refine hKr _ _ ?_
  clear hKr Kr
  try simp only [blkQ, thenQ, loopQ]
  try simp only [RN, reduceIte]
  try refine T_e rfl ?_
  refine T_rseq fun Kr hKr => ?_
  simp (disch := omega) only [RA, ↓reduceIte, Nat.reduceEqDiff, Nat.reduceBEq, Nat.reduceSub, Nat.reduceAdd, Nat.reduceMul, Nat.reduceLT, Nat.reduceLeDiff, Int.reduceLE, Int.reduceLT, Int.reduceEq, Int.reduceNeg, Int.reduceToNat, Int.reduceMul, Int.reduceAdd, Int.reduceSub, Int.reduceBEq, Int.reduceBNe, reduceCtorEq, RD, hd, e2, e3]
  refine hKr _ _ ?_
  clear hKr Kr
  try simp only [RN, reduceIte]
  try refine T_e rfl ?_
  refine T_tail ?_
  refine T_wloop (fun n f H' => ∃ (q : List Int) (i : Nat) (v : Int), Sg a b p q ∧ a + t * 2 - 1 ≤ i ∧ i ≤ a + t * 2 + 2 ∧ n = a + t * 2 + 2 - i ∧ f 0 = S 0 0 p.length 1 ∧ f 1 = I a ∧ f 6 = I l ∧ f 7 = P 1 0 ∧ f 8 = .int .u64 (m : Int) ∧ f 9 = I i ∧ H' = [some (q.map I), some [.int .u64 v]]) (a + t * 2 + 2 - (a + t * 2 - 1)) ?_ ?_
  · refine ⟨_, _, Gh.refl, p, a + t * 2 - 1, l, .refl, by omega, by omega, rfl, ?_, ?_, ?_, ?_, ?_, ?_, rfl⟩
    any_goals (simp (disch := omega) only [RA, ↓reduceIte, Nat.reduceEqDiff, Nat.reduceBEq, Nat.reduceSub, Nat.reduceAdd, Nat.reduceMul, Nat.reduceLT, Nat.reduceLeDiff, Int.reduceLE, Int.reduceLT, Int.reduceEq, Int.reduceNeg, Int.reduceToNat, Int.reduceMul, Int.reduceAdd, Int.reduceSub, Int.reduceBEq, Int.reduceBNe, reduceCtorEq, RD, RE, *] <;> rfl)
  · rintro n f H' R ⟨q, i, v, hq, hi1, hi2, rfl, g0, g1, g6, g7, g8, g9, rfl⟩ hN hX hR hE
    simp only [A_slices_breakPatternsOrdered_int64.l0, T_aiff]
    have hql := hq.len
    refine T_rseq fun Kr hKr => ?_
    simp (disch := omega) only [RA, ↓reduceIte, Nat.reduceEqDiff, Nat.reduceBEq, Nat.reduceSub, Nat.reduceAdd, Nat.reduceMul, Nat.reduceLT, Nat.reduceLeDiff, Int.reduceLE, Int.reduceLT, Int.reduceEq, Int.reduceNeg, Int.reduceToNat, Int.reduceMul, Int.reduceAdd, Int.reduceSub, Int.reduceBEq, Int.reduceBNe, reduceCtorEq, RD, g1, g6, g9, hd, e2, e4]
    refine hKr _ _ ?_
    clear hKr Kr
    try simp only [RN, reduceIte]
    try refine T_e rfl ?_
    refine T_csplit (p := i ≤ a + t * 2 + 1) (by simp only [RA, ↓reduceIte, Nat.reduceEqDiff] <;> rfl) (by (try simp only [RB]) <;> first | done | exact Iff.rfl | omega | simp) (fun hc => ?_) (fun hc => ?_) <;> (try simp only [RN, reduceIte]) <;> (try refine T_e rfl ?_)
    · have hnext : ∀ f' (v' : Int) (o : Nat), f' 0 = S 0 0 p.length 1 → f' 1 = I a → f' 6 = I l → f' 7 = P 1 0 → f' 8 = .int .u64 (m : Int) → f' 9 = I i → f' 10 = I o → o < l →
          T 1 (.seq A_slices_breakPatternsOrdered_int64.r10 A_slices_breakPatternsOrdered_int64.r6) R f' [some (q.map I), some [.int .u64 v']] := by
        intro f' v' o g0 g1 g6 g7 g8 g9 g10 ho
        have e5 : (a : Int) + (o : Int) = ((a + o : Nat) : Int) := by omega
        have hqs : (q.set i (el q (a + o))).length = p.length := by simp [hql]
        have hsw : (q.set i (el q (a + o))).set (a + o) (el q i) = swp q i (a + o) := rfl
        refine T_rseq fun Kr hKr => ?_
        simp (disch := omega) only [RA, ↓reduceIte, Nat.reduceEqDiff, RD, g0, g1, g9, g10, e5, hql, hqs]
        refine hKr _ _ ?_
        clear hKr Kr
        try simp only [RN, reduceIte]
        try refine T_e rfl ?_
        rw [hsw]
        refine T_reg_k fun Kr hKr => ?_
        simp (disch := omega) only [RA, ↓reduceIte, Nat.reduceEqDiff, RD, g9]
        refine hKr _ _ ?_
        clear hKr Kr
        refine hN (a + t * 2 + 2 - (i + 1)) _ _ _ _ (by omega) Gh.refl ⟨swp q i (a + o), i + 1, v', hq.trans (.swp (by omega) (by omega) (by omega) (by omega) (by omega)), by omega, by omega, rfl, ?_, ?_, ?_, ?_, ?_, ?_, rfl⟩
        any_goals (simp (disch := omega) only [RA, ↓reduceIte, Nat.reduceEqDiff, RD, RE, *] <;> rfl)
      first | refine T_bfree rfl ?_ | refine T_bfree' rfl ?_
      try simp only [RN, reduceIte]
      try refine T_e rfl ?_
      refine T_rseq fun Kr hKr => ?_
      simp (disch := omega) only [RA, ↓reduceIte, Nat.reduceEqDiff, RD, g7]
      refine call1 (i := 1) (cs := [.int .u64 v]) rfl (by (simp only [RH])) ?_
      refine Next_spec ?_
      intro v'
      refine ⟨.int, .cons (by (simp only [RH])) .nil, ?_⟩
      obtain ⟨o, ho1, ho2⟩ := @mask_lt v' m (by omega)
      simp (disch := omega) only [RA, ↓reduceIte, Nat.reduceEqDiff, RD, g8, ho1]
      refine hKr _ _ ?_
      clear hKr Kr
      try simp only [blkQ, thenQ, loopQ]
      try simp only [RN, reduceIte]
      try refine T_e rfl ?_
      refine T_rseq fun Kr hKr => ?_
      simp (disch := omega) only [RA, ↓reduceIte, Nat.reduceEqDiff, RD, g6]
      refine hKr _ _ ?_
      clear hKr Kr
      try simp only [RN, reduceIte]
      try refine T_e rfl ?_
      refine T_csplit (p := l ≤ o) (by simp only [RA, ↓reduceIte, Nat.reduceEqDiff] <;> rfl) (by (try simp only [RB]) <;> first | done | exact Iff.rfl | omega | simp) (fun hc => ?_) (fun hc => ?_) <;> (try simp only [RN, reduceIte]) <;> (try refine T_e rfl ?_)
      · have e6 : (o : Int) - (l : Int) = ((o - l : Nat) : Int) := by omega
        refine T_rseq fun Kr hKr => ?_
        simp (disch := omega) only [RA, ↓reduceIte, Nat.reduceEqDiff, RD, g6, e6]
        refine hKr _ _ ?_
        clear hKr Kr
        try simp only [RN, reduceIte]
        try refine T_e rfl ?_
        refine hnext _ v' (o - l) ?_ ?_ ?_ ?_ ?_ ?_ ?_ (by omega)
        any_goals (simp (disch := omega) only [RA, ↓reduceIte, Nat.reduceEqDiff, RD, RE, *] <;> rfl)
      · try simp only [RN, reduceIte]
        try refine T_e rfl ?_
        refine hnext _ v' o ?_ ?_ ?_ ?_ ?_ ?_ ?_ (by omega)
        any_goals (simp (disch := omega) only [RA, ↓reduceIte, Nat.reduceEqDiff, RD, RE, *] <;> rfl)
    · refine hX _ _ ?_
      refine T_skip ?_
      refine bodyQ_ret (by simp (disch := omega) only [RA, ↓reduceIte, Nat.reduceEqDiff, RD, resAll, resOf]; rfl) (GhV.nrm [0] rfl rfl (by simp only [RH]) (by simp only [tup, RH])) ?_
      simp only [tup]
      exact hK q hq
end Go.Bm

