/- DpK, DpL, DpM, DpN -/
import Derived.Test.YtbfhlajbjfahiaaBmS
/- Sorting: parts of a list that are changed; insertion, reversing. -/
set_option linter.unusedVariables false
set_option linter.unusedSimpArgs false
namespace Go.Bm
open Go Go.Am

theorem el_setD {p : List Int} {i j : Nat} {x : Int} : el (p.set i x) j = if j = i ∧ i < p.length then x else el p j := by
  unfold el
  simp only [List.getD]
  by_cases h : i = j
  · subst h
    by_cases hi : i < p.length
    · simp [hi]
    · simp [List.getElem?_eq_none (by omega : p.length ≤ i), hi]
  · rw [List.getElem?_set_ne h, if_neg (fun e => h e.1.symm)]
/-- Two numbers change places. -/
def swp (p : List Int) (i j : Nat) : List Int := (p.set i (el p j)).set j (el p i)
theorem swp_len {p : List Int} {i j : Nat} : (swp p i j).length = p.length := by simp [swp]
theorem swp_el {p : List Int} {i j k : Nat} (hi : i < p.length) (hj : j < p.length) : el (swp p i j) k = if k = j then el p i else if k = i then el p j else el p k := by
  unfold swp
  rw [el_setD, el_setD]
  by_cases h : k = j
  · rw [if_pos ⟨h, by simpa using hj⟩, if_pos h]
  · rw [if_neg (fun e => h e.1), if_neg h]
    by_cases h2 : k = i
    · rw [if_pos ⟨h2, hi⟩, if_pos h2]
    · rw [if_neg (fun e => h2 e.1), if_neg h2]
theorem swp_perm {p : List Int} {i j : Nat} (hi : i < p.length) (hj : j < p.length) : (swp p i j).Perm p := by
  rw [List.perm_iff_count]
  intro a
  unfold swp
  rw [List.count_set (by simpa using hj), List.count_set hi]
  have e1 : p[i] = el p i := by simp [el, List.getD, hi]
  have e2 : p[j] = el p j := by simp [el, List.getD, hj]
  have e3 : (p.set i (el p j))[j]'(by simpa using hj) = el p j := by
    rw [List.getElem_set]
    split
    · rfl
    · exact e2
  rw [e3, e1]
  have c1 : (el p i == a) = true → 0 < p.count a := fun h => by
    rw [List.count_pos_iff, ← beq_iff_eq.1 h, ← e1]; exact List.getElem_mem hi
  by_cases h1 : (el p i == a) = true <;> by_cases h2 : (el p j == a) = true <;> simp only [h1, h2, if_true, if_false, Bool.false_eq_true] <;> first | omega | (have := c1 h1; omega)

/-- Of a list only the part from a to b has been put into another order. -/
structure Sg (a b : Nat) (p q : List Int) : Prop where
  len : q.length = p.length
  out : ∀ i, i < a ∨ b ≤ i → el q i = el p i
  src : ∀ i, a ≤ i → i < b → ∃ j, a ≤ j ∧ j < b ∧ el q i = el p j
  perm : q.Perm p
theorem Sg.refl {a b : Nat} {p : List Int} : Sg a b p p := ⟨rfl, fun _ _ => rfl, fun i h1 h2 => ⟨i, h1, h2, rfl⟩, .refl _⟩
theorem Sg.trans {a b : Nat} {p q r : List Int} (h : Sg a b p q) (k : Sg a b q r) : Sg a b p r := ⟨k.len.trans h.len, fun i hi => (k.out i hi).trans (h.out i hi), fun i h1 h2 => by
  obtain ⟨j, j1, j2, j3⟩ := k.src i h1 h2
  obtain ⟨l, l1, l2, l3⟩ := h.src j j1 j2
  exact ⟨l, l1, l2, j3.trans l3⟩, k.perm.trans h.perm⟩
theorem Sg.mono {a b a' b' : Nat} {p q : List Int} (h : Sg a b p q) (ha : a' ≤ a) (hb : b ≤ b') : Sg a' b' p q := ⟨h.len, fun i hi => h.out i (by omega), fun i h1 h2 => by
  by_cases hi : a ≤ i ∧ i < b
  · obtain ⟨j, j1, j2, j3⟩ := h.src i hi.1 hi.2
    exact ⟨j, by omega, by omega, j3⟩
  · exact ⟨i, h1, h2, h.out i (by omega)⟩, h.perm⟩
theorem Sg.swp {a b i j : Nat} {p : List Int} (h1 : a ≤ i) (h2 : i < b) (h3 : a ≤ j) (h4 : j < b) (hb : b ≤ p.length) : Sg a b p (swp p i j) := ⟨swp_len, fun k hk => by
  rw [swp_el (by omega) (by omega), if_neg (by omega), if_neg (by omega)], fun k k1 k2 => by
  rw [swp_el (by omega) (by omega)]
  split
  · exact ⟨i, h1, h2, rfl⟩
  · split
    · exact ⟨j, h3, h4, rfl⟩
    · exact ⟨k, k1, k2, rfl⟩, swp_perm (by omega) (by omega)⟩
/-- In order from a to b. -/
def Srt (a b : Nat) (p : List Int) : Prop := ∀ i j, a ≤ i → i ≤ j → j < b → el p i ≤ el p j

theorem Srt.one {a : Nat} {p : List Int} : Srt a (a + 1) p := fun i j h1 h2 h3 => by
  obtain rfl : i = j := by omega
  exact Int.le_refl _
theorem isNaN_spec {x : Bool} {a : Int} {H : BH} {K : Value → BH → Prop} (hK : K (.bool false) H) : CallX x F_cmp_isNaN_int64 [I a] H K := by
  refine callP (by simp only [RH]) ?_
  refine CallX_body Γ_cmp_isNaN_int64 ?_
  simp only [A_cmp_isNaN_int64, T_aiff]
  refine T_rseq fun Kr hKr => ?_
  simp (disch := omega) only [RA, ↓reduceIte, Nat.reduceEqDiff, RD]
  refine hKr _ _ ?_
  clear hKr Kr
  try simp only [RN, reduceIte]
  try refine T_e rfl ?_
  refine T_rseq fun Kr hKr => ?_
  simp (disch := omega) only [RA, ↓reduceIte, Nat.reduceEqDiff, RD]
  refine hKr _ _ ?_
  clear hKr Kr
  try simp only [RN, reduceIte]
  try refine T_e rfl ?_
  refine bodyQ_ret (by simp (disch := omega) only [RA, ↓reduceIte, Nat.reduceEqDiff, RD, resAll, resOf]; rfl) GhV.refl ?_
  simp only [tup]
  exact ⟨NN.bool, by simpa using hK⟩
theorem Less_spec {x : Bool} {a b : Int} {H : BH} {K : Value → BH → Prop} (hK : K (.bool (decide (a < b))) H) : CallX x F_cmp_Less_int64 [I a, I b] H K := by
  refine callP (by simp only [RH]) ?_
  refine CallX_body Γ_cmp_Less_int64 ?_
  simp only [A_cmp_Less_int64, T_aiff]
  refine T_rseq fun Kr hKr => ?_
  simp (disch := omega) only [RA, ↓reduceIte, Nat.reduceEqDiff, RD]
  refine hKr _ _ ?_
  clear hKr Kr
  try simp only [RN, reduceIte]
  try refine T_e rfl ?_
  refine T_rseq fun Kr hKr => ?_
  simp (disch := omega) only [RA, ↓reduceIte, Nat.reduceEqDiff, RD]
  refine isNaN_spec ?_
  simp (disch := omega) only [RA, ↓reduceIte, Nat.reduceEqDiff, RD]
  refine hKr _ _ ?_
  clear hKr Kr
  try simp only [blkQ, thenQ, loopQ]
  try simp only [RN, reduceIte]
  try refine T_e rfl ?_
  refine bodyQ_ret (by simp (disch := omega) only [RA, ↓reduceIte, Nat.reduceEqDiff, RD, resAll, resOf]; rfl) GhV.refl ?_
  simp only [tup]
  exact ⟨NN.bool, hK⟩
theorem T_tail {k : Nat} {a : ACode} {Q : Ex → Fr → BH → Prop} {f : Fr} {H : BH} (h : T k (.seq a .skip) Q f H) : T k a Q f H := by
  intro ρ Z fA HA hk h1 h2
  obtain ⟨ex, fA', HA', h3, h4⟩ := h ρ Z fA HA hk h1 h2
  refine ⟨ex, fA', HA', ?_, h4⟩
  cases h3 with
  | seqN ha hb => cases hb; exact ha
  | seqX ha _ => exact ha
/-- Insertion. -/
theorem insertionSort_spec {p : List Int} {a b : Nat} {K : Value → BH → Prop} (hp : p.length ≤ 1000) (hb : b ≤ p.length) (ha : a ≤ b) (hK : ∀ q, Sg a b p q → Srt a b q → K (.tuple ⟨[]⟩) [some (q.map I)]) :
    CallX false F_slices_insertionSortOrdered_int64 [S 0 0 p.length 1, I a, I b] [some (p.map I)] K := by
  refine CallX_body Γ_slices_insertionSortOrdered_int64 ?_
  simp only [A_slices_insertionSortOrdered_int64, T_aiff]
  refine T_rseq fun Kr hKr => ?_
  simp (disch := omega) only [RA, ↓reduceIte, Nat.reduceEqDiff, RD]
  refine hKr _ _ ?_
  clear hKr Kr
  try simp only [RN, reduceIte]
  try refine T_e rfl ?_
  refine T_tail ?_
  refine T_wloop (fun m f H' => ∃ (i : Nat) (q : List Int), a + 1 ≤ i ∧ (i ≤ b ∨ i = a + 1) ∧ m = b - i ∧ Sg a b p q ∧ Srt a i q ∧ f 0 = S 0 0 p.length 1 ∧ f 1 = I a ∧ f 2 = I b ∧ f 6 = I i ∧ H' = [some (q.map I)]) (b - (a + 1)) ?_ ?_
  · refine ⟨_, _, Gh.refl, a + 1, p, by omega, by omega, by omega, .refl, Srt.one, ?_, ?_, ?_, ?_, rfl⟩
    any_goals (simp (disch := omega) only [RA, ↓reduceIte, Nat.reduceEqDiff, RD, RE, *] <;> rfl)
  · rintro m f H' R ⟨i, q, hi1, hi2, rfl, hq, hs, g0, g1, g2, g6, rfl⟩ hN hX hR hE
    simp only [A_slices_insertionSortOrdered_int64.l1, T_aiff]
    refine T_rseq fun Kr hKr => ?_
    simp (disch := omega) only [RA, ↓reduceIte, Nat.reduceEqDiff, RD, g2, g6]
    refine hKr _ _ ?_
    clear hKr Kr
    try simp only [RN, reduceIte]
    try refine T_e rfl ?_
    refine T_csplit (p := i < b) (by simp only [RA, ↓reduceIte, Nat.reduceEqDiff] <;> rfl) (by (try simp only [RB]) <;> first | done | exact Iff.rfl | omega | simp) (fun hc => ?_) (fun hc => ?_) <;> (try simp only [RN, reduceIte]) <;> (try refine T_e rfl ?_)
    · first | refine T_bfree rfl ?_ | refine T_bfree' rfl ?_
      try simp only [RN, reduceIte]
      try refine T_e rfl ?_
      refine T_rseq fun Kr hKr => ?_
      simp (disch := omega) only [RA, ↓reduceIte, Nat.reduceEqDiff, RD, g6]
      refine hKr _ _ ?_
      clear hKr Kr
      try simp only [RN, reduceIte]
      try refine T_e rfl ?_
      refine T_wloop (fun m f H' => ∃ (j : Nat) (r : List Int), a ≤ j ∧ j ≤ i ∧ j = m ∧ Sg a b p r ∧ (∀ x y, a ≤ x → x < y → y ≤ i → y ≠ j → el r x ≤ el r y) ∧ f 0 = S 0 0 p.length 1 ∧ f 1 = I a ∧ f 2 = I b ∧ f 6 = I i ∧ f 7 = I j ∧ H' = [some (r.map I)]) (i) ?_ ?_
      · refine ⟨_, _, Gh.refl, i, q, by omega, by omega, by omega, hq, fun x y h1 h2 h3 h4 => hs x y h1 (by omega) (by omega), ?_, ?_, ?_, ?_, ?_, rfl⟩
        any_goals (simp (disch := omega) only [RA, ↓reduceIte, Nat.reduceEqDiff, RD, RE, *] <;> rfl)
      · clear g0 g1 g2 g6
        rintro m f H' R2 ⟨j, r, hj1, hj2, rfl, hr, hall, g0, g1, g2, g6, g7, rfl⟩ hN2 hX2 hR2 hE2
        simp only [A_slices_insertionSortOrdered_int64.l0, T_aiff]
        have hrl := hr.len
        have hdone : ∀ f', f' 0 = S 0 0 p.length 1 → f' 1 = I a → f' 2 = I b → f' 6 = I i → (j = a ∨ el r (j - 1) ≤ el r j) → T 1 A_slices_insertionSortOrdered_int64.r2 R f' [some (r.map I)] := by
          intro f' g0 g1 g2 g6 hfin
          refine T_reg_k fun Kr hKr => ?_
          simp (disch := omega) only [RA, ↓reduceIte, Nat.reduceEqDiff, RD, g6]
          refine hKr _ _ ?_
          clear hKr Kr
          refine hN (b - (i + 1)) _ _ _ _ (by omega) Gh.refl ⟨i + 1, r, by omega, by omega, rfl, hr, fun x y h1 h2 h3 => ?_, ?_, ?_, ?_, ?_, rfl⟩
          any_goals (simp (disch := omega) only [RA, ↓reduceIte, Nat.reduceEqDiff, RD, RE, *] <;> rfl)
          rcases Nat.lt_or_ge x y with h | h
          · by_cases hy : y = j
            · subst hy
              rcases hfin with hfin | hfin
              · omega
              · rcases Nat.lt_or_ge x (y - 1) with h' | h'
                · exact Int.le_trans (hall x (y - 1) h1 h' (by omega) (by omega)) hfin
                · obtain rfl : x = y - 1 := by omega
                  exact hfin
            · exact hall x y h1 h (by omega) hy
          · obtain rfl : x = y := by omega
            exact Int.le_refl _
        by_cases hja : j = a
        · refine T_rseq fun Kr hKr => ?_
          simp (disch := omega) only [RA, ↓reduceIte, Nat.reduceEqDiff, RD, g1, g7, hja]
          refine hKr _ _ ?_
          clear hKr Kr
          try simp only [RN, reduceIte]
          try refine T_e rfl ?_
          refine T_cseq (t := false) (by simp (disch := omega) only [RA, ↓reduceIte, Nat.reduceEqDiff, RD]) ?_
          try simp only [RN, reduceIte]
          try refine T_e rfl ?_
          refine hX2 _ _ ?_
          refine hdone _ ?_ ?_ ?_ ?_ (.inl hja)
          any_goals (simp (disch := omega) only [RA, ↓reduceIte, Nat.reduceEqDiff, RD, RE, *] <;> rfl)
        · have hlt : a < j := by omega
          have hj1' : (j : Int) - 1 = ((j - 1 : Nat) : Int) := by omega
          refine T_rseq fun Kr hKr => ?_
          simp (disch := omega) only [RA, ↓reduceIte, Nat.reduceEqDiff, RD, g0, g1, g7, hlt, hj1', hrl]
          refine Less_spec ?_
          simp (disch := omega) only [RA, ↓reduceIte, Nat.reduceEqDiff, RD]
          refine hKr _ _ ?_
          clear hKr Kr
          try simp only [blkQ, thenQ, loopQ]
          try simp only [RN, reduceIte]
          try refine T_e rfl ?_
          refine T_csplit (p := el r j < el r (j - 1)) (by simp only [RA, ↓reduceIte, Nat.reduceEqDiff] <;> rfl) (by (try simp only [RB]) <;> first | done | exact Iff.rfl | omega | simp) (fun hc => ?_) (fun hc => ?_) <;> (try simp only [RN, reduceIte]) <;> (try refine T_e rfl ?_)
          · have hrs : (r.set j (el r (j - 1))).length = p.length := by simp [hrl]
            first | refine T_bfree rfl ?_ | refine T_bfree' rfl ?_
            try simp only [RN, reduceIte]
            try refine T_e rfl ?_
            refine T_rseq fun Kr hKr => ?_
            simp (disch := omega) only [RA, ↓reduceIte, Nat.reduceEqDiff, RD, g0, g7, hj1', hrl]
            refine hKr _ _ ?_
            clear hKr Kr
            try simp only [RN, reduceIte]
            try refine T_e rfl ?_
            refine T_reg_k fun Kr hKr => ?_
            simp (disch := omega) only [RA, ↓reduceIte, Nat.reduceEqDiff, RD, g7, hj1']
            refine hKr _ _ ?_
            clear hKr Kr
            have hsw : (r.set j (el r (j - 1))).set (j - 1) (el r j) = swp r j (j - 1) := rfl
            refine hN2 (j - 1) _ _ _ _ (by omega) Gh.refl ⟨j - 1, swp r j (j - 1), by omega, by omega, rfl, hr.trans (.swp (by omega) (by omega) (by omega) (by omega) (by omega)), fun x y h1 h2 h3 h4 => ?_, ?_, ?_, ?_, ?_, ?_, rfl⟩
            any_goals (simp (disch := omega) only [RA, ↓reduceIte, Nat.reduceEqDiff, RD, RE, *] <;> rfl)
            rw [swp_el (by omega) (by omega), swp_el (by omega) (by omega)]
            by_cases hyj : y = j
            · rw [if_neg (by omega : ¬ y = j - 1), if_pos hyj]
              by_cases hxj : x = j - 1
              · rw [if_pos hxj]; omega
              · rw [if_neg hxj, if_neg (by omega)]
                exact hall x (j - 1) h1 (by omega) (by omega) (by omega)
            · rw [if_neg h4, if_neg hyj]
              by_cases hxj : x = j - 1
              · rw [if_pos hxj]
                exact hall j y (by omega) (by omega) h3 hyj
              · rw [if_neg hxj]
                by_cases hxj2 : x = j
                · rw [if_pos hxj2]
                  exact hall (j - 1) y (by omega) (by omega) h3 hyj
                · rw [if_neg hxj2]
                  exact hall x y h1 h2 h3 hyj
          · refine hX2 _ _ ?_
            refine hdone _ ?_ ?_ ?_ ?_ (.inr (by omega))
            any_goals (simp (disch := omega) only [RA, ↓reduceIte, Nat.reduceEqDiff, RD, RE, *] <;> rfl)
    · refine hX _ _ ?_
      refine T_skip ?_
      refine bodyQ_ret (by simp (disch := omega) only [RA, ↓reduceIte, Nat.reduceEqDiff, RD, resAll, resOf]; rfl) GhV.refl ?_
      simp only [tup]
      refine hK q hq fun x y h1 h2 h3 => ?_
      rcases hi2 with h | h
      · exact hs x y h1 h2 (by omega)
      · obtain rfl : x = y := by omega
        exact Int.le_refl _
end Go.Bm

/- Sorting: the partitions. Written by genpart.py. -/
set_option linter.unusedVariables false
set_option linter.unusedSimpArgs false
namespace Go.Bm
open Go Go.Am

section
variable {k : Nat} {Q : Ex → Fr → BH → Prop} {f : Fr} {H : BH}
/-- A loop, and what is known when it is left. -/
theorem T_scan {id : Nat} {a rest : ACode} (J : Nat → Fr → BH → Prop) (P : Fr → BH → Prop) (n : Nat) (h0 : ∃ f1 H1, Gh k f H f1 H1 ∧ J n f1 H1)
    (hr : ∀ n f H (R : Ex → Fr → BH → Prop), J n f H → (∀ m f' H' f1 H1, m < n → Gh k f' H' f1 H1 → J m f1 H1 → R .normal f' H') → (∀ f' H', P f' H' → R (.exit id) f' H') → (∀ f' H', Q .ret f' H' → R .ret f' H') → T k a R f H)
    (hp : ∀ f H, P f H → T k rest Q f H) : T k (.seq (.block id (.loop a)) rest) Q f H :=
  T_wloop J n h0 fun n f H R hJ hN hX hR hE => hr n f H R hJ hN (fun f' H' h => hX f' H' (hp f' H' h)) hR
end
/-- A partition under way: behind a up to i what is less than v, from j on what is not. -/
structure PI (p q : List Int) (v : Int) (a b i j : Nat) : Prop where
  sg : Sg a b p q
  lo : a + 1 ≤ i
  ij : i ≤ j + 1
  jb : j < b
  ge : a ≤ j
  va : el q a = v
  lt : ∀ x, a < x → x < i → el q x < v
  gt : ∀ x, j < x → x < b → v ≤ el q x
section
variable {p q : List Int} {v : Int} {a b i j : Nat}
theorem PI.up (h : PI p q v a b i j) (hij : i ≤ j) (hx : el q i < v) : PI p q v a b (i + 1) j := ⟨h.sg, by have := h.lo; omega, by omega, h.jb, h.ge, h.va, fun x h1 h2 => by
  rcases Nat.lt_or_ge x i with h3 | h3
  · exact h.lt x h1 h3
  · obtain rfl : x = i := by omega
    exact hx, h.gt⟩
theorem PI.dn (h : PI p q v a b i j) (hij : i ≤ j) (hx : ¬ el q j < v) : PI p q v a b i (j - 1) := ⟨h.sg, h.lo, by have := h.lo; omega, by have := h.jb; omega, by have := h.lo; omega, h.va, h.lt, fun x h1 h2 => by
  rcases Nat.lt_or_ge j x with h3 | h3
  · exact h.gt x h3 h2
  · obtain rfl : x = j := by have := h.lo; omega
    omega⟩
theorem PI.keep (h : PI p q v a b i j) (hs : j < i ∨ ¬ (el q i < v)) (hij : i ≤ j) : j - 1 < i ∨ ¬ (el q i < v) := by
  rcases hs with hs | hs
  · omega
  · exact .inr hs
theorem PI.ex (h : PI p q v a b i j) (hb : b ≤ p.length) (h1 : i < j) (h2 : ¬ el q i < v) (h3 : el q j < v) : PI p (swp q i j) v a b (i + 1) (j - 1) := by
  have hl := h.sg.len
  have lo := h.lo
  have jb := h.jb
  refine ⟨h.sg.trans (.swp (by omega) (by omega) (by omega) (by omega) (by omega)), by omega, by omega, by omega, by omega, ?_, fun x x1 x2 => ?_, fun x x1 x2 => ?_⟩
  · rw [swp_el (by omega) (by omega), if_neg (by omega), if_neg (by omega)]; exact h.va
  · rw [swp_el (by omega) (by omega), if_neg (by omega)]
    split
    · exact h3
    · exact h.lt x x1 (by omega)
  · rw [swp_el (by omega) (by omega)]
    split
    · omega
    · rw [if_neg (by omega)]
      exact h.gt x (by omega) x2
/-- Done: the pivot comes to its place. -/
theorem PI.fin (h : PI p q v a b i j) (hb : b ≤ p.length) (h1 : j < i) : Sg a b p (swp q j a) ∧ (∀ x, a ≤ x → x < j → el (swp q j a) x ≤ el (swp q j a) j) ∧ (∀ x, j < x → x < b → el (swp q j a) j ≤ el (swp q j a) x) := by
  have hl := h.sg.len
  have lo := h.lo
  have jb := h.jb
  have ge := h.ge
  have ij := h.ij
  have ej : el (swp q j a) j = v := by
    rw [swp_el (by omega) (by omega)]
    split
    · rename_i e; rw [e]; exact h.va
    · rw [if_pos rfl]; exact h.va
  refine ⟨h.sg.trans (.swp (by omega) (by omega) (by omega) (by omega) (by omega)), fun x x1 x2 => ?_, fun x x1 x2 => ?_⟩
  · rw [ej, swp_el (by omega) (by omega)]
    split
    · exact Int.le_of_lt (h.lt j (by omega) (by omega))
    · rw [if_neg (by omega)]
      exact Int.le_of_lt (h.lt x (by omega) (by omega))
  · rw [ej, swp_el (by omega) (by omega), if_neg (by omega), if_neg (by omega)]
    exact h.gt x x1 x2
end
/-- The same for what equals the pivot. -/
structure PIE (p q : List Int) (v : Int) (a b i j : Nat) : Prop where
  sg : Sg a b p q
  lo : a + 1 ≤ i
  ij : i ≤ j + 1
  jb : j < b
  ge : a ≤ j
  va : el q a = v
  lt : ∀ x, a < x → x < i → el q x ≤ v
  gt : ∀ x, j < x → x < b → v < el q x
section
variable {p q : List Int} {v : Int} {a b i j : Nat}
theorem PIE.upE (h : PIE p q v a b i j) (hij : i ≤ j) (hx : ¬ v < el q i) : PIE p q v a b (i + 1) j := ⟨h.sg, by have := h.lo; omega, by omega, h.jb, h.ge, h.va, fun x h1 h2 => by
  rcases Nat.lt_or_ge x i with h3 | h3
  · exact h.lt x h1 h3
  · obtain rfl : x = i := by omega
    omega, h.gt⟩
theorem PIE.dnE (h : PIE p q v a b i j) (hij : i ≤ j) (hx : v < el q j) : PIE p q v a b i (j - 1) := ⟨h.sg, h.lo, by have := h.lo; omega, by have := h.jb; omega, by have := h.lo; omega, h.va, h.lt, fun x h1 h2 => by
  rcases Nat.lt_or_ge j x with h3 | h3
  · exact h.gt x h3 h2
  · obtain rfl : x = j := by have := h.lo; omega
    exact hx⟩
theorem PIE.keepE (h : PIE p q v a b i j) (hs : j < i ∨ ¬ (¬ v < el q i)) (hij : i ≤ j) : j - 1 < i ∨ ¬ (¬ v < el q i) := by
  rcases hs with hs | hs
  · omega
  · exact .inr hs
theorem PIE.exE (h : PIE p q v a b i j) (hb : b ≤ p.length) (h1 : i < j) (h2 : v < el q i) (h3 : ¬ v < el q j) : PIE p (swp q i j) v a b (i + 1) (j - 1) := by
  have hl := h.sg.len
  have lo := h.lo
  have jb := h.jb
  refine ⟨h.sg.trans (.swp (by omega) (by omega) (by omega) (by omega) (by omega)), by omega, by omega, by omega, by omega, ?_, fun x x1 x2 => ?_, fun x x1 x2 => ?_⟩
  · rw [swp_el (by omega) (by omega), if_neg (by omega), if_neg (by omega)]; exact h.va
  · rw [swp_el (by omega) (by omega), if_neg (by omega)]
    split
    · omega
    · exact h.lt x x1 (by omega)
  · rw [swp_el (by omega) (by omega)]
    split
    · exact h2
    · rw [if_neg (by omega)]
      exact h.gt x (by omega) x2
end
theorem PI.start {p : List Int} {a b t : Nat} (hb : b ≤ p.length) (h1 : a ≤ t) (h2 : t < b) : PI p (swp p a t) (el p t) a b (a + 1) (b - 1) := ⟨.swp (by omega) (by omega) (by omega) (by omega) hb, by omega, by omega, by omega, by omega, by
  rw [swp_el (by omega) (by omega)]
  split
  · rename_i e; rw [e]
  · rw [if_pos rfl], fun x x1 x2 => by omega, fun x x1 x2 => by omega⟩
theorem PIE.start {p : List Int} {a b t : Nat} (hb : b ≤ p.length) (h1 : a ≤ t) (h2 : t < b) : PIE p (swp p a t) (el p t) a b (a + 1) (b - 1) := ⟨.swp (by omega) (by omega) (by omega) (by omega) hb, by omega, by omega, by omega, by omega, by
  rw [swp_el (by omega) (by omega)]
  split
  · rename_i e; rw [e]
  · rw [if_pos rfl], fun x x1 x2 => by omega, fun x x1 x2 => by omega⟩

theorem partition_spec {p : List Int} {a b t : Nat} {K : Value → BH → Prop} (hpl : p.length ≤ 1000) (hb : b ≤ p.length) (h1 : a ≤ t) (h2 : t < b)
    (hK : ∀ q mid al, Sg a b p q → a ≤ mid → mid < b → (∀ x, a ≤ x → x < mid → el q x ≤ el q mid) → (∀ x, mid < x → x < b → el q mid ≤ el q x) → K (.tuple ⟨[I (mid : Nat), .bool al]⟩) [some (q.map I)]) :
    CallX false F_slices_partitionOrdered_int64 [S 0 0 p.length 1, I a, I b, I t] [some (p.map I)] K := by
  have hp0 := PI.start hb h1 h2
  have hps : (p.set a (el p t)).length = p.length := by simp
  have hb1 : (b : Int) - 1 = ((b - 1 : Nat) : Int) := by omega
  have ha1 : (a : Int) + 1 = ((a + 1 : Nat) : Int) := by omega
  refine CallX_body Γ_slices_partitionOrdered_int64 ?_
  simp only [A_slices_partitionOrdered_int64, T_aiff]
  refine T_rseq fun Kr hKr => ?_
  simp (disch := omega) only [RA, ↓reduceIte, Nat.reduceEqDiff, RD]
  refine hKr _ _ ?_
  clear hKr Kr
  try simp only [RN, reduceIte]
  try refine T_e rfl ?_
  refine T_rseq fun Kr hKr => ?_
  simp (disch := omega) only [RA, ↓reduceIte, Nat.reduceEqDiff, RD, hps]
  refine hKr _ _ ?_
  clear hKr Kr
  try simp only [RN, reduceIte]
  try refine T_e rfl ?_
  refine T_rseq fun Kr hKr => ?_
  simp (disch := omega) only [RA, ↓reduceIte, Nat.reduceEqDiff, RD, hb1, ha1]
  refine hKr _ _ ?_
  clear hKr Kr
  try simp only [RN, reduceIte]
  try refine T_e rfl ?_
  have hsw : (p.set a (el p t)).set t (el p a) = swp p a t := rfl
  rw [hsw]
  generalize el p t = v at hp0
  generalize swp p a t = q at hp0
  clear hsw hps
  obtain ⟨i0, hi0⟩ : ∃ i0, i0 = a + 1 := ⟨_, rfl⟩
  obtain ⟨j, hj⟩ : ∃ j, j = b - 1 := ⟨_, rfl⟩
  rw [← hi0, ← hj] at hp0
  rw [← hi0] at ha1
  rw [← hj] at hb1
  simp only [← hi0, ← hj]
  clear hi0 hj
  refine T_scan (fun m f H' => ∃ i, i0 ≤ i ∧ PI p q v a b i j ∧ m = j + 1 - i ∧ f 0 = S 0 0 p.length 1 ∧ f 1 = I a ∧ f 10 = I i ∧ f 11 = I j ∧ H' = [some (q.map I)]) (fun f H' => ∃ i, i0 ≤ i ∧ PI p q v a b i j ∧ (j < i ∨ ¬ (el q i < v)) ∧ f 0 = S 0 0 p.length 1 ∧ f 1 = I a ∧ f 10 = I i ∧ f 11 = I j ∧ H' = [some (q.map I)]) (j + 1 - i0) ?_ ?_ ?_
  · refine ⟨_, _, Gh.refl, i0, Nat.le_refl _, hp0, rfl, ?_, ?_, ?_, ?_, rfl⟩
    any_goals (simp (disch := omega) only [RA, ↓reduceIte, Nat.reduceEqDiff, RD, RE, *] <;> rfl)
  · clear hp0 ha1 hb1
    rintro m f H' R2 ⟨i, hi0, hp, rfl, g0, g1, g10, g11, rfl⟩ hN2 hX2 hR2
    simp only [A_slices_partitionOrdered_int64.l0, T_aiff]
    have hql := hp.sg.len
    have hge := hp.ge
    have hjb := hp.jb
    have hva := hp.va
    have hlo := hp.lo
    by_cases hij : i ≤ j
    · refine T_rseq fun Kr hKr => ?_
      simp (disch := omega) only [RA, ↓reduceIte, Nat.reduceEqDiff, RD, g0, g1, g10, g11, hij, hql, hva]
      refine Less_spec ?_
      simp (disch := omega) only [RA, ↓reduceIte, Nat.reduceEqDiff, RD]
      refine hKr _ _ ?_
      clear hKr Kr
      try simp only [blkQ, thenQ, loopQ]
      try simp only [RN, reduceIte]
      try refine T_e rfl ?_
      refine T_csplit (p := el q i < v) (by simp only [RA, ↓reduceIte, Nat.reduceEqDiff] <;> rfl) (by (try simp only [RB]) <;> first | done | exact Iff.rfl | omega | simp) (fun hc => ?_) (fun hc => ?_) <;> (try simp only [RN, reduceIte]) <;> (try refine T_e rfl ?_)
      · first | refine T_bfree rfl ?_ | refine T_bfree' rfl ?_
        try simp only [RN, reduceIte]
        try refine T_e rfl ?_
        refine T_reg_k fun Kr hKr => ?_
        simp (disch := omega) only [RA, ↓reduceIte, Nat.reduceEqDiff, RD, g10]
        refine hKr _ _ ?_
        clear hKr Kr
        refine hN2 (j + 1 - (i + 1)) _ _ _ _ (by omega) Gh.refl ⟨i + 1, by omega, hp.up hij hc, rfl, ?_, ?_, ?_, ?_, rfl⟩
        any_goals (simp (disch := omega) only [RA, ↓reduceIte, Nat.reduceEqDiff, RD, RE, *] <;> rfl)
      · refine hX2 _ _ ⟨i, hi0, hp, .inr (by first | exact hc | exact fun h => h hc | exact fun h => hc h), ?_, ?_, ?_, ?_, rfl⟩
        any_goals (simp (disch := omega) only [RA, ↓reduceIte, Nat.reduceEqDiff, RD, RE, *] <;> rfl)
    · refine T_rseq fun Kr hKr => ?_
      simp (disch := omega) only [RA, ↓reduceIte, Nat.reduceEqDiff, RD, g10, g11, hij]
      refine hKr _ _ ?_
      clear hKr Kr
      try simp only [RN, reduceIte]
      try refine T_e rfl ?_
      refine T_cseq (t := false) (by simp (disch := omega) only [RA, ↓reduceIte, Nat.reduceEqDiff, RD]) ?_
      try simp only [RN, reduceIte]
      try refine T_e rfl ?_
      refine hX2 _ _ ⟨i, hi0, hp, .inl (by omega), ?_, ?_, ?_, ?_, rfl⟩
      any_goals (simp (disch := omega) only [RA, ↓reduceIte, Nat.reduceEqDiff, RD, RE, *] <;> rfl)
  · clear hp0 ha1 hb1
    rintro f H' ⟨i, hi0, hp0, hs, g0, g1, g10, g11, rfl⟩
    clear hi0
    obtain ⟨j0, hj0⟩ : ∃ j0, j0 = j := ⟨_, rfl⟩
    rw [← hj0] at hp0 g11 hs
    clear hj0 j
    refine T_scan (fun m f H' => ∃ j, j ≤ j0 ∧ PI p q v a b i j ∧ j = m ∧ (j < i ∨ ¬ (el q i < v)) ∧ f 0 = S 0 0 p.length 1 ∧ f 1 = I a ∧ f 10 = I i ∧ f 11 = I j ∧ H' = [some (q.map I)]) (fun f H' => ∃ j, j ≤ j0 ∧ PI p q v a b i j ∧ (j < i ∨ ¬ (el q i < v)) ∧ (j < i ∨ ¬ (¬ el q j < v)) ∧ f 0 = S 0 0 p.length 1 ∧ f 1 = I a ∧ f 10 = I i ∧ f 11 = I j ∧ H' = [some (q.map I)]) (j0) ?_ ?_ ?_
    · refine ⟨_, _, Gh.refl, j0, Nat.le_refl _, hp0, rfl, hs, ?_, ?_, ?_, ?_, rfl⟩
      any_goals (simp (disch := omega) only [RA, ↓reduceIte, Nat.reduceEqDiff, RD, RE, *] <;> rfl)
    · clear hp0 g0 g1 g10 g11 hs
      rintro m f H' R2 ⟨j, hj0, hp, rfl, hs, g0, g1, g10, g11, rfl⟩ hN2 hX2 hR2
      simp only [A_slices_partitionOrdered_int64.l1, T_aiff]
      have hql := hp.sg.len
      have hge := hp.ge
      have hjb := hp.jb
      have hva := hp.va
      have hlo := hp.lo
      by_cases hij : i ≤ j
      · refine T_rseq fun Kr hKr => ?_
        simp (disch := omega) only [RA, ↓reduceIte, Nat.reduceEqDiff, RD, g0, g1, g10, g11, hij, hql, hva]
        refine Less_spec ?_
        simp (disch := omega) only [RA, ↓reduceIte, Nat.reduceEqDiff, RD]
        refine hKr _ _ ?_
        clear hKr Kr
        try simp only [blkQ, thenQ, loopQ]
        try simp only [RN, reduceIte]
        try refine T_e rfl ?_
        refine T_csplit (p := ¬ el q j < v) (by simp only [RA, ↓reduceIte, Nat.reduceEqDiff] <;> rfl) (by (try simp only [RB]) <;> first | done | exact Iff.rfl | omega | simp) (fun hc => ?_) (fun hc => ?_) <;> (try simp only [RN, reduceIte]) <;> (try refine T_e rfl ?_)
        · first | refine T_bfree rfl ?_ | refine T_bfree' rfl ?_
          try simp only [RN, reduceIte]
          try refine T_e rfl ?_
          have hj1 : (j : Int) - 1 = ((j - 1 : Nat) : Int) := by omega
          refine T_reg_k fun Kr hKr => ?_
          simp (disch := omega) only [RA, ↓reduceIte, Nat.reduceEqDiff, RD, g11, hj1]
          refine hKr _ _ ?_
          clear hKr Kr
          refine hN2 (j - 1) _ _ _ _ (by omega) Gh.refl ⟨j - 1, by omega, hp.dn hij hc, rfl, hp.keep hs hij, ?_, ?_, ?_, ?_, rfl⟩
          any_goals (simp (disch := omega) only [RA, ↓reduceIte, Nat.reduceEqDiff, RD, RE, *] <;> rfl)
        · refine hX2 _ _ ⟨j, hj0, hp, hs, .inr (by first | exact hc | exact fun h => h hc | exact fun h => hc h), ?_, ?_, ?_, ?_, rfl⟩
          any_goals (simp (disch := omega) only [RA, ↓reduceIte, Nat.reduceEqDiff, RD, RE, *] <;> rfl)
      · refine T_rseq fun Kr hKr => ?_
        simp (disch := omega) only [RA, ↓reduceIte, Nat.reduceEqDiff, RD, g10, g11, hij]
        refine hKr _ _ ?_
        clear hKr Kr
        try simp only [RN, reduceIte]
        try refine T_e rfl ?_
        refine T_cseq (t := false) (by simp (disch := omega) only [RA, ↓reduceIte, Nat.reduceEqDiff, RD]) ?_
        try simp only [RN, reduceIte]
        try refine T_e rfl ?_
        refine hX2 _ _ ⟨j, hj0, hp, hs, .inl (by omega), ?_, ?_, ?_, ?_, rfl⟩
        any_goals (simp (disch := omega) only [RA, ↓reduceIte, Nat.reduceEqDiff, RD, RE, *] <;> rfl)
    · clear hp0 g0 g1 g10 g11 hs
      rintro f H' ⟨j, hj0, hp, hs, hs2, g0, g1, g10, g11, rfl⟩
      have hql := hp.sg.len
      have hge := hp.ge
      have hjb := hp.jb
      have hva := hp.va
      have hlo := hp.lo
      try simp only [RN, reduceIte]
      try refine T_e rfl ?_
      refine T_rseq fun Kr hKr => ?_
      simp (disch := omega) only [RA, ↓reduceIte, Nat.reduceEqDiff, RD, g10, g11]
      refine hKr _ _ ?_
      clear hKr Kr
      try simp only [RN, reduceIte]
      try refine T_e rfl ?_
      refine T_csplit (p := j < i) (by simp only [RA, ↓reduceIte, Nat.reduceEqDiff] <;> rfl) (by (try simp only [RB]) <;> first | done | exact Iff.rfl | omega | simp) (fun hc => ?_) (fun hc => ?_) <;> (try simp only [RN, reduceIte]) <;> (try refine T_e rfl ?_)
      · have hqs : (q.set j (el q a)).length = p.length := by simp [hql]
        refine T_rseq fun Kr hKr => ?_
        simp (disch := omega) only [RA, ↓reduceIte, Nat.reduceEqDiff, RD, g0, g1, g11, hql, hqs]
        refine hKr _ _ ?_
        clear hKr Kr
        try simp only [RN, reduceIte]
        try refine T_e rfl ?_
        refine T_rseq fun Kr hKr => ?_
        simp (disch := omega) only [RA, ↓reduceIte, Nat.reduceEqDiff, RD, g11]
        refine hKr _ _ ?_
        clear hKr Kr
        try simp only [RN, reduceIte]
        try refine T_e rfl ?_
        refine bodyQ_ret (by simp (disch := omega) only [RA, ↓reduceIte, Nat.reduceEqDiff, RD, resAll, resOf]; rfl) GhV.refl ?_
        simp only [tup]
        obtain ⟨r1, r2, r3⟩ := hp.fin hb hc
        exact hK (swp q j a) j true r1 (by omega) (by omega) r2 r3
      · have hq1 : ¬ el q i < v := by rcases hs with h | h; omega; exact h
        have hq2 : el q j < v := by rcases hs2 with h | h; omega; omega
        have hij : i < j := by
          rcases Nat.lt_or_ge i j with h | h
          · exact h
          · have : i = j := by omega
            subst this
            exact absurd hq2 hq1
        have hqs : (q.set i (el q j)).length = p.length := by simp [hql]
        have hj1 : (j : Int) - 1 = ((j - 1 : Nat) : Int) := by omega
        have hi1 : (i : Int) + 1 = ((i + 1 : Nat) : Int) := by omega
        have hp' := hp.ex hb hij hq1 hq2
        have hsw2 : (q.set i (el q j)).set j (el q i) = swp q i j := rfl
        refine T_rseq fun Kr hKr => ?_
        simp (disch := omega) only [RA, ↓reduceIte, Nat.reduceEqDiff, RD, g0, g10, g11, hql, hqs]
        refine hKr _ _ ?_
        clear hKr Kr
        try simp only [RN, reduceIte]
        try refine T_e rfl ?_
        refine T_rseq fun Kr hKr => ?_
        simp (disch := omega) only [RA, ↓reduceIte, Nat.reduceEqDiff, RD, g10, hi1]
        refine hKr _ _ ?_
        clear hKr Kr
        try simp only [RN, reduceIte]
        try refine T_e rfl ?_
        refine T_rseq fun Kr hKr => ?_
        simp (disch := omega) only [RA, ↓reduceIte, Nat.reduceEqDiff, RD, g11, hj1]
        refine hKr _ _ ?_
        clear hKr Kr
        try simp only [RN, reduceIte]
        try refine T_e rfl ?_
        rw [hsw2]
        refine T_wloop (fun m f H' => ∃ (q : List Int) (i j : Nat), PI p q v a b i j ∧ m = j + 1 - i ∧ f 0 = S 0 0 p.length 1 ∧ f 1 = I a ∧ f 10 = I i ∧ f 11 = I j ∧ H' = [some (q.map I)]) (j - 1 + 1 - (i + 1)) ?_ ?_
        · refine ⟨_, _, Gh.refl, swp q i j, i + 1, j - 1, hp', rfl, ?_, ?_, ?_, ?_, rfl⟩
          any_goals (simp (disch := omega) only [RA, ↓reduceIte, Nat.reduceEqDiff, RD, RE, *] <;> rfl)
        · clear hql hge hjb hva hlo hc hq1 hq2 hij hqs hj1 hi1 hp' hsw2 hp hs hs2 g0 g1 g10 g11 hj0
          rintro m f H' R ⟨q, i0, j, hp0, rfl, g0, g1, g10, g11, rfl⟩ hN hX hR hE
          simp only [A_slices_partitionOrdered_int64.l4, T_aiff]
          first | refine T_bfree rfl ?_ | refine T_bfree' rfl ?_
          try simp only [RN, reduceIte]
          try refine T_e rfl ?_
          refine T_scan (fun m f H' => ∃ i, i0 ≤ i ∧ PI p q v a b i j ∧ m = j + 1 - i ∧ f 0 = S 0 0 p.length 1 ∧ f 1 = I a ∧ f 10 = I i ∧ f 11 = I j ∧ H' = [some (q.map I)]) (fun f H' => ∃ i, i0 ≤ i ∧ PI p q v a b i j ∧ (j < i ∨ ¬ (el q i < v)) ∧ f 0 = S 0 0 p.length 1 ∧ f 1 = I a ∧ f 10 = I i ∧ f 11 = I j ∧ H' = [some (q.map I)]) (j + 1 - i0) ?_ ?_ ?_
          · refine ⟨_, _, Gh.refl, i0, Nat.le_refl _, hp0, rfl, ?_, ?_, ?_, ?_, rfl⟩
            any_goals (simp (disch := omega) only [RA, ↓reduceIte, Nat.reduceEqDiff, RD, RE, *] <;> rfl)
          · clear g0 g1 g10 g11
            rintro m f H' R2 ⟨i, hi0, hp, rfl, g0, g1, g10, g11, rfl⟩ hN2 hX2 hR2
            simp only [A_slices_partitionOrdered_int64.l2, T_aiff]
            have hql := hp.sg.len
            have hge := hp.ge
            have hjb := hp.jb
            have hva := hp.va
            have hlo := hp.lo
            by_cases hij : i ≤ j
            · refine T_rseq fun Kr hKr => ?_
              simp (disch := omega) only [RA, ↓reduceIte, Nat.reduceEqDiff, RD, g0, g1, g10, g11, hij, hql, hva]
              refine Less_spec ?_
              simp (disch := omega) only [RA, ↓reduceIte, Nat.reduceEqDiff, RD]
              refine hKr _ _ ?_
              clear hKr Kr
              try simp only [blkQ, thenQ, loopQ]
              try simp only [RN, reduceIte]
              try refine T_e rfl ?_
              refine T_csplit (p := el q i < v) (by simp only [RA, ↓reduceIte, Nat.reduceEqDiff] <;> rfl) (by (try simp only [RB]) <;> first | done | exact Iff.rfl | omega | simp) (fun hc => ?_) (fun hc => ?_) <;> (try simp only [RN, reduceIte]) <;> (try refine T_e rfl ?_)
              · first | refine T_bfree rfl ?_ | refine T_bfree' rfl ?_
                try simp only [RN, reduceIte]
                try refine T_e rfl ?_
                refine T_reg_k fun Kr hKr => ?_
                simp (disch := omega) only [RA, ↓reduceIte, Nat.reduceEqDiff, RD, g10]
                refine hKr _ _ ?_
                clear hKr Kr
                refine hN2 (j + 1 - (i + 1)) _ _ _ _ (by omega) Gh.refl ⟨i + 1, by omega, hp.up hij hc, rfl, ?_, ?_, ?_, ?_, rfl⟩
                any_goals (simp (disch := omega) only [RA, ↓reduceIte, Nat.reduceEqDiff, RD, RE, *] <;> rfl)
              · refine hX2 _ _ ⟨i, hi0, hp, .inr (by first | exact hc | exact fun h => h hc | exact fun h => hc h), ?_, ?_, ?_, ?_, rfl⟩
                any_goals (simp (disch := omega) only [RA, ↓reduceIte, Nat.reduceEqDiff, RD, RE, *] <;> rfl)
            · refine T_rseq fun Kr hKr => ?_
              simp (disch := omega) only [RA, ↓reduceIte, Nat.reduceEqDiff, RD, g10, g11, hij]
              refine hKr _ _ ?_
              clear hKr Kr
              try simp only [RN, reduceIte]
              try refine T_e rfl ?_
              refine T_cseq (t := false) (by simp (disch := omega) only [RA, ↓reduceIte, Nat.reduceEqDiff, RD]) ?_
              try simp only [RN, reduceIte]
              try refine T_e rfl ?_
              refine hX2 _ _ ⟨i, hi0, hp, .inl (by omega), ?_, ?_, ?_, ?_, rfl⟩
              any_goals (simp (disch := omega) only [RA, ↓reduceIte, Nat.reduceEqDiff, RD, RE, *] <;> rfl)
          · clear g0 g1 g10 g11
            rintro f H' ⟨i, hi0, hp1, hs, g0, g1, g10, g11, rfl⟩
            obtain ⟨j0, hj0e⟩ : ∃ j0, j0 = j := ⟨_, rfl⟩
            rw [← hj0e] at hp1 g11 hs
            rw [← hj0e] at hN
            clear hp0 hj0e j
            refine T_scan (fun m f H' => ∃ j, j ≤ j0 ∧ PI p q v a b i j ∧ j = m ∧ (j < i ∨ ¬ (el q i < v)) ∧ f 0 = S 0 0 p.length 1 ∧ f 1 = I a ∧ f 10 = I i ∧ f 11 = I j ∧ H' = [some (q.map I)]) (fun f H' => ∃ j, j ≤ j0 ∧ PI p q v a b i j ∧ (j < i ∨ ¬ (el q i < v)) ∧ (j < i ∨ ¬ (¬ el q j < v)) ∧ f 0 = S 0 0 p.length 1 ∧ f 1 = I a ∧ f 10 = I i ∧ f 11 = I j ∧ H' = [some (q.map I)]) (j0) ?_ ?_ ?_
            · refine ⟨_, _, Gh.refl, j0, Nat.le_refl _, hp1, rfl, hs, ?_, ?_, ?_, ?_, rfl⟩
              any_goals (simp (disch := omega) only [RA, ↓reduceIte, Nat.reduceEqDiff, RD, RE, *] <;> rfl)
            · clear g0 g1 g10 g11 hs
              rintro m f H' R2 ⟨j, hj0, hp, rfl, hs, g0, g1, g10, g11, rfl⟩ hN2 hX2 hR2
              simp only [A_slices_partitionOrdered_int64.l3, T_aiff]
              have hql := hp.sg.len
              have hge := hp.ge
              have hjb := hp.jb
              have hva := hp.va
              have hlo := hp.lo
              by_cases hij : i ≤ j
              · refine T_rseq fun Kr hKr => ?_
                simp (disch := omega) only [RA, ↓reduceIte, Nat.reduceEqDiff, RD, g0, g1, g10, g11, hij, hql, hva]
                refine Less_spec ?_
                simp (disch := omega) only [RA, ↓reduceIte, Nat.reduceEqDiff, RD]
                refine hKr _ _ ?_
                clear hKr Kr
                try simp only [blkQ, thenQ, loopQ]
                try simp only [RN, reduceIte]
                try refine T_e rfl ?_
                refine T_csplit (p := ¬ el q j < v) (by simp only [RA, ↓reduceIte, Nat.reduceEqDiff] <;> rfl) (by (try simp only [RB]) <;> first | done | exact Iff.rfl | omega | simp) (fun hc => ?_) (fun hc => ?_) <;> (try simp only [RN, reduceIte]) <;> (try refine T_e rfl ?_)
                · first | refine T_bfree rfl ?_ | refine T_bfree' rfl ?_
                  try simp only [RN, reduceIte]
                  try refine T_e rfl ?_
                  have hj1 : (j : Int) - 1 = ((j - 1 : Nat) : Int) := by omega
                  refine T_reg_k fun Kr hKr => ?_
                  simp (disch := omega) only [RA, ↓reduceIte, Nat.reduceEqDiff, RD, g11, hj1]
                  refine hKr _ _ ?_
                  clear hKr Kr
                  refine hN2 (j - 1) _ _ _ _ (by omega) Gh.refl ⟨j - 1, by omega, hp.dn hij hc, rfl, hp.keep hs hij, ?_, ?_, ?_, ?_, rfl⟩
                  any_goals (simp (disch := omega) only [RA, ↓reduceIte, Nat.reduceEqDiff, RD, RE, *] <;> rfl)
                · refine hX2 _ _ ⟨j, hj0, hp, hs, .inr (by first | exact hc | exact fun h => h hc | exact fun h => hc h), ?_, ?_, ?_, ?_, rfl⟩
                  any_goals (simp (disch := omega) only [RA, ↓reduceIte, Nat.reduceEqDiff, RD, RE, *] <;> rfl)
              · refine T_rseq fun Kr hKr => ?_
                simp (disch := omega) only [RA, ↓reduceIte, Nat.reduceEqDiff, RD, g10, g11, hij]
                refine hKr _ _ ?_
                clear hKr Kr
                try simp only [RN, reduceIte]
                try refine T_e rfl ?_
                refine T_cseq (t := false) (by simp (disch := omega) only [RA, ↓reduceIte, Nat.reduceEqDiff, RD]) ?_
                try simp only [RN, reduceIte]
                try refine T_e rfl ?_
                refine hX2 _ _ ⟨j, hj0, hp, hs, .inl (by omega), ?_, ?_, ?_, ?_, rfl⟩
                any_goals (simp (disch := omega) only [RA, ↓reduceIte, Nat.reduceEqDiff, RD, RE, *] <;> rfl)
            · clear g0 g1 g10 g11 hs
              rintro f H' ⟨j, hj0, hp, hs, hs2, g0, g1, g10, g11, rfl⟩
              have hql := hp.sg.len
              have hge := hp.ge
              have hjb := hp.jb
              have hva := hp.va
              have hlo := hp.lo
              try simp only [RN, reduceIte]
              try refine T_e rfl ?_
              refine T_rseq fun Kr hKr => ?_
              simp (disch := omega) only [RA, ↓reduceIte, Nat.reduceEqDiff, RD, g10, g11]
              refine hKr _ _ ?_
              clear hKr Kr
              try simp only [RN, reduceIte]
              try refine T_e rfl ?_
              refine T_csplit (p := j < i) (by simp only [RA, ↓reduceIte, Nat.reduceEqDiff] <;> rfl) (by (try simp only [RB]) <;> first | done | exact Iff.rfl | omega | simp) (fun hc => ?_) (fun hc => ?_) <;> (try simp only [RN, reduceIte]) <;> (try refine T_e rfl ?_)
              · refine hX _ _ ?_
                have hqs : (q.set j (el q a)).length = p.length := by simp [hql]
                refine T_rseq fun Kr hKr => ?_
                simp (disch := omega) only [RA, ↓reduceIte, Nat.reduceEqDiff, RD, g0, g1, g11, hql, hqs]
                refine hKr _ _ ?_
                clear hKr Kr
                try simp only [RN, reduceIte]
                try refine T_e rfl ?_
                refine T_rseq fun Kr hKr => ?_
                simp (disch := omega) only [RA, ↓reduceIte, Nat.reduceEqDiff, RD, g11]
                refine hKr _ _ ?_
                clear hKr Kr
                try simp only [RN, reduceIte]
                try refine T_e rfl ?_
                refine bodyQ_ret (by simp (disch := omega) only [RA, ↓reduceIte, Nat.reduceEqDiff, RD, resAll, resOf]; rfl) GhV.refl ?_
                simp only [tup]
                obtain ⟨r1, r2, r3⟩ := hp.fin hb hc
                exact hK (swp q j a) j false r1 (by omega) (by omega) r2 r3
              · have hq1 : ¬ el q i < v := by rcases hs with h | h; omega; exact h
                have hq2 : el q j < v := by rcases hs2 with h | h; omega; omega
                have hij : i < j := by
                  rcases Nat.lt_or_ge i j with h | h
                  · exact h
                  · have : i = j := by omega
                    subst this
                    exact absurd hq2 hq1
                have hqs : (q.set i (el q j)).length = p.length := by simp [hql]
                have hj1 : (j : Int) - 1 = ((j - 1 : Nat) : Int) := by omega
                have hi1 : (i : Int) + 1 = ((i + 1 : Nat) : Int) := by omega
                have hp' := hp.ex hb hij hq1 hq2
                have hsw2 : (q.set i (el q j)).set j (el q i) = swp q i j := rfl
                refine T_rseq fun Kr hKr => ?_
                simp (disch := omega) only [RA, ↓reduceIte, Nat.reduceEqDiff, RD, g0, g10, g11, hql, hqs]
                refine hKr _ _ ?_
                clear hKr Kr
                try simp only [RN, reduceIte]
                try refine T_e rfl ?_
                rw [hsw2]
                refine T_rseq fun Kr hKr => ?_
                simp (disch := omega) only [RA, ↓reduceIte, Nat.reduceEqDiff, RD, g10, hi1]
                refine hKr _ _ ?_
                clear hKr Kr
                try simp only [RN, reduceIte]
                try refine T_e rfl ?_
                refine T_reg_k fun Kr hKr => ?_
                simp (disch := omega) only [RA, ↓reduceIte, Nat.reduceEqDiff, RD, g11, hj1]
                refine hKr _ _ ?_
                clear hKr Kr
                refine hN (j - 1 + 1 - (i + 1)) _ _ _ _ (by omega) Gh.refl ⟨swp q i j, i + 1, j - 1, hp', rfl, ?_, ?_, ?_, ?_, rfl⟩
                any_goals (simp (disch := omega) only [RA, ↓reduceIte, Nat.reduceEqDiff, RD, RE, *] <;> rfl)
end Go.Bm

/- Sorting: what equals the pivot. Written by genpart.py. -/
set_option linter.unusedVariables false
set_option linter.unusedSimpArgs false
namespace Go.Bm
open Go Go.Am

theorem partitionEqual_spec {p : List Int} {a b t : Nat} {K : Value → BH → Prop} (hpl : p.length ≤ 1000) (hb : b ≤ p.length) (h1 : a ≤ t) (h2 : t < b) (hge : ∀ x, a ≤ x → x < b → el p t ≤ el p x)
    (hK : ∀ q mid, Sg a b p q → a < mid → mid ≤ b → (∀ x, a ≤ x → x < mid → el q x = el p t) → (∀ x, a ≤ x → x < b → el p t ≤ el q x) → K (I (mid : Nat)) [some (q.map I)]) :
    CallX false F_slices_partitionEqualOrdered_int64 [S 0 0 p.length 1, I a, I b, I t] [some (p.map I)] K := by
  have hp0 := PIE.start hb h1 h2
  have hps : (p.set a (el p t)).length = p.length := by simp
  have hb1 : (b : Int) - 1 = ((b - 1 : Nat) : Int) := by omega
  have ha1 : (a : Int) + 1 = ((a + 1 : Nat) : Int) := by omega
  have hfin : ∀ q i j, PIE p q (el p t) a b i j → j < i → K (I (i : Nat)) [some (q.map I)] := by
    intro q i j hp hji
    have h3 := hp.lo
    have h4 := hp.ij
    have h5 := hp.jb
    have hall : ∀ x, a ≤ x → x < b → el p t ≤ el q x := fun x x1 x2 => by
      obtain ⟨y, y1, y2, y3⟩ := hp.sg.src x x1 x2
      rw [y3]
      exact hge y y1 y2
    refine hK q i hp.sg (by omega) (by omega) (fun x x1 x2 => ?_) hall
    rcases Nat.lt_or_ge a x with h | h
    · have := hp.lt x h x2
      have := hall x x1 (by omega)
      omega
    · obtain rfl : x = a := by omega
      exact hp.va
  refine CallX_body Γ_slices_partitionEqualOrdered_int64 ?_
  simp only [A_slices_partitionEqualOrdered_int64, T_aiff]
  refine T_rseq fun Kr hKr => ?_
  simp (disch := omega) only [RA, ↓reduceIte, Nat.reduceEqDiff, RD]
  refine hKr _ _ ?_
  clear hKr Kr
  try simp only [RN, reduceIte]
  try refine T_e rfl ?_
  refine T_rseq fun Kr hKr => ?_
  simp (disch := omega) only [RA, ↓reduceIte, Nat.reduceEqDiff, RD, hps]
  refine hKr _ _ ?_
  clear hKr Kr
  try simp only [RN, reduceIte]
  try refine T_e rfl ?_
  refine T_rseq fun Kr hKr => ?_
  simp (disch := omega) only [RA, ↓reduceIte, Nat.reduceEqDiff, RD, hb1, ha1]
  refine hKr _ _ ?_
  clear hKr Kr
  try simp only [RN, reduceIte]
  try refine T_e rfl ?_
  have hsw : (p.set a (el p t)).set t (el p a) = swp p a t := rfl
  rw [hsw]
  clear hge hK
  generalize el p t = v at hp0 hfin
  generalize swp p a t = q at hp0
  clear hsw hps
  refine T_wloop (fun m f H' => ∃ (q : List Int) (i j : Nat), PIE p q v a b i j ∧ m = j + 1 - i ∧ f 0 = S 0 0 p.length 1 ∧ f 1 = I a ∧ f 9 = I i ∧ f 10 = I j ∧ H' = [some (q.map I)]) (b - 1 + 1 - (a + 1)) ?_ ?_
  · refine ⟨_, _, Gh.refl, q, a + 1, b - 1, hp0, rfl, ?_, ?_, ?_, ?_, rfl⟩
    any_goals (simp (disch := omega) only [RA, ↓reduceIte, Nat.reduceEqDiff, RD, RE, *] <;> rfl)
  · clear hp0 ha1 hb1 q
    rintro m f H' R ⟨q, i0, j, hp0, rfl, g0, g1, g9, g10, rfl⟩ hN hX hR hE
    simp only [A_slices_partitionEqualOrdered_int64.l2, T_aiff]
    first | refine T_bfree rfl ?_ | refine T_bfree' rfl ?_
    try simp only [RN, reduceIte]
    try refine T_e rfl ?_
    refine T_scan (fun m f H' => ∃ i, i0 ≤ i ∧ PIE p q v a b i j ∧ m = j + 1 - i ∧ f 0 = S 0 0 p.length 1 ∧ f 1 = I a ∧ f 9 = I i ∧ f 10 = I j ∧ H' = [some (q.map I)]) (fun f H' => ∃ i, i0 ≤ i ∧ PIE p q v a b i j ∧ (j < i ∨ ¬ (¬ v < el q i)) ∧ f 0 = S 0 0 p.length 1 ∧ f 1 = I a ∧ f 9 = I i ∧ f 10 = I j ∧ H' = [some (q.map I)]) (j + 1 - i0) ?_ ?_ ?_
    · refine ⟨_, _, Gh.refl, i0, Nat.le_refl _, hp0, rfl, ?_, ?_, ?_, ?_, rfl⟩
      any_goals (simp (disch := omega) only [RA, ↓reduceIte, Nat.reduceEqDiff, RD, RE, *] <;> rfl)
    · clear g0 g1 g9 g10
      rintro m f H' R2 ⟨i, hi0, hp, rfl, g0, g1, g9, g10, rfl⟩ hN2 hX2 hR2
      simp only [A_slices_partitionEqualOrdered_int64.l0, T_aiff]
      have hql := hp.sg.len
      have hge := hp.ge
      have hjb := hp.jb
      have hva := hp.va
      have hlo := hp.lo
      by_cases hij : i ≤ j
      · refine T_rseq fun Kr hKr => ?_
        simp (disch := omega) only [RA, ↓reduceIte, Nat.reduceEqDiff, RD, g0, g1, g9, g10, hij, hql, hva]
        refine Less_spec ?_
        simp (disch := omega) only [RA, ↓reduceIte, Nat.reduceEqDiff, RD]
        refine hKr _ _ ?_
        clear hKr Kr
        try simp only [blkQ, thenQ, loopQ]
        try simp only [RN, reduceIte]
        try refine T_e rfl ?_
        refine T_csplit (p := ¬ v < el q i) (by simp only [RA, ↓reduceIte, Nat.reduceEqDiff] <;> rfl) (by (try simp only [RB]) <;> first | done | exact Iff.rfl | omega | simp) (fun hc => ?_) (fun hc => ?_) <;> (try simp only [RN, reduceIte]) <;> (try refine T_e rfl ?_)
        · first | refine T_bfree rfl ?_ | refine T_bfree' rfl ?_
          try simp only [RN, reduceIte]
          try refine T_e rfl ?_
          refine T_reg_k fun Kr hKr => ?_
          simp (disch := omega) only [RA, ↓reduceIte, Nat.reduceEqDiff, RD, g9]
          refine hKr _ _ ?_
          clear hKr Kr
          refine hN2 (j + 1 - (i + 1)) _ _ _ _ (by omega) Gh.refl ⟨i + 1, by omega, hp.upE hij hc, rfl, ?_, ?_, ?_, ?_, rfl⟩
          any_goals (simp (disch := omega) only [RA, ↓reduceIte, Nat.reduceEqDiff, RD, RE, *] <;> rfl)
        · refine hX2 _ _ ⟨i, hi0, hp, .inr (by first | exact hc | exact fun h => h hc | exact fun h => hc h), ?_, ?_, ?_, ?_, rfl⟩
          any_goals (simp (disch := omega) only [RA, ↓reduceIte, Nat.reduceEqDiff, RD, RE, *] <;> rfl)
      · refine T_rseq fun Kr hKr => ?_
        simp (disch := omega) only [RA, ↓reduceIte, Nat.reduceEqDiff, RD, g9, g10, hij]
        refine hKr _ _ ?_
        clear hKr Kr
        try simp only [RN, reduceIte]
        try refine T_e rfl ?_
        refine T_cseq (t := false) (by simp (disch := omega) only [RA, ↓reduceIte, Nat.reduceEqDiff, RD]) ?_
        try simp only [RN, reduceIte]
        try refine T_e rfl ?_
        refine hX2 _ _ ⟨i, hi0, hp, .inl (by omega), ?_, ?_, ?_, ?_, rfl⟩
        any_goals (simp (disch := omega) only [RA, ↓reduceIte, Nat.reduceEqDiff, RD, RE, *] <;> rfl)
    · clear g0 g1 g9 g10
      rintro f H' ⟨i, hi0, hp1, hs, g0, g1, g9, g10, rfl⟩
      obtain ⟨j0, hj0e⟩ : ∃ j0, j0 = j := ⟨_, rfl⟩
      rw [← hj0e] at hp1 g10 hs
      rw [← hj0e] at hN
      clear hp0 hj0e j
      refine T_scan (fun m f H' => ∃ j, j ≤ j0 ∧ PIE p q v a b i j ∧ j = m ∧ (j < i ∨ ¬ (¬ v < el q i)) ∧ f 0 = S 0 0 p.length 1 ∧ f 1 = I a ∧ f 9 = I i ∧ f 10 = I j ∧ H' = [some (q.map I)]) (fun f H' => ∃ j, j ≤ j0 ∧ PIE p q v a b i j ∧ (j < i ∨ ¬ (¬ v < el q i)) ∧ (j < i ∨ ¬ (v < el q j)) ∧ f 0 = S 0 0 p.length 1 ∧ f 1 = I a ∧ f 9 = I i ∧ f 10 = I j ∧ H' = [some (q.map I)]) (j0) ?_ ?_ ?_
      · refine ⟨_, _, Gh.refl, j0, Nat.le_refl _, hp1, rfl, hs, ?_, ?_, ?_, ?_, rfl⟩
        any_goals (simp (disch := omega) only [RA, ↓reduceIte, Nat.reduceEqDiff, RD, RE, *] <;> rfl)
      · clear g0 g1 g9 g10 hs
        rintro m f H' R2 ⟨j, hj0, hp, rfl, hs, g0, g1, g9, g10, rfl⟩ hN2 hX2 hR2
        simp only [A_slices_partitionEqualOrdered_int64.l1, T_aiff]
        have hql := hp.sg.len
        have hge := hp.ge
        have hjb := hp.jb
        have hva := hp.va
        have hlo := hp.lo
        by_cases hij : i ≤ j
        · refine T_rseq fun Kr hKr => ?_
          simp (disch := omega) only [RA, ↓reduceIte, Nat.reduceEqDiff, RD, g0, g1, g9, g10, hij, hql, hva]
          refine Less_spec ?_
          simp (disch := omega) only [RA, ↓reduceIte, Nat.reduceEqDiff, RD]
          refine hKr _ _ ?_
          clear hKr Kr
          try simp only [blkQ, thenQ, loopQ]
          try simp only [RN, reduceIte]
          try refine T_e rfl ?_
          refine T_csplit (p := v < el q j) (by simp only [RA, ↓reduceIte, Nat.reduceEqDiff] <;> rfl) (by (try simp only [RB]) <;> first | done | exact Iff.rfl | omega | simp) (fun hc => ?_) (fun hc => ?_) <;> (try simp only [RN, reduceIte]) <;> (try refine T_e rfl ?_)
          · first | refine T_bfree rfl ?_ | refine T_bfree' rfl ?_
            try simp only [RN, reduceIte]
            try refine T_e rfl ?_
            have hj1 : (j : Int) - 1 = ((j - 1 : Nat) : Int) := by omega
            refine T_reg_k fun Kr hKr => ?_
            simp (disch := omega) only [RA, ↓reduceIte, Nat.reduceEqDiff, RD, g10, hj1]
            refine hKr _ _ ?_
            clear hKr Kr
            refine hN2 (j - 1) _ _ _ _ (by omega) Gh.refl ⟨j - 1, by omega, hp.dnE hij hc, rfl, hp.keepE hs hij, ?_, ?_, ?_, ?_, rfl⟩
            any_goals (simp (disch := omega) only [RA, ↓reduceIte, Nat.reduceEqDiff, RD, RE, *] <;> rfl)
          · refine hX2 _ _ ⟨j, hj0, hp, hs, .inr (by first | exact hc | exact fun h => h hc | exact fun h => hc h), ?_, ?_, ?_, ?_, rfl⟩
            any_goals (simp (disch := omega) only [RA, ↓reduceIte, Nat.reduceEqDiff, RD, RE, *] <;> rfl)
        · refine T_rseq fun Kr hKr => ?_
          simp (disch := omega) only [RA, ↓reduceIte, Nat.reduceEqDiff, RD, g9, g10, hij]
          refine hKr _ _ ?_
          clear hKr Kr
          try simp only [RN, reduceIte]
          try refine T_e rfl ?_
          refine T_cseq (t := false) (by simp (disch := omega) only [RA, ↓reduceIte, Nat.reduceEqDiff, RD]) ?_
          try simp only [RN, reduceIte]
          try refine T_e rfl ?_
          refine hX2 _ _ ⟨j, hj0, hp, hs, .inl (by omega), ?_, ?_, ?_, ?_, rfl⟩
          any_goals (simp (disch := omega) only [RA, ↓reduceIte, Nat.reduceEqDiff, RD, RE, *] <;> rfl)
      · clear g0 g1 g9 g10 hs
        rintro f H' ⟨j, hj0, hp, hs, hs2, g0, g1, g9, g10, rfl⟩
        have hql := hp.sg.len
        have hge := hp.ge
        have hjb := hp.jb
        have hva := hp.va
        have hlo := hp.lo
        try simp only [RN, reduceIte]
        try refine T_e rfl ?_
        refine T_rseq fun Kr hKr => ?_
        simp (disch := omega) only [RA, ↓reduceIte, Nat.reduceEqDiff, RD, g9, g10]
        refine hKr _ _ ?_
        clear hKr Kr
        try simp only [RN, reduceIte]
        try refine T_e rfl ?_
        refine T_csplit (p := j < i) (by simp only [RA, ↓reduceIte, Nat.reduceEqDiff] <;> rfl) (by (try simp only [RB]) <;> first | done | exact Iff.rfl | omega | simp) (fun hc => ?_) (fun hc => ?_) <;> (try simp only [RN, reduceIte]) <;> (try refine T_e rfl ?_)
        · refine hX _ _ ?_
          refine T_rseq fun Kr hKr => ?_
          simp (disch := omega) only [RA, ↓reduceIte, Nat.reduceEqDiff, RD, g9]
          refine hKr _ _ ?_
          clear hKr Kr
          try simp only [RN, reduceIte]
          try refine T_e rfl ?_
          refine bodyQ_ret (by simp (disch := omega) only [RA, ↓reduceIte, Nat.reduceEqDiff, RD, resAll, resOf]; rfl) GhV.refl ?_
          simp only [tup]
          exact hfin q i j hp hc
        · have hq1 : v < el q i := by rcases hs with h | h; omega; omega
          have hq2 : ¬ v < el q j := by rcases hs2 with h | h; omega; exact h
          have hij : i < j := by
            rcases Nat.lt_or_ge i j with h | h
            · exact h
            · have : i = j := by omega
              subst this
              exact absurd hq1 hq2
          have hqs : (q.set i (el q j)).length = p.length := by simp [hql]
          have hj1 : (j : Int) - 1 = ((j - 1 : Nat) : Int) := by omega
          have hi1 : (i : Int) + 1 = ((i + 1 : Nat) : Int) := by omega
          have hp' := hp.exE hb hij hq1 hq2
          have hsw2 : (q.set i (el q j)).set j (el q i) = swp q i j := rfl
          refine T_rseq fun Kr hKr => ?_
          simp (disch := omega) only [RA, ↓reduceIte, Nat.reduceEqDiff, RD, g0, g9, g10, hql, hqs]
          refine hKr _ _ ?_
          clear hKr Kr
          try simp only [RN, reduceIte]
          try refine T_e rfl ?_
          rw [hsw2]
          refine T_rseq fun Kr hKr => ?_
          simp (disch := omega) only [RA, ↓reduceIte, Nat.reduceEqDiff, RD, g9, hi1]
          refine hKr _ _ ?_
          clear hKr Kr
          try simp only [RN, reduceIte]
          try refine T_e rfl ?_
          refine T_reg_k fun Kr hKr => ?_
          simp (disch := omega) only [RA, ↓reduceIte, Nat.reduceEqDiff, RD, g10, hj1]
          refine hKr _ _ ?_
          clear hKr Kr
          refine hN (j - 1 + 1 - (i + 1)) _ _ _ _ (by omega) Gh.refl ⟨swp q i j, i + 1, j - 1, hp', rfl, ?_, ?_, ?_, ?_, rfl⟩
          any_goals (simp (disch := omega) only [RA, ↓reduceIte, Nat.reduceEqDiff, RD, RE, *] <;> rfl)
end Go.Bm

/- Sorting: reversing, the choice of a pivot, the test for order. -/
set_option linter.unusedVariables false
set_option linter.unusedSimpArgs false
namespace Go.Bm
open Go Go.Am

theorem reverseRange_spec {p : List Int} {a b : Nat} {K : Value → BH → Prop} (hpl : p.length ≤ 1000) (hb : b ≤ p.length) (hab : a < b) (hK : ∀ q, Sg a b p q → K (.tuple ⟨[]⟩) [some (q.map I)]) :
    CallX false F_slices_reverseRangeOrdered_int64 [S 0 0 p.length 1, I a, I b] [some (p.map I)] K := by
  have hb1 : (b : Int) - 1 = ((b - 1 : Nat) : Int) := by omega
  refine CallX_body Γ_slices_reverseRangeOrdered_int64 ?_
  simp only [A_slices_reverseRangeOrdered_int64, T_aiff]
  refine T_rseq fun Kr hKr => ?_
  simp (disch := omega) only [RA, ↓reduceIte, Nat.reduceEqDiff, RD]
  refine hKr _ _ ?_
  clear hKr Kr
  try simp only [RN, reduceIte]
  try refine T_e rfl ?_
  refine T_rseq fun Kr hKr => ?_
  simp (disch := omega) only [RA, ↓reduceIte, Nat.reduceEqDiff, RD, hb1]
  refine hKr _ _ ?_
  clear hKr Kr
  try simp only [RN, reduceIte]
  try refine T_e rfl ?_
  refine T_tail ?_
  refine T_wloop (fun m f H' => ∃ (q : List Int) (i j : Nat), Sg a b p q ∧ a ≤ i ∧ i ≤ j + 1 ∧ j < b ∧ m = j + 1 - i ∧ f 0 = S 0 0 p.length 1 ∧ f 6 = I i ∧ f 7 = I j ∧ H' = [some (q.map I)]) (b - 1 + 1 - a) ?_ ?_
  · refine ⟨_, _, Gh.refl, p, a, b - 1, .refl, by omega, by omega, by omega, rfl, ?_, ?_, ?_, rfl⟩
    any_goals (simp (disch := omega) only [RA, ↓reduceIte, Nat.reduceEqDiff, RD, RE, *] <;> rfl)
  · rintro m f H' R ⟨q, i, j, hq, h1, h2, h3, rfl, g0, g6, g7, rfl⟩ hN hX hR hE
    simp only [A_slices_reverseRangeOrdered_int64.l0, T_aiff]
    have hql := hq.len
    refine T_rseq fun Kr hKr => ?_
    simp (disch := omega) only [RA, ↓reduceIte, Nat.reduceEqDiff, RD, g6, g7]
    refine hKr _ _ ?_
    clear hKr Kr
    try simp only [RN, reduceIte]
    try refine T_e rfl ?_
    refine T_csplit (p := i < j) (by simp only [RA, ↓reduceIte, Nat.reduceEqDiff] <;> rfl) (by (try simp only [RB]) <;> first | done | exact Iff.rfl | omega | simp) (fun hc => ?_) (fun hc => ?_) <;> (try simp only [RN, reduceIte]) <;> (try refine T_e rfl ?_)
    · have hqs : (q.set i (el q j)).length = p.length := by simp [hql]
      have hj1 : (j : Int) - 1 = ((j - 1 : Nat) : Int) := by omega
      have hi1 : (i : Int) + 1 = ((i + 1 : Nat) : Int) := by omega
      have hsw : (q.set i (el q j)).set j (el q i) = swp q i j := rfl
      first | refine T_bfree rfl ?_ | refine T_bfree' rfl ?_
      try simp only [RN, reduceIte]
      try refine T_e rfl ?_
      refine T_rseq fun Kr hKr => ?_
      simp (disch := omega) only [RA, ↓reduceIte, Nat.reduceEqDiff, RD, g0, g6, g7, hql, hqs]
      refine hKr _ _ ?_
      clear hKr Kr
      try simp only [RN, reduceIte]
      try refine T_e rfl ?_
      rw [hsw]
      refine T_rseq fun Kr hKr => ?_
      simp (disch := omega) only [RA, ↓reduceIte, Nat.reduceEqDiff, RD, g6, hi1]
      refine hKr _ _ ?_
      clear hKr Kr
      try simp only [RN, reduceIte]
      try refine T_e rfl ?_
      refine T_reg_k fun Kr hKr => ?_
      simp (disch := omega) only [RA, ↓reduceIte, Nat.reduceEqDiff, RD, g7, hj1]
      refine hKr _ _ ?_
      clear hKr Kr
      refine hN (j - 1 + 1 - (i + 1)) _ _ _ _ (by omega) Gh.refl ⟨swp q i j, i + 1, j - 1, hq.trans (.swp (by omega) (by omega) (by omega) (by omega) (by omega)), by omega, by omega, by omega, rfl, ?_, ?_, ?_, rfl⟩
      any_goals (simp (disch := omega) only [RA, ↓reduceIte, Nat.reduceEqDiff, RD, RE, *] <;> rfl)
    · refine hX _ _ ?_
      refine T_skip ?_
      refine bodyQ_ret (by simp (disch := omega) only [RA, ↓reduceIte, Nat.reduceEqDiff, RD, resAll, resOf]; rfl) GhV.refl ?_
      simp only [tup]
      exact hK q hq
/-- The first and the last i in the other order. -/
theorem Reverse_spec {p : List Int} {K : Value → BH → Prop} (hpl : p.length ≤ 1000) (hK : K (.tuple ⟨[]⟩) [some (p.reverse.map I)]) :
    CallX false F_slices_Reverse_int64_int64 [S 0 0 p.length 1] [some (p.map I)] K := by
  refine CallX_body Γ_slices_Reverse_int64_int64 ?_
  simp only [A_slices_Reverse_int64_int64, T_aiff]
  refine T_rseq fun Kr hKr => ?_
  simp (disch := omega) only [RA, ↓reduceIte, Nat.reduceEqDiff, RD]
  refine hKr _ _ ?_
  clear hKr Kr
  try simp only [RN, reduceIte]
  try refine T_e rfl ?_
  refine T_tail ?_
  refine T_wloop (fun m f H' => ∃ (q : List Int) (i : Nat) (j : Int), q.length = p.length ∧ j = (p.length : Int) - 1 - i ∧ 2 * (i : Int) ≤ p.length + 1 ∧ (∀ x, x < p.length → el q x = if x < i ∨ p.length ≤ x + i then el p (p.length - 1 - x) else el p x) ∧ m = p.length - i ∧ f 0 = S 0 0 p.length 1 ∧ f 2 = I i ∧ f 3 = I j ∧ H' = [some (q.map I)]) (p.length) ?_ ?_
  · refine ⟨_, _, Gh.refl, p, 0, (p.length : Int) - 1, rfl, by omega, by omega, fun x hx => ?_, rfl, ?_, ?_, ?_, rfl⟩
    any_goals (simp (disch := omega) only [RA, ↓reduceIte, Nat.reduceEqDiff, RD, RE, *] <;> rfl)
    rw [if_neg (by omega)]
  · rintro m f H' R ⟨q, i, j, hql, hj, h2, hq, rfl, g0, g2, g3, rfl⟩ hN hX hR hE
    simp only [A_slices_Reverse_int64_int64.l0, T_aiff]
    refine T_rseq fun Kr hKr => ?_
    simp (disch := omega) only [RA, ↓reduceIte, Nat.reduceEqDiff, RD, g2, g3]
    refine hKr _ _ ?_
    clear hKr Kr
    try simp only [RN, reduceIte]
    try refine T_e rfl ?_
    refine T_csplit (p := (i : Int) < j) (by simp only [RA, ↓reduceIte, Nat.reduceEqDiff] <;> rfl) (by (try simp only [RB]) <;> first | done | exact Iff.rfl | omega | simp) (fun hc => ?_) (fun hc => ?_) <;> (try simp only [RN, reduceIte]) <;> (try refine T_e rfl ?_)
    · obtain ⟨k, rfl⟩ : ∃ k : Nat, j = k := ⟨j.toNat, by omega⟩
      have hqs : (q.set i (el q k)).length = p.length := by simp [hql]
      have hsw : (q.set i (el q k)).set k (el q i) = swp q i k := rfl
      first | refine T_bfree rfl ?_ | refine T_bfree' rfl ?_
      try simp only [RN, reduceIte]
      try refine T_e rfl ?_
      refine T_rseq fun Kr hKr => ?_
      simp (disch := omega) only [RA, ↓reduceIte, Nat.reduceEqDiff, RD, g0, g2, g3, hql, hqs]
      refine hKr _ _ ?_
      clear hKr Kr
      try simp only [RN, reduceIte]
      try refine T_e rfl ?_
      rw [hsw]
      refine T_reg_k fun Kr hKr => ?_
      simp (disch := omega) only [RA, ↓reduceIte, Nat.reduceEqDiff, RD, g2, g3]
      refine hKr _ _ ?_
      clear hKr Kr
      refine hN (p.length - (i + 1)) _ _ _ _ (by omega) Gh.refl ⟨swp q i k, i + 1, (k : Int) - 1, by rw [swp_len, hql], by omega, by omega, fun x hx => ?_, rfl, ?_, ?_, ?_, rfl⟩
      any_goals (simp (disch := omega) only [RA, ↓reduceIte, Nat.reduceEqDiff, RD, RE, *] <;> rfl)
      rw [swp_el (by omega) (by omega)]
      split
      · rw [hq i (by omega), if_neg (by omega), if_pos (by omega)]
        congr 1
        omega
      · split
        · rw [hq k (by omega), if_neg (by omega), if_pos (by omega)]
          congr 1
          omega
        · rw [hq x hx]
          by_cases hc2 : x < i ∨ p.length ≤ x + i
          · rw [if_pos hc2, if_pos (by omega)]
          · rw [if_neg hc2, if_neg (by omega)]
    · refine hX _ _ ?_
      refine T_skip ?_
      refine bodyQ_ret (by simp (disch := omega) only [RA, ↓reduceIte, Nat.reduceEqDiff, RD, resAll, resOf]; rfl) GhV.refl ?_
      simp only [tup]
      have : q = p.reverse := el_ext (by simp [hql]) fun x hx => by
        have e : el p.reverse x = el p (p.length - 1 - x) := by
          simp only [el, List.getD]
          rw [List.getElem?_reverse (by omega)]
        rw [e, hq x (by omega)]
        split
        · rfl
        · congr 1
          omega
      rw [this]
      exact hK
theorem getN_c {v : Value} : getN none [v] 0 = some v := rfl
theorem st_c {H : BH} {b : Nat} {v : Value} {k : IntKind} {n : Int} : stO (some [v]) H b 0 1 (.int k n) = some (undef, H.set b (some [.int k n])) := rfl
theorem order2_spec {p : List Int} {a b : Nat} {s : Nat} {K : Value → BH → Prop} (hpl : p.length ≤ 1000) (ha : a < p.length) (hb : b < p.length) (hs : s ≤ 1000)
    (hK : ∀ (x y s' : Nat), (x = a ∧ y = b) ∨ (x = b ∧ y = a) → s' ≤ s + 1 → K (.tuple ⟨[I x, I y]⟩) [some (p.map I), some [I s']]) :
    CallX false F_slices_order2Ordered_int64 [S 0 0 p.length 1, I a, I b, P 1 0] [some (p.map I), some [I s]] K := by
  have hs1 : (s : Int) + 1 = ((s + 1 : Nat) : Int) := by omega
  refine CallX_body Γ_slices_order2Ordered_int64 ?_
  simp only [A_slices_order2Ordered_int64, T_aiff]
  refine T_rseq fun Kr hKr => ?_
  simp (disch := omega) only [RA, ↓reduceIte, Nat.reduceEqDiff, RD]
  refine hKr _ _ ?_
  clear hKr Kr
  try simp only [RN, reduceIte]
  try refine T_e rfl ?_
  refine T_rseq fun Kr hKr => ?_
  simp (disch := omega) only [RA, ↓reduceIte, Nat.reduceEqDiff, RD]
  refine Less_spec ?_
  simp (disch := omega) only [RA, ↓reduceIte, Nat.reduceEqDiff, RD]
  refine hKr _ _ ?_
  clear hKr Kr
  try simp only [blkQ, thenQ, loopQ]
  try simp only [RN, reduceIte]
  try refine T_e rfl ?_
  refine T_csplit (p := el p b < el p a) (by simp only [RA, ↓reduceIte, Nat.reduceEqDiff] <;> rfl) (by (try simp only [RB]) <;> first | done | exact Iff.rfl | omega | simp) (fun hc => ?_) (fun hc => ?_) <;> (try simp only [RN, reduceIte]) <;> (try refine T_e rfl ?_)
  · refine T_rseq fun Kr hKr => ?_
    simp (disch := omega) only [RA, ↓reduceIte, Nat.reduceEqDiff, RD, getN_c, st_c, hs1]
    refine hKr _ _ ?_
    clear hKr Kr
    try simp only [RN, reduceIte]
    try refine T_e rfl ?_
    refine T_rseq fun Kr hKr => ?_
    simp (disch := omega) only [RA, ↓reduceIte, Nat.reduceEqDiff, RD]
    refine hKr _ _ ?_
    clear hKr Kr
    try simp only [RN, reduceIte]
    try refine T_e rfl ?_
    refine bodyQ_ret (by simp (disch := omega) only [RA, ↓reduceIte, Nat.reduceEqDiff, RD, resAll, resOf]; rfl) GhV.refl ?_
    simp only [tup]
    exact hK b a (s + 1) (.inr ⟨rfl, rfl⟩) (by omega)
  · refine T_rseq fun Kr hKr => ?_
    simp (disch := omega) only [RA, ↓reduceIte, Nat.reduceEqDiff, RD]
    refine hKr _ _ ?_
    clear hKr Kr
    try simp only [RN, reduceIte]
    try refine T_e rfl ?_
    refine bodyQ_ret (by simp (disch := omega) only [RA, ↓reduceIte, Nat.reduceEqDiff, RD, resAll, resOf]; rfl) GhV.refl ?_
    simp only [tup]
    exact hK a b s (.inl ⟨rfl, rfl⟩) (by omega)
theorem median_spec {p : List Int} {a b c : Nat} {s : Nat} {K : Value → BH → Prop} (hpl : p.length ≤ 1000) (ha : a < p.length) (hb : b < p.length) (hc : c < p.length) (hs : s ≤ 900)
    (hK : ∀ (x s' : Nat), x = a ∨ x = b ∨ x = c → s' ≤ s + 3 → K (I x) [some (p.map I), some [I s']]) :
    CallX false F_slices_medianOrdered_int64 [S 0 0 p.length 1, I a, I b, I c, P 1 0] [some (p.map I), some [I s]] K := by
  refine CallX_body Γ_slices_medianOrdered_int64 ?_
  simp only [A_slices_medianOrdered_int64, T_aiff]
  refine T_rseq fun Kr hKr => ?_
  simp (disch := omega) only [RA, ↓reduceIte, Nat.reduceEqDiff, RD]
  refine hKr _ _ ?_
  clear hKr Kr
  try simp only [RN, reduceIte]
  try refine T_e rfl ?_
  refine T_rseq fun Kr hKr => ?_
  simp (disch := omega) only [RA, ↓reduceIte, Nat.reduceEqDiff, RD]
  refine order2_spec hpl ha hb (by omega) ?_
  intro a1 b1 s1 h1 hs1
  have ha1 : a1 < p.length := by omega
  have hb1 : b1 < p.length := by omega
  simp (disch := omega) only [RA, ↓reduceIte, Nat.reduceEqDiff, RD]
  refine hKr _ _ ?_
  clear hKr Kr
  try simp only [blkQ, thenQ, loopQ]
  try simp only [RN, reduceIte]
  try refine T_e rfl ?_
  refine T_rseq fun Kr hKr => ?_
  simp (disch := omega) only [RA, ↓reduceIte, Nat.reduceEqDiff, RD]
  refine order2_spec hpl hb1 hc (by omega) ?_
  intro b2 c2 s2 h2 hs2
  have hb2 : b2 < p.length := by omega
  simp (disch := omega) only [RA, ↓reduceIte, Nat.reduceEqDiff, RD]
  refine hKr _ _ ?_
  clear hKr Kr
  try simp only [blkQ, thenQ, loopQ]
  try simp only [RN, reduceIte]
  try refine T_e rfl ?_
  refine T_rseq fun Kr hKr => ?_
  simp (disch := omega) only [RA, ↓reduceIte, Nat.reduceEqDiff, RD]
  refine order2_spec hpl ha1 hb2 (by omega) ?_
  intro a3 b3 s3 h3 hs3
  simp (disch := omega) only [RA, ↓reduceIte, Nat.reduceEqDiff, RD]
  refine hKr _ _ ?_
  clear hKr Kr
  try simp only [blkQ, thenQ, loopQ]
  try simp only [RN, reduceIte]
  try refine T_e rfl ?_
  refine T_rseq fun Kr hKr => ?_
  simp (disch := omega) only [RA, ↓reduceIte, Nat.reduceEqDiff, RD]
  refine hKr _ _ ?_
  clear hKr Kr
  try simp only [RN, reduceIte]
  try refine T_e rfl ?_
  refine bodyQ_ret (by simp (disch := omega) only [RA, ↓reduceIte, Nat.reduceEqDiff, RD, resAll, resOf]; rfl) GhV.refl ?_
  simp only [tup]
  exact hK b3 s3 (by omega) (by omega)
theorem choosePivot_spec {p : List Int} {a b : Nat} {K : Value → BH → Prop} (hpl : p.length ≤ 1000) (hb : b ≤ p.length) (h8 : a + 8 ≤ b) (h50 : b < a + 50)
    (hK : ∀ (x : Nat) (h : Int), a ≤ x → x < b → K (.tuple ⟨[I x, I h]⟩) [some (p.map I)]) :
    CallX false F_slices_choosePivotOrdered_int64 [S 0 0 p.length 1, I a, I b] [some (p.map I)] K := by
  obtain ⟨l, hl⟩ : ∃ l, l = b - a := ⟨_, rfl⟩
  have hbl : (b : Int) - (a : Int) = (l : Int) := by omega
  have hd : (l : Int).tdiv 4 = ((l / 4 : Nat) : Int) := (Int.ofNat_tdiv l 4).symm
  obtain ⟨q, hq⟩ : ∃ q, q = l / 4 := ⟨_, rfl⟩
  rw [← hq] at hd
  have e1 : (a : Int) + (q : Int) * 1 = ((a + q : Nat) : Int) := by omega
  have e2 : (a : Int) + (q : Int) * 2 = ((a + q * 2 : Nat) : Int) := by omega
  have e3 : (a : Int) + (q : Int) * 3 = ((a + q * 3 : Nat) : Int) := by omega
  have e4 : (q : Int) * 1 = q := by omega
  have e5 : (a : Int) + (q : Int) = ((a + q : Nat) : Int) := by omega
  refine CallX_body Γ_slices_choosePivotOrdered_int64 ?_
  simp only [A_slices_choosePivotOrdered_int64, T_aiff]
  refine T_rseq fun Kr hKr => ?_
  simp (disch := omega) only [RA, ↓reduceIte, Nat.reduceEqDiff, Nat.reduceBEq, Nat.reduceSub, Nat.reduceAdd, Nat.reduceMul, Nat.reduceLT, Nat.reduceLeDiff, Int.reduceLE, Int.reduceLT, Int.reduceEq, Int.reduceNeg, Int.reduceToNat, Int.reduceMul, Int.reduceAdd, Int.reduceSub, Int.reduceBEq, Int.reduceBNe, reduceCtorEq, RD]
  refine hKr _ _ ?_
  clear hKr Kr
  try simp only [RN, reduceIte]
  try refine T_e rfl ?_
  refine T_rseq fun Kr hKr => ?_
  simp (disch := omega) only [RA, ↓reduceIte, Nat.reduceEqDiff, Nat.reduceBEq, Nat.reduceSub, Nat.reduceAdd, Nat.reduceMul, Nat.reduceLT, Nat.reduceLeDiff, Int.reduceLE, Int.reduceLT, Int.reduceEq, Int.reduceNeg, Int.reduceToNat, Int.reduceMul, Int.reduceAdd, Int.reduceSub, Int.reduceBEq, Int.reduceBNe, reduceCtorEq, RD, hbl]
  refine hKr _ _ ?_
  clear hKr Kr
  try simp only [RN, reduceIte]
  try refine T_e rfl ?_
  refine T_rseq fun Kr hKr => ?_
  simp (disch := omega) only [RA, ↓reduceIte, Nat.reduceEqDiff, Nat.reduceBEq, Nat.reduceSub, Nat.reduceAdd, Nat.reduceMul, Nat.reduceLT, Nat.reduceLeDiff, Int.reduceLE, Int.reduceLT, Int.reduceEq, Int.reduceNeg, Int.reduceToNat, Int.reduceMul, Int.reduceAdd, Int.reduceSub, Int.reduceBEq, Int.reduceBNe, reduceCtorEq, RD]
  refine hKr _ _ ?_
  clear hKr Kr
  try simp only [RN, reduceIte]
  try refine T_e rfl ?_
  refine T_rseq fun Kr hKr => ?_
  simp (disch := omega) only [RA, ↓reduceIte, Nat.reduceEqDiff, Nat.reduceBEq, Nat.reduceSub, Nat.reduceAdd, Nat.reduceMul, Nat.reduceLT, Nat.reduceLeDiff, Int.reduceLE, Int.reduceLT, Int.reduceEq, Int.reduceNeg, Int.reduceToNat, Int.reduceMul, Int.reduceAdd, Int.reduceSub, Int.reduceBEq, Int.reduceBNe, reduceCtorEq, RD, hd, e1, e4, e5]
  refine hKr _ _ ?_
  clear hKr Kr
  try simp only [RN, reduceIte]
  try refine T_e rfl ?_
  refine T_rseq fun Kr hKr => ?_
  simp (disch := omega) only [RA, ↓reduceIte, Nat.reduceEqDiff, Nat.reduceBEq, Nat.reduceSub, Nat.reduceAdd, Nat.reduceMul, Nat.reduceLT, Nat.reduceLeDiff, Int.reduceLE, Int.reduceLT, Int.reduceEq, Int.reduceNeg, Int.reduceToNat, Int.reduceMul, Int.reduceAdd, Int.reduceSub, Int.reduceBEq, Int.reduceBNe, reduceCtorEq, RD, hd, e2]
  refine hKr _ _ ?_
  clear hKr Kr
  try simp only [RN, reduceIte]
  try refine T_e rfl ?_
  refine T_rseq fun Kr hKr => ?_
  simp (disch := omega) only [RA, ↓reduceIte, Nat.reduceEqDiff, Nat.reduceBEq, Nat.reduceSub, Nat.reduceAdd, Nat.reduceMul, Nat.reduceLT, Nat.reduceLeDiff, Int.reduceLE, Int.reduceLT, Int.reduceEq, Int.reduceNeg, Int.reduceToNat, Int.reduceMul, Int.reduceAdd, Int.reduceSub, Int.reduceBEq, Int.reduceBNe, reduceCtorEq, RD, hd, e3]
  refine hKr _ _ ?_
  clear hKr Kr
  try simp only [RN, reduceIte]
  try refine T_e rfl ?_
  refine T_rseq fun Kr hKr => ?_
  simp (disch := omega) only [RA, ↓reduceIte, Nat.reduceEqDiff, Nat.reduceBEq, Nat.reduceSub, Nat.reduceAdd, Nat.reduceMul, Nat.reduceLT, Nat.reduceLeDiff, Int.reduceLE, Int.reduceLT, Int.reduceEq, Int.reduceNeg, Int.reduceToNat, Int.reduceMul, Int.reduceAdd, Int.reduceSub, Int.reduceBEq, Int.reduceBNe, reduceCtorEq, RD]
  refine hKr _ _ ?_
  clear hKr Kr
  try simp only [RN, reduceIte]
  try refine T_e rfl ?_
  refine T_cseq (t := true) (by simp (disch := omega) only [RA, ↓reduceIte, Nat.reduceEqDiff, RD]) ?_
  try simp only [RN, reduceIte]
  try refine T_e rfl ?_
  refine T_rseq fun Kr hKr => ?_
  simp (disch := omega) only [RA, ↓reduceIte, Nat.reduceEqDiff, Nat.reduceBEq, Nat.reduceSub, Nat.reduceAdd, Nat.reduceMul, Nat.reduceLT, Nat.reduceLeDiff, Int.reduceLE, Int.reduceLT, Int.reduceEq, Int.reduceNeg, Int.reduceToNat, Int.reduceMul, Int.reduceAdd, Int.reduceSub, Int.reduceBEq, Int.reduceBNe, reduceCtorEq, RD]
  refine hKr _ _ ?_
  clear hKr Kr
  try simp only [RN, reduceIte]
  try refine T_e rfl ?_
  refine T_cseq (t := false) (by simp (disch := omega) only [RA, ↓reduceIte, Nat.reduceEqDiff, RD]) ?_
  try simp only [RN, reduceIte]
  try refine T_e rfl ?_
  refine T_rseq fun Kr hKr => ?_
  simp (disch := omega) only [RA, ↓reduceIte, Nat.reduceEqDiff, RD]
  refine median_spec (s := 0) hpl (by omega) (by omega) (by omega) (by omega) ?_
  intro x s' hx hs'
  simp (disch := omega) only [RA, ↓reduceIte, Nat.reduceEqDiff, RD]
  refine hKr _ _ ?_
  clear hKr Kr
  try simp only [blkQ, thenQ, loopQ]
  try simp only [RN, reduceIte]
  try refine T_e rfl ?_
  refine T_rseq fun Kr hKr => ?_
  simp (disch := omega) only [RA, ↓reduceIte, Nat.reduceEqDiff, RD, getN_c]
  refine hKr _ _ ?_
  clear hKr Kr
  try simp only [RN, reduceIte]
  try refine T_e rfl ?_
  first | refine T_bfree rfl ?_ | refine T_bfree' rfl ?_
  try simp only [RN, reduceIte]
  try refine T_e rfl ?_
  refine T_rseq fun Kr hKr => ?_
  simp (disch := omega) only [RA, ↓reduceIte, Nat.reduceEqDiff, Nat.reduceBEq, Nat.reduceSub, Nat.reduceAdd, Nat.reduceMul, Nat.reduceLT, Nat.reduceLeDiff, Int.reduceLE, Int.reduceLT, Int.reduceEq, Int.reduceNeg, Int.reduceToNat, Int.reduceMul, Int.reduceAdd, Int.reduceSub, Int.reduceBEq, Int.reduceBNe, reduceCtorEq, RD]
  refine hKr _ _ ?_
  clear hKr Kr
  try simp only [RN, reduceIte]
  try refine T_e rfl ?_
  refine T_csplit1 (p := s' = 0) (by simp only [RA, ↓reduceIte, Nat.reduceEqDiff] <;> rfl) (by (try simp only [RB]) <;> first | done | exact Iff.rfl | omega | simp) (fun hc => ?_) (fun hc => ?_) <;> (try simp only [RN, reduceIte]) <;> (try refine T_e rfl ?_)
  · refine T_rseq fun Kr hKr => ?_
    simp (disch := omega) only [RA, ↓reduceIte, Nat.reduceEqDiff, RD]
    refine hKr _ _ ?_
    clear hKr Kr
    try simp only [RN, reduceIte]
    try refine T_e rfl ?_
    refine bodyQ_ret (by simp (disch := omega) only [RA, ↓reduceIte, Nat.reduceEqDiff, RD, resAll, resOf]; rfl) (GhV.nrm [0] rfl rfl (by simp only [RH]) (by simp only [tup, RH])) ?_
    simp only [tup]
    exact hK x 1 (by omega) (by omega)
  · refine T_rseq fun Kr hKr => ?_
    simp (disch := omega) only [RA, ↓reduceIte, Nat.reduceEqDiff, RD]
    refine hKr _ _ ?_
    clear hKr Kr
    try simp only [RN, reduceIte]
    try refine T_e rfl ?_
    refine T_cond (t := false) (by simp (disch := omega) only [RA, ↓reduceIte, Nat.reduceEqDiff, RD]) ?_
    try simp only [RN, reduceIte]
    try refine T_e rfl ?_
    refine T_rseq fun Kr hKr => ?_
    simp (disch := omega) only [RA, ↓reduceIte, Nat.reduceEqDiff, Nat.reduceBEq, Nat.reduceSub, Nat.reduceAdd, Nat.reduceMul, Nat.reduceLT, Nat.reduceLeDiff, Int.reduceLE, Int.reduceLT, Int.reduceEq, Int.reduceNeg, Int.reduceToNat, Int.reduceMul, Int.reduceAdd, Int.reduceSub, Int.reduceBEq, Int.reduceBNe, reduceCtorEq, RD]
    refine hKr _ _ ?_
    clear hKr Kr
    try simp only [RN, reduceIte]
    try refine T_e rfl ?_
    refine bodyQ_ret (by simp (disch := omega) only [RA, ↓reduceIte, Nat.reduceEqDiff, RD, resAll, resOf]; rfl) (GhV.nrm [0] rfl rfl (by simp only [RH]) (by simp only [tup, RH])) ?_
    simp only [tup]
    exact hK x 0 (by omega) (by omega)
/-- Of short lists only whether they are in order. -/
theorem partialInsertionSort_spec {p : List Int} {a b : Nat} {K : Value → BH → Prop} (hpl : p.length ≤ 1000) (hb : b ≤ p.length) (hab : a < b) (h50 : b < a + 50) (hK : ∀ r, (r = true → Srt a b p) → K (.bool r) [some (p.map I)]) :
    CallX false F_slices_partialInsertionSortOrdered_int64 [S 0 0 p.length 1, I a, I b] [some (p.map I)] K := by
  have ha1 : (a : Int) + 1 = ((a + 1 : Nat) : Int) := by omega
  have hl1 : (b : Int) - (a : Int) = ((b - a : Nat) : Int) := by omega
  refine CallX_body Γ_slices_partialInsertionSortOrdered_int64 ?_
  simp only [A_slices_partialInsertionSortOrdered_int64, T_aiff]
  refine T_rseq fun Kr hKr => ?_
  simp (disch := omega) only [RA, ↓reduceIte, Nat.reduceEqDiff, RD]
  refine hKr _ _ ?_
  clear hKr Kr
  try simp only [RN, reduceIte]
  try refine T_e rfl ?_
  refine T_rseq fun Kr hKr => ?_
  simp (disch := omega) only [RA, ↓reduceIte, Nat.reduceEqDiff, RD, ha1]
  refine hKr _ _ ?_
  clear hKr Kr
  try simp only [RN, reduceIte]
  try refine T_e rfl ?_
  refine T_rseq fun Kr hKr => ?_
  simp (disch := omega) only [RA, ↓reduceIte, Nat.reduceEqDiff, RD]
  refine hKr _ _ ?_
  clear hKr Kr
  try simp only [RN, reduceIte]
  try refine T_e rfl ?_
  refine T_wloop (fun m f H' => m = 1 ∧ f 0 = S 0 0 p.length 1 ∧ f 1 = I a ∧ f 2 = I b ∧ f 7 = I (a + 1 : Nat) ∧ f 8 = I 0 ∧ H' = [some (p.map I)]) (1) ?_ ?_
  · refine ⟨_, _, Gh.refl, rfl, ?_, ?_, ?_, ?_, ?_, rfl⟩
    any_goals (simp (disch := omega) only [RA, ↓reduceIte, Nat.reduceEqDiff, RD, RE, *] <;> rfl)
  · rintro m f H' R ⟨rfl, g0, g1, g2, g7, g8, rfl⟩ hN hX hR hE
    simp only [A_slices_partialInsertionSortOrdered_int64.l3, T_aiff]
    refine T_rseq fun Kr hKr => ?_
    simp (disch := omega) only [RA, ↓reduceIte, Nat.reduceEqDiff, RD, g8]
    refine hKr _ _ ?_
    clear hKr Kr
    try simp only [RN, reduceIte]
    try refine T_e rfl ?_
    refine T_cseq (t := true) (by simp (disch := omega) only [RA, ↓reduceIte, Nat.reduceEqDiff, RD]) ?_
    try simp only [RN, reduceIte]
    try refine T_e rfl ?_
    first | refine T_bfree rfl ?_ | refine T_bfree' rfl ?_
    try simp only [RN, reduceIte]
    try refine T_e rfl ?_
    refine T_scan (fun m f H' => ∃ i : Nat, a + 1 ≤ i ∧ i ≤ b ∧ Srt a i p ∧ m = b - i ∧ f 0 = S 0 0 p.length 1 ∧ f 1 = I a ∧ f 2 = I b ∧ f 7 = I i ∧ H' = [some (p.map I)]) (fun f H' => ∃ i : Nat, a + 1 ≤ i ∧ i ≤ b ∧ Srt a i p ∧ f 0 = S 0 0 p.length 1 ∧ f 1 = I a ∧ f 2 = I b ∧ f 7 = I i ∧ H' = [some (p.map I)]) (b - (a + 1)) ?_ ?_ ?_
    · refine ⟨_, _, Gh.refl, a + 1, by omega, by omega, .one, rfl, ?_, ?_, ?_, ?_, rfl⟩
      any_goals (simp (disch := omega) only [RA, ↓reduceIte, Nat.reduceEqDiff, RD, RE, *] <;> rfl)
    · clear g0 g1 g2 g7 g8
      rintro m f H' R2 ⟨i, hi1, hi2, hs, rfl, g0, g1, g2, g7, rfl⟩ hN2 hX2 hR2
      simp only [A_slices_partialInsertionSortOrdered_int64.l0, T_aiff]
      by_cases hib : i < b
      · have hi1' : (i : Int) - 1 = ((i - 1 : Nat) : Int) := by omega
        have hi2' : (i : Int) + 1 = ((i + 1 : Nat) : Int) := by omega
        refine T_rseq fun Kr hKr => ?_
        simp (disch := omega) only [RA, ↓reduceIte, Nat.reduceEqDiff, RD, g0, g2, g7, hib, hi1']
        refine Less_spec ?_
        simp (disch := omega) only [RA, ↓reduceIte, Nat.reduceEqDiff, RD]
        refine hKr _ _ ?_
        clear hKr Kr
        try simp only [blkQ, thenQ, loopQ]
        try simp only [RN, reduceIte]
        try refine T_e rfl ?_
        refine T_csplit (p := ¬ el p i < el p (i - 1)) (by simp only [RA, ↓reduceIte, Nat.reduceEqDiff] <;> rfl) (by (try simp only [RB]) <;> first | done | exact Iff.rfl | omega | simp) (fun hc => ?_) (fun hc => ?_) <;> (try simp only [RN, reduceIte]) <;> (try refine T_e rfl ?_)
        · first | refine T_bfree rfl ?_ | refine T_bfree' rfl ?_
          try simp only [RN, reduceIte]
          try refine T_e rfl ?_
          refine T_reg_k fun Kr hKr => ?_
          simp (disch := omega) only [RA, ↓reduceIte, Nat.reduceEqDiff, RD, g7, hi2']
          refine hKr _ _ ?_
          clear hKr Kr
          refine hN2 (b - (i + 1)) _ _ _ _ (by omega) Gh.refl ⟨i + 1, by omega, by omega, fun x y h1 h2 h3 => ?_, rfl, ?_, ?_, ?_, ?_, rfl⟩
          any_goals (simp (disch := omega) only [RA, ↓reduceIte, Nat.reduceEqDiff, RD, RE, *] <;> rfl)
          rcases Nat.lt_or_ge y i with h | h
          · exact hs x y h1 h2 h
          · obtain rfl : y = i := by omega
            rcases Nat.lt_or_ge x y with h' | h'
            · exact Int.le_trans (hs x (y - 1) h1 (by omega) (by omega)) (by omega)
            · obtain rfl : x = y := by omega
              exact Int.le_refl _
        · refine hX2 _ _ ⟨i, by omega, by omega, hs, ?_, ?_, ?_, ?_, rfl⟩
          any_goals (simp (disch := omega) only [RA, ↓reduceIte, Nat.reduceEqDiff, RD, RE, *] <;> rfl)
      · refine T_rseq fun Kr hKr => ?_
        simp (disch := omega) only [RA, ↓reduceIte, Nat.reduceEqDiff, RD, g2, g7, hib]
        refine hKr _ _ ?_
        clear hKr Kr
        try simp only [RN, reduceIte]
        try refine T_e rfl ?_
        refine T_cseq (t := false) (by simp (disch := omega) only [RA, ↓reduceIte, Nat.reduceEqDiff, RD]) ?_
        try simp only [RN, reduceIte]
        try refine T_e rfl ?_
        refine hX2 _ _ ⟨i, by omega, by omega, hs, ?_, ?_, ?_, ?_, rfl⟩
        any_goals (simp (disch := omega) only [RA, ↓reduceIte, Nat.reduceEqDiff, RD, RE, *] <;> rfl)
    · clear g0 g1 g2 g7 g8
      rintro f H' ⟨i, hi1, hi2, hs, g0, g1, g2, g7, rfl⟩
      try simp only [RN, reduceIte]
      try refine T_e rfl ?_
      refine T_rseq fun Kr hKr => ?_
      simp (disch := omega) only [RA, ↓reduceIte, Nat.reduceEqDiff, RD, g2, g7]
      refine hKr _ _ ?_
      clear hKr Kr
      try simp only [RN, reduceIte]
      try refine T_e rfl ?_
      refine T_csplit (p := i = b) (by simp only [RA, ↓reduceIte, Nat.reduceEqDiff] <;> rfl) (by (try simp only [RB]) <;> first | done | exact Iff.rfl | omega | simp) (fun hc => ?_) (fun hc => ?_) <;> (try simp only [RN, reduceIte]) <;> (try refine T_e rfl ?_)
      · refine T_rseq fun Kr hKr => ?_
        simp (disch := omega) only [RA, ↓reduceIte, Nat.reduceEqDiff, RD]
        refine hKr _ _ ?_
        clear hKr Kr
        try simp only [RN, reduceIte]
        try refine T_e rfl ?_
        refine hR _ _ ?_
        refine bodyQ_ret (by simp (disch := omega) only [RA, ↓reduceIte, Nat.reduceEqDiff, RD, resAll, resOf]; rfl) GhV.refl ?_
        simp only [tup]
        subst hc
        exact hK true fun _ => hs
      · refine T_rseq fun Kr hKr => ?_
        simp (disch := omega) only [RA, ↓reduceIte, Nat.reduceEqDiff, RD, g1, g2, hl1]
        refine hKr _ _ ?_
        clear hKr Kr
        try simp only [RN, reduceIte]
        try refine T_e rfl ?_
        refine T_cseq (t := true) (by simp (disch := omega) only [RA, ↓reduceIte, Nat.reduceEqDiff, RD]) ?_
        try simp only [RN, reduceIte]
        try refine T_e rfl ?_
        refine T_rseq fun Kr hKr => ?_
        simp (disch := omega) only [RA, ↓reduceIte, Nat.reduceEqDiff, RD]
        refine hKr _ _ ?_
        clear hKr Kr
        try simp only [RN, reduceIte]
        try refine T_e rfl ?_
        refine hR _ _ ?_
        refine bodyQ_ret (by simp (disch := omega) only [RA, ↓reduceIte, Nat.reduceEqDiff, RD, resAll, resOf]; rfl) GhV.refl ?_
        simp only [tup]
        exact hK false fun h => by cases h
end Go.Bm

