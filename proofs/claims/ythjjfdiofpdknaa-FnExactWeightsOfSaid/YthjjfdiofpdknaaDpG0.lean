/- Dp0, Dp1, Dp2, Dp3, Dp4, Dp5 -/
import Derived.Test.YthjjfdiofpdknaaBmS
/- Places, and how they are told of as permutations. -/
set_option linter.unusedVariables false
set_option linter.unusedSimpArgs false
namespace Go.Bm
open Go Go.Am

/-- Sixteen bytes. -/
structure By (m : Nat) (p : List Nat) : Prop where
  len : p.length = m
  lt : ∀ i, nl p i < 256
theorem By.mem {m : Nat} {p : List Nat} (h : By m p) : ∀ x ∈ p, x < 256 := fun x hx => by
  obtain ⟨i, hi, rfl⟩ := List.mem_iff_getElem.1 hx
  have := h.lt i
  simpa [nl, List.getD, hi] using this
theorem nl_set {p : List Nat} {i x j : Nat} : nl (p.set i x) j = if j = i ∧ i < p.length then x else nl p j := by
  unfold nl
  simp only [List.getD]
  by_cases h : i = j
  · subst h
    by_cases hi : i < p.length
    · simp [hi]
    · simp [List.getElem?_eq_none (by omega : p.length ≤ i), hi]
  · rw [List.getElem?_set_ne h, if_neg (fun e => h e.1.symm)]
theorem bl_set {p : List Bool} {i : Nat} {x : Bool} {j : Nat} : bl (p.set i x) j = if j = i ∧ i < p.length then x else bl p j := by
  unfold bl
  simp only [List.getD]
  by_cases h : i = j
  · subst h
    by_cases hi : i < p.length
    · simp [hi]
    · simp [List.getElem?_eq_none (by omega : p.length ≤ i), hi]
  · rw [List.getElem?_set_ne h, if_neg (fun e => h e.1.symm)]
theorem nl_rep {n m i : Nat} : nl (List.replicate n m) i = if i < n then m else 0 := by
  unfold nl
  simp only [List.getD, List.getElem?_replicate]
  split <;> rfl
theorem bl_rep {n i : Nat} : bl (List.replicate n false) i = false := by
  unfold bl
  simp only [List.getD, List.getElem?_replicate]
  split <;> rfl
theorem nl_out {p : List Nat} {i : Nat} (h : p.length ≤ i) : nl p i = 0 := by simp [nl, List.getD, List.getElem?_eq_none h]
theorem nl_ext {p q : List Nat} (hl : p.length = q.length) (h : ∀ i, i < p.length → nl p i = nl q i) : p = q := by
  apply List.ext_getElem hl
  intro i h1 h2
  have := h i h1
  simpa [nl, List.getD, h1, h2] using this
theorem By.set {m : Nat} {p : List Nat} (h : By m p) {i x : Nat} (hx : x < 256) : By m (p.set i x) := ⟨by simp [h.len], fun j => by rw [nl_set]; split; exact hx; exact h.lt j⟩
theorem By.rep {m : Nat} : By m (List.replicate m 0) := ⟨by simp, fun i => by rw [nl_rep]; split <;> omega⟩

theorem l01In_spec {x : Bool} {a b c : Int} {H : BH} {K : Value → BH → Prop} (hK : K (.bool (decide (b ≤ a ∧ a ≤ c))) H) : CallX x F_spec_l01In [I a, I b, I c] H K := by
  refine callP (by simp only [RH]) ?_
  refine CallX_body Γ_spec_l01In ?_
  simp only [A_spec_l01In, T_aiff]
  refine T_rseq fun Kr hKr => ?_
  simp (disch := omega) only [RA, ↓reduceIte, Nat.reduceEqDiff, RD]
  refine hKr _ _ ?_
  clear hKr Kr
  try simp only [RN, reduceIte]
  try refine T_e rfl ?_
  by_cases h : b ≤ a
  · refine T_rseq fun Kr hKr => ?_
    simp (disch := omega) only [RA, ↓reduceIte, Nat.reduceEqDiff, RD, h]
    refine hKr _ _ ?_
    clear hKr Kr
    try simp only [RN, reduceIte]
    try refine T_e rfl ?_
    refine bodyQ_ret (by simp (disch := omega) only [RA, ↓reduceIte, Nat.reduceEqDiff, RD, resAll, resOf, h]; rfl) GhV.refl ?_
    simp only [tup]
    exact ⟨NN.bool, by simpa [h] using hK⟩
  · refine T_rseq fun Kr hKr => ?_
    simp (disch := omega) only [RA, ↓reduceIte, Nat.reduceEqDiff, RD, h]
    refine hKr _ _ ?_
    clear hKr Kr
    try simp only [RN, reduceIte]
    try refine T_e rfl ?_
    refine bodyQ_ret (by simp (disch := omega) only [RA, ↓reduceIte, Nat.reduceEqDiff, RD, resAll, resOf, h]; rfl) GhV.refl ?_
    simp only [tup]
    exact ⟨NN.bool, by simpa [h] using hK⟩
theorem isSize_spec {x : Bool} {a : Int} {H : BH} {K : Value → BH → Prop} (hK : K (.bool (decide (1 ≤ a ∧ a ≤ 16))) H) : CallX x F_impl_isSize [I a] H K := by
  refine callP (by simp only [RH]) ?_
  refine CallX_body Γ_impl_isSize ?_
  simp only [A_impl_isSize, T_aiff]
  refine T_rseq fun Kr hKr => ?_
  simp (disch := omega) only [RA, ↓reduceIte, Nat.reduceEqDiff, RD]
  refine hKr _ _ ?_
  clear hKr Kr
  try simp only [RN, reduceIte]
  try refine T_e rfl ?_
  by_cases h : 1 ≤ a
  · refine T_rseq fun Kr hKr => ?_
    simp (disch := omega) only [RA, ↓reduceIte, Nat.reduceEqDiff, RD, h]
    refine hKr _ _ ?_
    clear hKr Kr
    try simp only [RN, reduceIte]
    try refine T_e rfl ?_
    refine bodyQ_ret (by simp (disch := omega) only [RA, ↓reduceIte, Nat.reduceEqDiff, RD, resAll, resOf, h]; rfl) GhV.refl ?_
    simp only [tup]
    exact ⟨NN.bool, by simpa [h] using hK⟩
  · refine T_rseq fun Kr hKr => ?_
    simp (disch := omega) only [RA, ↓reduceIte, Nat.reduceEqDiff, RD, h]
    refine hKr _ _ ?_
    clear hKr Kr
    try simp only [RN, reduceIte]
    try refine T_e rfl ?_
    refine bodyQ_ret (by simp (disch := omega) only [RA, ↓reduceIte, Nat.reduceEqDiff, RD, resAll, resOf, h]; rfl) GhV.refl ?_
    simp only [tup]
    exact ⟨NN.bool, by simpa [h] using hK⟩

/-- A permutation of n numbers. -/
def Perm (p : List Nat) (n : Int) : Prop := (1 ≤ n ∧ n ≤ 16) ∧ ∀ i : Nat, i < 16 → ((n ≤ (i : Int) → nl p i = 0) ∧ ((i : Int) < n → (nl p i : Int) < n ∧ ∀ j, j < i → nl p j ≠ nl p i))
instance (p : List Nat) (n : Int) : Decidable (Perm p n) := by unfold Perm; infer_instance
/-- What stands of it at the number i. -/
def PermAt (p : List Nat) (n : Int) (i : Nat) : Prop := (n ≤ (i : Int) → nl p i = 0) ∧ ((i : Int) < n → (nl p i : Int) < n ∧ ∀ j, j < i → nl p j ≠ nl p i)
/-- The numbers met. -/
def Met (p : List Nat) (n : Int) (k : Nat) (s : List Bool) : Prop := s.length = 16 ∧ ∀ x, bl s x = true ↔ ∃ i, i < k ∧ (i : Int) < n ∧ nl p i = x
theorem Met.zero {p : List Nat} {n : Int} : Met p n 0 (List.replicate 16 false) := ⟨by simp, fun x => by rw [bl_rep]; simp⟩
theorem Met.next {p : List Nat} {n : Int} {k : Nat} {s : List Bool} (h : Met p n k s) (hk : (k : Int) < n) (hx : nl p k < 16) : Met p n (k + 1) (s.set (nl p k) true) := ⟨by simp [h.1], fun x => by
  rw [bl_set]
  by_cases e : x = nl p k
  · subst e
    rw [if_pos ⟨rfl, by rw [h.1]; exact hx⟩]
    exact ⟨fun _ => ⟨k, by omega, hk, rfl⟩, fun _ => rfl⟩
  · rw [if_neg (fun h => e h.1), h.2]
    exact ⟨fun ⟨i, h1, h2, h3⟩ => ⟨i, by omega, h2, h3⟩, fun ⟨i, h1, h2, h3⟩ => ⟨i, by
      rcases Nat.lt_or_ge i k with q | q
      · exact q
      · obtain rfl : i = k := by omega
        exact absurd h3.symm e, h2, h3⟩⟩⟩
theorem Met.skip {p : List Nat} {n : Int} {k : Nat} {s : List Bool} (h : Met p n k s) (hk : ¬ (k : Int) < n) : Met p n (k + 1) s := ⟨h.1, fun x => by
  rw [h.2]
  exact ⟨fun ⟨i, h1, h2, h3⟩ => ⟨i, by omega, h2, h3⟩, fun ⟨i, h1, h2, h3⟩ => ⟨i, by
    rcases Nat.lt_or_ge i k with q | q
    · exact q
    · obtain rfl : i = k := by omega
      exact absurd h2 hk, h2, h3⟩⟩⟩

theorem IsPermutation_spec {x : Bool} {p : List Nat} {n : Int} {H : BH} {K : Value → BH → Prop} (hp : By 16 p) (hK : K (.bool (decide (Perm p n))) H) : CallX x F_impl_IsPermutation [PL p, I n] H K := by
  have hlen := hp.len
  refine callP (by simp only [RH]) ?_
  refine CallX_body Γ_impl_IsPermutation ?_
  simp only [A_impl_IsPermutation, T_aiff]
  refine T_rseq fun Kr hKr => ?_
  simp (disch := omega) only [RA, ↓reduceIte, Nat.reduceEqDiff, RD]
  refine hKr _ _ ?_
  clear hKr Kr
  try simp only [RN, reduceIte]
  try refine T_e rfl ?_
  refine T_rseq fun Kr hKr => ?_
  simp (disch := omega) only [RA, ↓reduceIte, Nat.reduceEqDiff, RD]
  refine isSize_spec ?_
  simp (disch := omega) only [RA, ↓reduceIte, Nat.reduceEqDiff, RD]
  refine hKr _ _ ?_
  clear hKr Kr
  try simp only [blkQ, thenQ, loopQ]
  try simp only [RN, reduceIte]
  try refine T_e rfl ?_
  refine T_csplit (p := ¬ (1 ≤ n ∧ n ≤ 16)) (by simp only [RA, ↓reduceIte, Nat.reduceEqDiff] <;> rfl) (by (try simp only [RB]) <;> first | done | exact Iff.rfl | omega | simp) (fun hc => ?_) (fun hc => ?_) <;> (try simp only [RN, reduceIte]) <;> (try refine T_e rfl ?_)
  · refine T_rseq fun Kr hKr => ?_
    simp (disch := omega) only [RA, ↓reduceIte, Nat.reduceEqDiff, RD]
    refine hKr _ _ ?_
    clear hKr Kr
    try simp only [RN, reduceIte]
    try refine T_e rfl ?_
    refine bodyQ_ret (by simp (disch := omega) only [RA, ↓reduceIte, Nat.reduceEqDiff, RD, resAll, resOf]; rfl) GhV.refl ?_
    simp only [tup]
    exact ⟨NN.bool, by simpa [Perm, hc] using hK⟩
  have hc' : 1 ≤ n ∧ n ≤ 16 := by omega
  refine T_rseq fun Kr hKr => ?_
  simp (disch := omega) only [RA, ↓reduceIte, Nat.reduceEqDiff, RD]
  refine hKr _ _ ?_
  clear hKr Kr
  try simp only [RN, reduceIte]
  try refine T_e rfl ?_
  refine T_rseq fun Kr hKr => ?_
  simp (disch := omega) only [RA, ↓reduceIte, Nat.reduceEqDiff, RD]
  refine hKr _ _ ?_
  clear hKr Kr
  try simp only [RN, reduceIte]
  try refine T_e rfl ?_
  refine T_wloop (fun m f H' => ∃ k s, k ≤ 16 ∧ m = 16 - k ∧ Met p n k s ∧ (∀ i, i < k → PermAt p n i) ∧ f 1 = I n ∧ f 5 = P 1 0 ∧ f 12 = PL p ∧ f 13 = I k ∧ H' = [some (p.map N8), some (s.map B)]) (16) ?_ ?_
  · refine ⟨_, _, Gh.refl, 0, List.replicate 16 false, by omega, by omega, Met.zero, by omega, by simp [RA, ↓reduceIte, Nat.reduceEqDiff], by simp [RA, ↓reduceIte, Nat.reduceEqDiff], by simp [RA, ↓reduceIte, Nat.reduceEqDiff], by simp [RA, ↓reduceIte, Nat.reduceEqDiff], by simp [RA, ↓reduceIte, Nat.reduceEqDiff]⟩
  · rintro m f H' R ⟨k, s, hk, rfl, hm, hat, h1, h5, h12, h13, rfl⟩ hN hX hR hE
    simp only [A_impl_IsPermutation.l0, T_aiff]
    refine T_rseq fun Kr hKr => ?_
    simp (disch := omega) only [RA, ↓reduceIte, Nat.reduceEqDiff, RD, h13]
    refine hKr _ _ ?_
    clear hKr Kr
    try simp only [RN, reduceIte]
    try refine T_e rfl ?_
    refine T_csplit (p := k < 16) (by simp only [RA, ↓reduceIte, Nat.reduceEqDiff] <;> rfl) (by (try simp only [RB]) <;> first | done | exact Iff.rfl | omega | simp) (fun hc => ?_) (fun hc => ?_) <;> (try simp only [RN, reduceIte]) <;> (try refine T_e rfl ?_)
    · have hlt := hp.lt k
      have hnext : ∀ f' s', f' 1 = I n → f' 5 = P 1 0 → f' 12 = PL p → f' 13 = I k → Met p n (k + 1) s' → PermAt p n k → T 0 A_impl_IsPermutation.r13 R f' [some (p.map N8), some (s'.map B)] := by
        intro f' s' h1 h5 h12 h13 hm' hat'
        refine T_reg_k fun Kr hKr => ?_
        simp (disch := omega) only [RA, ↓reduceIte, Nat.reduceEqDiff, RD, h13]
        refine hKr _ _ ?_
        clear hKr Kr
        refine hN (16 - (k + 1)) _ _ _ _ (by omega) Gh.refl ⟨k + 1, s', by omega, rfl, hm', fun i hi => ?_, by simp [RA, ↓reduceIte, Nat.reduceEqDiff, h1], by simp [RA, ↓reduceIte, Nat.reduceEqDiff, h5], by simp [RA, ↓reduceIte, Nat.reduceEqDiff, h12], by simp [RA, ↓reduceIte, Nat.reduceEqDiff], rfl⟩
        rcases Nat.lt_or_ge i k with h | h
        · exact hat i h
        · obtain rfl : i = k := by omega
          exact hat'
      refine T_seq (T_block ?_)
      try simp only [RN, reduceIte]
      try refine T_e rfl ?_
      refine T_rseq fun Kr hKr => ?_
      simp (disch := omega) only [RA, ↓reduceIte, Nat.reduceEqDiff, RD, h12, h13, hlen]
      refine hKr _ _ ?_
      clear hKr Kr
      try simp only [RN, reduceIte]
      try refine T_e rfl ?_
      refine T_rseq fun Kr hKr => ?_
      simp (disch := omega) only [RA, ↓reduceIte, Nat.reduceEqDiff, RD, h1]
      refine hKr _ _ ?_
      clear hKr Kr
      try simp only [RN, reduceIte]
      try refine T_e rfl ?_
      refine T_csplit (p := n ≤ k) (by simp only [RA, ↓reduceIte, Nat.reduceEqDiff] <;> rfl) (by (try simp only [RB]) <;> first | done | exact Iff.rfl | omega | simp) (fun hc => ?_) (fun hc => ?_) <;> (try simp only [RN, reduceIte]) <;> (try refine T_e rfl ?_)
      · refine T_rseq fun Kr hKr => ?_
        simp (disch := omega) only [RA, ↓reduceIte, Nat.reduceEqDiff, RD]
        refine hKr _ _ ?_
        clear hKr Kr
        try simp only [RN, reduceIte]
        try refine T_e rfl ?_
        refine T_csplit (p := nl p k ≠ 0) (by simp only [RA, ↓reduceIte, Nat.reduceEqDiff] <;> rfl) (by (try simp only [RB]) <;> first | done | exact Iff.rfl | omega | simp) (fun hc => ?_) (fun hc => ?_) <;> (try simp only [RN, reduceIte]) <;> (try refine T_e rfl ?_)
        · refine T_rseq fun Kr hKr => ?_
          simp (disch := omega) only [RA, ↓reduceIte, Nat.reduceEqDiff, RD]
          refine hKr _ _ ?_
          clear hKr Kr
          try simp only [RN, reduceIte]
          try refine T_e rfl ?_
          refine hR _ _ ?_
          refine bodyQ_ret (by simp (disch := omega) only [RA, ↓reduceIte, Nat.reduceEqDiff, RD, resAll, resOf]; rfl) GhV.refl ?_
          simp only [tup]
          refine ⟨NN.bool, ?_⟩
          have : ¬ Perm p n := fun h => hc ((h.2 k (by omega)).1 (by omega))
          simpa [this] using hK
        · try simp only [RN, reduceIte]
          try refine T_e rfl ?_
          simp only [blkQ, thenQ, loopQ, if_true]
          exact hnext _ s (by simp [RA, ↓reduceIte, Nat.reduceEqDiff, h1]) (by simp [RA, ↓reduceIte, Nat.reduceEqDiff, h5]) (by simp [RA, ↓reduceIte, Nat.reduceEqDiff, h12]) (by simp [RA, ↓reduceIte, Nat.reduceEqDiff, h13]) (hm.skip (by omega)) ⟨fun _ => by omega, fun h => by omega⟩
      · by_cases hb : n ≤ nl p k
        · refine T_rseq fun Kr hKr => ?_
          simp (disch := omega) only [RA, ↓reduceIte, Nat.reduceEqDiff, RD, h1, hb]
          refine hKr _ _ ?_
          clear hKr Kr
          try simp only [RN, reduceIte]
          try refine T_e rfl ?_
          refine T_cseq (t := true) (by simp (disch := omega) only [RA, ↓reduceIte, Nat.reduceEqDiff, RD]) ?_
          try simp only [RN, reduceIte]
          try refine T_e rfl ?_
          refine T_rseq fun Kr hKr => ?_
          simp (disch := omega) only [RA, ↓reduceIte, Nat.reduceEqDiff, RD]
          refine hKr _ _ ?_
          clear hKr Kr
          try simp only [RN, reduceIte]
          try refine T_e rfl ?_
          refine hR _ _ ?_
          refine bodyQ_ret (by simp (disch := omega) only [RA, ↓reduceIte, Nat.reduceEqDiff, RD, resAll, resOf]; rfl) GhV.refl ?_
          simp only [tup]
          refine ⟨NN.bool, ?_⟩
          have : ¬ Perm p n := fun h => by have := ((h.2 k (by omega)).2 (by omega)).1; omega
          simpa [this] using hK
        · have hsl := hm.1
          refine T_rseq fun Kr hKr => ?_
          simp (disch := omega) only [RA, ↓reduceIte, Nat.reduceEqDiff, RD, h1, h5, hb, hsl]
          refine hKr _ _ ?_
          clear hKr Kr
          try simp only [RN, reduceIte]
          try refine T_e rfl ?_
          refine T_csplit (p := bl s (nl p k) = true) (by simp only [RA, ↓reduceIte, Nat.reduceEqDiff] <;> rfl) (by (try simp only [RB]) <;> first | done | exact Iff.rfl | omega | simp) (fun hc => ?_) (fun hc => ?_) <;> (try simp only [RN, reduceIte]) <;> (try refine T_e rfl ?_)
          · refine T_rseq fun Kr hKr => ?_
            simp (disch := omega) only [RA, ↓reduceIte, Nat.reduceEqDiff, RD]
            refine hKr _ _ ?_
            clear hKr Kr
            try simp only [RN, reduceIte]
            try refine T_e rfl ?_
            refine hR _ _ ?_
            refine bodyQ_ret (by simp (disch := omega) only [RA, ↓reduceIte, Nat.reduceEqDiff, RD, resAll, resOf]; rfl) GhV.refl ?_
            simp only [tup]
            refine ⟨NN.bool, ?_⟩
            obtain ⟨i, hi1, hi2, hi3⟩ := (hm.2 _).1 hc
            have : ¬ Perm p n := fun h => ((h.2 k (by omega)).2 (by omega)).2 i hi1 hi3
            simpa [this] using hK
          · refine T_reg_k fun Kr hKr => ?_
            simp (disch := omega) only [RA, ↓reduceIte, Nat.reduceEqDiff, RD, h5, hsl]
            refine hKr _ _ ?_
            clear hKr Kr
            simp only [blkQ, thenQ, loopQ, if_true]
            refine hnext _ (s.set (nl p k) true) (by simp [RA, ↓reduceIte, Nat.reduceEqDiff, h1]) (by simp [RA, ↓reduceIte, Nat.reduceEqDiff, h5]) (by simp [RA, ↓reduceIte, Nat.reduceEqDiff, h12]) (by simp [RA, ↓reduceIte, Nat.reduceEqDiff, h13]) (hm.next (by omega) (by omega)) ⟨fun h => by omega, fun _ => ⟨by omega, fun j hj e => hc ((hm.2 _).2 ⟨j, hj, by omega, e⟩)⟩⟩
    · refine hX _ _ ?_
      refine T_rseq fun Kr hKr => ?_
      simp (disch := omega) only [RA, ↓reduceIte, Nat.reduceEqDiff, RD]
      refine hKr _ _ ?_
      clear hKr Kr
      try simp only [RN, reduceIte]
      try refine T_e rfl ?_
      refine bodyQ_ret (by simp (disch := omega) only [RA, ↓reduceIte, Nat.reduceEqDiff, RD, resAll, resOf]; rfl) GhV.refl ?_
      simp only [tup]
      refine ⟨NN.bool, ?_⟩
      have : Perm p n := ⟨hc', fun i hi => hat i (by omega)⟩
      simpa [this] using hK
end Go.Bm

/- The reference's test of permutations; products and inverses. -/
set_option linter.unusedVariables false
set_option linter.unusedSimpArgs false
namespace Go.Bm
open Go Go.Am

theorem l01Perm_spec {x : Bool} {p : List Nat} {n : Int} {H : BH} {K : Value → BH → Prop} (hp : By 16 p) (hK : K (.bool (decide (Perm p n))) H) : CallX x F_spec_l01Perm [PL p, I n] H K := by
  have hlen := hp.len
  refine callP (by simp only [RH]) ?_
  refine CallX_body Γ_spec_l01Perm ?_
  simp only [A_spec_l01Perm, T_aiff]
  refine T_rseq fun Kr hKr => ?_
  simp (disch := omega) only [RA, ↓reduceIte, Nat.reduceEqDiff, RD]
  refine hKr _ _ ?_
  clear hKr Kr
  try simp only [RN, reduceIte]
  try refine T_e rfl ?_
  refine T_rseq fun Kr hKr => ?_
  simp (disch := omega) only [RA, ↓reduceIte, Nat.reduceEqDiff, RD]
  refine l01In_spec ?_
  simp (disch := omega) only [RA, ↓reduceIte, Nat.reduceEqDiff, RD]
  refine hKr _ _ ?_
  clear hKr Kr
  try simp only [blkQ, thenQ, loopQ]
  try simp only [RN, reduceIte]
  try refine T_e rfl ?_
  refine T_csplit (p := ¬ (1 ≤ n ∧ n ≤ 16)) (by simp only [RA, ↓reduceIte, Nat.reduceEqDiff] <;> rfl) (by (try simp only [RB]) <;> first | done | exact Iff.rfl | omega | simp) (fun hc => ?_) (fun hc => ?_) <;> (try simp only [RN, reduceIte]) <;> (try refine T_e rfl ?_)
  · refine T_rseq fun Kr hKr => ?_
    simp (disch := omega) only [RA, ↓reduceIte, Nat.reduceEqDiff, RD]
    refine hKr _ _ ?_
    clear hKr Kr
    try simp only [RN, reduceIte]
    try refine T_e rfl ?_
    refine bodyQ_ret (by simp (disch := omega) only [RA, ↓reduceIte, Nat.reduceEqDiff, RD, resAll, resOf]; rfl) GhV.refl ?_
    simp only [tup]
    exact ⟨NN.bool, by simpa [Perm, hc] using hK⟩
  have hc' : 1 ≤ n ∧ n ≤ 16 := by omega
  refine T_rseq fun Kr hKr => ?_
  simp (disch := omega) only [RA, ↓reduceIte, Nat.reduceEqDiff, RD]
  refine hKr _ _ ?_
  clear hKr Kr
  try simp only [RN, reduceIte]
  try refine T_e rfl ?_
  refine T_rseq fun Kr hKr => ?_
  simp (disch := omega) only [RA, ↓reduceIte, Nat.reduceEqDiff, RD]
  refine hKr _ _ ?_
  clear hKr Kr
  try simp only [RN, reduceIte]
  try refine T_e rfl ?_
  refine T_wloop (fun m f H' => ∃ k s, k ≤ 16 ∧ m = 16 - k ∧ Met p n k s ∧ (∀ i, i < k → PermAt p n i) ∧ f 1 = I n ∧ f 2 = P 0 0 ∧ f 5 = P 1 0 ∧ f 6 = I k ∧ H' = [some (p.map N8), some (s.map B)]) (16) ?_ ?_
  · refine ⟨_, _, Gh.refl, 0, List.replicate 16 false, by omega, by omega, Met.zero, by omega, by simp [RA, ↓reduceIte, Nat.reduceEqDiff], by simp [RA, ↓reduceIte, Nat.reduceEqDiff], by simp [RA, ↓reduceIte, Nat.reduceEqDiff], by simp [RA, ↓reduceIte, Nat.reduceEqDiff], by simp [RA, ↓reduceIte, Nat.reduceEqDiff]⟩
  · rintro m f H' R ⟨k, s, hk, rfl, hm, hat, h1, h2, h5, h6, rfl⟩ hN hX hR hE
    simp only [A_spec_l01Perm.l0, T_aiff]
    refine T_rseq fun Kr hKr => ?_
    simp (disch := omega) only [RA, ↓reduceIte, Nat.reduceEqDiff, RD, h6]
    refine hKr _ _ ?_
    clear hKr Kr
    try simp only [RN, reduceIte]
    try refine T_e rfl ?_
    refine T_csplit (p := k < 16) (by simp only [RA, ↓reduceIte, Nat.reduceEqDiff] <;> rfl) (by (try simp only [RB]) <;> first | done | exact Iff.rfl | omega | simp) (fun hc => ?_) (fun hc => ?_) <;> (try simp only [RN, reduceIte]) <;> (try refine T_e rfl ?_)
    · have hlt := hp.lt k
      have hsl := hm.1
      have hnext : ∀ f' s', f' 1 = I n → f' 2 = P 0 0 → f' 5 = P 1 0 → f' 6 = I k → Met p n (k + 1) s' → PermAt p n k → T 0 A_spec_l01Perm.r6 R f' [some (p.map N8), some (s'.map B)] := by
        intro f' s' h1 h2 h5 h6 hm' hat'
        refine T_reg_k fun Kr hKr => ?_
        simp (disch := omega) only [RA, ↓reduceIte, Nat.reduceEqDiff, RD, h6]
        refine hKr _ _ ?_
        clear hKr Kr
        refine hN (16 - (k + 1)) _ _ _ _ (by omega) Gh.refl ⟨k + 1, s', by omega, rfl, hm', fun i hi => ?_, by simp [RA, ↓reduceIte, Nat.reduceEqDiff, h1], by simp [RA, ↓reduceIte, Nat.reduceEqDiff, h2], by simp [RA, ↓reduceIte, Nat.reduceEqDiff, h5], by simp [RA, ↓reduceIte, Nat.reduceEqDiff], rfl⟩
        rcases Nat.lt_or_ge i k with h | h
        · exact hat i h
        · obtain rfl : i = k := by omega
          exact hat'
      first | refine T_bfree rfl ?_ | refine T_bfree' rfl ?_
      try simp only [RN, reduceIte]
      try refine T_e rfl ?_
      first | refine T_bfree rfl ?_ | refine T_bfree' rfl ?_
      try simp only [RN, reduceIte]
      try refine T_e rfl ?_
      refine T_rseq fun Kr hKr => ?_
      simp (disch := omega) only [RA, ↓reduceIte, Nat.reduceEqDiff, RD, h1, h6]
      refine hKr _ _ ?_
      clear hKr Kr
      try simp only [RN, reduceIte]
      try refine T_e rfl ?_
      refine T_csplit (p := n ≤ k) (by simp only [RA, ↓reduceIte, Nat.reduceEqDiff] <;> rfl) (by (try simp only [RB]) <;> first | done | exact Iff.rfl | omega | simp) (fun hc => ?_) (fun hc => ?_) <;> (try simp only [RN, reduceIte]) <;> (try refine T_e rfl ?_)
      · refine T_rseq fun Kr hKr => ?_
        simp (disch := omega) only [RA, ↓reduceIte, Nat.reduceEqDiff, RD, h2, h6, hlen]
        refine hKr _ _ ?_
        clear hKr Kr
        try simp only [RN, reduceIte]
        try refine T_e rfl ?_
        refine T_csplit (p := nl p k ≠ 0) (by simp only [RA, ↓reduceIte, Nat.reduceEqDiff] <;> rfl) (by (try simp only [RB]) <;> first | done | exact Iff.rfl | omega | simp) (fun hc => ?_) (fun hc => ?_) <;> (try simp only [RN, reduceIte]) <;> (try refine T_e rfl ?_)
        · refine T_rseq fun Kr hKr => ?_
          simp (disch := omega) only [RA, ↓reduceIte, Nat.reduceEqDiff, RD]
          refine hKr _ _ ?_
          clear hKr Kr
          try simp only [RN, reduceIte]
          try refine T_e rfl ?_
          refine hR _ _ ?_
          refine bodyQ_ret (by simp (disch := omega) only [RA, ↓reduceIte, Nat.reduceEqDiff, RD, resAll, resOf]; rfl) GhV.refl ?_
          simp only [tup]
          refine ⟨NN.bool, ?_⟩
          have : ¬ Perm p n := fun h => hc ((h.2 k (by omega)).1 (by omega))
          simpa [this] using hK
        · try simp only [RN, reduceIte]
          try refine T_e rfl ?_
          exact hnext _ s (by simp [RA, ↓reduceIte, Nat.reduceEqDiff, h1]) (by simp [RA, ↓reduceIte, Nat.reduceEqDiff, h2]) (by simp [RA, ↓reduceIte, Nat.reduceEqDiff, h5]) (by simp [RA, ↓reduceIte, Nat.reduceEqDiff, h6]) (hm.skip (by omega)) ⟨fun _ => by omega, fun h => by omega⟩
      · by_cases hb : n ≤ nl p k
        · refine T_rseq fun Kr hKr => ?_
          simp (disch := omega) only [RA, ↓reduceIte, Nat.reduceEqDiff, RD, h1, h2, h6, hb, hlen]
          refine hKr _ _ ?_
          clear hKr Kr
          try simp only [RN, reduceIte]
          try refine T_e rfl ?_
          refine T_cseq (t := true) (by simp (disch := omega) only [RA, ↓reduceIte, Nat.reduceEqDiff, RD]) ?_
          try simp only [RN, reduceIte]
          try refine T_e rfl ?_
          refine T_rseq fun Kr hKr => ?_
          simp (disch := omega) only [RA, ↓reduceIte, Nat.reduceEqDiff, RD]
          refine hKr _ _ ?_
          clear hKr Kr
          try simp only [RN, reduceIte]
          try refine T_e rfl ?_
          refine hR _ _ ?_
          refine bodyQ_ret (by simp (disch := omega) only [RA, ↓reduceIte, Nat.reduceEqDiff, RD, resAll, resOf]; rfl) GhV.refl ?_
          simp only [tup]
          refine ⟨NN.bool, ?_⟩
          have : ¬ Perm p n := fun h => by have := ((h.2 k (by omega)).2 (by omega)).1; omega
          simpa [this] using hK
        · refine T_rseq fun Kr hKr => ?_
          simp (disch := omega) only [RA, ↓reduceIte, Nat.reduceEqDiff, RD, h1, h2, h5, h6, hb, hsl, hlen]
          refine hKr _ _ ?_
          clear hKr Kr
          try simp only [RN, reduceIte]
          try refine T_e rfl ?_
          refine T_csplit (p := bl s (nl p k) = true) (by simp only [RA, ↓reduceIte, Nat.reduceEqDiff] <;> rfl) (by (try simp only [RB]) <;> first | done | exact Iff.rfl | omega | simp) (fun hc => ?_) (fun hc => ?_) <;> (try simp only [RN, reduceIte]) <;> (try refine T_e rfl ?_)
          · refine T_rseq fun Kr hKr => ?_
            simp (disch := omega) only [RA, ↓reduceIte, Nat.reduceEqDiff, RD]
            refine hKr _ _ ?_
            clear hKr Kr
            try simp only [RN, reduceIte]
            try refine T_e rfl ?_
            refine hR _ _ ?_
            refine bodyQ_ret (by simp (disch := omega) only [RA, ↓reduceIte, Nat.reduceEqDiff, RD, resAll, resOf]; rfl) GhV.refl ?_
            simp only [tup]
            refine ⟨NN.bool, ?_⟩
            obtain ⟨i, hi1, hi2, hi3⟩ := (hm.2 _).1 hc
            have : ¬ Perm p n := fun h => ((h.2 k (by omega)).2 (by omega)).2 i hi1 hi3
            simpa [this] using hK
          · refine T_rseq fun Kr hKr => ?_
            simp (disch := omega) only [RA, ↓reduceIte, Nat.reduceEqDiff, RD, h2, h5, h6, hsl, hlen]
            refine hKr _ _ ?_
            clear hKr Kr
            try simp only [RN, reduceIte]
            try refine T_e rfl ?_
            refine hnext _ (s.set (nl p k) true) (by simp [RA, ↓reduceIte, Nat.reduceEqDiff, h1]) (by simp [RA, ↓reduceIte, Nat.reduceEqDiff, h2]) (by simp [RA, ↓reduceIte, Nat.reduceEqDiff, h5]) (by simp [RA, ↓reduceIte, Nat.reduceEqDiff, h6]) (hm.next (by omega) (by omega)) ⟨fun h => by omega, fun _ => ⟨by omega, fun j hj e => hc ((hm.2 _).2 ⟨j, hj, by omega, e⟩)⟩⟩
    · refine hX _ _ ?_
      refine T_rseq fun Kr hKr => ?_
      simp (disch := omega) only [RA, ↓reduceIte, Nat.reduceEqDiff, RD]
      refine hKr _ _ ?_
      clear hKr Kr
      try simp only [RN, reduceIte]
      try refine T_e rfl ?_
      refine bodyQ_ret (by simp (disch := omega) only [RA, ↓reduceIte, Nat.reduceEqDiff, RD, resAll, resOf]; rfl) GhV.refl ?_
      simp only [tup]
      refine ⟨NN.bool, ?_⟩
      have : Perm p n := ⟨hc', fun i hi => hat i (by omega)⟩
      simpa [this] using hK

theorem Perm.lt {p : List Nat} {n : Nat} (h : Perm p n) {i : Nat} (hi : i < n) : nl p i < n := by have := ((h.2 i (by have := h.1; omega)).2 (by omega)).1; omega
theorem Perm.lt16 {p : List Nat} {n : Nat} (h : Perm p n) (hl : p.length = 16) (i : Nat) : nl p i < 16 := by
  have h1 := h.1
  rcases Nat.lt_or_ge i n with hi | hi
  · have := h.lt hi; omega
  · rcases Nat.lt_or_ge i 16 with h2 | h2
    · rw [(h.2 i h2).1 (by omega)]; omega
    · rw [nl_out (by omega)]; omega

/-- p then q, at the first k numbers. -/
def thenK (p q : List Nat) : Nat → List Nat
  | 0 => List.replicate 16 0
  | k + 1 => (thenK p q k).set k (nl q (nl p k))
/-- The permutation that leads back, of the first k numbers. -/
def backK (p : List Nat) : Nat → List Nat
  | 0 => List.replicate 16 0
  | k + 1 => (backK p k).set (nl p k) k
theorem thenK_len {p q : List Nat} {k : Nat} : (thenK p q k).length = 16 := by
  induction k with
  | zero => simp [thenK]
  | succ k ih => simp [thenK, ih]
theorem backK_len {p : List Nat} {k : Nat} : (backK p k).length = 16 := by
  induction k with
  | zero => simp [backK]
  | succ k ih => simp [backK, ih]
theorem thenK_nl {p q : List Nat} {k i : Nat} (hk : k ≤ 16) : nl (thenK p q k) i = if i < k then nl q (nl p i) else 0 := by
  induction k with
  | zero => simp only [thenK, nl_rep]; split <;> simp
  | succ k ih =>
    simp only [thenK, nl_set, thenK_len]
    rw [ih (by omega)]
    by_cases h : i = k
    · subst h; simp [show i < 16 by omega]
    · simp only [h, false_and, if_false]
      split <;> split <;> first | rfl | omega
theorem thenK_by {p q : List Nat} {k : Nat} (hq : By 16 q) (hk : k ≤ 16) : By 16 (thenK p q k) := ⟨thenK_len, fun i => by rw [thenK_nl hk]; split; exact hq.lt _; omega⟩
theorem backK_by {p : List Nat} {k : Nat} (hk : k ≤ 16) : By 16 (backK p k) := by
  induction k with
  | zero => exact By.rep
  | succ k ih => exact (ih (by omega)).set (by omega)

theorem l01Then_spec {x : Bool} {p q : List Nat} {n : Nat} {H : BH} {K : Value → BH → Prop} (hp : By 16 p) (hq : By 16 q) (hn : n ≤ 16) (hp16 : ∀ i, nl p i < 16) (hK : K (PL (thenK p q n)) H) : CallX x F_spec_l01Then [PL p, PL q, I n] H K := by
  have hlen := hp.len
  have hlen' := hq.len
  refine callP (by simp only [RH]) ?_
  refine CallX_body Γ_spec_l01Then ?_
  simp only [A_spec_l01Then, T_aiff]
  refine T_rseq fun Kr hKr => ?_
  simp (disch := omega) only [RA, ↓reduceIte, Nat.reduceEqDiff, RD]
  refine hKr _ _ ?_
  clear hKr Kr
  try simp only [RN, reduceIte]
  try refine T_e rfl ?_
  refine T_rseq fun Kr hKr => ?_
  simp (disch := omega) only [RA, ↓reduceIte, Nat.reduceEqDiff, RD]
  refine hKr _ _ ?_
  clear hKr Kr
  try simp only [RN, reduceIte]
  try refine T_e rfl ?_
  refine T_rseq fun Kr hKr => ?_
  simp (disch := omega) only [RA, ↓reduceIte, Nat.reduceEqDiff, RD]
  refine hKr _ _ ?_
  clear hKr Kr
  try simp only [RN, reduceIte]
  try refine T_e rfl ?_
  refine T_wloop (fun m f H' => ∃ k, k ≤ n ∧ m = n - k ∧ f 2 = I n ∧ f 3 = P 0 0 ∧ f 4 = P 1 0 ∧ f 6 = P 2 0 ∧ f 7 = P 3 0 ∧ f 8 = I k ∧ H' = [some (p.map N8), some (q.map N8), some (List.replicate 16 (.int .u8 0)), some ((thenK p q k).map N8)]) (n) ?_ ?_
  · refine ⟨_, _, Gh.refl, 0, by omega, by omega, by simp [RA, ↓reduceIte, Nat.reduceEqDiff], by simp [RA, ↓reduceIte, Nat.reduceEqDiff], by simp [RA, ↓reduceIte, Nat.reduceEqDiff], by simp [RA, ↓reduceIte, Nat.reduceEqDiff], by simp [RA, ↓reduceIte, Nat.reduceEqDiff], by simp [RA, ↓reduceIte, Nat.reduceEqDiff], by simp [RA, ↓reduceIte, Nat.reduceEqDiff, thenK]⟩
  · rintro m f H' R ⟨k, hk, rfl, h2, h3, h4, h6, h7, h8, rfl⟩ hN hX hR hE
    simp only [A_spec_l01Then.l0, T_aiff]
    refine T_rseq fun Kr hKr => ?_
    simp (disch := omega) only [RA, ↓reduceIte, Nat.reduceEqDiff, RD, h2, h8]
    refine hKr _ _ ?_
    clear hKr Kr
    try simp only [RN, reduceIte]
    try refine T_e rfl ?_
    refine T_csplit (p := k < n) (by simp only [RA, ↓reduceIte, Nat.reduceEqDiff] <;> rfl) (by (try simp only [RB]) <;> first | done | exact Iff.rfl | omega | simp) (fun hc => ?_) (fun hc => ?_) <;> (try simp only [RN, reduceIte]) <;> (try refine T_e rfl ?_)
    · have hlk := @thenK_len p q k
      have hpk := hp16 k
      first | refine T_bfree rfl ?_ | refine T_bfree' rfl ?_
      try simp only [RN, reduceIte]
      try refine T_e rfl ?_
      refine T_rseq fun Kr hKr => ?_
      simp (disch := omega) only [RA, ↓reduceIte, Nat.reduceEqDiff, RD, h3, h4, h7, h8, hlen, hlen', hlk]
      refine hKr _ _ ?_
      clear hKr Kr
      try simp only [RN, reduceIte]
      try refine T_e rfl ?_
      refine T_reg_k fun Kr hKr => ?_
      simp (disch := omega) only [RA, ↓reduceIte, Nat.reduceEqDiff, RD, h8]
      refine hKr _ _ ?_
      clear hKr Kr
      refine hN (n - (k + 1)) _ _ _ _ (by omega) Gh.refl ⟨k + 1, by omega, rfl, by simp [RA, ↓reduceIte, Nat.reduceEqDiff, h2], by simp [RA, ↓reduceIte, Nat.reduceEqDiff, h3], by simp [RA, ↓reduceIte, Nat.reduceEqDiff, h4], by simp [RA, ↓reduceIte, Nat.reduceEqDiff, h6], by simp [RA, ↓reduceIte, Nat.reduceEqDiff, h7], by simp [RA, ↓reduceIte, Nat.reduceEqDiff], rfl⟩
    · refine hX _ _ ?_
      obtain rfl : k = n := by omega
      have hlk := @thenK_len p q k
      refine T_rseq fun Kr hKr => ?_
      simp (disch := omega) only [RA, ↓reduceIte, Nat.reduceEqDiff, RD, h6, h7, hlk]
      refine hKr _ _ ?_
      clear hKr Kr
      try simp only [RN, reduceIte]
      try refine T_e rfl ?_
      refine bodyQ_ret (by simp (disch := omega) only [RA, ↓reduceIte, Nat.reduceEqDiff, RD, resAll, resOf, h6, hlk]; rfl) GhV.refl ?_
      simp only [tup]
      exact ⟨NN_agg (by (simp only [RH])), hK⟩
theorem then_spec {x : Bool} {p q : List Nat} {n : Nat} {H : BH} {K : Value → BH → Prop} (hp : By 16 p) (hq : By 16 q) (hn : n ≤ 16) (hp16 : ∀ i, nl p i < 16) (hK : K (PL (thenK p q n)) H) : CallX x F_impl_then [PL p, PL q, I n] H K := by
  have hlen := hp.len
  have hlen' := hq.len
  refine callP (by simp only [RH]) ?_
  refine CallX_body Γ_impl_then ?_
  simp only [A_impl_then, T_aiff]
  refine T_rseq fun Kr hKr => ?_
  simp (disch := omega) only [RA, ↓reduceIte, Nat.reduceEqDiff, RD]
  refine hKr _ _ ?_
  clear hKr Kr
  try simp only [RN, reduceIte]
  try refine T_e rfl ?_
  refine T_rseq fun Kr hKr => ?_
  simp (disch := omega) only [RA, ↓reduceIte, Nat.reduceEqDiff, RD]
  refine hKr _ _ ?_
  clear hKr Kr
  try simp only [RN, reduceIte]
  try refine T_e rfl ?_
  refine T_rseq fun Kr hKr => ?_
  simp (disch := omega) only [RA, ↓reduceIte, Nat.reduceEqDiff, RD]
  refine hKr _ _ ?_
  clear hKr Kr
  try simp only [RN, reduceIte]
  try refine T_e rfl ?_
  refine T_wloop (fun m f H' => ∃ k, k ≤ n ∧ m = n - k ∧ f 10 = I n ∧ f 3 = P 0 0 ∧ f 4 = P 1 0 ∧ f 6 = P 2 0 ∧ f 7 = P 3 0 ∧ f 11 = I k ∧ H' = [some (p.map N8), some (q.map N8), some (List.replicate 16 (.int .u8 0)), some ((thenK p q k).map N8)]) (n) ?_ ?_
  · refine ⟨_, _, Gh.refl, 0, by omega, by omega, by simp [RA, ↓reduceIte, Nat.reduceEqDiff], by simp [RA, ↓reduceIte, Nat.reduceEqDiff], by simp [RA, ↓reduceIte, Nat.reduceEqDiff], by simp [RA, ↓reduceIte, Nat.reduceEqDiff], by simp [RA, ↓reduceIte, Nat.reduceEqDiff], by simp [RA, ↓reduceIte, Nat.reduceEqDiff], by simp [RA, ↓reduceIte, Nat.reduceEqDiff, thenK]⟩
  · rintro m f H' R ⟨k, hk, rfl, h2, h3, h4, h6, h7, h8, rfl⟩ hN hX hR hE
    simp only [A_impl_then.l0, T_aiff]
    refine T_rseq fun Kr hKr => ?_
    simp (disch := omega) only [RA, ↓reduceIte, Nat.reduceEqDiff, RD, h2, h8]
    refine hKr _ _ ?_
    clear hKr Kr
    try simp only [RN, reduceIte]
    try refine T_e rfl ?_
    refine T_csplit (p := k < n) (by simp only [RA, ↓reduceIte, Nat.reduceEqDiff] <;> rfl) (by (try simp only [RB]) <;> first | done | exact Iff.rfl | omega | simp) (fun hc => ?_) (fun hc => ?_) <;> (try simp only [RN, reduceIte]) <;> (try refine T_e rfl ?_)
    · have hlk := @thenK_len p q k
      have hpk := hp16 k
      first | refine T_bfree rfl ?_ | refine T_bfree' rfl ?_
      try simp only [RN, reduceIte]
      try refine T_e rfl ?_
      refine T_rseq fun Kr hKr => ?_
      simp (disch := omega) only [RA, ↓reduceIte, Nat.reduceEqDiff, RD, h8]
      refine hKr _ _ ?_
      clear hKr Kr
      try simp only [RN, reduceIte]
      try refine T_e rfl ?_
      refine T_rseq fun Kr hKr => ?_
      simp (disch := omega) only [RA, ↓reduceIte, Nat.reduceEqDiff, RD, h3, h4, h7, h8, hlen, hlen', hlk]
      refine hKr _ _ ?_
      clear hKr Kr
      try simp only [RN, reduceIte]
      try refine T_e rfl ?_
      refine T_reg_k fun Kr hKr => ?_
      simp (disch := omega) only [RA, ↓reduceIte, Nat.reduceEqDiff, RD, h8]
      refine hKr _ _ ?_
      clear hKr Kr
      refine hN (n - (k + 1)) _ _ _ _ (by omega) Gh.refl ⟨k + 1, by omega, rfl, by simp [RA, ↓reduceIte, Nat.reduceEqDiff, h2], by simp [RA, ↓reduceIte, Nat.reduceEqDiff, h3], by simp [RA, ↓reduceIte, Nat.reduceEqDiff, h4], by simp [RA, ↓reduceIte, Nat.reduceEqDiff, h6], by simp [RA, ↓reduceIte, Nat.reduceEqDiff, h7], by simp [RA, ↓reduceIte, Nat.reduceEqDiff], rfl⟩
    · refine hX _ _ ?_
      obtain rfl : k = n := by omega
      have hlk := @thenK_len p q k
      refine T_rseq fun Kr hKr => ?_
      simp (disch := omega) only [RA, ↓reduceIte, Nat.reduceEqDiff, RD, h6, h7, hlk]
      refine hKr _ _ ?_
      clear hKr Kr
      try simp only [RN, reduceIte]
      try refine T_e rfl ?_
      refine bodyQ_ret (by simp (disch := omega) only [RA, ↓reduceIte, Nat.reduceEqDiff, RD, resAll, resOf, h6, hlk]; rfl) GhV.refl ?_
      simp only [tup]
      exact ⟨NN_agg (by (simp only [RH])), hK⟩
theorem l01Back_spec {x : Bool} {p : List Nat} {n : Nat} {H : BH} {K : Value → BH → Prop} (hp : By 16 p) (hn : n ≤ 16) (hp16 : ∀ i, nl p i < 16) (hK : K (PL (backK p n)) H) : CallX x F_spec_l01Back [PL p, I n] H K := by
  have hlen := hp.len
  refine callP (by simp only [RH]) ?_
  refine CallX_body Γ_spec_l01Back ?_
  simp only [A_spec_l01Back, T_aiff]
  refine T_rseq fun Kr hKr => ?_
  simp (disch := omega) only [RA, ↓reduceIte, Nat.reduceEqDiff, RD]
  refine hKr _ _ ?_
  clear hKr Kr
  try simp only [RN, reduceIte]
  try refine T_e rfl ?_
  refine T_rseq fun Kr hKr => ?_
  simp (disch := omega) only [RA, ↓reduceIte, Nat.reduceEqDiff, RD]
  refine hKr _ _ ?_
  clear hKr Kr
  try simp only [RN, reduceIte]
  try refine T_e rfl ?_
  refine T_rseq fun Kr hKr => ?_
  simp (disch := omega) only [RA, ↓reduceIte, Nat.reduceEqDiff, RD]
  refine hKr _ _ ?_
  clear hKr Kr
  try simp only [RN, reduceIte]
  try refine T_e rfl ?_
  refine T_wloop (fun m f H' => ∃ k, k ≤ n ∧ m = n - k ∧ f 1 = I n ∧ f 2 = P 0 0 ∧ f 4 = P 1 0 ∧ f 5 = P 2 0 ∧ f 6 = I k ∧ H' = [some (p.map N8), some (List.replicate 16 (.int .u8 0)), some ((backK p k).map N8)]) (n) ?_ ?_
  · refine ⟨_, _, Gh.refl, 0, by omega, by omega, by simp [RA, ↓reduceIte, Nat.reduceEqDiff], by simp [RA, ↓reduceIte, Nat.reduceEqDiff], by simp [RA, ↓reduceIte, Nat.reduceEqDiff], by simp [RA, ↓reduceIte, Nat.reduceEqDiff], by simp [RA, ↓reduceIte, Nat.reduceEqDiff], by simp [RA, ↓reduceIte, Nat.reduceEqDiff, backK]⟩
  · rintro m f H' R ⟨k, hk, rfl, h1, h2, h4, h5, h6, rfl⟩ hN hX hR hE
    simp only [A_spec_l01Back.l0, T_aiff]
    refine T_rseq fun Kr hKr => ?_
    simp (disch := omega) only [RA, ↓reduceIte, Nat.reduceEqDiff, RD, h1, h6]
    refine hKr _ _ ?_
    clear hKr Kr
    try simp only [RN, reduceIte]
    try refine T_e rfl ?_
    refine T_csplit (p := k < n) (by simp only [RA, ↓reduceIte, Nat.reduceEqDiff] <;> rfl) (by (try simp only [RB]) <;> first | done | exact Iff.rfl | omega | simp) (fun hc => ?_) (fun hc => ?_) <;> (try simp only [RN, reduceIte]) <;> (try refine T_e rfl ?_)
    · have hlk := @backK_len p k
      have hpk := hp16 k
      first | refine T_bfree rfl ?_ | refine T_bfree' rfl ?_
      try simp only [RN, reduceIte]
      try refine T_e rfl ?_
      refine T_rseq fun Kr hKr => ?_
      simp (disch := omega) only [RA, ↓reduceIte, Nat.reduceEqDiff, RD, h2, h4, h5, h6, hlen, hlk]
      refine hKr _ _ ?_
      clear hKr Kr
      try simp only [RN, reduceIte]
      try refine T_e rfl ?_
      refine T_reg_k fun Kr hKr => ?_
      simp (disch := omega) only [RA, ↓reduceIte, Nat.reduceEqDiff, RD, h6]
      refine hKr _ _ ?_
      clear hKr Kr
      refine hN (n - (k + 1)) _ _ _ _ (by omega) Gh.refl ⟨k + 1, by omega, rfl, by simp [RA, ↓reduceIte, Nat.reduceEqDiff, h1], by simp [RA, ↓reduceIte, Nat.reduceEqDiff, h2], by simp [RA, ↓reduceIte, Nat.reduceEqDiff, h4], by simp [RA, ↓reduceIte, Nat.reduceEqDiff, h5], by simp [RA, ↓reduceIte, Nat.reduceEqDiff], rfl⟩
    · refine hX _ _ ?_
      obtain rfl : k = n := by omega
      have hlk := @backK_len p k
      refine T_rseq fun Kr hKr => ?_
      simp (disch := omega) only [RA, ↓reduceIte, Nat.reduceEqDiff, RD, h4, h5, hlk]
      refine hKr _ _ ?_
      clear hKr Kr
      try simp only [RN, reduceIte]
      try refine T_e rfl ?_
      refine bodyQ_ret (by simp (disch := omega) only [RA, ↓reduceIte, Nat.reduceEqDiff, RD, resAll, resOf, h4, hlk]; rfl) GhV.refl ?_
      simp only [tup]
      exact ⟨NN_agg (by (simp only [RH])), hK⟩
theorem back_spec {x : Bool} {p : List Nat} {n : Nat} {H : BH} {K : Value → BH → Prop} (hp : By 16 p) (hn : n ≤ 16) (hp16 : ∀ i, nl p i < 16) (hK : K (PL (backK p n)) H) : CallX x F_impl_back [PL p, I n] H K := by
  have hlen := hp.len
  refine callP (by simp only [RH]) ?_
  refine CallX_body Γ_impl_back ?_
  simp only [A_impl_back, T_aiff]
  refine T_rseq fun Kr hKr => ?_
  simp (disch := omega) only [RA, ↓reduceIte, Nat.reduceEqDiff, RD]
  refine hKr _ _ ?_
  clear hKr Kr
  try simp only [RN, reduceIte]
  try refine T_e rfl ?_
  refine T_rseq fun Kr hKr => ?_
  simp (disch := omega) only [RA, ↓reduceIte, Nat.reduceEqDiff, RD]
  refine hKr _ _ ?_
  clear hKr Kr
  try simp only [RN, reduceIte]
  try refine T_e rfl ?_
  refine T_rseq fun Kr hKr => ?_
  simp (disch := omega) only [RA, ↓reduceIte, Nat.reduceEqDiff, RD]
  refine hKr _ _ ?_
  clear hKr Kr
  try simp only [RN, reduceIte]
  try refine T_e rfl ?_
  refine T_wloop (fun m f H' => ∃ k, k ≤ n ∧ m = n - k ∧ f 8 = I n ∧ f 2 = P 0 0 ∧ f 4 = P 1 0 ∧ f 5 = P 2 0 ∧ f 9 = I k ∧ H' = [some (p.map N8), some (List.replicate 16 (.int .u8 0)), some ((backK p k).map N8)]) (n) ?_ ?_
  · refine ⟨_, _, Gh.refl, 0, by omega, by omega, by simp [RA, ↓reduceIte, Nat.reduceEqDiff], by simp [RA, ↓reduceIte, Nat.reduceEqDiff], by simp [RA, ↓reduceIte, Nat.reduceEqDiff], by simp [RA, ↓reduceIte, Nat.reduceEqDiff], by simp [RA, ↓reduceIte, Nat.reduceEqDiff], by simp [RA, ↓reduceIte, Nat.reduceEqDiff, backK]⟩
  · rintro m f H' R ⟨k, hk, rfl, h1, h2, h4, h5, h6, rfl⟩ hN hX hR hE
    simp only [A_impl_back.l0, T_aiff]
    refine T_rseq fun Kr hKr => ?_
    simp (disch := omega) only [RA, ↓reduceIte, Nat.reduceEqDiff, RD, h1, h6]
    refine hKr _ _ ?_
    clear hKr Kr
    try simp only [RN, reduceIte]
    try refine T_e rfl ?_
    refine T_csplit (p := k < n) (by simp only [RA, ↓reduceIte, Nat.reduceEqDiff] <;> rfl) (by (try simp only [RB]) <;> first | done | exact Iff.rfl | omega | simp) (fun hc => ?_) (fun hc => ?_) <;> (try simp only [RN, reduceIte]) <;> (try refine T_e rfl ?_)
    · have hlk := @backK_len p k
      have hpk := hp16 k
      first | refine T_bfree rfl ?_ | refine T_bfree' rfl ?_
      try simp only [RN, reduceIte]
      try refine T_e rfl ?_
      refine T_rseq fun Kr hKr => ?_
      simp (disch := omega) only [RA, ↓reduceIte, Nat.reduceEqDiff, RD, h6]
      refine hKr _ _ ?_
      clear hKr Kr
      try simp only [RN, reduceIte]
      try refine T_e rfl ?_
      refine T_rseq fun Kr hKr => ?_
      simp (disch := omega) only [RA, ↓reduceIte, Nat.reduceEqDiff, RD, h2, h4, h5, h6, hlen, hlk]
      refine hKr _ _ ?_
      clear hKr Kr
      try simp only [RN, reduceIte]
      try refine T_e rfl ?_
      refine T_reg_k fun Kr hKr => ?_
      simp (disch := omega) only [RA, ↓reduceIte, Nat.reduceEqDiff, RD, h6]
      refine hKr _ _ ?_
      clear hKr Kr
      refine hN (n - (k + 1)) _ _ _ _ (by omega) Gh.refl ⟨k + 1, by omega, rfl, by simp [RA, ↓reduceIte, Nat.reduceEqDiff, h1], by simp [RA, ↓reduceIte, Nat.reduceEqDiff, h2], by simp [RA, ↓reduceIte, Nat.reduceEqDiff, h4], by simp [RA, ↓reduceIte, Nat.reduceEqDiff, h5], by simp [RA, ↓reduceIte, Nat.reduceEqDiff], rfl⟩
    · refine hX _ _ ?_
      obtain rfl : k = n := by omega
      have hlk := @backK_len p k
      refine T_rseq fun Kr hKr => ?_
      simp (disch := omega) only [RA, ↓reduceIte, Nat.reduceEqDiff, RD, h4, h5, hlk]
      refine hKr _ _ ?_
      clear hKr Kr
      try simp only [RN, reduceIte]
      try refine T_e rfl ?_
      refine bodyQ_ret (by simp (disch := omega) only [RA, ↓reduceIte, Nat.reduceEqDiff, RD, resAll, resOf, h4, hlk]; rfl) GhV.refl ?_
      simp only [tup]
      exact ⟨NN_agg (by (simp only [RH])), hK⟩

/-! ### Dessins -/
abbrev DC (n : Int) (b w : List Nat) : List Value := I n :: (b.map N8 ++ w.map N8)
abbrev DV (n : Int) (b w : List Nat) : Value := aggL (DC n b w)
theorem getN_D {n : Int} {b w : List Nat} : getN none (DC n b w) 0 = some (I n) := rfl
theorem getN_bk {n : Int} {b w : List Nat} (hb : b.length = 16) : getN (some 16) (DC n b w) 1 = some (PL b) := by
  rw [getN_agg (by simp [hb])]
  simp [List.take_append_of_le_length, hb]
theorem getN_wh {n : Int} {b w : List Nat} (hb : b.length = 16) (hw : w.length = 16) : getN (some 16) (DC n b w) 17 = some (PL w) := by
  rw [getN_agg (by simp [hb, hw])]
  simp [List.drop_append, hb, hw]
  rw [List.take_of_length_le (by simp [hw])]
theorem getN_all {n : Nat} {cs : List Value} (h : cs.length = n) : getN (some n) cs 0 = some (aggL cs) := by
  rw [getN_agg (by omega), List.drop_zero, List.take_of_length_le (by omega)]
theorem getN_DV {n : Int} {b w : List Nat} (hb : b.length = 16) (hw : w.length = 16) : getN (some 33) (DC n b w) 0 = some (DV n b w) := getN_all (by simp [hb, hw])
def faceP (b w : List Nat) (n : Nat) : List Nat := backK (thenK b w n) n
theorem thenK_16 {p q : List Nat} {k i : Nat} (hq : ∀ i, nl q i < 16) (hk : k ≤ 16) : nl (thenK p q k) i < 16 := by rw [thenK_nl hk]; split; exact hq _; omega
theorem l01Face_spec {x : Bool} {b w : List Nat} {n : Nat} {H : BH} {K : Value → BH → Prop} (hb : By 16 b) (hw : By 16 w) (hn : n ≤ 16) (hb16 : ∀ i, nl b i < 16) (hw16 : ∀ i, nl w i < 16) (hK : K (PL (faceP b w n)) H) : CallX x F_spec_l01Face [DV n b w] H K := by
  have hlb := hb.len
  have hlw := hw.len
  refine callP (by simp only [RH]) ?_
  refine CallX_body Γ_spec_l01Face ?_
  simp only [A_spec_l01Face, T_aiff]
  refine T_rseq fun Kr hKr => ?_
  simp (disch := omega) only [RA, ↓reduceIte, Nat.reduceEqDiff, RD]
  refine hKr _ _ ?_
  clear hKr Kr
  try simp only [RN, reduceIte]
  try refine T_e rfl ?_
  refine T_rseq fun Kr hKr => ?_
  simp (disch := omega) only [RA, ↓reduceIte, Nat.reduceEqDiff, RD, getN_D, getN_bk, getN_wh]
  refine l01Then_spec hb hw hn hb16 ?_
  simp (disch := omega) only [RA, ↓reduceIte, Nat.reduceEqDiff, RD, getN_D]
  refine l01Back_spec (thenK_by hw hn) hn (fun i => thenK_16 hw16 hn) ?_
  have hl := @backK_len (thenK b w n) n
  simp (disch := omega) only [RA, ↓reduceIte, Nat.reduceEqDiff, RD]
  refine hKr _ _ ?_
  clear hKr Kr
  try simp only [blkQ, thenQ, loopQ]
  try simp only [RN, reduceIte]
  try refine T_e rfl ?_
  refine bodyQ_ret (by simp (disch := omega) only [RA, ↓reduceIte, Nat.reduceEqDiff, RD, resAll, resOf, hl]; rfl) GhV.refl ?_
  simp only [tup]
  exact ⟨NN_agg (by (simp only [RH])), hK⟩
theorem face_spec {x : Bool} {b w : List Nat} {n : Nat} {H : BH} {K : Value → BH → Prop} (hb : By 16 b) (hw : By 16 w) (hn : n ≤ 16) (hb16 : ∀ i, nl b i < 16) (hw16 : ∀ i, nl w i < 16) (hK : K (PL (faceP b w n)) H) : CallX x F_impl_face [DV n b w] H K := by
  have hlb := hb.len
  have hlw := hw.len
  refine callP (by simp only [RH]) ?_
  refine CallX_body Γ_impl_face ?_
  simp only [A_impl_face, T_aiff]
  refine T_rseq fun Kr hKr => ?_
  simp (disch := omega) only [RA, ↓reduceIte, Nat.reduceEqDiff, RD]
  refine hKr _ _ ?_
  clear hKr Kr
  try simp only [RN, reduceIte]
  try refine T_e rfl ?_
  refine T_rseq fun Kr hKr => ?_
  simp (disch := omega) only [RA, ↓reduceIte, Nat.reduceEqDiff, RD, getN_D, getN_bk, getN_wh]
  refine then_spec hb hw hn hb16 ?_
  simp (disch := omega) only [RA, ↓reduceIte, Nat.reduceEqDiff, RD, getN_D]
  refine back_spec (thenK_by hw hn) hn (fun i => thenK_16 hw16 hn) ?_
  have hl := @backK_len (thenK b w n) n
  simp (disch := omega) only [RA, ↓reduceIte, Nat.reduceEqDiff, RD]
  refine hKr _ _ ?_
  clear hKr Kr
  try simp only [blkQ, thenQ, loopQ]
  try simp only [RN, reduceIte]
  try refine T_e rfl ?_
  refine bodyQ_ret (by simp (disch := omega) only [RA, ↓reduceIte, Nat.reduceEqDiff, RD, resAll, resOf, hl]; rfl) GhV.refl ?_
  simp only [tup]
  exact ⟨NN_agg (by (simp only [RH])), hK⟩
end Go.Bm

/- What is reached by steps. -/
set_option linter.unusedVariables false
set_option linter.unusedSimpArgs false
namespace Go.Bm
open Go Go.Am

abbrev BS := List Bool × List Nat
def visit (st : BS) (y : Nat) : BS := if bl st.1 y = true then st else (st.1.set y true, st.2 ++ [y])
def roundX (ls : List (List Nat)) (x : Nat) (st : BS) : BS := ls.foldl (fun st p => visit st (nl p x)) st
def bfs (ls : List (List Nat)) (st : BS) : Nat → BS
  | 0 => st
  | i + 1 => if i < (bfs ls st i).2.length then roundX ls (nl (bfs ls st i).2 i) (bfs ls st i) else bfs ls st i
structure Bi (m : Nat) (st : BS) : Prop where
  len : st.1.length = m
  lt : ∀ i, i < st.2.length → nl st.2 i < m
  cnt : st.2.length ≤ st.1.count true
theorem Bi.le {m : Nat} {st : BS} (h : Bi m st) : st.2.length ≤ m := by
  have := List.count_le_length (a := true) (l := st.1)
  have := h.cnt
  have := h.len
  omega
theorem nl_append {p q : List Nat} {i : Nat} : nl (p ++ q) i = if i < p.length then nl p i else nl q (i - p.length) := by
  unfold nl
  simp only [List.getD]
  split
  · rename_i h; rw [List.getElem?_append_left h]
  · rename_i h; rw [List.getElem?_append_right (by omega)]
theorem nl_single {y : Nat} {i : Nat} (h : i < 1) : nl [y] i = y := by
  obtain rfl : i = 0 := by omega
  rfl
theorem count_set_true {s : List Bool} {y : Nat} (hy : y < s.length) (h : bl s y = false) : (s.set y true).count true = s.count true + 1 := by
  rw [List.count_set hy]
  have : s[y] = false := by simpa [bl, List.getD, hy] using h
  simp [this]
theorem Bi.visit {m : Nat} {st : BS} (h : Bi m st) {y : Nat} (hy : y < m) : Bi m (visit st y) := by
  unfold Bm.visit
  split
  · exact h
  · rename_i hb
    refine ⟨by simp [h.len], fun i hi => ?_, ?_⟩
    · simp only [List.length_append, List.length_singleton] at hi
      simp only [nl_append]
      split
      · exact h.lt i (by assumption)
      · rw [nl_single (by omega)]; exact hy
    · simp only [List.length_append, List.length_singleton]
      rw [count_set_true (by rw [h.len]; exact hy) (by simpa using hb)]
      have := h.cnt
      omega
theorem Bi.round {m : Nat} {x : Nat} : ∀ {ls : List (List Nat)} {st : BS}, Bi m st → (∀ p ∈ ls, nl p x < m) → Bi m (roundX ls x st)
  | [], st, h, _ => h
  | p :: ls, st, h, hp => Bi.round (ls := ls) (h.visit (hp p (by simp))) fun q hq => hp q (by simp [hq])
theorem Bi.bfs {m : Nat} {ls : List (List Nat)} {st : BS} (h : Bi m st) (hp : ∀ p ∈ ls, ∀ i, nl p i < m) : ∀ i, Bi m (bfs ls st i)
  | 0 => h
  | i + 1 => by
    simp only [Bm.bfs]
    split
    · exact (Bi.bfs h hp i).round fun p hq => hp p hq _
    · exact Bi.bfs h hp i
theorem visit_pre {st : BS} {y : Nat} : ∃ q, (visit st y).2 = st.2 ++ q := by
  unfold visit
  split
  · exact ⟨[], by simp⟩
  · exact ⟨[y], rfl⟩
theorem round_pre {x : Nat} : ∀ {ls : List (List Nat)} {st : BS}, ∃ q, (roundX ls x st).2 = st.2 ++ q
  | [], st => ⟨[], by simp [roundX]⟩
  | p :: ls, st => by
    obtain ⟨q, hq⟩ := @visit_pre st (nl p x)
    obtain ⟨q', hq'⟩ := round_pre (x := x) (ls := ls) (st := visit st (nl p x))
    exact ⟨q ++ q', by show (roundX ls x (visit st (nl p x))).2 = _; rw [hq', hq, List.append_assoc]⟩
theorem bfs_stop {ls : List (List Nat)} {st : BS} {i : Nat} (h : (bfs ls st i).2.length ≤ i) : ∀ j, i ≤ j → bfs ls st j = bfs ls st i
  | 0, hj => by
    obtain rfl : i = 0 := by omega
    rfl
  | j + 1, hj => by
    rcases Nat.lt_or_ge j i with h1 | h1
    · obtain rfl : i = j + 1 := by omega
      rfl
    · have ih := bfs_stop h j h1
      simp only [bfs]
      rw [ih, if_neg (by omega)]
theorem round_take {ls : List (List Nat)} {x j : Nat} {st : BS} (h : j < ls.length) : roundX (ls.take (j + 1)) x st = visit (roundX (ls.take j) x st) (nl (ls.getD j []) x) := by
  have : ls.take (j + 1) = ls.take j ++ [ls.getD j []] := by
    rw [List.take_add_one]
    simp [List.getD, h]
  rw [this]
  simp [roundX, List.foldl_append]
def st0 (m : Nat) : BS := ((List.replicate m false).set 0 true, [0])
theorem Bi.st0 {m : Nat} (hm : 0 < m) : Bi m (st0 m) := ⟨by simp [Bm.st0], fun i hi => by rw [show (Bm.st0 m).2 = [0] from rfl, nl_single (by simpa [Bm.st0] using hi)]; exact hm, by
  show 1 ≤ _
  have : ((List.replicate m false).set 0 true).count true = (List.replicate m false).count true + 1 := count_set_true (by simpa using hm) bl_rep
  show 1 ≤ ((List.replicate m false).set 0 true).count true
  omega⟩
/-- The numbers that are reached from 0 by two permutations. -/
def reach (b w : List Nat) : BS := bfs [b, w] (st0 16) 16

theorem l01Connected_spec {x : Bool} {b w : List Nat} {n : Int} {H : BH} {K : Value → BH → Prop} (hb : By 16 b) (hw : By 16 w) (hb16 : ∀ i, nl b i < 16) (hw16 : ∀ i, nl w i < 16)
    (hK : K (.bool (decide (((reach b w).2.length : Int) = n))) H) : CallX x F_spec_l01Connected [I n, PL b, PL w] H K := by
  have hlb := hb.len
  have hlw := hw.len
  have hall : ∀ p ∈ [b, w], ∀ i, nl p i < 16 := by simp; exact ⟨hb16, hw16⟩
  refine callP (by simp only [RH]) ?_
  refine CallX_body Γ_spec_l01Connected ?_
  simp only [A_spec_l01Connected, T_aiff]
  refine T_rseq fun Kr hKr => ?_
  simp (disch := omega) only [RA, ↓reduceIte, Nat.reduceEqDiff, Nat.reduceBEq, Nat.reduceSub, Nat.reduceAdd, Nat.reduceMul, Nat.reduceLT, Nat.reduceLeDiff, Int.reduceLE, Int.reduceLT, Int.reduceEq, Int.reduceNeg, Int.reduceToNat, Int.reduceMul, Int.reduceAdd, Int.reduceSub, Int.reduceBEq, Int.reduceBNe, reduceCtorEq, RD]
  refine hKr _ _ ?_
  clear hKr Kr
  try simp only [RN, reduceIte]
  try refine T_e rfl ?_
  refine T_rseq fun Kr hKr => ?_
  simp (disch := omega) only [RA, ↓reduceIte, Nat.reduceEqDiff, Nat.reduceBEq, Nat.reduceSub, Nat.reduceAdd, Nat.reduceMul, Nat.reduceLT, Nat.reduceLeDiff, Int.reduceLE, Int.reduceLT, Int.reduceEq, Int.reduceNeg, Int.reduceToNat, Int.reduceMul, Int.reduceAdd, Int.reduceSub, Int.reduceBEq, Int.reduceBNe, reduceCtorEq, RD]
  refine hKr _ _ ?_
  clear hKr Kr
  try simp only [RN, reduceIte]
  try refine T_e rfl ?_
  refine T_rseq fun Kr hKr => ?_
  simp (disch := omega) only [RA, ↓reduceIte, Nat.reduceEqDiff, RD, repB]
  refine hKr _ _ ?_
  clear hKr Kr
  try simp only [RN, reduceIte]
  try refine T_e rfl ?_
  refine T_rseq fun Kr hKr => ?_
  simp (disch := omega) only [RA, ↓reduceIte, Nat.reduceEqDiff, Nat.reduceBEq, Nat.reduceSub, Nat.reduceAdd, Nat.reduceMul, Nat.reduceLT, Nat.reduceLeDiff, Int.reduceLE, Int.reduceLT, Int.reduceEq, Int.reduceNeg, Int.reduceToNat, Int.reduceMul, Int.reduceAdd, Int.reduceSub, Int.reduceBEq, Int.reduceBNe, reduceCtorEq, RD]
  refine hKr _ _ ?_
  clear hKr Kr
  try simp only [RN, reduceIte]
  try refine T_e rfl ?_
  refine T_wloop (fun m f H' => ∃ i, i ≤ 16 ∧ m = 16 - i ∧ i ≤ (bfs [b, w] (st0 16) i).2.length ∧ f 0 = I n ∧ f 4 = P 0 0 ∧ f 5 = P 1 0 ∧ f 7 = P 3 0 ∧ f 8 = S 2 0 (bfs [b, w] (st0 16) i).2.length 1 ∧ f 9 = I i ∧ H' = [some (b.map N8), some (w.map N8), some ((bfs [b, w] (st0 16) i).2.map N8), some ((bfs [b, w] (st0 16) i).1.map B)]) (16) ?_ ?_
  · refine ⟨_, _, Gh.refl, 0, by omega, by omega, by omega, ?_, ?_, ?_, ?_, ?_, ?_, ?_⟩
    any_goals (simp (disch := omega) only [RA, ↓reduceIte, Nat.reduceEqDiff, Nat.reduceAdd, Nat.reduceMul, Int.reduceToNat, Nat.reduceLT, reduceCtorEq, RD, RE, *] <;> rfl)
    simp [bfs, st0] <;> rfl
  · rintro m f H' R ⟨i, hi, rfl, hil, h0, h4, h5, h7, h8, h9, rfl⟩ hN hX hR hE
    simp only [A_spec_l01Connected.l1, T_aiff]
    have hB := (Bi.st0 (m := 16) (by omega)).bfs hall i
    generalize hst : bfs [b, w] (st0 16) i = st at hil h8 hB
    have hle := hB.le
    have hsl := hB.len
    refine T_rseq fun Kr hKr => ?_
    simp (disch := omega) only [RA, ↓reduceIte, Nat.reduceEqDiff, Nat.reduceBEq, Nat.reduceSub, Nat.reduceAdd, Nat.reduceMul, Nat.reduceLT, Nat.reduceLeDiff, Int.reduceLE, Int.reduceLT, Int.reduceEq, Int.reduceNeg, Int.reduceToNat, Int.reduceMul, Int.reduceAdd, Int.reduceSub, Int.reduceBEq, Int.reduceBNe, reduceCtorEq, RD, h8, h9]
    refine hKr _ _ ?_
    clear hKr Kr
    try simp only [RN, reduceIte]
    try refine T_e rfl ?_
    refine T_csplit (p := i < st.2.length) (by simp only [RA, ↓reduceIte, Nat.reduceEqDiff, Nat.reduceBEq, Nat.reduceSub, Nat.reduceAdd, Nat.reduceMul, Nat.reduceLT, Nat.reduceLeDiff, Int.reduceLE, Int.reduceLT, Int.reduceEq, Int.reduceNeg, Int.reduceToNat, Int.reduceMul, Int.reduceAdd, Int.reduceSub, Int.reduceBEq, Int.reduceBNe, reduceCtorEq] <;> rfl) (by (try simp only [RB]) <;> first | done | exact Iff.rfl | omega | simp) (fun hc => ?_) (fun hc => ?_) <;> (try simp only [RN, reduceIte]) <;> (try refine T_e rfl ?_)
    · have hx := hB.lt i hc
      first | refine T_bfree rfl ?_ | refine T_bfree' rfl ?_
      try simp only [RN, reduceIte]
      try refine T_e rfl ?_
      refine T_rseq fun Kr hKr => ?_
      simp (disch := omega) only [RA, ↓reduceIte, Nat.reduceEqDiff, Nat.reduceBEq, Nat.reduceSub, Nat.reduceAdd, Nat.reduceMul, Nat.reduceLT, Nat.reduceLeDiff, Int.reduceLE, Int.reduceLT, Int.reduceEq, Int.reduceNeg, Int.reduceToNat, Int.reduceMul, Int.reduceAdd, Int.reduceSub, Int.reduceBEq, Int.reduceBNe, reduceCtorEq, RD, h4, h5, h8, h9, hlb, hlw]
      refine hKr _ _ ?_
      clear hKr Kr
      try simp only [RN, reduceIte]
      try refine T_e rfl ?_
      obtain ⟨nx, hnxe⟩ : ∃ nx, nx = [nl b (nl st.2 i), nl w (nl st.2 i)] := ⟨_, rfl⟩
      have hnxl : nx.length = 2 := by rw [hnxe]; rfl
      refine T_rseq fun Kr hKr => ?_
      simp (disch := omega) only [RA, ↓reduceIte, Nat.reduceEqDiff, Nat.reduceBEq, Nat.reduceSub, Nat.reduceAdd, Nat.reduceMul, Nat.reduceLT, Nat.reduceLeDiff, Int.reduceLE, Int.reduceLT, Int.reduceEq, Int.reduceNeg, Int.reduceToNat, Int.reduceMul, Int.reduceAdd, Int.reduceSub, Int.reduceBEq, Int.reduceBNe, reduceCtorEq, RD]
      refine hKr _ _ ?_
      clear hKr Kr
      try simp only [RN, reduceIte]
      try refine T_e rfl ?_
      refine T_wloop (fun m f H' => ∃ j st', j ≤ 2 ∧ m = 2 - j ∧ st' = roundX ([b, w].take j) (nl st.2 i) st ∧ f 0 = I n ∧ f 4 = P 0 0 ∧ f 5 = P 1 0 ∧ f 7 = P 3 0 ∧ f 8 = S 2 0 st'.2.length 1 ∧ f 9 = I i ∧ f 10 = S 4 0 2 1 ∧ f 11 = I j ∧ H' = [some (b.map N8), some (w.map N8), some (st'.2.map N8), some (st'.1.map B), some (nx.map N8)]) (2) ?_ ?_
      · refine ⟨_, _, Gh.refl, 0, st, by omega, by omega, rfl, ?_, ?_, ?_, ?_, ?_, ?_, ?_, ?_, by rw [hnxe]; rfl⟩
        any_goals (simp (disch := omega) only [RA, ↓reduceIte, Nat.reduceEqDiff, RD, RE, *] <;> rfl)
      · clear h0 h4 h5 h7 h8 h9
        rintro m f H' R2 ⟨j, st', hj, rfl, hst', h0, h4, h5, h7, h8, h9, h10, h11, rfl⟩ hN2 hX2 hR2 hE2
        simp only [A_spec_l01Connected.l0, T_aiff]
        refine T_rseq fun Kr hKr => ?_
        simp (disch := omega) only [RA, ↓reduceIte, Nat.reduceEqDiff, RD, h11]
        refine hKr _ _ ?_
        clear hKr Kr
        try simp only [RN, reduceIte]
        try refine T_e rfl ?_
        have hB' : Bi 16 st' := by rw [hst']; exact hB.round fun p hp => hall p (List.mem_of_mem_take hp) _
        have hle' := hB'.le
        have hsl' := hB'.len
        refine T_csplit (p := j < 2) (by simp only [RA, ↓reduceIte, Nat.reduceEqDiff] <;> rfl) (by (try simp only [RB]) <;> first | done | exact Iff.rfl | omega | simp) (fun hc => ?_) (fun hc => ?_) <;> (try simp only [RN, reduceIte]) <;> (try refine T_e rfl ?_)
        · have hy : nl nx j = nl ([b, w].getD j []) (nl st.2 i) := by
            rw [hnxe]
            have : j = 0 ∨ j = 1 := by omega
            rcases this with rfl | rfl <;> rfl
          have hyl : nl nx j < 16 := by
            rw [hnxe]
            have : j = 0 ∨ j = 1 := by omega
            rcases this with rfl | rfl
            · exact hb16 _
            · exact hw16 _
          have hnx := round_take (ls := [b, w]) (x := nl st.2 i) (st := st) (show j < [b, w].length from hc)
          rw [← hst', ← hy] at hnx
          obtain ⟨y, hyd⟩ : ∃ y, nl nx j = y := ⟨_, rfl⟩
          rw [hyd] at hyl hnx
          have hnext : ∀ f' st2 (c1 c2 : Option (List Value)), f' 0 = I n → f' 4 = P 0 0 → f' 5 = P 1 0 → f' 7 = P 3 0 → f' 8 = S 2 0 st2.2.length 1 → f' 9 = I i → f' 10 = S 4 0 2 1 → f' 11 = I j → st2 = visit st' y →
              T 0 A_spec_l01Connected.r9 R2 f' [some (b.map N8), some (w.map N8), some (st2.2.map N8), some (st2.1.map B), some (nx.map N8)] := by
            intro f' st2 c1 c2 h0 h4 h5 h7 h8 h9 h10 h11 hs2
            refine T_reg_k fun Kr hKr => ?_
            simp (disch := omega) only [RA, ↓reduceIte, Nat.reduceEqDiff, RD, h11]
            refine hKr _ _ ?_
            clear hKr Kr
            refine hN2 (2 - (j + 1)) _ _ _ _ (by omega) Gh.refl ⟨j + 1, st2, by omega, rfl, by rw [hnx, hs2], ?_, ?_, ?_, ?_, ?_, ?_, ?_, ?_, rfl⟩
            any_goals (simp (disch := omega) only [RA, ↓reduceIte, Nat.reduceEqDiff, RD, RE, *] <;> rfl)
          first | refine T_bfree rfl ?_ | refine T_bfree' rfl ?_
          try simp only [RN, reduceIte]
          try refine T_e rfl ?_
          refine T_rseq fun Kr hKr => ?_
          simp (disch := omega) only [RA, ↓reduceIte, Nat.reduceEqDiff, Nat.reduceBEq, Nat.reduceSub, Nat.reduceAdd, Nat.reduceMul, Nat.reduceLT, Nat.reduceLeDiff, Int.reduceLE, Int.reduceLT, Int.reduceEq, Int.reduceNeg, Int.reduceToNat, Int.reduceMul, Int.reduceAdd, Int.reduceSub, Int.reduceBEq, Int.reduceBNe, reduceCtorEq, RD, h7, h10, h11, hnxl, hsl', hyd]
          refine hKr _ _ ?_
          clear hKr Kr
          try simp only [RN, reduceIte]
          try refine T_e rfl ?_
          refine T_csplit (p := ¬ bl st'.1 y = true) (by simp only [RA, ↓reduceIte, Nat.reduceEqDiff, Nat.reduceBEq, Nat.reduceSub, Nat.reduceAdd, Nat.reduceMul, Nat.reduceLT, Nat.reduceLeDiff, Int.reduceLE, Int.reduceLT, Int.reduceEq, Int.reduceNeg, Int.reduceToNat, Int.reduceMul, Int.reduceAdd, Int.reduceSub, Int.reduceBEq, Int.reduceBNe, reduceCtorEq] <;> rfl) (by (try simp only [RB]) <;> first | done | exact Iff.rfl | omega | simp) (fun hc => ?_) (fun hc => ?_) <;> (try simp only [RN, reduceIte]) <;> (try refine T_e rfl ?_)
          · refine T_rseq fun Kr hKr => ?_
            simp (disch := omega) only [RA, ↓reduceIte, Nat.reduceEqDiff, Nat.reduceBEq, Nat.reduceSub, Nat.reduceAdd, Nat.reduceMul, Nat.reduceLT, Nat.reduceLeDiff, Int.reduceLE, Int.reduceLT, Int.reduceEq, Int.reduceNeg, Int.reduceToNat, Int.reduceMul, Int.reduceAdd, Int.reduceSub, Int.reduceBEq, Int.reduceBNe, reduceCtorEq, RD, h7, h10, h11, hnxl, hsl', hyd]
            refine hKr _ _ ?_
            clear hKr Kr
            try simp only [RN, reduceIte]
            try refine T_e rfl ?_
            refine T_rseq fun Kr hKr => ?_
            simp (disch := omega) only [RA, ↓reduceIte, Nat.reduceEqDiff, Nat.reduceBEq, Nat.reduceSub, Nat.reduceAdd, Nat.reduceMul, Nat.reduceLT, Nat.reduceLeDiff, Int.reduceLE, Int.reduceLT, Int.reduceEq, Int.reduceNeg, Int.reduceToNat, Int.reduceMul, Int.reduceAdd, Int.reduceSub, Int.reduceBEq, Int.reduceBNe, reduceCtorEq, RD, h8, h10, h11, hnxl, hyd]
            refine hKr _ _ ?_
            clear hKr Kr
            try simp only [RN, reduceIte]
            try refine T_e rfl ?_
            refine T_gh (Gh.nrm [0, 1, 6, 3, 4] rfl rfl (by simp only [RH])) ?_
            refine hnext _ (st'.1.set y true, st'.2 ++ [y]) none none ?_ ?_ ?_ ?_ ?_ ?_ ?_ ?_ ?_
            any_goals (simp (disch := omega) only [RA, ↓reduceIte, Nat.reduceEqDiff, RD, RE, *] <;> rfl)
            rw [visit, if_neg hc]
          · try simp only [RN, reduceIte]
            try refine T_e rfl ?_
            refine hnext _ st' none none ?_ ?_ ?_ ?_ ?_ ?_ ?_ ?_ ?_
            any_goals (simp (disch := omega) only [RA, ↓reduceIte, Nat.reduceEqDiff, RD, RE, *] <;> rfl)
            rw [visit, if_pos (by simpa using hc)]
        · refine hX2 _ _ ?_
          obtain rfl : j = 2 := by omega
          have hst2 : st' = bfs [b, w] (st0 16) (i + 1) := by
            rw [hst', bfs, hst, if_pos (by assumption)]
            rfl
          obtain ⟨q, hq⟩ := @round_pre (nl st.2 i) ([b, w].take 2) st
          have hlq : i + 1 ≤ st'.2.length := by rw [hst', hq]; simp; omega
          refine T_reg_k fun Kr hKr => ?_
          simp (disch := omega) only [RA, ↓reduceIte, Nat.reduceEqDiff, RD, h9]
          refine hKr _ _ ?_
          clear hKr Kr
          refine hN (16 - (i + 1)) _ _ _ _ (by omega) (Gh.nrm [0, 1, 2, 3] rfl rfl (by simp only [RH])) ⟨i + 1, by omega, rfl, by rw [← hst2]; exact hlq, ?_, ?_, ?_, ?_, ?_, ?_, ?_⟩
          any_goals (simp (disch := omega) only [RA, ↓reduceIte, Nat.reduceEqDiff, RD, RE, *] <;> rfl)
          · rw [← hst2]
            exact (by simp (disch := omega) only [RA, ↓reduceIte, Nat.reduceEqDiff, RD, RE, *] <;> rfl)
          · rw [← hst2]; rfl
    · refine hX _ _ ?_
      refine T_rseq fun Kr hKr => ?_
      simp (disch := omega) only [RA, ↓reduceIte, Nat.reduceEqDiff, RD, h0, h8]
      refine hKr _ _ ?_
      clear hKr Kr
      try simp only [RN, reduceIte]
      try refine T_e rfl ?_
      refine bodyQ_ret (by simp (disch := omega) only [RA, ↓reduceIte, Nat.reduceEqDiff, RD, resAll, resOf]; rfl) GhV.refl ?_
      simp only [tup]
      refine ⟨NN.bool, ?_⟩
      have hs : reach b w = st := by rw [reach, bfs_stop (i := i) (by rw [hst]; omega) 16 hi, hst]
      rw [hs] at hK
      exact hK
end Go.Bm

/- What is reached, the program's; dessins. -/
set_option linter.unusedVariables false
set_option linter.unusedSimpArgs false
namespace Go.Bm
open Go Go.Am

/-- A slice of rows of m bytes. -/
abbrev FPs (m : Nat) (ls : List (List Nat)) : Value := Fz ls.length m (ls.flatten.map N8)
theorem flat_drop {α : Type} {m : Nat} : ∀ {ls : List (List α)} {j : Nat}, (∀ p ∈ ls, p.length = m) → j < ls.length → ∃ r, ls.flatten.drop (j * m) = ls.getD j [] ++ r
  | p :: ls, 0, h, _ => ⟨ls.flatten, by simp⟩
  | p :: ls, j + 1, h, hj => by
    obtain ⟨r, hr⟩ := flat_drop (ls := ls) (j := j) (fun q hq => h q (by simp [hq])) (by simpa using hj)
    refine ⟨r, ?_⟩
    have hp : p.length = m := h p (by simp)
    rw [List.flatten_cons, Nat.succ_mul, Nat.add_comm, List.drop_append, List.drop_eq_nil_of_le (by omega)]
    simp only [List.nil_append, hp]
    rw [show m + j * m - m = j * m by omega, hr]
    simp [List.getD]
theorem flat_len {α : Type} {m : Nat} : ∀ {ls : List (List α)}, (∀ p ∈ ls, p.length = m) → ls.flatten.length = ls.length * m
  | [], _ => by simp
  | p :: ls, h => by rw [List.flatten_cons, List.length_append, flat_len fun q hq => h q (by simp [hq]), h p (by simp), List.length_cons, Nat.succ_mul]; omega
theorem getD_mem {α : Type} {ls : List α} {d : α} {j : Nat} (h : j < ls.length) : ls.getD j d ∈ ls := by simp [List.getD, h]
theorem getN_FP {m j : Nat} {ls : List (List Nat)} (h : ∀ p ∈ ls, p.length = m) (hj : j < ls.length) : getN (some m) (ls.flatten.map N8) (j * m) = some (PL (ls.getD j [])) := by
  obtain ⟨r, hr⟩ := flat_drop h hj
  have hl := h _ (getD_mem (d := []) hj)
  have hf := flat_len h
  have : (j + 1) * m ≤ ls.length * m := Nat.mul_le_mul_right _ hj
  rw [Nat.succ_mul] at this
  generalize ls.getD j [] = q at hr hl ⊢
  rw [getN_agg (by rw [List.length_map, hf]; omega), ← List.map_drop, hr, List.map_append, List.take_append_of_le_length (by simp [hl]), List.take_of_length_le (by simp [hl])]
theorem fill2P {b w : List Nat} {m : Nat} {v : Value} (hb : b.length = m) (hw : w.length = m) : fillL (repl (List.replicate m v) 2) [(0, m, PL b), (m, m, PL w)] = some (b.map N8 ++ w.map N8) := by
  simp [fillL, repl, cellsL, hb, hw, splice, List.take_append, List.drop_append]
theorem reached_spec {x : Bool} {ls : List (List Nat)} {n : Int} {H : BH} {K : Value → BH → Prop} (hll : ls.length ≤ 1000) (hl : ∀ p ∈ ls, p.length = 16) (hl16 : ∀ p ∈ ls, ∀ i, nl p i < 16)
    (hK : K (I (bfs ls (st0 16) 16).2.length) H) : CallX x F_impl_reached [I n, FPs 16 ls] H K := by
  refine callP (by simp only [RH]) ?_
  refine CallX_body Γ_impl_reached ?_
  simp only [A_impl_reached, T_aiff]
  refine T_rseq fun Kr hKr => ?_
  simp (disch := omega) only [RA, ↓reduceIte, Nat.reduceEqDiff, Nat.reduceBEq, Nat.reduceSub, Nat.reduceAdd, Nat.reduceMul, Nat.reduceLT, Nat.reduceLeDiff, Int.reduceLE, Int.reduceLT, Int.reduceEq, Int.reduceNeg, Int.reduceToNat, Int.reduceMul, Int.reduceAdd, Int.reduceSub, Int.reduceBEq, Int.reduceBNe, reduceCtorEq, RD]
  refine hKr _ _ ?_
  clear hKr Kr
  try simp only [RN, reduceIte]
  try refine T_e rfl ?_
  refine T_rseq fun Kr hKr => ?_
  simp (disch := omega) only [RA, ↓reduceIte, Nat.reduceEqDiff, Nat.reduceBEq, Nat.reduceSub, Nat.reduceAdd, Nat.reduceMul, Nat.reduceLT, Nat.reduceLeDiff, Int.reduceLE, Int.reduceLT, Int.reduceEq, Int.reduceNeg, Int.reduceToNat, Int.reduceMul, Int.reduceAdd, Int.reduceSub, Int.reduceBEq, Int.reduceBNe, reduceCtorEq, RD]
  refine hKr _ _ ?_
  clear hKr Kr
  try simp only [RN, reduceIte]
  try refine T_e rfl ?_
  refine T_rseq fun Kr hKr => ?_
  simp (disch := omega) only [RA, ↓reduceIte, Nat.reduceEqDiff, Nat.reduceBEq, Nat.reduceSub, Nat.reduceAdd, Nat.reduceMul, Nat.reduceLT, Nat.reduceLeDiff, Int.reduceLE, Int.reduceLT, Int.reduceEq, Int.reduceNeg, Int.reduceToNat, Int.reduceMul, Int.reduceAdd, Int.reduceSub, Int.reduceBEq, Int.reduceBNe, reduceCtorEq, RD]
  refine hKr _ _ ?_
  clear hKr Kr
  try simp only [RN, reduceIte]
  try refine T_e rfl ?_
  refine T_rseq fun Kr hKr => ?_
  simp (disch := omega) only [RA, ↓reduceIte, Nat.reduceEqDiff, Nat.reduceBEq, Nat.reduceSub, Nat.reduceAdd, Nat.reduceMul, Nat.reduceLT, Nat.reduceLeDiff, Int.reduceLE, Int.reduceLT, Int.reduceEq, Int.reduceNeg, Int.reduceToNat, Int.reduceMul, Int.reduceAdd, Int.reduceSub, Int.reduceBEq, Int.reduceBNe, reduceCtorEq, RD]
  refine hKr _ _ ?_
  clear hKr Kr
  try simp only [RN, reduceIte]
  try refine T_e rfl ?_
  refine T_wloop (fun m f H' => ∃ i, i ≤ 16 ∧ m = 16 - i ∧ i ≤ (bfs ls (st0 16) i).2.length ∧ f 1 = FPs 16 ls ∧ f 5 = P 0 0 ∧ f 6 = S 1 0 (bfs ls (st0 16) i).2.length 1 ∧ f 7 = I i ∧ H' = [some ((bfs ls (st0 16) i).1.map B), some ((bfs ls (st0 16) i).2.map N8)]) (16) ?_ ?_
  · refine ⟨_, _, Gh.refl, 0, by omega, by omega, by omega, ?_, ?_, ?_, ?_, ?_⟩
    any_goals (simp (disch := omega) only [RA, ↓reduceIte, Nat.reduceEqDiff, RD, RE, *] <;> rfl)
    simp [bfs, st0] <;> rfl
  · rintro m f H' R ⟨i, hi, rfl, hil, h1, h5, h6, h7, rfl⟩ hN hX hR hE
    simp only [A_impl_reached.l1, T_aiff]
    have hB := (Bi.st0 (m := 16) (by omega)).bfs hl16 i
    generalize hst : bfs ls (st0 16) i = st at hil h6 hB
    have hle := hB.le
    have hsl := hB.len
    refine T_rseq fun Kr hKr => ?_
    simp (disch := omega) only [RA, ↓reduceIte, Nat.reduceEqDiff, RD, h6, h7]
    refine hKr _ _ ?_
    clear hKr Kr
    try simp only [RN, reduceIte]
    try refine T_e rfl ?_
    refine T_csplit (p := i < st.2.length) (by simp only [RA, ↓reduceIte, Nat.reduceEqDiff] <;> rfl) (by (try simp only [RB]) <;> first | done | exact Iff.rfl | omega | simp) (fun hc => ?_) (fun hc => ?_) <;> (try simp only [RN, reduceIte]) <;> (try refine T_e rfl ?_)
    · have hx := hB.lt i hc
      first | refine T_bfree rfl ?_ | refine T_bfree' rfl ?_
      try simp only [RN, reduceIte]
      try refine T_e rfl ?_
      refine T_rseq fun Kr hKr => ?_
      simp (disch := omega) only [RA, ↓reduceIte, Nat.reduceEqDiff, RD, h1]
      refine hKr _ _ ?_
      clear hKr Kr
      try simp only [RN, reduceIte]
      try refine T_e rfl ?_
      refine T_wloop (fun m f H' => ∃ j st', j ≤ ls.length ∧ m = ls.length - j ∧ st' = roundX (ls.take j) (nl st.2 i) st ∧ f 1 = FPs 16 ls ∧ f 5 = P 0 0 ∧ f 6 = S 1 0 st'.2.length 1 ∧ f 7 = I i ∧ f 19 = FPs 16 ls ∧ f 20 = I ls.length ∧ f 21 = I j ∧ H' = [some (st'.1.map B), some (st'.2.map N8)]) (ls.length) ?_ ?_
      · refine ⟨_, _, Gh.refl, 0, st, by omega, by omega, rfl, ?_, ?_, ?_, ?_, ?_, ?_, ?_, rfl⟩
        any_goals (simp (disch := omega) only [RA, ↓reduceIte, Nat.reduceEqDiff, RD, RE, *] <;> rfl)
      · clear h1 h5 h6 h7
        rintro m f H' R2 ⟨j, st', hj, rfl, hst', h1, h5, h6, h7, h19, h20, h21, rfl⟩ hN2 hX2 hR2 hE2
        simp only [A_impl_reached.l0, T_aiff]
        refine T_rseq fun Kr hKr => ?_
        simp (disch := omega) only [RA, ↓reduceIte, Nat.reduceEqDiff, RD, h20, h21]
        refine hKr _ _ ?_
        clear hKr Kr
        try simp only [RN, reduceIte]
        try refine T_e rfl ?_
        have hB' : Bi 16 st' := by rw [hst']; exact hB.round fun p hp => hl16 p (List.mem_of_mem_take hp) _
        have hle' := hB'.le
        have hsl' := hB'.len
        refine T_csplit (p := j < ls.length) (by simp only [RA, ↓reduceIte, Nat.reduceEqDiff] <;> rfl) (by (try simp only [RB]) <;> first | done | exact Iff.rfl | omega | simp) (fun hc => ?_) (fun hc => ?_) <;> (try simp only [RN, reduceIte]) <;> (try refine T_e rfl ?_)
        · obtain ⟨q, hq⟩ := @round_pre (nl st.2 i) (ls.take j) st
          rw [← hst'] at hq
          have hxi : nl st'.2 i = nl st.2 i := by rw [hq, nl_append, if_pos (by assumption)]
          have hil' : i < st'.2.length := by rw [hq]; simp; omega
          have hnx := round_take (ls := ls) (x := nl st.2 i) (st := st) hc
          rw [← hst'] at hnx
          have hpl := hl _ (getD_mem (d := []) hc)
          have hyl := hl16 _ (getD_mem (d := []) hc) (nl st.2 i)
          obtain ⟨pj, hpj⟩ : ∃ pj, ls.getD j [] = pj := ⟨_, rfl⟩
          rw [hpj] at hnx hpl hyl
          obtain ⟨y, hyd⟩ : ∃ y, nl pj (nl st.2 i) = y := ⟨_, rfl⟩
          rw [hyd] at hyl hnx
          have hnext : ∀ f' st2, f' 1 = FPs 16 ls → f' 5 = P 0 0 → f' 6 = S 1 0 st2.2.length 1 → f' 7 = I i → f' 19 = FPs 16 ls → f' 20 = I ls.length → f' 21 = I j → st2 = visit st' y →
              T 0 A_impl_reached.r13 R2 f' [some (st2.1.map B), some (st2.2.map N8)] := by
            intro f' st2 h1 h5 h6 h7 h19 h20 h21 hs2
            refine T_reg_k fun Kr hKr => ?_
            simp (disch := omega) only [RA, ↓reduceIte, Nat.reduceEqDiff, Nat.reduceAdd, Nat.reduceMul, Int.reduceToNat, Nat.reduceLT, reduceCtorEq, RD, h21]
            refine hKr _ _ ?_
            clear hKr Kr
            refine hN2 (ls.length - (j + 1)) _ _ _ _ (by omega) Gh.refl ⟨j + 1, st2, by omega, rfl, by rw [hnx, hs2], ?_, ?_, ?_, ?_, ?_, ?_, ?_, rfl⟩
            any_goals (simp (disch := omega) only [RA, ↓reduceIte, Nat.reduceEqDiff, Nat.reduceAdd, Nat.reduceMul, Int.reduceToNat, Nat.reduceLT, reduceCtorEq, RD, RE, *] <;> rfl)
          first | refine T_bfree rfl ?_ | refine T_bfree' rfl ?_
          try simp only [RN, reduceIte]
          try refine T_e rfl ?_
          refine T_rseq fun Kr hKr => ?_
          simp (disch := omega) only [RA, ↓reduceIte, Nat.reduceEqDiff, Nat.reduceAdd, Nat.reduceMul, Int.reduceToNat, Nat.reduceLT, reduceCtorEq, RD, h19, h21, getN_FP hl hc, hpj]
          refine hKr _ _ ?_
          clear hKr Kr
          try simp only [RN, reduceIte]
          try refine T_e rfl ?_
          refine T_rseq fun Kr hKr => ?_
          simp (disch := omega) only [RA, ↓reduceIte, Nat.reduceEqDiff, RD, h6, h7, hxi, hpl, hyd]
          refine hKr _ _ ?_
          clear hKr Kr
          try simp only [RN, reduceIte]
          try refine T_e rfl ?_
          refine T_rseq fun Kr hKr => ?_
          simp (disch := omega) only [RA, ↓reduceIte, Nat.reduceEqDiff, Nat.reduceBEq, Nat.reduceSub, Nat.reduceAdd, Nat.reduceMul, Nat.reduceLT, Nat.reduceLeDiff, Int.reduceLE, Int.reduceLT, Int.reduceEq, Int.reduceNeg, Int.reduceToNat, Int.reduceMul, Int.reduceAdd, Int.reduceSub, Int.reduceBEq, Int.reduceBNe, reduceCtorEq, RD, h5, hsl']
          refine hKr _ _ ?_
          clear hKr Kr
          try simp only [RN, reduceIte]
          try refine T_e rfl ?_
          refine T_csplit (p := ¬ bl st'.1 y = true) (by simp only [RA, ↓reduceIte, Nat.reduceEqDiff, Nat.reduceBEq, Nat.reduceSub, Nat.reduceAdd, Nat.reduceMul, Nat.reduceLT, Nat.reduceLeDiff, Int.reduceLE, Int.reduceLT, Int.reduceEq, Int.reduceNeg, Int.reduceToNat, Int.reduceMul, Int.reduceAdd, Int.reduceSub, Int.reduceBEq, Int.reduceBNe, reduceCtorEq] <;> rfl) (by (try simp only [RB]) <;> first | done | exact Iff.rfl | omega | simp) (fun hc => ?_) (fun hc => ?_) <;> (try simp only [RN, reduceIte]) <;> (try refine T_e rfl ?_)
          · refine T_rseq fun Kr hKr => ?_
            simp (disch := omega) only [RA, ↓reduceIte, Nat.reduceEqDiff, Nat.reduceBEq, Nat.reduceSub, Nat.reduceAdd, Nat.reduceMul, Nat.reduceLT, Nat.reduceLeDiff, Int.reduceLE, Int.reduceLT, Int.reduceEq, Int.reduceNeg, Int.reduceToNat, Int.reduceMul, Int.reduceAdd, Int.reduceSub, Int.reduceBEq, Int.reduceBNe, reduceCtorEq, RD, h5, hsl']
            refine hKr _ _ ?_
            clear hKr Kr
            try simp only [RN, reduceIte]
            try refine T_e rfl ?_
            refine T_rseq fun Kr hKr => ?_
            simp (disch := omega) only [RA, ↓reduceIte, Nat.reduceEqDiff, Nat.reduceBEq, Nat.reduceSub, Nat.reduceAdd, Nat.reduceMul, Nat.reduceLT, Nat.reduceLeDiff, Int.reduceLE, Int.reduceLT, Int.reduceEq, Int.reduceNeg, Int.reduceToNat, Int.reduceMul, Int.reduceAdd, Int.reduceSub, Int.reduceBEq, Int.reduceBNe, reduceCtorEq, RD, h6]
            refine hKr _ _ ?_
            clear hKr Kr
            try simp only [RN, reduceIte]
            try refine T_e rfl ?_
            refine T_gh (Gh.nrm [0, 4] rfl rfl (by simp only [RH])) ?_
            refine hnext _ (st'.1.set y true, st'.2 ++ [y]) ?_ ?_ ?_ ?_ ?_ ?_ ?_ ?_
            any_goals (simp (disch := omega) only [RA, ↓reduceIte, Nat.reduceEqDiff, RD, RE, *] <;> rfl)
            rw [visit, if_neg hc]
          · try simp only [RN, reduceIte]
            try refine T_e rfl ?_
            refine T_gh (Gh.nrm [0, 1] rfl rfl (by simp only [RH])) ?_
            refine hnext _ st' ?_ ?_ ?_ ?_ ?_ ?_ ?_ ?_
            any_goals (simp (disch := omega) only [RA, ↓reduceIte, Nat.reduceEqDiff, RD, RE, *] <;> rfl)
            rw [visit, if_pos (by simpa using hc)]
        · refine hX2 _ _ ?_
          obtain rfl : j = ls.length := by omega
          have hst2 : st' = bfs ls (st0 16) (i + 1) := by
            rw [hst', bfs, hst, if_pos (by assumption), List.take_length]
          obtain ⟨q, hq⟩ := @round_pre (nl st.2 i) (ls.take ls.length) st
          have hlq : i + 1 ≤ st'.2.length := by rw [hst', hq]; simp; omega
          refine T_reg_k fun Kr hKr => ?_
          simp (disch := omega) only [RA, ↓reduceIte, Nat.reduceEqDiff, RD, h7]
          refine hKr _ _ ?_
          clear hKr Kr
          refine hN (16 - (i + 1)) _ _ _ _ (by omega) Gh.refl ⟨i + 1, by omega, rfl, by rw [← hst2]; exact hlq, ?_, ?_, ?_, ?_, ?_⟩
          any_goals (simp (disch := omega) only [RA, ↓reduceIte, Nat.reduceEqDiff, RD, RE, *] <;> rfl)
          · rw [← hst2]
            exact (by simp (disch := omega) only [RA, ↓reduceIte, Nat.reduceEqDiff, RD, RE, *] <;> rfl)
          · rw [← hst2]
    · refine hX _ _ ?_
      refine T_rseq fun Kr hKr => ?_
      simp (disch := omega) only [RA, ↓reduceIte, Nat.reduceEqDiff, Nat.reduceBEq, Nat.reduceSub, Nat.reduceAdd, Nat.reduceMul, Nat.reduceLT, Nat.reduceLeDiff, Int.reduceLE, Int.reduceLT, Int.reduceEq, Int.reduceNeg, Int.reduceToNat, Int.reduceMul, Int.reduceAdd, Int.reduceSub, Int.reduceBEq, Int.reduceBNe, reduceCtorEq, RD, h6]
      refine hKr _ _ ?_
      clear hKr Kr
      try simp only [RN, reduceIte]
      try refine T_e rfl ?_
      refine bodyQ_ret (by simp (disch := omega) only [RA, ↓reduceIte, Nat.reduceEqDiff, RD, resAll, resOf]; rfl) GhV.refl ?_
      simp only [tup]
      refine ⟨NN.int, ?_⟩
      have hs : bfs ls (st0 16) 16 = st := by rw [bfs_stop (i := i) (by rw [hst]; omega) 16 hi, hst]
      rw [hs] at hK
      exact hK

/-- A dessin. -/
def Des (n : Int) (b w : List Nat) : Prop := Perm b n ∧ Perm w n ∧ ((reach b w).2.length : Int) = n
instance (n : Int) (b w : List Nat) : Decidable (Des n b w) := by unfold Des; infer_instance
theorem Perm.lt16' {p : List Nat} {n : Int} (h : Perm p n) (hl : p.length = 16) (i : Nat) : nl p i < 16 := by
  obtain ⟨m, rfl⟩ := Int.eq_ofNat_of_zero_le (show 0 ≤ n by have := h.1; omega)
  exact h.lt16 hl i
theorem l01Is_spec {x : Bool} {n : Int} {b w : List Nat} {H : BH} {K : Value → BH → Prop} (hb : By 16 b) (hw : By 16 w) (hK : K (.bool (decide (Des n b w))) H) : CallX x F_spec_l01Is [DV n b w] H K := by
  have hlb := hb.len
  have hlw := hw.len
  refine callP (by simp only [RH]) ?_
  refine CallX_body Γ_spec_l01Is ?_
  simp only [A_spec_l01Is, T_aiff]
  refine T_rseq fun Kr hKr => ?_
  simp (disch := omega) only [RA, ↓reduceIte, Nat.reduceEqDiff, RD]
  refine hKr _ _ ?_
  clear hKr Kr
  try simp only [RN, reduceIte]
  try refine T_e rfl ?_
  refine T_rseq fun Kr hKr => ?_
  simp (disch := omega) only [RA, ↓reduceIte, Nat.reduceEqDiff, RD, getN_D, getN_bk]
  refine l01Perm_spec hb ?_
  by_cases h1 : Perm b n
  · rw [decide_eq_true h1]
    simp (disch := omega) only [RA, ↓reduceIte, Nat.reduceEqDiff, RD, getN_D, getN_wh]
    refine l01Perm_spec hw ?_
    by_cases h2 : Perm w n
    · rw [decide_eq_true h2]
      simp (disch := omega) only [RA, ↓reduceIte, Nat.reduceEqDiff, RD, getN_D, getN_wh, getN_bk]
      refine l01Connected_spec hb hw (h1.lt16' hb.len) (h2.lt16' hw.len) ?_
      simp (disch := omega) only [RA, ↓reduceIte, Nat.reduceEqDiff, RD]
      refine hKr _ _ ?_
      clear hKr Kr
      try simp only [blkQ, thenQ, loopQ]
      try simp only [RN, reduceIte]
      try refine T_e rfl ?_
      refine bodyQ_ret (by simp (disch := omega) only [RA, ↓reduceIte, Nat.reduceEqDiff, RD, resAll, resOf]; rfl) GhV.refl ?_
      simp only [tup]
      exact ⟨NN.bool, by simpa [Des, h1, h2] using hK⟩
    · rw [decide_eq_false h2]
      simp (disch := omega) only [RA, ↓reduceIte, Nat.reduceEqDiff, RD]
      refine hKr _ _ ?_
      clear hKr Kr
      try simp only [blkQ, thenQ, loopQ]
      try simp only [RN, reduceIte]
      try refine T_e rfl ?_
      refine bodyQ_ret (by simp (disch := omega) only [RA, ↓reduceIte, Nat.reduceEqDiff, RD, resAll, resOf]; rfl) GhV.refl ?_
      simp only [tup]
      exact ⟨NN.bool, by simpa [Des, h1, h2] using hK⟩
  · rw [decide_eq_false h1]
    simp (disch := omega) only [RA, ↓reduceIte, Nat.reduceEqDiff, RD]
    refine hKr _ _ ?_
    clear hKr Kr
    try simp only [blkQ, thenQ, loopQ]
    try simp only [RN, reduceIte]
    try refine T_e rfl ?_
    refine bodyQ_ret (by simp (disch := omega) only [RA, ↓reduceIte, Nat.reduceEqDiff, RD, resAll, resOf]; rfl) GhV.refl ?_
    simp only [tup]
    exact ⟨NN.bool, by simpa [Des, h1] using hK⟩
theorem FPs2 {m : Nat} {b w : List Nat} : Fz 2 m (b.map N8 ++ w.map N8) = FPs m [b, w] := by simp [FPs]
theorem IsDessin_spec {x : Bool} {n : Int} {b w : List Nat} {H : BH} {K : Value → BH → Prop} (hb : By 16 b) (hw : By 16 w) (hK : K (.bool (decide (Des n b w))) H) : CallX x F_impl_IsDessin [DV n b w] H K := by
  have hlb := hb.len
  have hlw := hw.len
  refine callP (by simp only [RH]) ?_
  refine CallX_body Γ_impl_IsDessin ?_
  simp only [A_impl_IsDessin, T_aiff]
  refine T_rseq fun Kr hKr => ?_
  simp (disch := omega) only [RA, ↓reduceIte, Nat.reduceEqDiff, RD]
  refine hKr _ _ ?_
  clear hKr Kr
  try simp only [RN, reduceIte]
  try refine T_e rfl ?_
  refine T_rseq fun Kr hKr => ?_
  simp (disch := omega) only [RA, ↓reduceIte, Nat.reduceEqDiff, RD, getN_D]
  refine hKr _ _ ?_
  clear hKr Kr
  try simp only [RN, reduceIte]
  try refine T_e rfl ?_
  refine T_rseq fun Kr hKr => ?_
  simp (disch := omega) only [RA, ↓reduceIte, Nat.reduceEqDiff, Nat.reduceBEq, Nat.reduceSub, Nat.reduceAdd, Nat.reduceMul, Nat.reduceLT, Nat.reduceLeDiff, Int.reduceLE, Int.reduceLT, Int.reduceEq, Int.reduceNeg, Int.reduceToNat, Int.reduceMul, Int.reduceAdd, Int.reduceSub, Int.reduceBEq, Int.reduceBNe, reduceCtorEq, RD, getN_bk]
  refine IsPermutation_spec hb ?_
  by_cases h1 : Perm b n
  · rw [decide_eq_true h1]
    simp (disch := omega) only [RA, ↓reduceIte, Nat.reduceEqDiff, Nat.reduceBEq, Nat.reduceSub, Nat.reduceAdd, Nat.reduceMul, Nat.reduceLT, Nat.reduceLeDiff, Int.reduceLE, Int.reduceLT, Int.reduceEq, Int.reduceNeg, Int.reduceToNat, Int.reduceMul, Int.reduceAdd, Int.reduceSub, Int.reduceBEq, Int.reduceBNe, reduceCtorEq, RD, getN_wh]
    refine IsPermutation_spec hw ?_
    by_cases h2 : Perm w n
    · rw [decide_eq_true h2]
      simp (disch := omega) only [RA, ↓reduceIte, Nat.reduceEqDiff, Nat.reduceBEq, Nat.reduceSub, Nat.reduceAdd, Nat.reduceMul, Nat.reduceLT, Nat.reduceLeDiff, Int.reduceLE, Int.reduceLT, Int.reduceEq, Int.reduceNeg, Int.reduceToNat, Int.reduceMul, Int.reduceAdd, Int.reduceSub, Int.reduceBEq, Int.reduceBNe, reduceCtorEq, RD, getN_wh, getN_bk, fill2P hlb hlw]
      have h32 : 2 * 16 = (b.map N8 ++ w.map N8).length := by simp [hlb, hlw]
      refine callFz 1 rfl (by simp only [RH]) ?_
      simp only [RZ, frz_all h32]
      rw [FPs2]
      refine reached_spec (by simp) (by simp [hlb, hlw]) (by simp; exact ⟨h1.lt16' hb.len, h2.lt16' hw.len⟩) ?_
      simp (disch := omega) only [RA, ↓reduceIte, Nat.reduceEqDiff, RD]
      refine hKr _ _ ?_
      clear hKr Kr
      try simp only [blkQ, thenQ, loopQ]
      try simp only [RN, reduceIte]
      try refine T_e rfl ?_
      refine bodyQ_ret (by simp (disch := omega) only [RA, ↓reduceIte, Nat.reduceEqDiff, RD, resAll, resOf]; rfl) GhV.refl ?_
      simp only [tup]
      exact ⟨NN.bool, by simpa [Des, h1, h2, reach] using hK⟩
    · rw [decide_eq_false h2]
      simp (disch := omega) only [RA, ↓reduceIte, Nat.reduceEqDiff, RD]
      refine hKr _ _ ?_
      clear hKr Kr
      try simp only [blkQ, thenQ, loopQ]
      try simp only [RN, reduceIte]
      try refine T_e rfl ?_
      refine bodyQ_ret (by simp (disch := omega) only [RA, ↓reduceIte, Nat.reduceEqDiff, RD, resAll, resOf]; rfl) GhV.refl ?_
      simp only [tup]
      exact ⟨NN.bool, by simpa [Des, h1, h2] using hK⟩
  · rw [decide_eq_false h1]
    simp (disch := omega) only [RA, ↓reduceIte, Nat.reduceEqDiff, RD]
    refine hKr _ _ ?_
    clear hKr Kr
    try simp only [blkQ, thenQ, loopQ]
    try simp only [RN, reduceIte]
    try refine T_e rfl ?_
    refine bodyQ_ret (by simp (disch := omega) only [RA, ↓reduceIte, Nat.reduceEqDiff, RD, resAll, resOf]; rfl) GhV.refl ?_
    simp only [tup]
    exact ⟨NN.bool, by simpa [Des, h1] using hK⟩
end Go.Bm

/- Dessins in memory; the laws' helpers for them. -/
set_option linter.unusedVariables false
set_option linter.unusedSimpArgs false
namespace Go.Bm
open Go Go.Am

def z16 : List Nat := List.replicate 16 0
theorem z16_len : z16.length = 16 := by simp [z16]
theorem dz : (Value.int .i64 0 :: List.replicate 32 (Value.int .u8 0)) = DC 0 z16 z16 := by rfl
theorem plain_D {n : Int} {b w : List Nat} : (DC n b w).all Am.plain = true := by
  simp only [DC, List.all_cons, List.all_append, Bool.and_eq_true]
  exact ⟨rfl, all_map fun _ => rfl, all_map fun _ => rfl⟩
theorem plain_N {b : List Nat} : (b.map N8).all Am.plain = true := all_map fun _ => rfl
theorem ones_D {n : Int} {b w : List Nat} : (DC n b w).all one2 = true := by
  simp only [DC, List.all_cons, List.all_append, Bool.and_eq_true]
  exact ⟨rfl, ones_N, ones_N⟩
theorem len_D {n : Int} {b w : List Nat} (hb : b.length = 16) (hw : w.length = 16) : (DC n b w).length = 33 := by simp [hb, hw]
theorem NN_D {n : Int} {b w : List Nat} : NNL (DC n b w) := .cons .int (.append (.map fun _ => .int) (.map fun _ => .int))
section
variable {H : BH} {i : Nat} {n m : Int} {b w b' w' p : List Nat}
theorem st_D (hb : b.length = 16) (hw : w.length = 16) (hb' : b'.length = 16) (hw' : w'.length = 16) : stO (some (DC n b w)) H i 0 33 (aggL (DC m b' w')) = some (undef, H.set i (some (DC m b' w'))) := by
  rw [stO_agg (len_D hb' hw') ones_D (by rw [len_D hb hw]; omega), splice_full (by rw [len_D hb hw, len_D hb' hw'])]
theorem st_D0 : stO (some (DC n b w)) H i 0 1 (.int .i64 m) = some (undef, H.set i (some (DC m b w))) := by
  rw [stO_int (by simp), splice_0]
theorem splice_mid {α : Type} {g : α → Value} {x y : List α} {pre post : List Value} (h : x.length = y.length) : splice (pre ++ (x.map g ++ post)) pre.length (y.map g) = pre ++ (y.map g ++ post) := by
  simp only [splice]
  rw [List.take_append_of_le_length (by omega), List.take_of_length_le (by omega)]
  rw [List.drop_append, List.drop_eq_nil_of_le (by omega), List.nil_append]
  rw [show pre.length + (List.map g y).length - pre.length = (List.map g x).length by simp [h]]
  rw [List.drop_append, List.drop_eq_nil_of_le (by omega)]
  simp
theorem splice_mid1 {α : Type} {g : α → Value} {x : List α} {y : α} {k : Nat} {pre post : List Value} (h : k < x.length) : splice (pre ++ (x.map g ++ post)) (pre.length + k) [g y] = pre ++ ((x.set k y).map g ++ post) := by
  simp only [splice, List.length_singleton]
  rw [List.take_append, List.take_of_length_le (l := pre) (by omega), show pre.length + k - pre.length = k by omega, List.take_append_of_le_length (by simp; omega)]
  rw [List.drop_append, List.drop_eq_nil_of_le (as := pre) (by omega), show pre.length + k + 1 - pre.length = k + 1 by omega, List.drop_append_of_le_length (by simp; omega)]
  rw [List.set_eq_take_append_cons_drop]
  simp [h, List.map_take, List.map_drop]
theorem getN_mid1 {α : Type} {g : α → Value} {x : List α} {k : Nat} {d : α} {pre post : List Value} (h : k < x.length) : getN none (pre ++ (x.map g ++ post)) (pre.length + k) = some (g (x.getD k d)) := by
  simp only [getN]
  rw [List.getElem?_append_right (by omega), show pre.length + k - pre.length = k by omega, List.getElem?_append_left (by simpa using h)]
  simp [List.getD, h]
theorem st_D1 (hb : b.length = 16) (hp : p.length = 16) : stO (some (DC n b w)) H i 1 16 (aggL (p.map N8)) = some (undef, H.set i (some (DC n p w))) := by
  rw [stO_agg (by simpa using hp) ones_N (by simp [hb])]
  have := splice_mid (g := N8) (x := b) (y := p) (pre := [I n]) (post := w.map N8) (by omega)
  simp only [List.length_cons, List.length_nil, List.length_map, List.cons_append, List.nil_append, List.append_nil, Nat.zero_add] at this
  rw [show splice (DC n b w) 1 (p.map N8) = DC n p w from this]
theorem st_D2 (hb : b.length = 16) (hw : w.length = 16) (hp : p.length = 16) : stO (some (DC n b w)) H i 17 16 (aggL (p.map N8)) = some (undef, H.set i (some (DC n b p))) := by
  rw [stO_agg (by simpa using hp) ones_N (by simp [hb, hw])]
  have := splice_mid (g := N8) (x := w) (y := p) (pre := I n :: b.map N8) (post := []) (by omega)
  simp only [List.length_cons, List.length_nil, List.length_map, List.cons_append, List.nil_append, List.append_nil, Nat.zero_add, hb] at this
  rw [show splice (DC n b w) 17 (p.map N8) = DC n b p from this]
theorem st_Db {k x : Nat} (h : k < b.length) : stO (some (DC n b w)) H i (1 + k) 1 (.int .u8 (x : Int)) = some (undef, H.set i (some (DC n (b.set k x) w))) := by
  rw [stO_int (by simp; omega)]
  have := splice_mid1 (g := N8) (x := b) (y := x) (k := k) (pre := [I n]) (post := w.map N8) h
  simp only [List.length_cons, List.length_nil, List.length_map, List.cons_append, List.nil_append, List.append_nil, Nat.zero_add] at this
  rw [show splice (DC n b w) (1 + k) [N8 x] = DC n (b.set k x) w from this]
theorem st_Dw {k x : Nat} (hb : b.length = 16) (h : k < w.length) : stO (some (DC n b w)) H i (17 + k) 1 (.int .u8 (x : Int)) = some (undef, H.set i (some (DC n b (w.set k x)))) := by
  rw [stO_int (by simp; omega)]
  have := splice_mid1 (g := N8) (x := w) (y := x) (k := k) (pre := I n :: b.map N8) (post := []) h
  simp only [List.length_cons, List.length_nil, List.length_map, List.cons_append, List.nil_append, List.append_nil, Nat.zero_add, hb] at this
  rw [show splice (DC n b w) (17 + k) [N8 x] = DC n b (w.set k x) from this]
theorem getN_b1 {k : Nat} (h : k < b.length) : getN none (DC n b w) (1 + k) = some (N8 (nl b k)) := by
  have := getN_mid1 (g := N8) (x := b) (k := k) (d := 0) (pre := [I n]) (post := w.map N8) h
  simp only [List.length_cons, List.length_nil, List.length_map, List.cons_append, List.nil_append, List.append_nil, Nat.zero_add] at this
  exact this
theorem getN_w1 {k : Nat} (hb : b.length = 16) (h : k < w.length) : getN none (DC n b w) (17 + k) = some (N8 (nl w k)) := by
  have := getN_mid1 (g := N8) (x := w) (k := k) (d := 0) (pre := I n :: b.map N8) (post := []) h
  simp only [List.length_cons, List.length_nil, List.length_map, List.cons_append, List.nil_append, List.append_nil, Nat.zero_add, hb] at this
  exact this
theorem fill_D0 : fillL (DC n b w) [(0, 1, .int .i64 m)] = some (DC m b w) := by
  simp [fillL, cellsL, splice]
theorem fill_D {b' w' : List Nat} (hb : b.length = 16) (hw : w.length = 16) (hb' : b'.length = 16) (hw' : w'.length = 16) : fillL (DC n b w) [(0, 1, .int .i64 m), (1, 16, PL b'), (17, 16, PL w')] = some (DC m b' w') := by
  simp only [fillL, cellsL_i, cellsL_a, List.length_singleton, List.length_map]
  rw [if_pos ⟨trivial, by simp⟩, splice_0, if_pos ⟨hb', by simp [hb]⟩]
  have h1 := splice_mid (g := N8) (x := b) (y := b') (pre := [I m]) (post := w.map N8) (by omega)
  simp only [List.length_singleton, List.cons_append, List.nil_append] at h1
  rw [h1, if_pos ⟨hw', by simp [hb', hw]⟩]
  have h2 := splice_mid (g := N8) (x := w) (y := w') (pre := I m :: b'.map N8) (post := []) (by omega)
  simp only [List.length_cons, List.length_map, hb', List.append_nil, List.cons_append] at h2
  rw [h2]
theorem fill_Dw (hb : b.length = 16) (hw : w.length = 16) (hw' : w'.length = 16) : fillL (DC n b w) [(0, 1, .int .i64 m), (17, 16, PL w')] = some (DC m b w') := by
  simp only [fillL, cellsL_i, cellsL_a, List.length_singleton, List.length_map]
  rw [if_pos ⟨trivial, by simp⟩, splice_0, if_pos ⟨hw', by simp [hb, hw]⟩]
  have h2 := splice_mid (g := N8) (x := w) (y := w') (pre := I m :: b.map N8) (post := []) (by omega)
  simp only [List.length_cons, List.length_map, hb, List.append_nil, List.cons_append] at h2
  rw [h2]
theorem getN_dv (hb : b.length = 16) (hw : w.length = 16) : getN (some 33) (DC n b w) 0 = some (aggL (DC n b w)) := getN_DV hb hw
theorem nn_D : NN (aggL (DC n b w)) := NN.agg NN_D
end
theorem plain_NN {b w : List Nat} : (b.map N8 ++ w.map N8).all Am.plain = true := by rw [List.all_append, plain_N, plain_N]; rfl
theorem RDS : (type_of% @dz) ∧ (type_of% @plain_NN) ∧ (type_of% @plain_N) ∧ (type_of% @z16_len) ∧ (type_of% @st_D0) ∧ (type_of% @getN_D) ∧ (type_of% @fill_D0) := ⟨@dz, @plain_NN, @plain_N, @z16_len, @st_D0, @getN_D, @fill_D0⟩
theorem RDD : (type_of% @st_D) ∧ (type_of% @st_D1) ∧ (type_of% @st_D2) ∧ (type_of% @st_Db) ∧ (type_of% @st_Dw) ∧ (type_of% @getN_bk) ∧ (type_of% @getN_wh) ∧ (type_of% @getN_b1) ∧ (type_of% @getN_w1) ∧ (type_of% @fill_D) ∧ (type_of% @fill_Dw) ∧ (type_of% @getN_dv) := ⟨@st_D, @st_D1, @st_D2, @st_Db, @st_Dw, @getN_bk, @getN_wh, @getN_b1, @getN_w1, @fill_D, @fill_Dw, @getN_dv⟩

theorem Des.n0 {n : Int} {b w : List Nat} (h : Des n b w) : ∃ m : Nat, n = m ∧ 1 ≤ m ∧ m ≤ 16 := by
  have := h.1.1
  exact ⟨n.toNat, by omega, by omega, by omega⟩
end Go.Bm

/- The laws' copies and comparisons of dessins. -/
set_option linter.unusedVariables false
set_option linter.unusedSimpArgs false
namespace Go.Bm
open Go Go.Am

/-- A copy, so far. -/
def cpK (p : List Nat) (m : Nat) : Nat → List Nat
  | 0 => List.replicate m 0
  | k + 1 => (cpK p m k).set k (nl p k)
theorem cpK_len {p : List Nat} {m k : Nat} : (cpK p m k).length = m := by
  induction k with
  | zero => simp [cpK]
  | succ k ih => simp [cpK, ih]
theorem cpK_nl {p : List Nat} {m k i : Nat} (hk : k ≤ m) : nl (cpK p m k) i = if i < k then nl p i else 0 := by
  induction k with
  | zero => simp only [cpK, nl_rep]; split <;> simp
  | succ k ih =>
    simp only [cpK, nl_set, cpK_len]
    rw [ih (by omega)]
    by_cases h : i = k
    · subst h; simp [show i < m by omega]
    · simp only [h, false_and, if_false]
      split <;> split <;> first | rfl | omega
theorem cpK_all {p : List Nat} {m : Nat} (h : p.length = m) : cpK p m m = p := nl_ext (by rw [cpK_len, h]) fun i hi => by
  rw [cpK_len] at hi
  rw [cpK_nl (Nat.le_refl _), if_pos hi]
theorem toPlaces_spec {x : Bool} {p : List Nat} {H : BH} {K : Value → BH → Prop} (hp : By 16 p) (hK : K (PL p) H) : CallX x F_laws_toPlaces [PL p] H K := by
  have hlp := hp.len
  refine callP (by simp only [RH]) ?_
  refine CallX_body Γ_laws_toPlaces ?_
  simp only [A_laws_toPlaces, T_aiff]
  refine T_rseq fun Kr hKr => ?_
  simp (disch := omega) only [RA, ↓reduceIte, Nat.reduceEqDiff, RD]
  refine hKr _ _ ?_
  clear hKr Kr
  try simp only [RN, reduceIte]
  try refine T_e rfl ?_
  refine T_rseq fun Kr hKr => ?_
  simp (disch := omega) only [RA, ↓reduceIte, Nat.reduceEqDiff, RD]
  refine hKr _ _ ?_
  clear hKr Kr
  try simp only [RN, reduceIte]
  try refine T_e rfl ?_
  refine T_rseq fun Kr hKr => ?_
  simp (disch := omega) only [RA, ↓reduceIte, Nat.reduceEqDiff, RD]
  refine hKr _ _ ?_
  clear hKr Kr
  try simp only [RN, reduceIte]
  try refine T_e rfl ?_
  refine T_wloop (fun m f H' => ∃ k, k ≤ 16 ∧ m = 16 - k ∧ f 1 = P 0 0 ∧ f 2 = P 1 0 ∧ f 3 = P 2 0 ∧ f 4 = I k ∧ H' = [some (p.map N8), some (List.replicate 16 (.int .u8 0)), some ((cpK p 16 k).map N8)]) (16) ?_ ?_
  · refine ⟨_, _, Gh.refl, 0, by omega, by omega, ?_, ?_, ?_, ?_, ?_⟩
    any_goals (simp (disch := omega) only [RA, ↓reduceIte, Nat.reduceEqDiff, RD, RE, *] <;> rfl)
    simp [cpK]
  · rintro m f H' R ⟨k, hk, rfl, h1, h2, h3, h4, rfl⟩ hN hX hR hE
    simp only [A_laws_toPlaces.l0, T_aiff]
    have hlk := @cpK_len p 16 k
    refine T_rseq fun Kr hKr => ?_
    simp (disch := omega) only [RA, ↓reduceIte, Nat.reduceEqDiff, RD, h4]
    refine hKr _ _ ?_
    clear hKr Kr
    try simp only [RN, reduceIte]
    try refine T_e rfl ?_
    refine T_csplit (p := k < 16) (by simp only [RA, ↓reduceIte, Nat.reduceEqDiff] <;> rfl) (by (try simp only [RB]) <;> first | done | exact Iff.rfl | omega | simp) (fun hc => ?_) (fun hc => ?_) <;> (try simp only [RN, reduceIte]) <;> (try refine T_e rfl ?_)
    · first | refine T_bfree rfl ?_ | refine T_bfree' rfl ?_
      try simp only [RN, reduceIte]
      try refine T_e rfl ?_
      refine T_rseq fun Kr hKr => ?_
      simp (disch := omega) only [RA, ↓reduceIte, Nat.reduceEqDiff, RD, h1, h3, h4, hlp, hlk]
      refine hKr _ _ ?_
      clear hKr Kr
      try simp only [RN, reduceIte]
      try refine T_e rfl ?_
      refine T_reg_k fun Kr hKr => ?_
      simp (disch := omega) only [RA, ↓reduceIte, Nat.reduceEqDiff, RD, h4]
      refine hKr _ _ ?_
      clear hKr Kr
      refine hN (16 - (k + 1)) _ _ _ _ (by omega) Gh.refl ⟨k + 1, by omega, rfl, ?_, ?_, ?_, ?_, rfl⟩
      any_goals (simp (disch := omega) only [RA, ↓reduceIte, Nat.reduceEqDiff, RD, RE, *] <;> rfl)
    · refine hX _ _ ?_
      obtain rfl : k = 16 := by omega
      rw [cpK_all hlp]
      refine T_rseq fun Kr hKr => ?_
      simp (disch := omega) only [RA, ↓reduceIte, Nat.reduceEqDiff, RD, h2, h3]
      refine hKr _ _ ?_
      clear hKr Kr
      try simp only [RN, reduceIte]
      try refine T_e rfl ?_
      refine bodyQ_ret (by simp (disch := omega) only [RA, ↓reduceIte, Nat.reduceEqDiff, RD, resAll, resOf, h2]; rfl) GhV.refl ?_
      simp only [tup]
      exact ⟨NN_agg (by (simp only [RH])), hK⟩
theorem toDessin_spec {x : Bool} {n : Int} {b w : List Nat} {H : BH} {K : Value → BH → Prop} (hb : By 16 b) (hw : By 16 w) (hK : K (DV n b w) H) : CallX x F_laws_toDessin [DV n b w] H K := by
  have hlb := hb.len
  have hlw := hw.len
  have hz := z16_len
  refine callP (by exact .cons nn_D .nil) ?_
  refine CallX_body Γ_laws_toDessin ?_
  simp only [A_laws_toDessin, T_aiff]
  refine T_rseq fun Kr hKr => ?_
  simp (disch := omega) only [RA, ↓reduceIte, Nat.reduceEqDiff, Nat.reduceAdd, Nat.reduceMul, Int.reduceToNat, Nat.reduceLT, reduceCtorEq, RD, RDS]
  refine hKr _ _ ?_
  clear hKr Kr
  try simp only [RN, reduceIte]
  try refine T_e rfl ?_
  refine T_rseq fun Kr hKr => ?_
  simp (disch := omega) only [RA, ↓reduceIte, Nat.reduceEqDiff, Nat.reduceAdd, Nat.reduceMul, Int.reduceToNat, Nat.reduceLT, reduceCtorEq, RD, RDS]
  refine hKr _ _ ?_
  clear hKr Kr
  try simp only [RN, reduceIte]
  try refine T_e rfl ?_
  refine T_rseq fun Kr hKr => ?_
  simp (disch := omega) only [RA, ↓reduceIte, Nat.reduceEqDiff, Nat.reduceAdd, Nat.reduceMul, Int.reduceToNat, Nat.reduceLT, reduceCtorEq, RD, RDS]
  refine hKr _ _ ?_
  clear hKr Kr
  try simp only [RN, reduceIte]
  try refine T_e rfl ?_
  refine T_rseq fun Kr hKr => ?_
  simp (disch := omega) only [RA, ↓reduceIte, Nat.reduceEqDiff, Nat.reduceAdd, Nat.reduceMul, Int.reduceToNat, Nat.reduceLT, reduceCtorEq, RD, RDS, RDD]
  refine toPlaces_spec hb ?_
  simp (disch := omega) only [RA, ↓reduceIte, Nat.reduceEqDiff, Nat.reduceAdd, Nat.reduceMul, Int.reduceToNat, Nat.reduceLT, reduceCtorEq, RD, RDS, RDD]
  refine hKr _ _ ?_
  clear hKr Kr
  try simp only [blkQ, thenQ, loopQ]
  try simp only [RN, reduceIte]
  try refine T_e rfl ?_
  refine T_rseq fun Kr hKr => ?_
  simp (disch := omega) only [RA, ↓reduceIte, Nat.reduceEqDiff, Nat.reduceAdd, Nat.reduceMul, Int.reduceToNat, Nat.reduceLT, reduceCtorEq, RD, RDS, RDD]
  refine toPlaces_spec hw ?_
  simp (disch := omega) only [RA, ↓reduceIte, Nat.reduceEqDiff, Nat.reduceAdd, Nat.reduceMul, Int.reduceToNat, Nat.reduceLT, reduceCtorEq, RD, RDS, RDD]
  refine hKr _ _ ?_
  clear hKr Kr
  try simp only [blkQ, thenQ, loopQ]
  try simp only [RN, reduceIte]
  try refine T_e rfl ?_
  refine T_rseq fun Kr hKr => ?_
  simp (disch := omega) only [RA, ↓reduceIte, Nat.reduceEqDiff, RD, RDS, RDD]
  refine hKr _ _ ?_
  clear hKr Kr
  try simp only [RN, reduceIte]
  try refine T_e rfl ?_
  refine bodyQ_ret (by simp (disch := omega) only [RA, ↓reduceIte, Nat.reduceEqDiff, RD, resAll, resOf, RDS, RDD]; rfl) GhV.refl ?_
  simp only [tup]
  exact ⟨nn_D, hK⟩
/-- Two dessins are equal. -/
def EqD (n : Int) (b w : List Nat) (n' : Int) (b' w' : List Nat) : Prop := n = n' ∧ b = b' ∧ w = w'
instance (n : Int) (b w : List Nat) (n' : Int) (b' w' : List Nat) : Decidable (EqD n b w n' b' w') := by unfold EqD; infer_instance
end Go.Bm

