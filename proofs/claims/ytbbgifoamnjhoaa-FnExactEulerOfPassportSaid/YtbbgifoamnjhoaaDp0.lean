/- Places, and how they are told of as permutations. -/
import Derived.Test.YtbbgifoamnjhoaaBmS
set_option linter.unusedVariables false
set_option linter.unusedSimpArgs false
namespace Go.Bm
open Go Go.Am

/-- Sixteen bytes. -/
structure By (m : Nat) (p : List Nat) : Prop where
  len : p.length = m
  lt : ∀ i, nl p i < 256
theorem By.mem {m : Nat} {p : List Nat} (h : By m p) : ∀ x ∈ p, x < 256 := fun x hx => by
  obtain ⟨i, hi, rfl⟩ := List.mem_iff_getElem.1 hx
  have := h.lt i
  simpa [nl, List.getD, hi] using this
theorem nl_set {p : List Nat} {i x j : Nat} : nl (p.set i x) j = if j = i ∧ i < p.length then x else nl p j := by
  unfold nl
  simp only [List.getD]
  by_cases h : i = j
  · subst h
    by_cases hi : i < p.length
    · simp [hi]
    · simp [List.getElem?_eq_none (by omega : p.length ≤ i), hi]
  · rw [List.getElem?_set_ne h, if_neg (fun e => h e.1.symm)]
theorem bl_set {p : List Bool} {i : Nat} {x : Bool} {j : Nat} : bl (p.set i x) j = if j = i ∧ i < p.length then x else bl p j := by
  unfold bl
  simp only [List.getD]
  by_cases h : i = j
  · subst h
    by_cases hi : i < p.length
    · simp [hi]
    · simp [List.getElem?_eq_none (by omega : p.length ≤ i), hi]
  · rw [List.getElem?_set_ne h, if_neg (fun e => h e.1.symm)]
theorem nl_rep {n m i : Nat} : nl (List.replicate n m) i = if i < n then m else 0 := by
  unfold nl
  simp only [List.getD, List.getElem?_replicate]
  split <;> rfl
theorem bl_rep {n i : Nat} : bl (List.replicate n false) i = false := by
  unfold bl
  simp only [List.getD, List.getElem?_replicate]
  split <;> rfl
theorem nl_out {p : List Nat} {i : Nat} (h : p.length ≤ i) : nl p i = 0 := by simp [nl, List.getD, List.getElem?_eq_none h]
theorem nl_ext {p q : List Nat} (hl : p.length = q.length) (h : ∀ i, i < p.length → nl p i = nl q i) : p = q := by
  apply List.ext_getElem hl
  intro i h1 h2
  have := h i h1
  simpa [nl, List.getD, h1, h2] using this
theorem By.set {m : Nat} {p : List Nat} (h : By m p) {i x : Nat} (hx : x < 256) : By m (p.set i x) := ⟨by simp [h.len], fun j => by rw [nl_set]; split; exact hx; exact h.lt j⟩
theorem By.rep {m : Nat} : By m (List.replicate m 0) := ⟨by simp, fun i => by rw [nl_rep]; split <;> omega⟩

theorem l01In_spec {x : Bool} {a b c : Int} {H : BH} {K : Value → BH → Prop} (hK : K (.bool (decide (b ≤ a ∧ a ≤ c))) H) : CallX x F_spec_l01In [I a, I b, I c] H K := by
  refine callP (by simp only [RH]) ?_
  refine CallX_body Γ_spec_l01In ?_
  simp only [A_spec_l01In, T_aiff]
  refine T_rseq fun Kr hKr => ?_
  simp (disch := omega) only [RA, ↓reduceIte, Nat.reduceEqDiff, RD]
  refine hKr _ _ ?_
  clear hKr Kr
  try simp only [RN, reduceIte]
  try refine T_e rfl ?_
  by_cases h : b ≤ a
  · refine T_rseq fun Kr hKr => ?_
    simp (disch := omega) only [RA, ↓reduceIte, Nat.reduceEqDiff, RD, h]
    refine hKr _ _ ?_
    clear hKr Kr
    try simp only [RN, reduceIte]
    try refine T_e rfl ?_
    refine bodyQ_ret (by simp (disch := omega) only [RA, ↓reduceIte, Nat.reduceEqDiff, RD, resAll, resOf, h]; rfl) GhV.refl ?_
    simp only [tup]
    exact ⟨NN.bool, by simpa [h] using hK⟩
  · refine T_rseq fun Kr hKr => ?_
    simp (disch := omega) only [RA, ↓reduceIte, Nat.reduceEqDiff, RD, h]
    refine hKr _ _ ?_
    clear hKr Kr
    try simp only [RN, reduceIte]
    try refine T_e rfl ?_
    refine bodyQ_ret (by simp (disch := omega) only [RA, ↓reduceIte, Nat.reduceEqDiff, RD, resAll, resOf, h]; rfl) GhV.refl ?_
    simp only [tup]
    exact ⟨NN.bool, by simpa [h] using hK⟩
theorem isSize_spec {x : Bool} {a : Int} {H : BH} {K : Value → BH → Prop} (hK : K (.bool (decide (1 ≤ a ∧ a ≤ 16))) H) : CallX x F_impl_isSize [I a] H K := by
  refine callP (by simp only [RH]) ?_
  refine CallX_body Γ_impl_isSize ?_
  simp only [A_impl_isSize, T_aiff]
  refine T_rseq fun Kr hKr => ?_
  simp (disch := omega) only [RA, ↓reduceIte, Nat.reduceEqDiff, RD]
  refine hKr _ _ ?_
  clear hKr Kr
  try simp only [RN, reduceIte]
  try refine T_e rfl ?_
  by_cases h : 1 ≤ a
  · refine T_rseq fun Kr hKr => ?_
    simp (disch := omega) only [RA, ↓reduceIte, Nat.reduceEqDiff, RD, h]
    refine hKr _ _ ?_
    clear hKr Kr
    try simp only [RN, reduceIte]
    try refine T_e rfl ?_
    refine bodyQ_ret (by simp (disch := omega) only [RA, ↓reduceIte, Nat.reduceEqDiff, RD, resAll, resOf, h]; rfl) GhV.refl ?_
    simp only [tup]
    exact ⟨NN.bool, by simpa [h] using hK⟩
  · refine T_rseq fun Kr hKr => ?_
    simp (disch := omega) only [RA, ↓reduceIte, Nat.reduceEqDiff, RD, h]
    refine hKr _ _ ?_
    clear hKr Kr
    try simp only [RN, reduceIte]
    try refine T_e rfl ?_
    refine bodyQ_ret (by simp (disch := omega) only [RA, ↓reduceIte, Nat.reduceEqDiff, RD, resAll, resOf, h]; rfl) GhV.refl ?_
    simp only [tup]
    exact ⟨NN.bool, by simpa [h] using hK⟩

/-- A permutation of n numbers. -/
def Perm (p : List Nat) (n : Int) : Prop := (1 ≤ n ∧ n ≤ 16) ∧ ∀ i : Nat, i < 16 → ((n ≤ (i : Int) → nl p i = 0) ∧ ((i : Int) < n → (nl p i : Int) < n ∧ ∀ j, j < i → nl p j ≠ nl p i))
instance (p : List Nat) (n : Int) : Decidable (Perm p n) := by unfold Perm; infer_instance
/-- What stands of it at the number i. -/
def PermAt (p : List Nat) (n : Int) (i : Nat) : Prop := (n ≤ (i : Int) → nl p i = 0) ∧ ((i : Int) < n → (nl p i : Int) < n ∧ ∀ j, j < i → nl p j ≠ nl p i)
/-- The numbers met. -/
def Met (p : List Nat) (n : Int) (k : Nat) (s : List Bool) : Prop := s.length = 16 ∧ ∀ x, bl s x = true ↔ ∃ i, i < k ∧ (i : Int) < n ∧ nl p i = x
theorem Met.zero {p : List Nat} {n : Int} : Met p n 0 (List.replicate 16 false) := ⟨by simp, fun x => by rw [bl_rep]; simp⟩
theorem Met.next {p : List Nat} {n : Int} {k : Nat} {s : List Bool} (h : Met p n k s) (hk : (k : Int) < n) (hx : nl p k < 16) : Met p n (k + 1) (s.set (nl p k) true) := ⟨by simp [h.1], fun x => by
  rw [bl_set]
  by_cases e : x = nl p k
  · subst e
    rw [if_pos ⟨rfl, by rw [h.1]; exact hx⟩]
    exact ⟨fun _ => ⟨k, by omega, hk, rfl⟩, fun _ => rfl⟩
  · rw [if_neg (fun h => e h.1), h.2]
    exact ⟨fun ⟨i, h1, h2, h3⟩ => ⟨i, by omega, h2, h3⟩, fun ⟨i, h1, h2, h3⟩ => ⟨i, by
      rcases Nat.lt_or_ge i k with q | q
      · exact q
      · obtain rfl : i = k := by omega
        exact absurd h3.symm e, h2, h3⟩⟩⟩
theorem Met.skip {p : List Nat} {n : Int} {k : Nat} {s : List Bool} (h : Met p n k s) (hk : ¬ (k : Int) < n) : Met p n (k + 1) s := ⟨h.1, fun x => by
  rw [h.2]
  exact ⟨fun ⟨i, h1, h2, h3⟩ => ⟨i, by omega, h2, h3⟩, fun ⟨i, h1, h2, h3⟩ => ⟨i, by
    rcases Nat.lt_or_ge i k with q | q
    · exact q
    · obtain rfl : i = k := by omega
      exact absurd h2 hk, h2, h3⟩⟩⟩

theorem IsPermutation_spec {x : Bool} {p : List Nat} {n : Int} {H : BH} {K : Value → BH → Prop} (hp : By 16 p) (hK : K (.bool (decide (Perm p n))) H) : CallX x F_impl_IsPermutation [PL p, I n] H K := by
  have hlen := hp.len
  refine callP (by simp only [RH]) ?_
  refine CallX_body Γ_impl_IsPermutation ?_
  simp only [A_impl_IsPermutation, T_aiff]
  refine T_rseq fun Kr hKr => ?_
  simp (disch := omega) only [RA, ↓reduceIte, Nat.reduceEqDiff, RD]
  refine hKr _ _ ?_
  clear hKr Kr
  try simp only [RN, reduceIte]
  try refine T_e rfl ?_
  refine T_rseq fun Kr hKr => ?_
  simp (disch := omega) only [RA, ↓reduceIte, Nat.reduceEqDiff, RD]
  refine isSize_spec ?_
  simp (disch := omega) only [RA, ↓reduceIte, Nat.reduceEqDiff, RD]
  refine hKr _ _ ?_
  clear hKr Kr
  try simp only [blkQ, thenQ, loopQ]
  try simp only [RN, reduceIte]
  try refine T_e rfl ?_
  refine T_csplit (p := ¬ (1 ≤ n ∧ n ≤ 16)) (by simp only [RA, ↓reduceIte, Nat.reduceEqDiff] <;> rfl) (by (try simp only [RB]) <;> first | done | exact Iff.rfl | omega | simp) (fun hc => ?_) (fun hc => ?_) <;> (try simp only [RN, reduceIte]) <;> (try refine T_e rfl ?_)
  · refine T_rseq fun Kr hKr => ?_
    simp (disch := omega) only [RA, ↓reduceIte, Nat.reduceEqDiff, RD]
    refine hKr _ _ ?_
    clear hKr Kr
    try simp only [RN, reduceIte]
    try refine T_e rfl ?_
    refine bodyQ_ret (by simp (disch := omega) only [RA, ↓reduceIte, Nat.reduceEqDiff, RD, resAll, resOf]; rfl) GhV.refl ?_
    simp only [tup]
    exact ⟨NN.bool, by simpa [Perm, hc] using hK⟩
  have hc' : 1 ≤ n ∧ n ≤ 16 := by omega
  refine T_rseq fun Kr hKr => ?_
  simp (disch := omega) only [RA, ↓reduceIte, Nat.reduceEqDiff, RD]
  refine hKr _ _ ?_
  clear hKr Kr
  try simp only [RN, reduceIte]
  try refine T_e rfl ?_
  refine T_rseq fun Kr hKr => ?_
  simp (disch := omega) only [RA, ↓reduceIte, Nat.reduceEqDiff, RD]
  refine hKr _ _ ?_
  clear hKr Kr
  try simp only [RN, reduceIte]
  try refine T_e rfl ?_
  refine T_wloop (fun m f H' => ∃ k s, k ≤ 16 ∧ m = 16 - k ∧ Met p n k s ∧ (∀ i, i < k → PermAt p n i) ∧ f 1 = I n ∧ f 5 = P 1 0 ∧ f 12 = PL p ∧ f 13 = I k ∧ H' = [some (p.map N8), some (s.map B)]) (16) ?_ ?_
  · refine ⟨_, _, Gh.refl, 0, List.replicate 16 false, by omega, by omega, Met.zero, by omega, by simp [RA, ↓reduceIte, Nat.reduceEqDiff], by simp [RA, ↓reduceIte, Nat.reduceEqDiff], by simp [RA, ↓reduceIte, Nat.reduceEqDiff], by simp [RA, ↓reduceIte, Nat.reduceEqDiff], by simp [RA, ↓reduceIte, Nat.reduceEqDiff]⟩
  · rintro m f H' R ⟨k, s, hk, rfl, hm, hat, h1, h5, h12, h13, rfl⟩ hN hX hR hE
    simp only [A_impl_IsPermutation.l0, T_aiff]
    refine T_rseq fun Kr hKr => ?_
    simp (disch := omega) only [RA, ↓reduceIte, Nat.reduceEqDiff, RD, h13]
    refine hKr _ _ ?_
    clear hKr Kr
    try simp only [RN, reduceIte]
    try refine T_e rfl ?_
    refine T_csplit (p := k < 16) (by simp only [RA, ↓reduceIte, Nat.reduceEqDiff] <;> rfl) (by (try simp only [RB]) <;> first | done | exact Iff.rfl | omega | simp) (fun hc => ?_) (fun hc => ?_) <;> (try simp only [RN, reduceIte]) <;> (try refine T_e rfl ?_)
    · have hlt := hp.lt k
      have hnext : ∀ f' s', f' 1 = I n → f' 5 = P 1 0 → f' 12 = PL p → f' 13 = I k → Met p n (k + 1) s' → PermAt p n k → T 0 A_impl_IsPermutation.r13 R f' [some (p.map N8), some (s'.map B)] := by
        intro f' s' h1 h5 h12 h13 hm' hat'
        refine T_reg_k fun Kr hKr => ?_
        simp (disch := omega) only [RA, ↓reduceIte, Nat.reduceEqDiff, RD, h13]
        refine hKr _ _ ?_
        clear hKr Kr
        refine hN (16 - (k + 1)) _ _ _ _ (by omega) Gh.refl ⟨k + 1, s', by omega, rfl, hm', fun i hi => ?_, by simp [RA, ↓reduceIte, Nat.reduceEqDiff, h1], by simp [RA, ↓reduceIte, Nat.reduceEqDiff, h5], by simp [RA, ↓reduceIte, Nat.reduceEqDiff, h12], by simp [RA, ↓reduceIte, Nat.reduceEqDiff], rfl⟩
        rcases Nat.lt_or_ge i k with h | h
        · exact hat i h
        · obtain rfl : i = k := by omega
          exact hat'
      refine T_seq (T_block ?_)
      try simp only [RN, reduceIte]
      try refine T_e rfl ?_
      refine T_rseq fun Kr hKr => ?_
      simp (disch := omega) only [RA, ↓reduceIte, Nat.reduceEqDiff, RD, h12, h13, hlen]
      refine hKr _ _ ?_
      clear hKr Kr
      try simp only [RN, reduceIte]
      try refine T_e rfl ?_
      refine T_rseq fun Kr hKr => ?_
      simp (disch := omega) only [RA, ↓reduceIte, Nat.reduceEqDiff, RD, h1]
      refine hKr _ _ ?_
      clear hKr Kr
      try simp only [RN, reduceIte]
      try refine T_e rfl ?_
      refine T_csplit (p := n ≤ k) (by simp only [RA, ↓reduceIte, Nat.reduceEqDiff] <;> rfl) (by (try simp only [RB]) <;> first | done | exact Iff.rfl | omega | simp) (fun hc => ?_) (fun hc => ?_) <;> (try simp only [RN, reduceIte]) <;> (try refine T_e rfl ?_)
      · refine T_rseq fun Kr hKr => ?_
        simp (disch := omega) only [RA, ↓reduceIte, Nat.reduceEqDiff, RD]
        refine hKr _ _ ?_
        clear hKr Kr
        try simp only [RN, reduceIte]
        try refine T_e rfl ?_
        refine T_csplit (p := nl p k ≠ 0) (by simp only [RA, ↓reduceIte, Nat.reduceEqDiff] <;> rfl) (by (try simp only [RB]) <;> first | done | exact Iff.rfl | omega | simp) (fun hc => ?_) (fun hc => ?_) <;> (try simp only [RN, reduceIte]) <;> (try refine T_e rfl ?_)
        · refine T_rseq fun Kr hKr => ?_
          simp (disch := omega) only [RA, ↓reduceIte, Nat.reduceEqDiff, RD]
          refine hKr _ _ ?_
          clear hKr Kr
          try simp only [RN, reduceIte]
          try refine T_e rfl ?_
          refine hR _ _ ?_
          refine bodyQ_ret (by simp (disch := omega) only [RA, ↓reduceIte, Nat.reduceEqDiff, RD, resAll, resOf]; rfl) GhV.refl ?_
          simp only [tup]
          refine ⟨NN.bool, ?_⟩
          have : ¬ Perm p n := fun h => hc ((h.2 k (by omega)).1 (by omega))
          simpa [this] using hK
        · try simp only [RN, reduceIte]
          try refine T_e rfl ?_
          simp only [blkQ, thenQ, loopQ, if_true]
          exact hnext _ s (by simp [RA, ↓reduceIte, Nat.reduceEqDiff, h1]) (by simp [RA, ↓reduceIte, Nat.reduceEqDiff, h5]) (by simp [RA, ↓reduceIte, Nat.reduceEqDiff, h12]) (by simp [RA, ↓reduceIte, Nat.reduceEqDiff, h13]) (hm.skip (by omega)) ⟨fun _ => by omega, fun h => by omega⟩
      · by_cases hb : n ≤ nl p k
        · refine T_rseq fun Kr hKr => ?_
          simp (disch := omega) only [RA, ↓reduceIte, Nat.reduceEqDiff, RD, h1, hb]
          refine hKr _ _ ?_
          clear hKr Kr
          try simp only [RN, reduceIte]
          try refine T_e rfl ?_
          refine T_cseq (t := true) (by simp (disch := omega) only [RA, ↓reduceIte, Nat.reduceEqDiff, RD]) ?_
          try simp only [RN, reduceIte]
          try refine T_e rfl ?_
          refine T_rseq fun Kr hKr => ?_
          simp (disch := omega) only [RA, ↓reduceIte, Nat.reduceEqDiff, RD]
          refine hKr _ _ ?_
          clear hKr Kr
          try simp only [RN, reduceIte]
          try refine T_e rfl ?_
          refine hR _ _ ?_
          refine bodyQ_ret (by simp (disch := omega) only [RA, ↓reduceIte, Nat.reduceEqDiff, RD, resAll, resOf]; rfl) GhV.refl ?_
          simp only [tup]
          refine ⟨NN.bool, ?_⟩
          have : ¬ Perm p n := fun h => by have := ((h.2 k (by omega)).2 (by omega)).1; omega
          simpa [this] using hK
        · have hsl := hm.1
          refine T_rseq fun Kr hKr => ?_
          simp (disch := omega) only [RA, ↓reduceIte, Nat.reduceEqDiff, RD, h1, h5, hb, hsl]
          refine hKr _ _ ?_
          clear hKr Kr
          try simp only [RN, reduceIte]
          try refine T_e rfl ?_
          refine T_csplit (p := bl s (nl p k) = true) (by simp only [RA, ↓reduceIte, Nat.reduceEqDiff] <;> rfl) (by (try simp only [RB]) <;> first | done | exact Iff.rfl | omega | simp) (fun hc => ?_) (fun hc => ?_) <;> (try simp only [RN, reduceIte]) <;> (try refine T_e rfl ?_)
          · refine T_rseq fun Kr hKr => ?_
            simp (disch := omega) only [RA, ↓reduceIte, Nat.reduceEqDiff, RD]
            refine hKr _ _ ?_
            clear hKr Kr
            try simp only [RN, reduceIte]
            try refine T_e rfl ?_
            refine hR _ _ ?_
            refine bodyQ_ret (by simp (disch := omega) only [RA, ↓reduceIte, Nat.reduceEqDiff, RD, resAll, resOf]; rfl) GhV.refl ?_
            simp only [tup]
            refine ⟨NN.bool, ?_⟩
            obtain ⟨i, hi1, hi2, hi3⟩ := (hm.2 _).1 hc
            have : ¬ Perm p n := fun h => ((h.2 k (by omega)).2 (by omega)).2 i hi1 hi3
            simpa [this] using hK
          · refine T_reg_k fun Kr hKr => ?_
            simp (disch := omega) only [RA, ↓reduceIte, Nat.reduceEqDiff, RD, h5, hsl]
            refine hKr _ _ ?_
            clear hKr Kr
            simp only [blkQ, thenQ, loopQ, if_true]
            refine hnext _ (s.set (nl p k) true) (by simp [RA, ↓reduceIte, Nat.reduceEqDiff, h1]) (by simp [RA, ↓reduceIte, Nat.reduceEqDiff, h5]) (by simp [RA, ↓reduceIte, Nat.reduceEqDiff, h12]) (by simp [RA, ↓reduceIte, Nat.reduceEqDiff, h13]) (hm.next (by omega) (by omega)) ⟨fun h => by omega, fun _ => ⟨by omega, fun j hj e => hc ((hm.2 _).2 ⟨j, hj, by omega, e⟩)⟩⟩
    · refine hX _ _ ?_
      refine T_rseq fun Kr hKr => ?_
      simp (disch := omega) only [RA, ↓reduceIte, Nat.reduceEqDiff, RD]
      refine hKr _ _ ?_
      clear hKr Kr
      try simp only [RN, reduceIte]
      try refine T_e rfl ?_
      refine bodyQ_ret (by simp (disch := omega) only [RA, ↓reduceIte, Nat.reduceEqDiff, RD, resAll, resOf]; rfl) GhV.refl ?_
      simp only [tup]
      refine ⟨NN.bool, ?_⟩
      have : Perm p n := ⟨hc', fun i hi => hat i (by omega)⟩
      simpa [this] using hK
end Go.Bm
