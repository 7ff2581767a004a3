/- Dp0, Dp1, Dp2, Dp3, Dp4, DpCa -/
import Derived.Test.YtbfhlajbjfahiaaBmS
/- Places, and how they are told of as permutations. -/
set_option linter.unusedVariables false
set_option linter.unusedSimpArgs false
namespace Go.Bm
open Go Go.Am

/-- Sixteen bytes. -/
structure By (m : Nat) (p : List Nat) : Prop where
  len : p.length = m
  lt : ∀ i, nl p i < 256
theorem By.mem {m : Nat} {p : List Nat} (h : By m p) : ∀ x ∈ p, x < 256 := fun x hx => by
  obtain ⟨i, hi, rfl⟩ := List.mem_iff_getElem.1 hx
  have := h.lt i
  simpa [nl, List.getD, hi] using this
theorem nl_set {p : List Nat} {i x j : Nat} : nl (p.set i x) j = if j = i ∧ i < p.length then x else nl p j := by
  unfold nl
  simp only [List.getD]
  by_cases h : i = j
  · subst h
    by_cases hi : i < p.length
    · simp [hi]
    · simp [List.getElem?_eq_none (by omega : p.length ≤ i), hi]
  · rw [List.getElem?_set_ne h, if_neg (fun e => h e.1.symm)]
theorem bl_set {p : List Bool} {i : Nat} {x : Bool} {j : Nat} : bl (p.set i x) j = if j = i ∧ i < p.length then x else bl p j := by
  unfold bl
  simp only [List.getD]
  by_cases h : i = j
  · subst h
    by_cases hi : i < p.length
    · simp [hi]
    · simp [List.getElem?_eq_none (by omega : p.length ≤ i), hi]
  · rw [List.getElem?_set_ne h, if_neg (fun e => h e.1.symm)]
theorem nl_rep {n m i : Nat} : nl (List.replicate n m) i = if i < n then m else 0 := by
  unfold nl
  simp only [List.getD, List.getElem?_replicate]
  split <;> rfl
theorem bl_rep {n i : Nat} : bl (List.replicate n false) i = false := by
  unfold bl
  simp only [List.getD, List.getElem?_replicate]
  split <;> rfl
theorem nl_out {p : List Nat} {i : Nat} (h : p.length ≤ i) : nl p i = 0 := by simp [nl, List.getD, List.getElem?_eq_none h]
theorem nl_ext {p q : List Nat} (hl : p.length = q.length) (h : ∀ i, i < p.length → nl p i = nl q i) : p = q := by
  apply List.ext_getElem hl
  intro i h1 h2
  have := h i h1
  simpa [nl, List.getD, h1, h2] using this
theorem By.set {m : Nat} {p : List Nat} (h : By m p) {i x : Nat} (hx : x < 256) : By m (p.set i x) := ⟨by simp [h.len], fun j => by rw [nl_set]; split; exact hx; exact h.lt j⟩
theorem By.rep {m : Nat} : By m (List.replicate m 0) := ⟨by simp, fun i => by rw [nl_rep]; split <;> omega⟩

theorem l01In_spec {x : Bool} {a b c : Int} {H : BH} {K : Value → BH → Prop} (hK : K (.bool (decide (b ≤ a ∧ a ≤ c))) H) : CallX x F_spec_l01In [I a, I b, I c] H K := by
  refine callP (by simp only [RH]) ?_
  refine CallX_body Γ_spec_l01In ?_
  simp only [A_spec_l01In, T_aiff]
  refine T_rseq fun Kr hKr => ?_
  simp (disch := omega) only [RA, ↓reduceIte, Nat.reduceEqDiff, RD]
  refine hKr _ _ ?_
  clear hKr Kr
  try simp only [RN, reduceIte]
  try refine T_e rfl ?_
  by_cases h : b ≤ a
  · refine T_rseq fun Kr hKr => ?_
    simp (disch := omega) only [RA, ↓reduceIte, Nat.reduceEqDiff, RD, h]
    refine hKr _ _ ?_
    clear hKr Kr
    try simp only [RN, reduceIte]
    try refine T_e rfl ?_
    refine bodyQ_ret (by simp (disch := omega) only [RA, ↓reduceIte, Nat.reduceEqDiff, RD, resAll, resOf, h]; rfl) GhV.refl ?_
    simp only [tup]
    exact ⟨NN.bool, by simpa [h] using hK⟩
  · refine T_rseq fun Kr hKr => ?_
    simp (disch := omega) only [RA, ↓reduceIte, Nat.reduceEqDiff, RD, h]
    refine hKr _ _ ?_
    clear hKr Kr
    try simp only [RN, reduceIte]
    try refine T_e rfl ?_
    refine bodyQ_ret (by simp (disch := omega) only [RA, ↓reduceIte, Nat.reduceEqDiff, RD, resAll, resOf, h]; rfl) GhV.refl ?_
    simp only [tup]
    exact ⟨NN.bool, by simpa [h] using hK⟩
/-- A permutation of n numbers. -/
def Perm (p : List Nat) (n : Int) : Prop := (1 ≤ n ∧ n ≤ 16) ∧ ∀ i : Nat, i < 16 → ((n ≤ (i : Int) → nl p i = 0) ∧ ((i : Int) < n → (nl p i : Int) < n ∧ ∀ j, j < i → nl p j ≠ nl p i))
instance (p : List Nat) (n : Int) : Decidable (Perm p n) := by unfold Perm; infer_instance
/-- What stands of it at the number i. -/
def PermAt (p : List Nat) (n : Int) (i : Nat) : Prop := (n ≤ (i : Int) → nl p i = 0) ∧ ((i : Int) < n → (nl p i : Int) < n ∧ ∀ j, j < i → nl p j ≠ nl p i)
/-- The numbers met. -/
def Met (p : List Nat) (n : Int) (k : Nat) (s : List Bool) : Prop := s.length = 16 ∧ ∀ x, bl s x = true ↔ ∃ i, i < k ∧ (i : Int) < n ∧ nl p i = x
theorem Met.zero {p : List Nat} {n : Int} : Met p n 0 (List.replicate 16 false) := ⟨by simp, fun x => by rw [bl_rep]; simp⟩
theorem Met.next {p : List Nat} {n : Int} {k : Nat} {s : List Bool} (h : Met p n k s) (hk : (k : Int) < n) (hx : nl p k < 16) : Met p n (k + 1) (s.set (nl p k) true) := ⟨by simp [h.1], fun x => by
  rw [bl_set]
  by_cases e : x = nl p k
  · subst e
    rw [if_pos ⟨rfl, by rw [h.1]; exact hx⟩]
    exact ⟨fun _ => ⟨k, by omega, hk, rfl⟩, fun _ => rfl⟩
  · rw [if_neg (fun h => e h.1), h.2]
    exact ⟨fun ⟨i, h1, h2, h3⟩ => ⟨i, by omega, h2, h3⟩, fun ⟨i, h1, h2, h3⟩ => ⟨i, by
      rcases Nat.lt_or_ge i k with q | q
      · exact q
      · obtain rfl : i = k := by omega
        exact absurd h3.symm e, h2, h3⟩⟩⟩
theorem Met.skip {p : List Nat} {n : Int} {k : Nat} {s : List Bool} (h : Met p n k s) (hk : ¬ (k : Int) < n) : Met p n (k + 1) s := ⟨h.1, fun x => by
  rw [h.2]
  exact ⟨fun ⟨i, h1, h2, h3⟩ => ⟨i, by omega, h2, h3⟩, fun ⟨i, h1, h2, h3⟩ => ⟨i, by
    rcases Nat.lt_or_ge i k with q | q
    · exact q
    · obtain rfl : i = k := by omega
      exact absurd h2 hk, h2, h3⟩⟩⟩

end Go.Bm

/- The reference's test of permutations; products and inverses. -/
set_option linter.unusedVariables false
set_option linter.unusedSimpArgs false
namespace Go.Bm
open Go Go.Am

theorem l01Perm_spec {x : Bool} {p : List Nat} {n : Int} {H : BH} {K : Value → BH → Prop} (hp : By 16 p) (hK : K (.bool (decide (Perm p n))) H) : CallX x F_spec_l01Perm [PL p, I n] H K := by
  have hlen := hp.len
  refine callP (by simp only [RH]) ?_
  refine CallX_body Γ_spec_l01Perm ?_
  simp only [A_spec_l01Perm, T_aiff]
  refine T_rseq fun Kr hKr => ?_
  simp (disch := omega) only [RA, ↓reduceIte, Nat.reduceEqDiff, RD]
  refine hKr _ _ ?_
  clear hKr Kr
  try simp only [RN, reduceIte]
  try refine T_e rfl ?_
  refine T_rseq fun Kr hKr => ?_
  simp (disch := omega) only [RA, ↓reduceIte, Nat.reduceEqDiff, RD]
  refine l01In_spec ?_
  simp (disch := omega) only [RA, ↓reduceIte, Nat.reduceEqDiff, RD]
  refine hKr _ _ ?_
  clear hKr Kr
  try simp only [blkQ, thenQ, loopQ]
  try simp only [RN, reduceIte]
  try refine T_e rfl ?_
  refine T_csplit (p := ¬ (1 ≤ n ∧ n ≤ 16)) (by simp only [RA, ↓reduceIte, Nat.reduceEqDiff] <;> rfl) (by (try simp only [RB]) <;> first | done | exact Iff.rfl | omega | simp) (fun hc => ?_) (fun hc => ?_) <;> (try simp only [RN, reduceIte]) <;> (try refine T_e rfl ?_)
  · refine T_rseq fun Kr hKr => ?_
    simp (disch := omega) only [RA, ↓reduceIte, Nat.reduceEqDiff, RD]
    refine hKr _ _ ?_
    clear hKr Kr
    try simp only [RN, reduceIte]
    try refine T_e rfl ?_
    refine bodyQ_ret (by simp (disch := omega) only [RA, ↓reduceIte, Nat.reduceEqDiff, RD, resAll, resOf]; rfl) GhV.refl ?_
    simp only [tup]
    exact ⟨NN.bool, by simpa [Perm, hc] using hK⟩
  have hc' : 1 ≤ n ∧ n ≤ 16 := by omega
  refine T_rseq fun Kr hKr => ?_
  simp (disch := omega) only [RA, ↓reduceIte, Nat.reduceEqDiff, RD]
  refine hKr _ _ ?_
  clear hKr Kr
  try simp only [RN, reduceIte]
  try refine T_e rfl ?_
  refine T_rseq fun Kr hKr => ?_
  simp (disch := omega) only [RA, ↓reduceIte, Nat.reduceEqDiff, RD]
  refine hKr _ _ ?_
  clear hKr Kr
  try simp only [RN, reduceIte]
  try refine T_e rfl ?_
  refine T_wloop (fun m f H' => ∃ k s, k ≤ 16 ∧ m = 16 - k ∧ Met p n k s ∧ (∀ i, i < k → PermAt p n i) ∧ f 1 = I n ∧ f 2 = P 0 0 ∧ f 5 = P 1 0 ∧ f 6 = I k ∧ H' = [some (p.map N8), some (s.map B)]) (16) ?_ ?_
  · refine ⟨_, _, Gh.refl, 0, List.replicate 16 false, by omega, by omega, Met.zero, by omega, by simp [RA, ↓reduceIte, Nat.reduceEqDiff], by simp [RA, ↓reduceIte, Nat.reduceEqDiff], by simp [RA, ↓reduceIte, Nat.reduceEqDiff], by simp [RA, ↓reduceIte, Nat.reduceEqDiff], by simp [RA, ↓reduceIte, Nat.reduceEqDiff]⟩
  · rintro m f H' R ⟨k, s, hk, rfl, hm, hat, h1, h2, h5, h6, rfl⟩ hN hX hR hE
    simp only [A_spec_l01Perm.l0, T_aiff]
    refine T_rseq fun Kr hKr => ?_
    simp (disch := omega) only [RA, ↓reduceIte, Nat.reduceEqDiff, RD, h6]
    refine hKr _ _ ?_
    clear hKr Kr
    try simp only [RN, reduceIte]
    try refine T_e rfl ?_
    refine T_csplit (p := k < 16) (by simp only [RA, ↓reduceIte, Nat.reduceEqDiff] <;> rfl) (by (try simp only [RB]) <;> first | done | exact Iff.rfl | omega | simp) (fun hc => ?_) (fun hc => ?_) <;> (try simp only [RN, reduceIte]) <;> (try refine T_e rfl ?_)
    · have hlt := hp.lt k
      have hsl := hm.1
      have hnext : ∀ f' s', f' 1 = I n → f' 2 = P 0 0 → f' 5 = P 1 0 → f' 6 = I k → Met p n (k + 1) s' → PermAt p n k → T 0 A_spec_l01Perm.r6 R f' [some (p.map N8), some (s'.map B)] := by
        intro f' s' h1 h2 h5 h6 hm' hat'
        refine T_reg_k fun Kr hKr => ?_
        simp (disch := omega) only [RA, ↓reduceIte, Nat.reduceEqDiff, RD, h6]
        refine hKr _ _ ?_
        clear hKr Kr
        refine hN (16 - (k + 1)) _ _ _ _ (by omega) Gh.refl ⟨k + 1, s', by omega, rfl, hm', fun i hi => ?_, by simp [RA, ↓reduceIte, Nat.reduceEqDiff, h1], by simp [RA, ↓reduceIte, Nat.reduceEqDiff, h2], by simp [RA, ↓reduceIte, Nat.reduceEqDiff, h5], by simp [RA, ↓reduceIte, Nat.reduceEqDiff], rfl⟩
        rcases Nat.lt_or_ge i k with h | h
        · exact hat i h
        · obtain rfl : i = k := by omega
          exact hat'
      first | refine T_bfree rfl ?_ | refine T_bfree' rfl ?_
      try simp only [RN, reduceIte]
      try refine T_e rfl ?_
      first | refine T_bfree rfl ?_ | refine T_bfree' rfl ?_
      try simp only [RN, reduceIte]
      try refine T_e rfl ?_
      refine T_rseq fun Kr hKr => ?_
      simp (disch := omega) only [RA, ↓reduceIte, Nat.reduceEqDiff, RD, h1, h6]
      refine hKr _ _ ?_
      clear hKr Kr
      try simp only [RN, reduceIte]
      try refine T_e rfl ?_
      refine T_csplit (p := n ≤ k) (by simp only [RA, ↓reduceIte, Nat.reduceEqDiff] <;> rfl) (by (try simp only [RB]) <;> first | done | exact Iff.rfl | omega | simp) (fun hc => ?_) (fun hc => ?_) <;> (try simp only [RN, reduceIte]) <;> (try refine T_e rfl ?_)
      · refine T_rseq fun Kr hKr => ?_
        simp (disch := omega) only [RA, ↓reduceIte, Nat.reduceEqDiff, RD, h2, h6, hlen]
        refine hKr _ _ ?_
        clear hKr Kr
        try simp only [RN, reduceIte]
        try refine T_e rfl ?_
        refine T_csplit (p := nl p k ≠ 0) (by simp only [RA, ↓reduceIte, Nat.reduceEqDiff] <;> rfl) (by (try simp only [RB]) <;> first | done | exact Iff.rfl | omega | simp) (fun hc => ?_) (fun hc => ?_) <;> (try simp only [RN, reduceIte]) <;> (try refine T_e rfl ?_)
        · refine T_rseq fun Kr hKr => ?_
          simp (disch := omega) only [RA, ↓reduceIte, Nat.reduceEqDiff, RD]
          refine hKr _ _ ?_
          clear hKr Kr
          try simp only [RN, reduceIte]
          try refine T_e rfl ?_
          refine hR _ _ ?_
          refine bodyQ_ret (by simp (disch := omega) only [RA, ↓reduceIte, Nat.reduceEqDiff, RD, resAll, resOf]; rfl) GhV.refl ?_
          simp only [tup]
          refine ⟨NN.bool, ?_⟩
          have : ¬ Perm p n := fun h => hc ((h.2 k (by omega)).1 (by omega))
          simpa [this] using hK
        · try simp only [RN, reduceIte]
          try refine T_e rfl ?_
          exact hnext _ s (by simp [RA, ↓reduceIte, Nat.reduceEqDiff, h1]) (by simp [RA, ↓reduceIte, Nat.reduceEqDiff, h2]) (by simp [RA, ↓reduceIte, Nat.reduceEqDiff, h5]) (by simp [RA, ↓reduceIte, Nat.reduceEqDiff, h6]) (hm.skip (by omega)) ⟨fun _ => by omega, fun h => by omega⟩
      · by_cases hb : n ≤ nl p k
        · refine T_rseq fun Kr hKr => ?_
          simp (disch := omega) only [RA, ↓reduceIte, Nat.reduceEqDiff, RD, h1, h2, h6, hb, hlen]
          refine hKr _ _ ?_
          clear hKr Kr
          try simp only [RN, reduceIte]
          try refine T_e rfl ?_
          refine T_cseq (t := true) (by simp (disch := omega) only [RA, ↓reduceIte, Nat.reduceEqDiff, RD]) ?_
          try simp only [RN, reduceIte]
          try refine T_e rfl ?_
          refine T_rseq fun Kr hKr => ?_
          simp (disch := omega) only [RA, ↓reduceIte, Nat.reduceEqDiff, RD]
          refine hKr _ _ ?_
          clear hKr Kr
          try simp only [RN, reduceIte]
          try refine T_e rfl ?_
          refine hR _ _ ?_
          refine bodyQ_ret (by simp (disch := omega) only [RA, ↓reduceIte, Nat.reduceEqDiff, RD, resAll, resOf]; rfl) GhV.refl ?_
          simp only [tup]
          refine ⟨NN.bool, ?_⟩
          have : ¬ Perm p n := fun h => by have := ((h.2 k (by omega)).2 (by omega)).1; omega
          simpa [this] using hK
        · refine T_rseq fun Kr hKr => ?_
          simp (disch := omega) only [RA, ↓reduceIte, Nat.reduceEqDiff, RD, h1, h2, h5, h6, hb, hsl, hlen]
          refine hKr _ _ ?_
          clear hKr Kr
          try simp only [RN, reduceIte]
          try refine T_e rfl ?_
          refine T_csplit (p := bl s (nl p k) = true) (by simp only [RA, ↓reduceIte, Nat.reduceEqDiff] <;> rfl) (by (try simp only [RB]) <;> first | done | exact Iff.rfl | omega | simp) (fun hc => ?_) (fun hc => ?_) <;> (try simp only [RN, reduceIte]) <;> (try refine T_e rfl ?_)
          · refine T_rseq fun Kr hKr => ?_
            simp (disch := omega) only [RA, ↓reduceIte, Nat.reduceEqDiff, RD]
            refine hKr _ _ ?_
            clear hKr Kr
            try simp only [RN, reduceIte]
            try refine T_e rfl ?_
            refine hR _ _ ?_
            refine bodyQ_ret (by simp (disch := omega) only [RA, ↓reduceIte, Nat.reduceEqDiff, RD, resAll, resOf]; rfl) GhV.refl ?_
            simp only [tup]
            refine ⟨NN.bool, ?_⟩
            obtain ⟨i, hi1, hi2, hi3⟩ := (hm.2 _).1 hc
            have : ¬ Perm p n := fun h => ((h.2 k (by omega)).2 (by omega)).2 i hi1 hi3
            simpa [this] using hK
          · refine T_rseq fun Kr hKr => ?_
            simp (disch := omega) only [RA, ↓reduceIte, Nat.reduceEqDiff, RD, h2, h5, h6, hsl, hlen]
            refine hKr _ _ ?_
            clear hKr Kr
            try simp only [RN, reduceIte]
            try refine T_e rfl ?_
            refine hnext _ (s.set (nl p k) true) (by simp [RA, ↓reduceIte, Nat.reduceEqDiff, h1]) (by simp [RA, ↓reduceIte, Nat.reduceEqDiff, h2]) (by simp [RA, ↓reduceIte, Nat.reduceEqDiff, h5]) (by simp [RA, ↓reduceIte, Nat.reduceEqDiff, h6]) (hm.next (by omega) (by omega)) ⟨fun h => by omega, fun _ => ⟨by omega, fun j hj e => hc ((hm.2 _).2 ⟨j, hj, by omega, e⟩)⟩⟩
    · refine hX _ _ ?_
      refine T_rseq fun Kr hKr => ?_
      simp (disch := omega) only [RA, ↓reduceIte, Nat.reduceEqDiff, RD]
      refine hKr _ _ ?_
      clear hKr Kr
      try simp only [RN, reduceIte]
      try refine T_e rfl ?_
      refine bodyQ_ret (by simp (disch := omega) only [RA, ↓reduceIte, Nat.reduceEqDiff, RD, resAll, resOf]; rfl) GhV.refl ?_
      simp only [tup]
      refine ⟨NN.bool, ?_⟩
      have : Perm p n := ⟨hc', fun i hi => hat i (by omega)⟩
      simpa [this] using hK

theorem Perm.lt {p : List Nat} {n : Nat} (h : Perm p n) {i : Nat} (hi : i < n) : nl p i < n := by have := ((h.2 i (by have := h.1; omega)).2 (by omega)).1; omega
theorem Perm.lt16 {p : List Nat} {n : Nat} (h : Perm p n) (hl : p.length = 16) (i : Nat) : nl p i < 16 := by
  have h1 := h.1
  rcases Nat.lt_or_ge i n with hi | hi
  · have := h.lt hi; omega
  · rcases Nat.lt_or_ge i 16 with h2 | h2
    · rw [(h.2 i h2).1 (by omega)]; omega
    · rw [nl_out (by omega)]; omega

/-- p then q, at the first k numbers. -/
def thenK (p q : List Nat) : Nat → List Nat
  | 0 => List.replicate 16 0
  | k + 1 => (thenK p q k).set k (nl q (nl p k))
/-- The permutation that leads back, of the first k numbers. -/
def backK (p : List Nat) : Nat → List Nat
  | 0 => List.replicate 16 0
  | k + 1 => (backK p k).set (nl p k) k
theorem thenK_len {p q : List Nat} {k : Nat} : (thenK p q k).length = 16 := by
  induction k with
  | zero => simp [thenK]
  | succ k ih => simp [thenK, ih]
theorem backK_len {p : List Nat} {k : Nat} : (backK p k).length = 16 := by
  induction k with
  | zero => simp [backK]
  | succ k ih => simp [backK, ih]
theorem thenK_nl {p q : List Nat} {k i : Nat} (hk : k ≤ 16) : nl (thenK p q k) i = if i < k then nl q (nl p i) else 0 := by
  induction k with
  | zero => simp only [thenK, nl_rep]; split <;> simp
  | succ k ih =>
    simp only [thenK, nl_set, thenK_len]
    rw [ih (by omega)]
    by_cases h : i = k
    · subst h; simp [show i < 16 by omega]
    · simp only [h, false_and, if_false]
      split <;> split <;> first | rfl | omega
theorem thenK_by {p q : List Nat} {k : Nat} (hq : By 16 q) (hk : k ≤ 16) : By 16 (thenK p q k) := ⟨thenK_len, fun i => by rw [thenK_nl hk]; split; exact hq.lt _; omega⟩
theorem backK_by {p : List Nat} {k : Nat} (hk : k ≤ 16) : By 16 (backK p k) := by
  induction k with
  | zero => exact By.rep
  | succ k ih => exact (ih (by omega)).set (by omega)

theorem l01Then_spec {x : Bool} {p q : List Nat} {n : Nat} {H : BH} {K : Value → BH → Prop} (hp : By 16 p) (hq : By 16 q) (hn : n ≤ 16) (hp16 : ∀ i, nl p i < 16) (hK : K (PL (thenK p q n)) H) : CallX x F_spec_l01Then [PL p, PL q, I n] H K := by
  have hlen := hp.len
  have hlen' := hq.len
  refine callP (by simp only [RH]) ?_
  refine CallX_body Γ_spec_l01Then ?_
  simp only [A_spec_l01Then, T_aiff]
  refine T_rseq fun Kr hKr => ?_
  simp (disch := omega) only [RA, ↓reduceIte, Nat.reduceEqDiff, RD]
  refine hKr _ _ ?_
  clear hKr Kr
  try simp only [RN, reduceIte]
  try refine T_e rfl ?_
  refine T_rseq fun Kr hKr => ?_
  simp (disch := omega) only [RA, ↓reduceIte, Nat.reduceEqDiff, RD]
  refine hKr _ _ ?_
  clear hKr Kr
  try simp only [RN, reduceIte]
  try refine T_e rfl ?_
  refine T_rseq fun Kr hKr => ?_
  simp (disch := omega) only [RA, ↓reduceIte, Nat.reduceEqDiff, RD]
  refine hKr _ _ ?_
  clear hKr Kr
  try simp only [RN, reduceIte]
  try refine T_e rfl ?_
  refine T_wloop (fun m f H' => ∃ k, k ≤ n ∧ m = n - k ∧ f 2 = I n ∧ f 3 = P 0 0 ∧ f 4 = P 1 0 ∧ f 6 = P 2 0 ∧ f 7 = P 3 0 ∧ f 8 = I k ∧ H' = [some (p.map N8), some (q.map N8), some (List.replicate 16 (.int .u8 0)), some ((thenK p q k).map N8)]) (n) ?_ ?_
  · refine ⟨_, _, Gh.refl, 0, by omega, by omega, by simp [RA, ↓reduceIte, Nat.reduceEqDiff], by simp [RA, ↓reduceIte, Nat.reduceEqDiff], by simp [RA, ↓reduceIte, Nat.reduceEqDiff], by simp [RA, ↓reduceIte, Nat.reduceEqDiff], by simp [RA, ↓reduceIte, Nat.reduceEqDiff], by simp [RA, ↓reduceIte, Nat.reduceEqDiff], by simp [RA, ↓reduceIte, Nat.reduceEqDiff, thenK]⟩
  · rintro m f H' R ⟨k, hk, rfl, h2, h3, h4, h6, h7, h8, rfl⟩ hN hX hR hE
    simp only [A_spec_l01Then.l0, T_aiff]
    refine T_rseq fun Kr hKr => ?_
    simp (disch := omega) only [RA, ↓reduceIte, Nat.reduceEqDiff, RD, h2, h8]
    refine hKr _ _ ?_
    clear hKr Kr
    try simp only [RN, reduceIte]
    try refine T_e rfl ?_
    refine T_csplit (p := k < n) (by simp only [RA, ↓reduceIte, Nat.reduceEqDiff] <;> rfl) (by (try simp only [RB]) <;> first | done | exact Iff.rfl | omega | simp) (fun hc => ?_) (fun hc => ?_) <;> (try simp only [RN, reduceIte]) <;> (try refine T_e rfl ?_)
    · have hlk := @thenK_len p q k
      have hpk := hp16 k
      first | refine T_bfree rfl ?_ | refine T_bfree' rfl ?_
      try simp only [RN, reduceIte]
      try refine T_e rfl ?_
      refine T_rseq fun Kr hKr => ?_
      simp (disch := omega) only [RA, ↓reduceIte, Nat.reduceEqDiff, RD, h3, h4, h7, h8, hlen, hlen', hlk]
      refine hKr _ _ ?_
      clear hKr Kr
      try simp only [RN, reduceIte]
      try refine T_e rfl ?_
      refine T_reg_k fun Kr hKr => ?_
      simp (disch := omega) only [RA, ↓reduceIte, Nat.reduceEqDiff, RD, h8]
      refine hKr _ _ ?_
      clear hKr Kr
      refine hN (n - (k + 1)) _ _ _ _ (by omega) Gh.refl ⟨k + 1, by omega, rfl, by simp [RA, ↓reduceIte, Nat.reduceEqDiff, h2], by simp [RA, ↓reduceIte, Nat.reduceEqDiff, h3], by simp [RA, ↓reduceIte, Nat.reduceEqDiff, h4], by simp [RA, ↓reduceIte, Nat.reduceEqDiff, h6], by simp [RA, ↓reduceIte, Nat.reduceEqDiff, h7], by simp [RA, ↓reduceIte, Nat.reduceEqDiff], rfl⟩
    · refine hX _ _ ?_
      obtain rfl : k = n := by omega
      have hlk := @thenK_len p q k
      refine T_rseq fun Kr hKr => ?_
      simp (disch := omega) only [RA, ↓reduceIte, Nat.reduceEqDiff, RD, h6, h7, hlk]
      refine hKr _ _ ?_
      clear hKr Kr
      try simp only [RN, reduceIte]
      try refine T_e rfl ?_
      refine bodyQ_ret (by simp (disch := omega) only [RA, ↓reduceIte, Nat.reduceEqDiff, RD, resAll, resOf, h6, hlk]; rfl) GhV.refl ?_
      simp only [tup]
      exact ⟨NN_agg (by (simp only [RH])), hK⟩
theorem then_spec {x : Bool} {p q : List Nat} {n : Nat} {H : BH} {K : Value → BH → Prop} (hp : By 16 p) (hq : By 16 q) (hn : n ≤ 16) (hp16 : ∀ i, nl p i < 16) (hK : K (PL (thenK p q n)) H) : CallX x F_impl_then [PL p, PL q, I n] H K := by
  have hlen := hp.len
  have hlen' := hq.len
  refine callP (by simp only [RH]) ?_
  refine CallX_body Γ_impl_then ?_
  simp only [A_impl_then, T_aiff]
  refine T_rseq fun Kr hKr => ?_
  simp (disch := omega) only [RA, ↓reduceIte, Nat.reduceEqDiff, RD]
  refine hKr _ _ ?_
  clear hKr Kr
  try simp only [RN, reduceIte]
  try refine T_e rfl ?_
  refine T_rseq fun Kr hKr => ?_
  simp (disch := omega) only [RA, ↓reduceIte, Nat.reduceEqDiff, RD]
  refine hKr _ _ ?_
  clear hKr Kr
  try simp only [RN, reduceIte]
  try refine T_e rfl ?_
  refine T_rseq fun Kr hKr => ?_
  simp (disch := omega) only [RA, ↓reduceIte, Nat.reduceEqDiff, RD]
  refine hKr _ _ ?_
  clear hKr Kr
  try simp only [RN, reduceIte]
  try refine T_e rfl ?_
  refine T_wloop (fun m f H' => ∃ k, k ≤ n ∧ m = n - k ∧ f 10 = I n ∧ f 3 = P 0 0 ∧ f 4 = P 1 0 ∧ f 6 = P 2 0 ∧ f 7 = P 3 0 ∧ f 11 = I k ∧ H' = [some (p.map N8), some (q.map N8), some (List.replicate 16 (.int .u8 0)), some ((thenK p q k).map N8)]) (n) ?_ ?_
  · refine ⟨_, _, Gh.refl, 0, by omega, by omega, by simp [RA, ↓reduceIte, Nat.reduceEqDiff], by simp [RA, ↓reduceIte, Nat.reduceEqDiff], by simp [RA, ↓reduceIte, Nat.reduceEqDiff], by simp [RA, ↓reduceIte, Nat.reduceEqDiff], by simp [RA, ↓reduceIte, Nat.reduceEqDiff], by simp [RA, ↓reduceIte, Nat.reduceEqDiff], by simp [RA, ↓reduceIte, Nat.reduceEqDiff, thenK]⟩
  · rintro m f H' R ⟨k, hk, rfl, h2, h3, h4, h6, h7, h8, rfl⟩ hN hX hR hE
    simp only [A_impl_then.l0, T_aiff]
    refine T_rseq fun Kr hKr => ?_
    simp (disch := omega) only [RA, ↓reduceIte, Nat.reduceEqDiff, RD, h2, h8]
    refine hKr _ _ ?_
    clear hKr Kr
    try simp only [RN, reduceIte]
    try refine T_e rfl ?_
    refine T_csplit (p := k < n) (by simp only [RA, ↓reduceIte, Nat.reduceEqDiff] <;> rfl) (by (try simp only [RB]) <;> first | done | exact Iff.rfl | omega | simp) (fun hc => ?_) (fun hc => ?_) <;> (try simp only [RN, reduceIte]) <;> (try refine T_e rfl ?_)
    · have hlk := @thenK_len p q k
      have hpk := hp16 k
      first | refine T_bfree rfl ?_ | refine T_bfree' rfl ?_
      try simp only [RN, reduceIte]
      try refine T_e rfl ?_
      refine T_rseq fun Kr hKr => ?_
      simp (disch := omega) only [RA, ↓reduceIte, Nat.reduceEqDiff, RD, h8]
      refine hKr _ _ ?_
      clear hKr Kr
      try simp only [RN, reduceIte]
      try refine T_e rfl ?_
      refine T_rseq fun Kr hKr => ?_
      simp (disch := omega) only [RA, ↓reduceIte, Nat.reduceEqDiff, RD, h3, h4, h7, h8, hlen, hlen', hlk]
      refine hKr _ _ ?_
      clear hKr Kr
      try simp only [RN, reduceIte]
      try refine T_e rfl ?_
      refine T_reg_k fun Kr hKr => ?_
      simp (disch := omega) only [RA, ↓reduceIte, Nat.reduceEqDiff, RD, h8]
      refine hKr _ _ ?_
      clear hKr Kr
      refine hN (n - (k + 1)) _ _ _ _ (by omega) Gh.refl ⟨k + 1, by omega, rfl, by simp [RA, ↓reduceIte, Nat.reduceEqDiff, h2], by simp [RA, ↓reduceIte, Nat.reduceEqDiff, h3], by simp [RA, ↓reduceIte, Nat.reduceEqDiff, h4], by simp [RA, ↓reduceIte, Nat.reduceEqDiff, h6], by simp [RA, ↓reduceIte, Nat.reduceEqDiff, h7], by simp [RA, ↓reduceIte, Nat.reduceEqDiff], rfl⟩
    · refine hX _ _ ?_
      obtain rfl : k = n := by omega
      have hlk := @thenK_len p q k
      refine T_rseq fun Kr hKr => ?_
      simp (disch := omega) only [RA, ↓reduceIte, Nat.reduceEqDiff, RD, h6, h7, hlk]
      refine hKr _ _ ?_
      clear hKr Kr
      try simp only [RN, reduceIte]
      try refine T_e rfl ?_
      refine bodyQ_ret (by simp (disch := omega) only [RA, ↓reduceIte, Nat.reduceEqDiff, RD, resAll, resOf, h6, hlk]; rfl) GhV.refl ?_
      simp only [tup]
      exact ⟨NN_agg (by (simp only [RH])), hK⟩
theorem l01Back_spec {x : Bool} {p : List Nat} {n : Nat} {H : BH} {K : Value → BH → Prop} (hp : By 16 p) (hn : n ≤ 16) (hp16 : ∀ i, nl p i < 16) (hK : K (PL (backK p n)) H) : CallX x F_spec_l01Back [PL p, I n] H K := by
  have hlen := hp.len
  refine callP (by simp only [RH]) ?_
  refine CallX_body Γ_spec_l01Back ?_
  simp only [A_spec_l01Back, T_aiff]
  refine T_rseq fun Kr hKr => ?_
  simp (disch := omega) only [RA, ↓reduceIte, Nat.reduceEqDiff, RD]
  refine hKr _ _ ?_
  clear hKr Kr
  try simp only [RN, reduceIte]
  try refine T_e rfl ?_
  refine T_rseq fun Kr hKr => ?_
  simp (disch := omega) only [RA, ↓reduceIte, Nat.reduceEqDiff, RD]
  refine hKr _ _ ?_
  clear hKr Kr
  try simp only [RN, reduceIte]
  try refine T_e rfl ?_
  refine T_rseq fun Kr hKr => ?_
  simp (disch := omega) only [RA, ↓reduceIte, Nat.reduceEqDiff, RD]
  refine hKr _ _ ?_
  clear hKr Kr
  try simp only [RN, reduceIte]
  try refine T_e rfl ?_
  refine T_wloop (fun m f H' => ∃ k, k ≤ n ∧ m = n - k ∧ f 1 = I n ∧ f 2 = P 0 0 ∧ f 4 = P 1 0 ∧ f 5 = P 2 0 ∧ f 6 = I k ∧ H' = [some (p.map N8), some (List.replicate 16 (.int .u8 0)), some ((backK p k).map N8)]) (n) ?_ ?_
  · refine ⟨_, _, Gh.refl, 0, by omega, by omega, by simp [RA, ↓reduceIte, Nat.reduceEqDiff], by simp [RA, ↓reduceIte, Nat.reduceEqDiff], by simp [RA, ↓reduceIte, Nat.reduceEqDiff], by simp [RA, ↓reduceIte, Nat.reduceEqDiff], by simp [RA, ↓reduceIte, Nat.reduceEqDiff], by simp [RA, ↓reduceIte, Nat.reduceEqDiff, backK]⟩
  · rintro m f H' R ⟨k, hk, rfl, h1, h2, h4, h5, h6, rfl⟩ hN hX hR hE
    simp only [A_spec_l01Back.l0, T_aiff]
    refine T_rseq fun Kr hKr => ?_
    simp (disch := omega) only [RA, ↓reduceIte, Nat.reduceEqDiff, RD, h1, h6]
    refine hKr _ _ ?_
    clear hKr Kr
    try simp only [RN, reduceIte]
    try refine T_e rfl ?_
    refine T_csplit (p := k < n) (by simp only [RA, ↓reduceIte, Nat.reduceEqDiff] <;> rfl) (by (try simp only [RB]) <;> first | done | exact Iff.rfl | omega | simp) (fun hc => ?_) (fun hc => ?_) <;> (try simp only [RN, reduceIte]) <;> (try refine T_e rfl ?_)
    · have hlk := @backK_len p k
      have hpk := hp16 k
      first | refine T_bfree rfl ?_ | refine T_bfree' rfl ?_
      try simp only [RN, reduceIte]
      try refine T_e rfl ?_
      refine T_rseq fun Kr hKr => ?_
      simp (disch := omega) only [RA, ↓reduceIte, Nat.reduceEqDiff, RD, h2, h4, h5, h6, hlen, hlk]
      refine hKr _ _ ?_
      clear hKr Kr
      try simp only [RN, reduceIte]
      try refine T_e rfl ?_
      refine T_reg_k fun Kr hKr => ?_
      simp (disch := omega) only [RA, ↓reduceIte, Nat.reduceEqDiff, RD, h6]
      refine hKr _ _ ?_
      clear hKr Kr
      refine hN (n - (k + 1)) _ _ _ _ (by omega) Gh.refl ⟨k + 1, by omega, rfl, by simp [RA, ↓reduceIte, Nat.reduceEqDiff, h1], by simp [RA, ↓reduceIte, Nat.reduceEqDiff, h2], by simp [RA, ↓reduceIte, Nat.reduceEqDiff, h4], by simp [RA, ↓reduceIte, Nat.reduceEqDiff, h5], by simp [RA, ↓reduceIte, Nat.reduceEqDiff], rfl⟩
    · refine hX _ _ ?_
      obtain rfl : k = n := by omega
      have hlk := @backK_len p k
      refine T_rseq fun Kr hKr => ?_
      simp (disch := omega) only [RA, ↓reduceIte, Nat.reduceEqDiff, RD, h4, h5, hlk]
      refine hKr _ _ ?_
      clear hKr Kr
      try simp only [RN, reduceIte]
      try refine T_e rfl ?_
      refine bodyQ_ret (by simp (disch := omega) only [RA, ↓reduceIte, Nat.reduceEqDiff, RD, resAll, resOf, h4, hlk]; rfl) GhV.refl ?_
      simp only [tup]
      exact ⟨NN_agg (by (simp only [RH])), hK⟩
theorem back_spec {x : Bool} {p : List Nat} {n : Nat} {H : BH} {K : Value → BH → Prop} (hp : By 16 p) (hn : n ≤ 16) (hp16 : ∀ i, nl p i < 16) (hK : K (PL (backK p n)) H) : CallX x F_impl_back [PL p, I n] H K := by
  have hlen := hp.len
  refine callP (by simp only [RH]) ?_
  refine CallX_body Γ_impl_back ?_
  simp only [A_impl_back, T_aiff]
  refine T_rseq fun Kr hKr => ?_
  simp (disch := omega) only [RA, ↓reduceIte, Nat.reduceEqDiff, RD]
  refine hKr _ _ ?_
  clear hKr Kr
  try simp only [RN, reduceIte]
  try refine T_e rfl ?_
  refine T_rseq fun Kr hKr => ?_
  simp (disch := omega) only [RA, ↓reduceIte, Nat.reduceEqDiff, RD]
  refine hKr _ _ ?_
  clear hKr Kr
  try simp only [RN, reduceIte]
  try refine T_e rfl ?_
  refine T_rseq fun Kr hKr => ?_
  simp (disch := omega) only [RA, ↓reduceIte, Nat.reduceEqDiff, RD]
  refine hKr _ _ ?_
  clear hKr Kr
  try simp only [RN, reduceIte]
  try refine T_e rfl ?_
  refine T_wloop (fun m f H' => ∃ k, k ≤ n ∧ m = n - k ∧ f 8 = I n ∧ f 2 = P 0 0 ∧ f 4 = P 1 0 ∧ f 5 = P 2 0 ∧ f 9 = I k ∧ H' = [some (p.map N8), some (List.replicate 16 (.int .u8 0)), some ((backK p k).map N8)]) (n) ?_ ?_
  · refine ⟨_, _, Gh.refl, 0, by omega, by omega, by simp [RA, ↓reduceIte, Nat.reduceEqDiff], by simp [RA, ↓reduceIte, Nat.reduceEqDiff], by simp [RA, ↓reduceIte, Nat.reduceEqDiff], by simp [RA, ↓reduceIte, Nat.reduceEqDiff], by simp [RA, ↓reduceIte, Nat.reduceEqDiff], by simp [RA, ↓reduceIte, Nat.reduceEqDiff, backK]⟩
  · rintro m f H' R ⟨k, hk, rfl, h1, h2, h4, h5, h6, rfl⟩ hN hX hR hE
    simp only [A_impl_back.l0, T_aiff]
    refine T_rseq fun Kr hKr => ?_
    simp (disch := omega) only [RA, ↓reduceIte, Nat.reduceEqDiff, RD, h1, h6]
    refine hKr _ _ ?_
    clear hKr Kr
    try simp only [RN, reduceIte]
    try refine T_e rfl ?_
    refine T_csplit (p := k < n) (by simp only [RA, ↓reduceIte, Nat.reduceEqDiff] <;> rfl) (by (try simp only [RB]) <;> first | done | exact Iff.rfl | omega | simp) (fun hc => ?_) (fun hc => ?_) <;> (try simp only [RN, reduceIte]) <;> (try refine T_e rfl ?_)
    · have hlk := @backK_len p k
      have hpk := hp16 k
      first | refine T_bfree rfl ?_ | refine T_bfree' rfl ?_
      try simp only [RN, reduceIte]
      try refine T_e rfl ?_
      refine T_rseq fun Kr hKr => ?_
      simp (disch := omega) only [RA, ↓reduceIte, Nat.reduceEqDiff, RD, h6]
      refine hKr _ _ ?_
      clear hKr Kr
      try simp only [RN, reduceIte]
      try refine T_e rfl ?_
      refine T_rseq fun Kr hKr => ?_
      simp (disch := omega) only [RA, ↓reduceIte, Nat.reduceEqDiff, RD, h2, h4, h5, h6, hlen, hlk]
      refine hKr _ _ ?_
      clear hKr Kr
      try simp only [RN, reduceIte]
      try refine T_e rfl ?_
      refine T_reg_k fun Kr hKr => ?_
      simp (disch := omega) only [RA, ↓reduceIte, Nat.reduceEqDiff, RD, h6]
      refine hKr _ _ ?_
      clear hKr Kr
      refine hN (n - (k + 1)) _ _ _ _ (by omega) Gh.refl ⟨k + 1, by omega, rfl, by simp [RA, ↓reduceIte, Nat.reduceEqDiff, h1], by simp [RA, ↓reduceIte, Nat.reduceEqDiff, h2], by simp [RA, ↓reduceIte, Nat.reduceEqDiff, h4], by simp [RA, ↓reduceIte, Nat.reduceEqDiff, h5], by simp [RA, ↓reduceIte, Nat.reduceEqDiff], rfl⟩
    · refine hX _ _ ?_
      obtain rfl : k = n := by omega
      have hlk := @backK_len p k
      refine T_rseq fun Kr hKr => ?_
      simp (disch := omega) only [RA, ↓reduceIte, Nat.reduceEqDiff, RD, h4, h5, hlk]
      refine hKr _ _ ?_
      clear hKr Kr
      try simp only [RN, reduceIte]
      try refine T_e rfl ?_
      refine bodyQ_ret (by simp (disch := omega) only [RA, ↓reduceIte, Nat.reduceEqDiff, RD, resAll, resOf, h4, hlk]; rfl) GhV.refl ?_
      simp only [tup]
      exact ⟨NN_agg (by (simp only [RH])), hK⟩

/-! ### Dessins -/
abbrev DC (n : Int) (b w : List Nat) : List Value := I n :: (b.map N8 ++ w.map N8)
abbrev DV (n : Int) (b w : List Nat) : Value := aggL (DC n b w)
theorem getN_D {n : Int} {b w : List Nat} : getN none (DC n b w) 0 = some (I n) := rfl
theorem getN_bk {n : Int} {b w : List Nat} (hb : b.length = 16) : getN (some 16) (DC n b w) 1 = some (PL b) := by
  rw [getN_agg (by simp [hb])]
  simp [List.take_append_of_le_length, hb]
theorem getN_wh {n : Int} {b w : List Nat} (hb : b.length = 16) (hw : w.length = 16) : getN (some 16) (DC n b w) 17 = some (PL w) := by
  rw [getN_agg (by simp [hb, hw])]
  simp [List.drop_append, hb, hw]
  rw [List.take_of_length_le (by simp [hw])]
theorem getN_all {n : Nat} {cs : List Value} (h : cs.length = n) : getN (some n) cs 0 = some (aggL cs) := by
  rw [getN_agg (by omega), List.drop_zero, List.take_of_length_le (by omega)]
theorem getN_DV {n : Int} {b w : List Nat} (hb : b.length = 16) (hw : w.length = 16) : getN (some 33) (DC n b w) 0 = some (DV n b w) := getN_all (by simp [hb, hw])
def faceP (b w : List Nat) (n : Nat) : List Nat := backK (thenK b w n) n
theorem thenK_16 {p q : List Nat} {k i : Nat} (hq : ∀ i, nl q i < 16) (hk : k ≤ 16) : nl (thenK p q k) i < 16 := by rw [thenK_nl hk]; split; exact hq _; omega
theorem l01Face_spec {x : Bool} {b w : List Nat} {n : Nat} {H : BH} {K : Value → BH → Prop} (hb : By 16 b) (hw : By 16 w) (hn : n ≤ 16) (hb16 : ∀ i, nl b i < 16) (hw16 : ∀ i, nl w i < 16) (hK : K (PL (faceP b w n)) H) : CallX x F_spec_l01Face [DV n b w] H K := by
  have hlb := hb.len
  have hlw := hw.len
  refine callP (by simp only [RH]) ?_
  refine CallX_body Γ_spec_l01Face ?_
  simp only [A_spec_l01Face, T_aiff]
  refine T_rseq fun Kr hKr => ?_
  simp (disch := omega) only [RA, ↓reduceIte, Nat.reduceEqDiff, RD]
  refine hKr _ _ ?_
  clear hKr Kr
  try simp only [RN, reduceIte]
  try refine T_e rfl ?_
  refine T_rseq fun Kr hKr => ?_
  simp (disch := omega) only [RA, ↓reduceIte, Nat.reduceEqDiff, RD, getN_D, getN_bk, getN_wh]
  refine l01Then_spec hb hw hn hb16 ?_
  simp (disch := omega) only [RA, ↓reduceIte, Nat.reduceEqDiff, RD, getN_D]
  refine l01Back_spec (thenK_by hw hn) hn (fun i => thenK_16 hw16 hn) ?_
  have hl := @backK_len (thenK b w n) n
  simp (disch := omega) only [RA, ↓reduceIte, Nat.reduceEqDiff, RD]
  refine hKr _ _ ?_
  clear hKr Kr
  try simp only [blkQ, thenQ, loopQ]
  try simp only [RN, reduceIte]
  try refine T_e rfl ?_
  refine bodyQ_ret (by simp (disch := omega) only [RA, ↓reduceIte, Nat.reduceEqDiff, RD, resAll, resOf, hl]; rfl) GhV.refl ?_
  simp only [tup]
  exact ⟨NN_agg (by (simp only [RH])), hK⟩
theorem face_spec {x : Bool} {b w : List Nat} {n : Nat} {H : BH} {K : Value → BH → Prop} (hb : By 16 b) (hw : By 16 w) (hn : n ≤ 16) (hb16 : ∀ i, nl b i < 16) (hw16 : ∀ i, nl w i < 16) (hK : K (PL (faceP b w n)) H) : CallX x F_impl_face [DV n b w] H K := by
  have hlb := hb.len
  have hlw := hw.len
  refine callP (by simp only [RH]) ?_
  refine CallX_body Γ_impl_face ?_
  simp only [A_impl_face, T_aiff]
  refine T_rseq fun Kr hKr => ?_
  simp (disch := omega) only [RA, ↓reduceIte, Nat.reduceEqDiff, RD]
  refine hKr _ _ ?_
  clear hKr Kr
  try simp only [RN, reduceIte]
  try refine T_e rfl ?_
  refine T_rseq fun Kr hKr => ?_
  simp (disch := omega) only [RA, ↓reduceIte, Nat.reduceEqDiff, RD, getN_D, getN_bk, getN_wh]
  refine then_spec hb hw hn hb16 ?_
  simp (disch := omega) only [RA, ↓reduceIte, Nat.reduceEqDiff, RD, getN_D]
  refine back_spec (thenK_by hw hn) hn (fun i => thenK_16 hw16 hn) ?_
  have hl := @backK_len (thenK b w n) n
  simp (disch := omega) only [RA, ↓reduceIte, Nat.reduceEqDiff, RD]
  refine hKr _ _ ?_
  clear hKr Kr
  try simp only [blkQ, thenQ, loopQ]
  try simp only [RN, reduceIte]
  try refine T_e rfl ?_
  refine bodyQ_ret (by simp (disch := omega) only [RA, ↓reduceIte, Nat.reduceEqDiff, RD, resAll, resOf, hl]; rfl) GhV.refl ?_
  simp only [tup]
  exact ⟨NN_agg (by (simp only [RH])), hK⟩
end Go.Bm

/- What is reached by steps. -/
set_option linter.unusedVariables false
set_option linter.unusedSimpArgs false
namespace Go.Bm
open Go Go.Am

abbrev BS := List Bool × List Nat
def visit (st : BS) (y : Nat) : BS := if bl st.1 y = true then st else (st.1.set y true, st.2 ++ [y])
def roundX (ls : List (List Nat)) (x : Nat) (st : BS) : BS := ls.foldl (fun st p => visit st (nl p x)) st
def bfs (ls : List (List Nat)) (st : BS) : Nat → BS
  | 0 => st
  | i + 1 => if i < (bfs ls st i).2.length then roundX ls (nl (bfs ls st i).2 i) (bfs ls st i) else bfs ls st i
structure Bi (m : Nat) (st : BS) : Prop where
  len : st.1.length = m
  lt : ∀ i, i < st.2.length → nl st.2 i < m
  cnt : st.2.length ≤ st.1.count true
theorem Bi.le {m : Nat} {st : BS} (h : Bi m st) : st.2.length ≤ m := by
  have := List.count_le_length (a := true) (l := st.1)
  have := h.cnt
  have := h.len
  omega
theorem nl_append {p q : List Nat} {i : Nat} : nl (p ++ q) i = if i < p.length then nl p i else nl q (i - p.length) := by
  unfold nl
  simp only [List.getD]
  split
  · rename_i h; rw [List.getElem?_append_left h]
  · rename_i h; rw [List.getElem?_append_right (by omega)]
theorem nl_single {y : Nat} {i : Nat} (h : i < 1) : nl [y] i = y := by
  obtain rfl : i = 0 := by omega
  rfl
theorem count_set_true {s : List Bool} {y : Nat} (hy : y < s.length) (h : bl s y = false) : (s.set y true).count true = s.count true + 1 := by
  rw [List.count_set hy]
  have : s[y] = false := by simpa [bl, List.getD, hy] using h
  simp [this]
theorem Bi.visit {m : Nat} {st : BS} (h : Bi m st) {y : Nat} (hy : y < m) : Bi m (visit st y) := by
  unfold Bm.visit
  split
  · exact h
  · rename_i hb
    refine ⟨by simp [h.len], fun i hi => ?_, ?_⟩
    · simp only [List.length_append, List.length_singleton] at hi
      simp only [nl_append]
      split
      · exact h.lt i (by assumption)
      · rw [nl_single (by omega)]; exact hy
    · simp only [List.length_append, List.length_singleton]
      rw [count_set_true (by rw [h.len]; exact hy) (by simpa using hb)]
      have := h.cnt
      omega
theorem Bi.round {m : Nat} {x : Nat} : ∀ {ls : List (List Nat)} {st : BS}, Bi m st → (∀ p ∈ ls, nl p x < m) → Bi m (roundX ls x st)
  | [], st, h, _ => h
  | p :: ls, st, h, hp => Bi.round (ls := ls) (h.visit (hp p (by simp))) fun q hq => hp q (by simp [hq])
theorem Bi.bfs {m : Nat} {ls : List (List Nat)} {st : BS} (h : Bi m st) (hp : ∀ p ∈ ls, ∀ i, nl p i < m) : ∀ i, Bi m (bfs ls st i)
  | 0 => h
  | i + 1 => by
    simp only [Bm.bfs]
    split
    · exact (Bi.bfs h hp i).round fun p hq => hp p hq _
    · exact Bi.bfs h hp i
theorem visit_pre {st : BS} {y : Nat} : ∃ q, (visit st y).2 = st.2 ++ q := by
  unfold visit
  split
  · exact ⟨[], by simp⟩
  · exact ⟨[y], rfl⟩
theorem round_pre {x : Nat} : ∀ {ls : List (List Nat)} {st : BS}, ∃ q, (roundX ls x st).2 = st.2 ++ q
  | [], st => ⟨[], by simp [roundX]⟩
  | p :: ls, st => by
    obtain ⟨q, hq⟩ := @visit_pre st (nl p x)
    obtain ⟨q', hq'⟩ := round_pre (x := x) (ls := ls) (st := visit st (nl p x))
    exact ⟨q ++ q', by show (roundX ls x (visit st (nl p x))).2 = _; rw [hq', hq, List.append_assoc]⟩
theorem bfs_stop {ls : List (List Nat)} {st : BS} {i : Nat} (h : (bfs ls st i).2.length ≤ i) : ∀ j, i ≤ j → bfs ls st j = bfs ls st i
  | 0, hj => by
    obtain rfl : i = 0 := by omega
    rfl
  | j + 1, hj => by
    rcases Nat.lt_or_ge j i with h1 | h1
    · obtain rfl : i = j + 1 := by omega
      rfl
    · have ih := bfs_stop h j h1
      simp only [bfs]
      rw [ih, if_neg (by omega)]
theorem round_take {ls : List (List Nat)} {x j : Nat} {st : BS} (h : j < ls.length) : roundX (ls.take (j + 1)) x st = visit (roundX (ls.take j) x st) (nl (ls.getD j []) x) := by
  have : ls.take (j + 1) = ls.take j ++ [ls.getD j []] := by
    rw [List.take_add_one]
    simp [List.getD, h]
  rw [this]
  simp [roundX, List.foldl_append]
def st0 (m : Nat) : BS := ((List.replicate m false).set 0 true, [0])
theorem Bi.st0 {m : Nat} (hm : 0 < m) : Bi m (st0 m) := ⟨by simp [Bm.st0], fun i hi => by rw [show (Bm.st0 m).2 = [0] from rfl, nl_single (by simpa [Bm.st0] using hi)]; exact hm, by
  show 1 ≤ _
  have : ((List.replicate m false).set 0 true).count true = (List.replicate m false).count true + 1 := count_set_true (by simpa using hm) bl_rep
  show 1 ≤ ((List.replicate m false).set 0 true).count true
  omega⟩
/-- The numbers that are reached from 0 by two permutations. -/
def reach (b w : List Nat) : BS := bfs [b, w] (st0 16) 16

theorem l01Connected_spec {x : Bool} {b w : List Nat} {n : Int} {H : BH} {K : Value → BH → Prop} (hb : By 16 b) (hw : By 16 w) (hb16 : ∀ i, nl b i < 16) (hw16 : ∀ i, nl w i < 16)
    (hK : K (.bool (decide (((reach b w).2.length : Int) = n))) H) : CallX x F_spec_l01Connected [I n, PL b, PL w] H K := by
  have hlb := hb.len
  have hlw := hw.len
  have hall : ∀ p ∈ [b, w], ∀ i, nl p i < 16 := by simp; exact ⟨hb16, hw16⟩
  refine callP (by simp only [RH]) ?_
  refine CallX_body Γ_spec_l01Connected ?_
  simp only [A_spec_l01Connected, T_aiff]
  refine T_rseq fun Kr hKr => ?_
  simp (disch := omega) only [RA, ↓reduceIte, Nat.reduceEqDiff, Nat.reduceBEq, Nat.reduceSub, Nat.reduceAdd, Nat.reduceMul, Nat.reduceLT, Nat.reduceLeDiff, Int.reduceLE, Int.reduceLT, Int.reduceEq, Int.reduceNeg, Int.reduceToNat, Int.reduceMul, Int.reduceAdd, Int.reduceSub, Int.reduceBEq, Int.reduceBNe, reduceCtorEq, RD]
  refine hKr _ _ ?_
  clear hKr Kr
  try simp only [RN, reduceIte]
  try refine T_e rfl ?_
  refine T_rseq fun Kr hKr => ?_
  simp (disch := omega) only [RA, ↓reduceIte, Nat.reduceEqDiff, Nat.reduceBEq, Nat.reduceSub, Nat.reduceAdd, Nat.reduceMul, Nat.reduceLT, Nat.reduceLeDiff, Int.reduceLE, Int.reduceLT, Int.reduceEq, Int.reduceNeg, Int.reduceToNat, Int.reduceMul, Int.reduceAdd, Int.reduceSub, Int.reduceBEq, Int.reduceBNe, reduceCtorEq, RD]
  refine hKr _ _ ?_
  clear hKr Kr
  try simp only [RN, reduceIte]
  try refine T_e rfl ?_
  refine T_rseq fun Kr hKr => ?_
  simp (disch := omega) only [RA, ↓reduceIte, Nat.reduceEqDiff, RD, repB]
  refine hKr _ _ ?_
  clear hKr Kr
  try simp only [RN, reduceIte]
  try refine T_e rfl ?_
  refine T_rseq fun Kr hKr => ?_
  simp (disch := omega) only [RA, ↓reduceIte, Nat.reduceEqDiff, Nat.reduceBEq, Nat.reduceSub, Nat.reduceAdd, Nat.reduceMul, Nat.reduceLT, Nat.reduceLeDiff, Int.reduceLE, Int.reduceLT, Int.reduceEq, Int.reduceNeg, Int.reduceToNat, Int.reduceMul, Int.reduceAdd, Int.reduceSub, Int.reduceBEq, Int.reduceBNe, reduceCtorEq, RD]
  refine hKr _ _ ?_
  clear hKr Kr
  try simp only [RN, reduceIte]
  try refine T_e rfl ?_
  refine T_wloop (fun m f H' => ∃ i, i ≤ 16 ∧ m = 16 - i ∧ i ≤ (bfs [b, w] (st0 16) i).2.length ∧ f 0 = I n ∧ f 4 = P 0 0 ∧ f 5 = P 1 0 ∧ f 7 = P 3 0 ∧ f 8 = S 2 0 (bfs [b, w] (st0 16) i).2.length 1 ∧ f 9 = I i ∧ H' = [some (b.map N8), some (w.map N8), some ((bfs [b, w] (st0 16) i).2.map N8), some ((bfs [b, w] (st0 16) i).1.map B)]) (16) ?_ ?_
  · refine ⟨_, _, Gh.refl, 0, by omega, by omega, by omega, ?_, ?_, ?_, ?_, ?_, ?_, ?_⟩
    any_goals (simp (disch := omega) only [RA, ↓reduceIte, Nat.reduceEqDiff, Nat.reduceAdd, Nat.reduceMul, Int.reduceToNat, Nat.reduceLT, reduceCtorEq, RD, RE, *] <;> rfl)
    simp [bfs, st0] <;> rfl
  · rintro m f H' R ⟨i, hi, rfl, hil, h0, h4, h5, h7, h8, h9, rfl⟩ hN hX hR hE
    simp only [A_spec_l01Connected.l1, T_aiff]
    have hB := (Bi.st0 (m := 16) (by omega)).bfs hall i
    generalize hst : bfs [b, w] (st0 16) i = st at hil h8 hB
    have hle := hB.le
    have hsl := hB.len
    refine T_rseq fun Kr hKr => ?_
    simp (disch := omega) only [RA, ↓reduceIte, Nat.reduceEqDiff, Nat.reduceBEq, Nat.reduceSub, Nat.reduceAdd, Nat.reduceMul, Nat.reduceLT, Nat.reduceLeDiff, Int.reduceLE, Int.reduceLT, Int.reduceEq, Int.reduceNeg, Int.reduceToNat, Int.reduceMul, Int.reduceAdd, Int.reduceSub, Int.reduceBEq, Int.reduceBNe, reduceCtorEq, RD, h8, h9]
    refine hKr _ _ ?_
    clear hKr Kr
    try simp only [RN, reduceIte]
    try refine T_e rfl ?_
    refine T_csplit (p := i < st.2.length) (by simp only [RA, ↓reduceIte, Nat.reduceEqDiff, Nat.reduceBEq, Nat.reduceSub, Nat.reduceAdd, Nat.reduceMul, Nat.reduceLT, Nat.reduceLeDiff, Int.reduceLE, Int.reduceLT, Int.reduceEq, Int.reduceNeg, Int.reduceToNat, Int.reduceMul, Int.reduceAdd, Int.reduceSub, Int.reduceBEq, Int.reduceBNe, reduceCtorEq] <;> rfl) (by (try simp only [RB]) <;> first | done | exact Iff.rfl | omega | simp) (fun hc => ?_) (fun hc => ?_) <;> (try simp only [RN, reduceIte]) <;> (try refine T_e rfl ?_)
    · have hx := hB.lt i hc
      first | refine T_bfree rfl ?_ | refine T_bfree' rfl ?_
      try simp only [RN, reduceIte]
      try refine T_e rfl ?_
      refine T_rseq fun Kr hKr => ?_
      simp (disch := omega) only [RA, ↓reduceIte, Nat.reduceEqDiff, Nat.reduceBEq, Nat.reduceSub, Nat.reduceAdd, Nat.reduceMul, Nat.reduceLT, Nat.reduceLeDiff, Int.reduceLE, Int.reduceLT, Int.reduceEq, Int.reduceNeg, Int.reduceToNat, Int.reduceMul, Int.reduceAdd, Int.reduceSub, Int.reduceBEq, Int.reduceBNe, reduceCtorEq, RD, h4, h5, h8, h9, hlb, hlw]
      refine hKr _ _ ?_
      clear hKr Kr
      try simp only [RN, reduceIte]
      try refine T_e rfl ?_
      obtain ⟨nx, hnxe⟩ : ∃ nx, nx = [nl b (nl st.2 i), nl w (nl st.2 i)] := ⟨_, rfl⟩
      have hnxl : nx.length = 2 := by rw [hnxe]; rfl
      refine T_rseq fun Kr hKr => ?_
      simp (disch := omega) only [RA, ↓reduceIte, Nat.reduceEqDiff, Nat.reduceBEq, Nat.reduceSub, Nat.reduceAdd, Nat.reduceMul, Nat.reduceLT, Nat.reduceLeDiff, Int.reduceLE, Int.reduceLT, Int.reduceEq, Int.reduceNeg, Int.reduceToNat, Int.reduceMul, Int.reduceAdd, Int.reduceSub, Int.reduceBEq, Int.reduceBNe, reduceCtorEq, RD]
      refine hKr _ _ ?_
      clear hKr Kr
      try simp only [RN, reduceIte]
      try refine T_e rfl ?_
      refine T_wloop (fun m f H' => ∃ j st', j ≤ 2 ∧ m = 2 - j ∧ st' = roundX ([b, w].take j) (nl st.2 i) st ∧ f 0 = I n ∧ f 4 = P 0 0 ∧ f 5 = P 1 0 ∧ f 7 = P 3 0 ∧ f 8 = S 2 0 st'.2.length 1 ∧ f 9 = I i ∧ f 10 = S 4 0 2 1 ∧ f 11 = I j ∧ H' = [some (b.map N8), some (w.map N8), some (st'.2.map N8), some (st'.1.map B), some (nx.map N8)]) (2) ?_ ?_
      · refine ⟨_, _, Gh.refl, 0, st, by omega, by omega, rfl, ?_, ?_, ?_, ?_, ?_, ?_, ?_, ?_, by rw [hnxe]; rfl⟩
        any_goals (simp (disch := omega) only [RA, ↓reduceIte, Nat.reduceEqDiff, RD, RE, *] <;> rfl)
      · clear h0 h4 h5 h7 h8 h9
        rintro m f H' R2 ⟨j, st', hj, rfl, hst', h0, h4, h5, h7, h8, h9, h10, h11, rfl⟩ hN2 hX2 hR2 hE2
        simp only [A_spec_l01Connected.l0, T_aiff]
        refine T_rseq fun Kr hKr => ?_
        simp (disch := omega) only [RA, ↓reduceIte, Nat.reduceEqDiff, RD, h11]
        refine hKr _ _ ?_
        clear hKr Kr
        try simp only [RN, reduceIte]
        try refine T_e rfl ?_
        have hB' : Bi 16 st' := by rw [hst']; exact hB.round fun p hp => hall p (List.mem_of_mem_take hp) _
        have hle' := hB'.le
        have hsl' := hB'.len
        refine T_csplit (p := j < 2) (by simp only [RA, ↓reduceIte, Nat.reduceEqDiff] <;> rfl) (by (try simp only [RB]) <;> first | done | exact Iff.rfl | omega | simp) (fun hc => ?_) (fun hc => ?_) <;> (try simp only [RN, reduceIte]) <;> (try refine T_e rfl ?_)
        · have hy : nl nx j = nl ([b, w].getD j []) (nl st.2 i) := by
            rw [hnxe]
            have : j = 0 ∨ j = 1 := by omega
            rcases this with rfl | rfl <;> rfl
          have hyl : nl nx j < 16 := by
            rw [hnxe]
            have : j = 0 ∨ j = 1 := by omega
            rcases this with rfl | rfl
            · exact hb16 _
            · exact hw16 _
          have hnx := round_take (ls := [b, w]) (x := nl st.2 i) (st := st) (show j < [b, w].length from hc)
          rw [← hst', ← hy] at hnx
          obtain ⟨y, hyd⟩ : ∃ y, nl nx j = y := ⟨_, rfl⟩
          rw [hyd] at hyl hnx
          have hnext : ∀ f' st2 (c1 c2 : Option (List Value)), f' 0 = I n → f' 4 = P 0 0 → f' 5 = P 1 0 → f' 7 = P 3 0 → f' 8 = S 2 0 st2.2.length 1 → f' 9 = I i → f' 10 = S 4 0 2 1 → f' 11 = I j → st2 = visit st' y →
              T 0 A_spec_l01Connected.r9 R2 f' [some (b.map N8), some (w.map N8), some (st2.2.map N8), some (st2.1.map B), some (nx.map N8)] := by
            intro f' st2 c1 c2 h0 h4 h5 h7 h8 h9 h10 h11 hs2
            refine T_reg_k fun Kr hKr => ?_
            simp (disch := omega) only [RA, ↓reduceIte, Nat.reduceEqDiff, RD, h11]
            refine hKr _ _ ?_
            clear hKr Kr
            refine hN2 (2 - (j + 1)) _ _ _ _ (by omega) Gh.refl ⟨j + 1, st2, by omega, rfl, by rw [hnx, hs2], ?_, ?_, ?_, ?_, ?_, ?_, ?_, ?_, rfl⟩
            any_goals (simp (disch := omega) only [RA, ↓reduceIte, Nat.reduceEqDiff, RD, RE, *] <;> rfl)
          first | refine T_bfree rfl ?_ | refine T_bfree' rfl ?_
          try simp only [RN, reduceIte]
          try refine T_e rfl ?_
          refine T_rseq fun Kr hKr => ?_
          simp (disch := omega) only [RA, ↓reduceIte, Nat.reduceEqDiff, Nat.reduceBEq, Nat.reduceSub, Nat.reduceAdd, Nat.reduceMul, Nat.reduceLT, Nat.reduceLeDiff, Int.reduceLE, Int.reduceLT, Int.reduceEq, Int.reduceNeg, Int.reduceToNat, Int.reduceMul, Int.reduceAdd, Int.reduceSub, Int.reduceBEq, Int.reduceBNe, reduceCtorEq, RD, h7, h10, h11, hnxl, hsl', hyd]
          refine hKr _ _ ?_
          clear hKr Kr
          try simp only [RN, reduceIte]
          try refine T_e rfl ?_
          refine T_csplit (p := ¬ bl st'.1 y = true) (by simp only [RA, ↓reduceIte, Nat.reduceEqDiff, Nat.reduceBEq, Nat.reduceSub, Nat.reduceAdd, Nat.reduceMul, Nat.reduceLT, Nat.reduceLeDiff, Int.reduceLE, Int.reduceLT, Int.reduceEq, Int.reduceNeg, Int.reduceToNat, Int.reduceMul, Int.reduceAdd, Int.reduceSub, Int.reduceBEq, Int.reduceBNe, reduceCtorEq] <;> rfl) (by (try simp only [RB]) <;> first | done | exact Iff.rfl | omega | simp) (fun hc => ?_) (fun hc => ?_) <;> (try simp only [RN, reduceIte]) <;> (try refine T_e rfl ?_)
          · refine T_rseq fun Kr hKr => ?_
            simp (disch := omega) only [RA, ↓reduceIte, Nat.reduceEqDiff, Nat.reduceBEq, Nat.reduceSub, Nat.reduceAdd, Nat.reduceMul, Nat.reduceLT, Nat.reduceLeDiff, Int.reduceLE, Int.reduceLT, Int.reduceEq, Int.reduceNeg, Int.reduceToNat, Int.reduceMul, Int.reduceAdd, Int.reduceSub, Int.reduceBEq, Int.reduceBNe, reduceCtorEq, RD, h7, h10, h11, hnxl, hsl', hyd]
            refine hKr _ _ ?_
            clear hKr Kr
            try simp only [RN, reduceIte]
            try refine T_e rfl ?_
            refine T_rseq fun Kr hKr => ?_
            simp (disch := omega) only [RA, ↓reduceIte, Nat.reduceEqDiff, Nat.reduceBEq, Nat.reduceSub, Nat.reduceAdd, Nat.reduceMul, Nat.reduceLT, Nat.reduceLeDiff, Int.reduceLE, Int.reduceLT, Int.reduceEq, Int.reduceNeg, Int.reduceToNat, Int.reduceMul, Int.reduceAdd, Int.reduceSub, Int.reduceBEq, Int.reduceBNe, reduceCtorEq, RD, h8, h10, h11, hnxl, hyd]
            refine hKr _ _ ?_
            clear hKr Kr
            try simp only [RN, reduceIte]
            try refine T_e rfl ?_
            refine T_gh (Gh.nrm [0, 1, 6, 3, 4] rfl rfl (by simp only [RH])) ?_
            refine hnext _ (st'.1.set y true, st'.2 ++ [y]) none none ?_ ?_ ?_ ?_ ?_ ?_ ?_ ?_ ?_
            any_goals (simp (disch := omega) only [RA, ↓reduceIte, Nat.reduceEqDiff, RD, RE, *] <;> rfl)
            rw [visit, if_neg hc]
          · try simp only [RN, reduceIte]
            try refine T_e rfl ?_
            refine hnext _ st' none none ?_ ?_ ?_ ?_ ?_ ?_ ?_ ?_ ?_
            any_goals (simp (disch := omega) only [RA, ↓reduceIte, Nat.reduceEqDiff, RD, RE, *] <;> rfl)
            rw [visit, if_pos (by simpa using hc)]
        · refine hX2 _ _ ?_
          obtain rfl : j = 2 := by omega
          have hst2 : st' = bfs [b, w] (st0 16) (i + 1) := by
            rw [hst', bfs, hst, if_pos (by assumption)]
            rfl
          obtain ⟨q, hq⟩ := @round_pre (nl st.2 i) ([b, w].take 2) st
          have hlq : i + 1 ≤ st'.2.length := by rw [hst', hq]; simp; omega
          refine T_reg_k fun Kr hKr => ?_
          simp (disch := omega) only [RA, ↓reduceIte, Nat.reduceEqDiff, RD, h9]
          refine hKr _ _ ?_
          clear hKr Kr
          refine hN (16 - (i + 1)) _ _ _ _ (by omega) (Gh.nrm [0, 1, 2, 3] rfl rfl (by simp only [RH])) ⟨i + 1, by omega, rfl, by rw [← hst2]; exact hlq, ?_, ?_, ?_, ?_, ?_, ?_, ?_⟩
          any_goals (simp (disch := omega) only [RA, ↓reduceIte, Nat.reduceEqDiff, RD, RE, *] <;> rfl)
          · rw [← hst2]
            exact (by simp (disch := omega) only [RA, ↓reduceIte, Nat.reduceEqDiff, RD, RE, *] <;> rfl)
          · rw [← hst2]; rfl
    · refine hX _ _ ?_
      refine T_rseq fun Kr hKr => ?_
      simp (disch := omega) only [RA, ↓reduceIte, Nat.reduceEqDiff, RD, h0, h8]
      refine hKr _ _ ?_
      clear hKr Kr
      try simp only [RN, reduceIte]
      try refine T_e rfl ?_
      refine bodyQ_ret (by simp (disch := omega) only [RA, ↓reduceIte, Nat.reduceEqDiff, RD, resAll, resOf]; rfl) GhV.refl ?_
      simp only [tup]
      refine ⟨NN.bool, ?_⟩
      have hs : reach b w = st := by rw [reach, bfs_stop (i := i) (by rw [hst]; omega) 16 hi, hst]
      rw [hs] at hK
      exact hK
end Go.Bm

/- What is reached, the program's; dessins. -/
set_option linter.unusedVariables false
set_option linter.unusedSimpArgs false
namespace Go.Bm
open Go Go.Am

/-- A slice of rows of m bytes. -/
abbrev FPs (m : Nat) (ls : List (List Nat)) : Value := Fz ls.length m (ls.flatten.map N8)
theorem flat_drop {α : Type} {m : Nat} : ∀ {ls : List (List α)} {j : Nat}, (∀ p ∈ ls, p.length = m) → j < ls.length → ∃ r, ls.flatten.drop (j * m) = ls.getD j [] ++ r
  | p :: ls, 0, h, _ => ⟨ls.flatten, by simp⟩
  | p :: ls, j + 1, h, hj => by
    obtain ⟨r, hr⟩ := flat_drop (ls := ls) (j := j) (fun q hq => h q (by simp [hq])) (by simpa using hj)
    refine ⟨r, ?_⟩
    have hp : p.length = m := h p (by simp)
    rw [List.flatten_cons, Nat.succ_mul, Nat.add_comm, List.drop_append, List.drop_eq_nil_of_le (by omega)]
    simp only [List.nil_append, hp]
    rw [show m + j * m - m = j * m by omega, hr]
    simp [List.getD]
theorem flat_len {α : Type} {m : Nat} : ∀ {ls : List (List α)}, (∀ p ∈ ls, p.length = m) → ls.flatten.length = ls.length * m
  | [], _ => by simp
  | p :: ls, h => by rw [List.flatten_cons, List.length_append, flat_len fun q hq => h q (by simp [hq]), h p (by simp), List.length_cons, Nat.succ_mul]; omega
theorem getD_mem {α : Type} {ls : List α} {d : α} {j : Nat} (h : j < ls.length) : ls.getD j d ∈ ls := by simp [List.getD, h]
theorem getN_FP {m j : Nat} {ls : List (List Nat)} (h : ∀ p ∈ ls, p.length = m) (hj : j < ls.length) : getN (some m) (ls.flatten.map N8) (j * m) = some (PL (ls.getD j [])) := by
  obtain ⟨r, hr⟩ := flat_drop h hj
  have hl := h _ (getD_mem (d := []) hj)
  have hf := flat_len h
  have : (j + 1) * m ≤ ls.length * m := Nat.mul_le_mul_right _ hj
  rw [Nat.succ_mul] at this
  generalize ls.getD j [] = q at hr hl ⊢
  rw [getN_agg (by rw [List.length_map, hf]; omega), ← List.map_drop, hr, List.map_append, List.take_append_of_le_length (by simp [hl]), List.take_of_length_le (by simp [hl])]
theorem fill2P {b w : List Nat} {m : Nat} {v : Value} (hb : b.length = m) (hw : w.length = m) : fillL (repl (List.replicate m v) 2) [(0, m, PL b), (m, m, PL w)] = some (b.map N8 ++ w.map N8) := by
  simp [fillL, repl, cellsL, hb, hw, splice, List.take_append, List.drop_append]
theorem reached_spec {x : Bool} {ls : List (List Nat)} {n : Int} {H : BH} {K : Value → BH → Prop} (hll : ls.length ≤ 1000) (hl : ∀ p ∈ ls, p.length = 16) (hl16 : ∀ p ∈ ls, ∀ i, nl p i < 16)
    (hK : K (I (bfs ls (st0 16) 16).2.length) H) : CallX x F_impl_reached [I n, FPs 16 ls] H K := by
  refine callP (by simp only [RH]) ?_
  refine CallX_body Γ_impl_reached ?_
  simp only [A_impl_reached, T_aiff]
  refine T_rseq fun Kr hKr => ?_
  simp (disch := omega) only [RA, ↓reduceIte, Nat.reduceEqDiff, Nat.reduceBEq, Nat.reduceSub, Nat.reduceAdd, Nat.reduceMul, Nat.reduceLT, Nat.reduceLeDiff, Int.reduceLE, Int.reduceLT, Int.reduceEq, Int.reduceNeg, Int.reduceToNat, Int.reduceMul, Int.reduceAdd, Int.reduceSub, Int.reduceBEq, Int.reduceBNe, reduceCtorEq, RD]
  refine hKr _ _ ?_
  clear hKr Kr
  try simp only [RN, reduceIte]
  try refine T_e rfl ?_
  refine T_rseq fun Kr hKr => ?_
  simp (disch := omega) only [RA, ↓reduceIte, Nat.reduceEqDiff, Nat.reduceBEq, Nat.reduceSub, Nat.reduceAdd, Nat.reduceMul, Nat.reduceLT, Nat.reduceLeDiff, Int.reduceLE, Int.reduceLT, Int.reduceEq, Int.reduceNeg, Int.reduceToNat, Int.reduceMul, Int.reduceAdd, Int.reduceSub, Int.reduceBEq, Int.reduceBNe, reduceCtorEq, RD]
  refine hKr _ _ ?_
  clear hKr Kr
  try simp only [RN, reduceIte]
  try refine T_e rfl ?_
  refine T_rseq fun Kr hKr => ?_
  simp (disch := omega) only [RA, ↓reduceIte, Nat.reduceEqDiff, Nat.reduceBEq, Nat.reduceSub, Nat.reduceAdd, Nat.reduceMul, Nat.reduceLT, Nat.reduceLeDiff, Int.reduceLE, Int.reduceLT, Int.reduceEq, Int.reduceNeg, Int.reduceToNat, Int.reduceMul, Int.reduceAdd, Int.reduceSub, Int.reduceBEq, Int.reduceBNe, reduceCtorEq, RD]
  refine hKr _ _ ?_
  clear hKr Kr
  try simp only [RN, reduceIte]
  try refine T_e rfl ?_
  refine T_rseq fun Kr hKr => ?_
  simp (disch := omega) only [RA, ↓reduceIte, Nat.reduceEqDiff, Nat.reduceBEq, Nat.reduceSub, Nat.reduceAdd, Nat.reduceMul, Nat.reduceLT, Nat.reduceLeDiff, Int.reduceLE, Int.reduceLT, Int.reduceEq, Int.reduceNeg, Int.reduceToNat, Int.reduceMul, Int.reduceAdd, Int.reduceSub, Int.reduceBEq, Int.reduceBNe, reduceCtorEq, RD]
  refine hKr _ _ ?_
  clear hKr Kr
  try simp only [RN, reduceIte]
  try refine T_e rfl ?_
  refine T_wloop (fun m f H' => ∃ i, i ≤ 16 ∧ m = 16 - i ∧ i ≤ (bfs ls (st0 16) i).2.length ∧ f 1 = FPs 16 ls ∧ f 5 = P 0 0 ∧ f 6 = S 1 0 (bfs ls (st0 16) i).2.length 1 ∧ f 7 = I i ∧ H' = [some ((bfs ls (st0 16) i).1.map B), some ((bfs ls (st0 16) i).2.map N8)]) (16) ?_ ?_
  · refine ⟨_, _, Gh.refl, 0, by omega, by omega, by omega, ?_, ?_, ?_, ?_, ?_⟩
    any_goals (simp (disch := omega) only [RA, ↓reduceIte, Nat.reduceEqDiff, RD, RE, *] <;> rfl)
    simp [bfs, st0] <;> rfl
  · rintro m f H' R ⟨i, hi, rfl, hil, h1, h5, h6, h7, rfl⟩ hN hX hR hE
    simp only [A_impl_reached.l1, T_aiff]
    have hB := (Bi.st0 (m := 16) (by omega)).bfs hl16 i
    generalize hst : bfs ls (st0 16) i = st at hil h6 hB
    have hle := hB.le
    have hsl := hB.len
    refine T_rseq fun Kr hKr => ?_
    simp (disch := omega) only [RA, ↓reduceIte, Nat.reduceEqDiff, RD, h6, h7]
    refine hKr _ _ ?_
    clear hKr Kr
    try simp only [RN, reduceIte]
    try refine T_e rfl ?_
    refine T_csplit (p := i < st.2.length) (by simp only [RA, ↓reduceIte, Nat.reduceEqDiff] <;> rfl) (by (try simp only [RB]) <;> first | done | exact Iff.rfl | omega | simp) (fun hc => ?_) (fun hc => ?_) <;> (try simp only [RN, reduceIte]) <;> (try refine T_e rfl ?_)
    · have hx := hB.lt i hc
      first | refine T_bfree rfl ?_ | refine T_bfree' rfl ?_
      try simp only [RN, reduceIte]
      try refine T_e rfl ?_
      refine T_rseq fun Kr hKr => ?_
      simp (disch := omega) only [RA, ↓reduceIte, Nat.reduceEqDiff, RD, h1]
      refine hKr _ _ ?_
      clear hKr Kr
      try simp only [RN, reduceIte]
      try refine T_e rfl ?_
      refine T_wloop (fun m f H' => ∃ j st', j ≤ ls.length ∧ m = ls.length - j ∧ st' = roundX (ls.take j) (nl st.2 i) st ∧ f 1 = FPs 16 ls ∧ f 5 = P 0 0 ∧ f 6 = S 1 0 st'.2.length 1 ∧ f 7 = I i ∧ f 19 = FPs 16 ls ∧ f 20 = I ls.length ∧ f 21 = I j ∧ H' = [some (st'.1.map B), some (st'.2.map N8)]) (ls.length) ?_ ?_
      · refine ⟨_, _, Gh.refl, 0, st, by omega, by omega, rfl, ?_, ?_, ?_, ?_, ?_, ?_, ?_, rfl⟩
        any_goals (simp (disch := omega) only [RA, ↓reduceIte, Nat.reduceEqDiff, RD, RE, *] <;> rfl)
      · clear h1 h5 h6 h7
        rintro m f H' R2 ⟨j, st', hj, rfl, hst', h1, h5, h6, h7, h19, h20, h21, rfl⟩ hN2 hX2 hR2 hE2
        simp only [A_impl_reached.l0, T_aiff]
        refine T_rseq fun Kr hKr => ?_
        simp (disch := omega) only [RA, ↓reduceIte, Nat.reduceEqDiff, RD, h20, h21]
        refine hKr _ _ ?_
        clear hKr Kr
        try simp only [RN, reduceIte]
        try refine T_e rfl ?_
        have hB' : Bi 16 st' := by rw [hst']; exact hB.round fun p hp => hl16 p (List.mem_of_mem_take hp) _
        have hle' := hB'.le
        have hsl' := hB'.len
        refine T_csplit (p := j < ls.length) (by simp only [RA, ↓reduceIte, Nat.reduceEqDiff] <;> rfl) (by (try simp only [RB]) <;> first | done | exact Iff.rfl | omega | simp) (fun hc => ?_) (fun hc => ?_) <;> (try simp only [RN, reduceIte]) <;> (try refine T_e rfl ?_)
        · obtain ⟨q, hq⟩ := @round_pre (nl st.2 i) (ls.take j) st
          rw [← hst'] at hq
          have hxi : nl st'.2 i = nl st.2 i := by rw [hq, nl_append, if_pos (by assumption)]
          have hil' : i < st'.2.length := by rw [hq]; simp; omega
          have hnx := round_take (ls := ls) (x := nl st.2 i) (st := st) hc
          rw [← hst'] at hnx
          have hpl := hl _ (getD_mem (d := []) hc)
          have hyl := hl16 _ (getD_mem (d := []) hc) (nl st.2 i)
          obtain ⟨pj, hpj⟩ : ∃ pj, ls.getD j [] = pj := ⟨_, rfl⟩
          rw [hpj] at hnx hpl hyl
          obtain ⟨y, hyd⟩ : ∃ y, nl pj (nl st.2 i) = y := ⟨_, rfl⟩
          rw [hyd] at hyl hnx
          have hnext : ∀ f' st2, f' 1 = FPs 16 ls → f' 5 = P 0 0 → f' 6 = S 1 0 st2.2.length 1 → f' 7 = I i → f' 19 = FPs 16 ls → f' 20 = I ls.length → f' 21 = I j → st2 = visit st' y →
              T 0 A_impl_reached.r13 R2 f' [some (st2.1.map B), some (st2.2.map N8)] := by
            intro f' st2 h1 h5 h6 h7 h19 h20 h21 hs2
            refine T_reg_k fun Kr hKr => ?_
            simp (disch := omega) only [RA, ↓reduceIte, Nat.reduceEqDiff, Nat.reduceAdd, Nat.reduceMul, Int.reduceToNat, Nat.reduceLT, reduceCtorEq, RD, h21]
            refine hKr _ _ ?_
            clear hKr Kr
            refine hN2 (ls.length - (j + 1)) _ _ _ _ (by omega) Gh.refl ⟨j + 1, st2, by omega, rfl, by rw [hnx, hs2], ?_, ?_, ?_, ?_, ?_, ?_, ?_, rfl⟩
            any_goals (simp (disch := omega) only [RA, ↓reduceIte, Nat.reduceEqDiff, Nat.reduceAdd, Nat.reduceMul, Int.reduceToNat, Nat.reduceLT, reduceCtorEq, RD, RE, *] <;> rfl)
          first | refine T_bfree rfl ?_ | refine T_bfree' rfl ?_
          try simp only [RN, reduceIte]
          try refine T_e rfl ?_
          refine T_rseq fun Kr hKr => ?_
          simp (disch := omega) only [RA, ↓reduceIte, Nat.reduceEqDiff, Nat.reduceAdd, Nat.reduceMul, Int.reduceToNat, Nat.reduceLT, reduceCtorEq, RD, h19, h21, getN_FP hl hc, hpj]
          refine hKr _ _ ?_
          clear hKr Kr
          try simp only [RN, reduceIte]
          try refine T_e rfl ?_
          refine T_rseq fun Kr hKr => ?_
          simp (disch := omega) only [RA, ↓reduceIte, Nat.reduceEqDiff, RD, h6, h7, hxi, hpl, hyd]
          refine hKr _ _ ?_
          clear hKr Kr
          try simp only [RN, reduceIte]
          try refine T_e rfl ?_
          refine T_rseq fun Kr hKr => ?_
          simp (disch := omega) only [RA, ↓reduceIte, Nat.reduceEqDiff, Nat.reduceBEq, Nat.reduceSub, Nat.reduceAdd, Nat.reduceMul, Nat.reduceLT, Nat.reduceLeDiff, Int.reduceLE, Int.reduceLT, Int.reduceEq, Int.reduceNeg, Int.reduceToNat, Int.reduceMul, Int.reduceAdd, Int.reduceSub, Int.reduceBEq, Int.reduceBNe, reduceCtorEq, RD, h5, hsl']
          refine hKr _ _ ?_
          clear hKr Kr
          try simp only [RN, reduceIte]
          try refine T_e rfl ?_
          refine T_csplit (p := ¬ bl st'.1 y = true) (by simp only [RA, ↓reduceIte, Nat.reduceEqDiff, Nat.reduceBEq, Nat.reduceSub, Nat.reduceAdd, Nat.reduceMul, Nat.reduceLT, Nat.reduceLeDiff, Int.reduceLE, Int.reduceLT, Int.reduceEq, Int.reduceNeg, Int.reduceToNat, Int.reduceMul, Int.reduceAdd, Int.reduceSub, Int.reduceBEq, Int.reduceBNe, reduceCtorEq] <;> rfl) (by (try simp only [RB]) <;> first | done | exact Iff.rfl | omega | simp) (fun hc => ?_) (fun hc => ?_) <;> (try simp only [RN, reduceIte]) <;> (try refine T_e rfl ?_)
          · refine T_rseq fun Kr hKr => ?_
            simp (disch := omega) only [RA, ↓reduceIte, Nat.reduceEqDiff, Nat.reduceBEq, Nat.reduceSub, Nat.reduceAdd, Nat.reduceMul, Nat.reduceLT, Nat.reduceLeDiff, Int.reduceLE, Int.reduceLT, Int.reduceEq, Int.reduceNeg, Int.reduceToNat, Int.reduceMul, Int.reduceAdd, Int.reduceSub, Int.reduceBEq, Int.reduceBNe, reduceCtorEq, RD, h5, hsl']
            refine hKr _ _ ?_
            clear hKr Kr
            try simp only [RN, reduceIte]
            try refine T_e rfl ?_
            refine T_rseq fun Kr hKr => ?_
            simp (disch := omega) only [RA, ↓reduceIte, Nat.reduceEqDiff, Nat.reduceBEq, Nat.reduceSub, Nat.reduceAdd, Nat.reduceMul, Nat.reduceLT, Nat.reduceLeDiff, Int.reduceLE, Int.reduceLT, Int.reduceEq, Int.reduceNeg, Int.reduceToNat, Int.reduceMul, Int.reduceAdd, Int.reduceSub, Int.reduceBEq, Int.reduceBNe, reduceCtorEq, RD, h6]
            refine hKr _ _ ?_
            clear hKr Kr
            try simp only [RN, reduceIte]
            try refine T_e rfl ?_
            refine T_gh (Gh.nrm [0, 4] rfl rfl (by simp only [RH])) ?_
            refine hnext _ (st'.1.set y true, st'.2 ++ [y]) ?_ ?_ ?_ ?_ ?_ ?_ ?_ ?_
            any_goals (simp (disch := omega) only [RA, ↓reduceIte, Nat.reduceEqDiff, RD, RE, *] <;> rfl)
            rw [visit, if_neg hc]
          · try simp only [RN, reduceIte]
            try refine T_e rfl ?_
            refine T_gh (Gh.nrm [0, 1] rfl rfl (by simp only [RH])) ?_
            refine hnext _ st' ?_ ?_ ?_ ?_ ?_ ?_ ?_ ?_
            any_goals (simp (disch := omega) only [RA, ↓reduceIte, Nat.reduceEqDiff, RD, RE, *] <;> rfl)
            rw [visit, if_pos (by simpa using hc)]
        · refine hX2 _ _ ?_
          obtain rfl : j = ls.length := by omega
          have hst2 : st' = bfs ls (st0 16) (i + 1) := by
            rw [hst', bfs, hst, if_pos (by assumption), List.take_length]
          obtain ⟨q, hq⟩ := @round_pre (nl st.2 i) (ls.take ls.length) st
          have hlq : i + 1 ≤ st'.2.length := by rw [hst', hq]; simp; omega
          refine T_reg_k fun Kr hKr => ?_
          simp (disch := omega) only [RA, ↓reduceIte, Nat.reduceEqDiff, RD, h7]
          refine hKr _ _ ?_
          clear hKr Kr
          refine hN (16 - (i + 1)) _ _ _ _ (by omega) Gh.refl ⟨i + 1, by omega, rfl, by rw [← hst2]; exact hlq, ?_, ?_, ?_, ?_, ?_⟩
          any_goals (simp (disch := omega) only [RA, ↓reduceIte, Nat.reduceEqDiff, RD, RE, *] <;> rfl)
          · rw [← hst2]
            exact (by simp (disch := omega) only [RA, ↓reduceIte, Nat.reduceEqDiff, RD, RE, *] <;> rfl)
          · rw [← hst2]
    · refine hX _ _ ?_
      refine T_rseq fun Kr hKr => ?_
      simp (disch := omega) only [RA, ↓reduceIte, Nat.reduceEqDiff, Nat.reduceBEq, Nat.reduceSub, Nat.reduceAdd, Nat.reduceMul, Nat.reduceLT, Nat.reduceLeDiff, Int.reduceLE, Int.reduceLT, Int.reduceEq, Int.reduceNeg, Int.reduceToNat, Int.reduceMul, Int.reduceAdd, Int.reduceSub, Int.reduceBEq, Int.reduceBNe, reduceCtorEq, RD, h6]
      refine hKr _ _ ?_
      clear hKr Kr
      try simp only [RN, reduceIte]
      try refine T_e rfl ?_
      refine bodyQ_ret (by simp (disch := omega) only [RA, ↓reduceIte, Nat.reduceEqDiff, RD, resAll, resOf]; rfl) GhV.refl ?_
      simp only [tup]
      refine ⟨NN.int, ?_⟩
      have hs : bfs ls (st0 16) 16 = st := by rw [bfs_stop (i := i) (by rw [hst]; omega) 16 hi, hst]
      rw [hs] at hK
      exact hK

/-- A dessin. -/
def Des (n : Int) (b w : List Nat) : Prop := Perm b n ∧ Perm w n ∧ ((reach b w).2.length : Int) = n
instance (n : Int) (b w : List Nat) : Decidable (Des n b w) := by unfold Des; infer_instance
theorem Perm.lt16' {p : List Nat} {n : Int} (h : Perm p n) (hl : p.length = 16) (i : Nat) : nl p i < 16 := by
  obtain ⟨m, rfl⟩ := Int.eq_ofNat_of_zero_le (show 0 ≤ n by have := h.1; omega)
  exact h.lt16 hl i
theorem l01Is_spec {x : Bool} {n : Int} {b w : List Nat} {H : BH} {K : Value → BH → Prop} (hb : By 16 b) (hw : By 16 w) (hK : K (.bool (decide (Des n b w))) H) : CallX x F_spec_l01Is [DV n b w] H K := by
  have hlb := hb.len
  have hlw := hw.len
  refine callP (by simp only [RH]) ?_
  refine CallX_body Γ_spec_l01Is ?_
  simp only [A_spec_l01Is, T_aiff]
  refine T_rseq fun Kr hKr => ?_
  simp (disch := omega) only [RA, ↓reduceIte, Nat.reduceEqDiff, RD]
  refine hKr _ _ ?_
  clear hKr Kr
  try simp only [RN, reduceIte]
  try refine T_e rfl ?_
  refine T_rseq fun Kr hKr => ?_
  simp (disch := omega) only [RA, ↓reduceIte, Nat.reduceEqDiff, RD, getN_D, getN_bk]
  refine l01Perm_spec hb ?_
  by_cases h1 : Perm b n
  · rw [decide_eq_true h1]
    simp (disch := omega) only [RA, ↓reduceIte, Nat.reduceEqDiff, RD, getN_D, getN_wh]
    refine l01Perm_spec hw ?_
    by_cases h2 : Perm w n
    · rw [decide_eq_true h2]
      simp (disch := omega) only [RA, ↓reduceIte, Nat.reduceEqDiff, RD, getN_D, getN_wh, getN_bk]
      refine l01Connected_spec hb hw (h1.lt16' hb.len) (h2.lt16' hw.len) ?_
      simp (disch := omega) only [RA, ↓reduceIte, Nat.reduceEqDiff, RD]
      refine hKr _ _ ?_
      clear hKr Kr
      try simp only [blkQ, thenQ, loopQ]
      try simp only [RN, reduceIte]
      try refine T_e rfl ?_
      refine bodyQ_ret (by simp (disch := omega) only [RA, ↓reduceIte, Nat.reduceEqDiff, RD, resAll, resOf]; rfl) GhV.refl ?_
      simp only [tup]
      exact ⟨NN.bool, by simpa [Des, h1, h2] using hK⟩
    · rw [decide_eq_false h2]
      simp (disch := omega) only [RA, ↓reduceIte, Nat.reduceEqDiff, RD]
      refine hKr _ _ ?_
      clear hKr Kr
      try simp only [blkQ, thenQ, loopQ]
      try simp only [RN, reduceIte]
      try refine T_e rfl ?_
      refine bodyQ_ret (by simp (disch := omega) only [RA, ↓reduceIte, Nat.reduceEqDiff, RD, resAll, resOf]; rfl) GhV.refl ?_
      simp only [tup]
      exact ⟨NN.bool, by simpa [Des, h1, h2] using hK⟩
  · rw [decide_eq_false h1]
    simp (disch := omega) only [RA, ↓reduceIte, Nat.reduceEqDiff, RD]
    refine hKr _ _ ?_
    clear hKr Kr
    try simp only [blkQ, thenQ, loopQ]
    try simp only [RN, reduceIte]
    try refine T_e rfl ?_
    refine bodyQ_ret (by simp (disch := omega) only [RA, ↓reduceIte, Nat.reduceEqDiff, RD, resAll, resOf]; rfl) GhV.refl ?_
    simp only [tup]
    exact ⟨NN.bool, by simpa [Des, h1] using hK⟩
theorem FPs2 {m : Nat} {b w : List Nat} : Fz 2 m (b.map N8 ++ w.map N8) = FPs m [b, w] := by simp [FPs]
end Go.Bm

/- Dessins in memory; the laws' helpers for them. -/
set_option linter.unusedVariables false
set_option linter.unusedSimpArgs false
namespace Go.Bm
open Go Go.Am

def z16 : List Nat := List.replicate 16 0
theorem z16_len : z16.length = 16 := by simp [z16]
theorem dz : (Value.int .i64 0 :: List.replicate 32 (Value.int .u8 0)) = DC 0 z16 z16 := by rfl
theorem plain_N {b : List Nat} : (b.map N8).all Am.plain = true := all_map fun _ => rfl
theorem ones_D {n : Int} {b w : List Nat} : (DC n b w).all one2 = true := by
  simp only [DC, List.all_cons, List.all_append, Bool.and_eq_true]
  exact ⟨rfl, ones_N, ones_N⟩
theorem len_D {n : Int} {b w : List Nat} (hb : b.length = 16) (hw : w.length = 16) : (DC n b w).length = 33 := by simp [hb, hw]
section
variable {H : BH} {i : Nat} {n m : Int} {b w b' w' p : List Nat}
theorem st_D (hb : b.length = 16) (hw : w.length = 16) (hb' : b'.length = 16) (hw' : w'.length = 16) : stO (some (DC n b w)) H i 0 33 (aggL (DC m b' w')) = some (undef, H.set i (some (DC m b' w'))) := by
  rw [stO_agg (len_D hb' hw') ones_D (by rw [len_D hb hw]; omega), splice_full (by rw [len_D hb hw, len_D hb' hw'])]
theorem st_D0 : stO (some (DC n b w)) H i 0 1 (.int .i64 m) = some (undef, H.set i (some (DC m b w))) := by
  rw [stO_int (by simp), splice_0]
theorem splice_mid {α : Type} {g : α → Value} {x y : List α} {pre post : List Value} (h : x.length = y.length) : splice (pre ++ (x.map g ++ post)) pre.length (y.map g) = pre ++ (y.map g ++ post) := by
  simp only [splice]
  rw [List.take_append_of_le_length (by omega), List.take_of_length_le (by omega)]
  rw [List.drop_append, List.drop_eq_nil_of_le (by omega), List.nil_append]
  rw [show pre.length + (List.map g y).length - pre.length = (List.map g x).length by simp [h]]
  rw [List.drop_append, List.drop_eq_nil_of_le (by omega)]
  simp
theorem splice_mid1 {α : Type} {g : α → Value} {x : List α} {y : α} {k : Nat} {pre post : List Value} (h : k < x.length) : splice (pre ++ (x.map g ++ post)) (pre.length + k) [g y] = pre ++ ((x.set k y).map g ++ post) := by
  simp only [splice, List.length_singleton]
  rw [List.take_append, List.take_of_length_le (l := pre) (by omega), show pre.length + k - pre.length = k by omega, List.take_append_of_le_length (by simp; omega)]
  rw [List.drop_append, List.drop_eq_nil_of_le (as := pre) (by omega), show pre.length + k + 1 - pre.length = k + 1 by omega, List.drop_append_of_le_length (by simp; omega)]
  rw [List.set_eq_take_append_cons_drop]
  simp [h, List.map_take, List.map_drop]
theorem getN_mid1 {α : Type} {g : α → Value} {x : List α} {k : Nat} {d : α} {pre post : List Value} (h : k < x.length) : getN none (pre ++ (x.map g ++ post)) (pre.length + k) = some (g (x.getD k d)) := by
  simp only [getN]
  rw [List.getElem?_append_right (by omega), show pre.length + k - pre.length = k by omega, List.getElem?_append_left (by simpa using h)]
  simp [List.getD, h]
theorem st_D1 (hb : b.length = 16) (hp : p.length = 16) : stO (some (DC n b w)) H i 1 16 (aggL (p.map N8)) = some (undef, H.set i (some (DC n p w))) := by
  rw [stO_agg (by simpa using hp) ones_N (by simp [hb])]
  have := splice_mid (g := N8) (x := b) (y := p) (pre := [I n]) (post := w.map N8) (by omega)
  simp only [List.length_cons, List.length_nil, List.length_map, List.cons_append, List.nil_append, List.append_nil, Nat.zero_add] at this
  rw [show splice (DC n b w) 1 (p.map N8) = DC n p w from this]
theorem st_D2 (hb : b.length = 16) (hw : w.length = 16) (hp : p.length = 16) : stO (some (DC n b w)) H i 17 16 (aggL (p.map N8)) = some (undef, H.set i (some (DC n b p))) := by
  rw [stO_agg (by simpa using hp) ones_N (by simp [hb, hw])]
  have := splice_mid (g := N8) (x := w) (y := p) (pre := I n :: b.map N8) (post := []) (by omega)
  simp only [List.length_cons, List.length_nil, List.length_map, List.cons_append, List.nil_append, List.append_nil, Nat.zero_add, hb] at this
  rw [show splice (DC n b w) 17 (p.map N8) = DC n b p from this]
theorem st_Db {k x : Nat} (h : k < b.length) : stO (some (DC n b w)) H i (1 + k) 1 (.int .u8 (x : Int)) = some (undef, H.set i (some (DC n (b.set k x) w))) := by
  rw [stO_int (by simp; omega)]
  have := splice_mid1 (g := N8) (x := b) (y := x) (k := k) (pre := [I n]) (post := w.map N8) h
  simp only [List.length_cons, List.length_nil, List.length_map, List.cons_append, List.nil_append, List.append_nil, Nat.zero_add] at this
  rw [show splice (DC n b w) (1 + k) [N8 x] = DC n (b.set k x) w from this]
theorem st_Dw {k x : Nat} (hb : b.length = 16) (h : k < w.length) : stO (some (DC n b w)) H i (17 + k) 1 (.int .u8 (x : Int)) = some (undef, H.set i (some (DC n b (w.set k x)))) := by
  rw [stO_int (by simp; omega)]
  have := splice_mid1 (g := N8) (x := w) (y := x) (k := k) (pre := I n :: b.map N8) (post := []) h
  simp only [List.length_cons, List.length_nil, List.length_map, List.cons_append, List.nil_append, List.append_nil, Nat.zero_add, hb] at this
  rw [show splice (DC n b w) (17 + k) [N8 x] = DC n b (w.set k x) from this]
theorem getN_b1 {k : Nat} (h : k < b.length) : getN none (DC n b w) (1 + k) = some (N8 (nl b k)) := by
  have := getN_mid1 (g := N8) (x := b) (k := k) (d := 0) (pre := [I n]) (post := w.map N8) h
  simp only [List.length_cons, List.length_nil, List.length_map, List.cons_append, List.nil_append, List.append_nil, Nat.zero_add] at this
  exact this
theorem getN_w1 {k : Nat} (hb : b.length = 16) (h : k < w.length) : getN none (DC n b w) (17 + k) = some (N8 (nl w k)) := by
  have := getN_mid1 (g := N8) (x := w) (k := k) (d := 0) (pre := I n :: b.map N8) (post := []) h
  simp only [List.length_cons, List.length_nil, List.length_map, List.cons_append, List.nil_append, List.append_nil, Nat.zero_add, hb] at this
  exact this
theorem fill_D0 : fillL (DC n b w) [(0, 1, .int .i64 m)] = some (DC m b w) := by
  simp [fillL, cellsL, splice]
theorem fill_D {b' w' : List Nat} (hb : b.length = 16) (hw : w.length = 16) (hb' : b'.length = 16) (hw' : w'.length = 16) : fillL (DC n b w) [(0, 1, .int .i64 m), (1, 16, PL b'), (17, 16, PL w')] = some (DC m b' w') := by
  simp only [fillL, cellsL_i, cellsL_a, List.length_singleton, List.length_map]
  rw [if_pos ⟨trivial, by simp⟩, splice_0, if_pos ⟨hb', by simp [hb]⟩]
  have h1 := splice_mid (g := N8) (x := b) (y := b') (pre := [I m]) (post := w.map N8) (by omega)
  simp only [List.length_singleton, List.cons_append, List.nil_append] at h1
  rw [h1, if_pos ⟨hw', by simp [hb', hw]⟩]
  have h2 := splice_mid (g := N8) (x := w) (y := w') (pre := I m :: b'.map N8) (post := []) (by omega)
  simp only [List.length_cons, List.length_map, hb', List.append_nil, List.cons_append] at h2
  rw [h2]
theorem fill_Dw (hb : b.length = 16) (hw : w.length = 16) (hw' : w'.length = 16) : fillL (DC n b w) [(0, 1, .int .i64 m), (17, 16, PL w')] = some (DC m b w') := by
  simp only [fillL, cellsL_i, cellsL_a, List.length_singleton, List.length_map]
  rw [if_pos ⟨trivial, by simp⟩, splice_0, if_pos ⟨hw', by simp [hb, hw]⟩]
  have h2 := splice_mid (g := N8) (x := w) (y := w') (pre := I m :: b.map N8) (post := []) (by omega)
  simp only [List.length_cons, List.length_map, hb, List.append_nil, List.cons_append] at h2
  rw [h2]
theorem getN_dv (hb : b.length = 16) (hw : w.length = 16) : getN (some 33) (DC n b w) 0 = some (aggL (DC n b w)) := getN_DV hb hw
end
theorem plain_NN {b w : List Nat} : (b.map N8 ++ w.map N8).all Am.plain = true := by rw [List.all_append, plain_N, plain_N]; rfl
theorem RDS : (type_of% @dz) ∧ (type_of% @plain_NN) ∧ (type_of% @plain_N) ∧ (type_of% @z16_len) ∧ (type_of% @st_D0) ∧ (type_of% @getN_D) ∧ (type_of% @fill_D0) := ⟨@dz, @plain_NN, @plain_N, @z16_len, @st_D0, @getN_D, @fill_D0⟩
theorem RDD : (type_of% @st_D) ∧ (type_of% @st_D1) ∧ (type_of% @st_D2) ∧ (type_of% @st_Db) ∧ (type_of% @st_Dw) ∧ (type_of% @getN_bk) ∧ (type_of% @getN_wh) ∧ (type_of% @getN_b1) ∧ (type_of% @getN_w1) ∧ (type_of% @fill_D) ∧ (type_of% @fill_Dw) ∧ (type_of% @getN_dv) := ⟨@st_D, @st_D1, @st_D2, @st_Db, @st_Dw, @getN_bk, @getN_wh, @getN_b1, @getN_w1, @fill_D, @fill_Dw, @getN_dv⟩

theorem Des.n0 {n : Int} {b w : List Nat} (h : Des n b w) : ∃ m : Nat, n = m ∧ 1 ≤ m ∧ m ≤ 16 := by
  have := h.1.1
  exact ⟨n.toNat, by omega, by omega, by omega⟩
end Go.Bm

/- The cycles of a permutation: the plain law. -/
set_option linter.unusedVariables false
set_option linter.unusedSimpArgs false
namespace Go.Bm
open Go Go.Am

/-- The numbers met, the cycle as far as it was walked, where one stands. -/
abbrev WS := List Bool × List Nat × Nat
def wstep (p : List Nat) (st : WS) : WS := if bl st.1 st.2.2 = true then st else (st.1.set st.2.2 true, st.2.1 ++ [st.2.2], nl p st.2.2)
def wk (p : List Nat) (st : WS) : Nat → WS
  | 0 => st
  | j + 1 => wstep p (wk p st j)
theorem wk_stop {p : List Nat} {st : WS} {i : Nat} (h : bl (wk p st i).1 (wk p st i).2.2 = true) : ∀ j, i ≤ j → wk p st j = wk p st i
  | 0, hj => by
    obtain rfl : i = 0 := by omega
    rfl
  | j + 1, hj => by
    rcases Nat.lt_or_ge j i with h1 | h1
    · obtain rfl : i = j + 1 := by omega
      rfl
    · have ih := wk_stop h j h1
      simp only [wk]
      rw [ih, wstep, if_pos h]
/-- The numbers met and the cycles, once the first k numbers have been looked at. -/
def cycK (p : List Nat) (m : Nat) : Nat → List Bool × List (List Nat)
  | 0 => (List.replicate 16 false, [])
  | k + 1 => if bl (cycK p m k).1 k = true then cycK p m k else ((wk p ((cycK p m k).1, [], k) m).1, (cycK p m k).2 ++ [(wk p ((cycK p m k).1, [], k) m).2.1])
structure IsCyc (p : List Nat) (n : Nat) (c : List Nat) : Prop where
  ne : 0 < c.length
  lt : ∀ x ∈ c, x < n
  nod : c.Nodup
  step : ∀ j, j + 1 < c.length → nl p (nl c j) = nl c (j + 1)
  last : nl p (nl c (c.length - 1)) = nl c 0
  least : ∀ x ∈ c, nl c 0 ≤ x
theorem nl_mem {c : List Nat} {j : Nat} (h : j < c.length) : nl c j ∈ c := by simp [nl, List.getD, h]
theorem mem_nl {c : List Nat} {x : Nat} (h : x ∈ c) : ∃ j, j < c.length ∧ nl c j = x := by
  obtain ⟨i, hi, rfl⟩ := List.mem_iff_getElem.1 h
  exact ⟨i, hi, by simp [nl, List.getD, hi]⟩
theorem nod_nl {c : List Nat} (h : c.Nodup) {i j : Nat} (hi : i < c.length) (hj : j < c.length) (he : nl c i = nl c j) : i = j := by
  have h' := List.pairwise_iff_getElem.1 h
  have e : ∀ k (hk : k < c.length), nl c k = c[k] := fun k hk => by simp [nl, List.getD, hk]
  rcases Nat.lt_trichotomy i j with h1 | h1 | h1
  · exact absurd (by rw [← e i hi, ← e j hj]; exact he) (h' i j hi hj h1)
  · exact h1
  · exact absurd (by rw [← e i hi, ← e j hj]; exact he.symm) (h' j i hj hi h1)
theorem Perm.inj {p : List Nat} {n : Nat} (h : Perm p n) {i j : Nat} (hi : i < n) (hj : j < n) (he : nl p i = nl p j) : i = j := by
  have h1 := h.1
  rcases Nat.lt_trichotomy i j with h2 | h2 | h2
  · exact absurd he (((h.2 j (by omega)).2 (by omega)).2 i h2)
  · exact h2
  · exact absurd he.symm (((h.2 i (by omega)).2 (by omega)).2 j h2)
/-- What stands of the walk. -/
structure WkOk (p : List Nat) (n : Nat) (s0 : List Bool) (i : Nat) (j : Nat) (st : WS) : Prop where
  len : st.1.length = 16
  at_ : st.2.2 < n
  new : bl s0 st.2.2 = false
  mem : ∀ x, bl st.1 x = true ↔ bl s0 x = true ∨ x ∈ st.2.1
  lt : ∀ x ∈ st.2.1, x < n ∧ bl s0 x = false
  nod : st.2.1.Nodup
  cnt : st.1.count true = s0.count true + st.2.1.length
  step : ∀ t, t + 1 < st.2.1.length → nl p (nl st.2.1 t) = nl st.2.1 (t + 1)
  st0 : st.2.1 = [] → st.2.2 = i
  st1 : 0 < st.2.1.length → nl st.2.1 0 = i ∧ nl p (nl st.2.1 (st.2.1.length - 1)) = st.2.2
  go : st.2.1.length = j ∨ bl st.1 st.2.2 = true
theorem WkOk.wk {p : List Nat} {n : Nat} (hp : Perm p n) {s0 : List Bool} {i : Nat} (hl : s0.length = 16) (hi : i < n) (h0 : bl s0 i = false) (hinv : ∀ x, x < n → bl s0 (nl p x) = bl s0 x) : ∀ j, WkOk p n s0 i j (wk p (s0, [], i) j)
  | 0 => by
    refine ⟨hl, hi, h0, fun x => ?_, ?_, ?_, ?_, ?_, ?_, ?_, ?_⟩ <;> simp [Bm.wk]
  | j + 1 => by
    have ih := WkOk.wk hp hl hi h0 hinv j
    have hn := hp.1
    simp only [Bm.wk]
    generalize Bm.wk p (s0, [], i) j = st at ih ⊢
    obtain ⟨s, l, k⟩ := st
    have h1 := ih.len
    have h2 := ih.at_
    have h3 := ih.new
    have h4 := ih.mem
    have h5 := ih.lt
    have h6 := ih.nod
    have h7 := ih.cnt
    have h8 := ih.step
    have h9 := ih.st0
    have h10 := ih.st1
    have h11 := ih.go
    simp only at h1 h2 h3 h4 h5 h6 h7 h8 h9 h10 h11
    unfold wstep
    by_cases hb : bl s k = true
    · rw [if_pos hb]
      exact ⟨h1, h2, h3, h4, h5, h6, h7, h8, h9, h10, .inr hb⟩
    · rw [if_neg hb]
      have hkl : k ∉ l := fun h => hb ((h4 k).2 (.inr h))
      have hk : (l ++ [k]).length = l.length + 1 := by simp
      refine ⟨by simpa using h1, hp.lt h2, by rw [hinv k h2]; exact h3, fun x => ?_, fun x hx => ?_, ?_, ?_, fun t ht => ?_, fun h => by simp at h, fun _ => ?_, .inl ?_⟩
      · show bl (s.set k true) x = true ↔ bl s0 x = true ∨ x ∈ l ++ [k]
        rw [bl_set]
        by_cases e : x = k
        · subst e
          rw [if_pos ⟨rfl, by omega⟩]
          simp
        · rw [if_neg (fun h => e h.1), h4 x]
          simp [e]
      · rcases List.mem_append.1 hx with h | h
        · exact h5 x h
        · rw [List.mem_singleton] at h
          subst h
          exact ⟨h2, h3⟩
      · show (l ++ [k]).Nodup
        rw [List.nodup_append]
        exact ⟨h6, by simp, fun a ha b hb => by
          rw [List.mem_singleton] at hb
          subst hb
          exact fun e => hkl (e ▸ ha)⟩
      · show (s.set k true).count true = s0.count true + (l ++ [k]).length
        rw [count_set_true (by omega) (by simpa using hb), h7, hk]
        omega
      · show nl p (nl (l ++ [k]) t) = nl (l ++ [k]) (t + 1)
        have ht : t + 1 < l.length + 1 := by rw [← hk]; exact ht
        rw [nl_append, nl_append, if_pos (by omega)]
        by_cases e : t + 1 < l.length
        · rw [if_pos e]
          exact h8 t e
        · rw [if_neg e, nl_single (by omega), show t = l.length - 1 by omega]
          exact (h10 (by omega)).2
      · show nl (l ++ [k]) 0 = i ∧ nl p (nl (l ++ [k]) ((l ++ [k]).length - 1)) = nl p k
        rw [hk, Nat.add_sub_cancel]
        refine ⟨?_, by rw [nl_append, if_neg (by omega), Nat.sub_self]; rfl⟩
        rw [nl_append]
        split
        · rename_i h
          exact (h10 h).1
        · rename_i h
          have : l = [] := List.eq_nil_of_length_eq_zero (by omega)
          subst this
          exact h9 rfl
      · show (l ++ [k]).length = j + 1
        rw [hk]
        rcases h11 with h | h
        · omega
        · exact absurd h hb
theorem WkOk.done {p : List Nat} {n m : Nat} (hm : m = 16) (hp : Perm p n) {s0 : List Bool} {i : Nat} (hl : s0.length = 16) (hi : i < n) (h0 : bl s0 i = false) (hinv : ∀ x, x < n → bl s0 (nl p x) = bl s0 x) :
    bl (Bm.wk p (s0, [], i) m).1 (Bm.wk p (s0, [], i) m).2.2 = true := by
  have h16 := WkOk.wk hp hl hi h0 hinv m
  have h17 := WkOk.wk hp hl hi h0 hinv (m + 1)
  rcases h16.go with h | h
  · cases hb : bl (Bm.wk p (s0, [], i) m).1 (Bm.wk p (s0, [], i) m).2.2 with
    | true => rfl
    | false =>
      have e : Bm.wk p (s0, [], i) (m + 1) = wstep p (Bm.wk p (s0, [], i) m) := rfl
      rw [wstep, if_neg (by simp [hb])] at e
      have h1 := h17.cnt
      have h2 := List.count_le_length (a := true) (l := (Bm.wk p (s0, [], i) (m + 1)).1)
      have h3 := h17.len
      have h4 : (Bm.wk p (s0, [], i) (m + 1)).2.1.length = m + 1 := by rw [e]; simp [h]
      omega
  · exact h
theorem WkOk.cyc {p : List Nat} {n m : Nat} (hm : m = 16) (hp : Perm p n) {s0 : List Bool} {i : Nat} (hl : s0.length = 16) (hi : i < n) (h0 : bl s0 i = false) (hinv : ∀ x, x < n → bl s0 (nl p x) = bl s0 x) (hup : ∀ x, x < i → bl s0 x = true) :
    IsCyc p n (Bm.wk p (s0, [], i) m).2.1 ∧ nl (Bm.wk p (s0, [], i) m).2.1 0 = i := by
  have h := WkOk.wk hp hl hi h0 hinv m
  have hd := WkOk.done hm hp hl hi h0 hinv
  generalize Bm.wk p (s0, [], i) m = st at h hd ⊢
  obtain ⟨s, l, k⟩ := st
  have hkl : k ∈ l := by
    rcases (h.mem k).1 hd with h1 | h1
    · exact absurd h1 (by have := h.new; simp only at this; simp [this])
    · exact h1
  have hne : 0 < l.length := List.length_pos_of_mem hkl
  obtain ⟨hz, hla⟩ := h.st1 hne
  simp only at hz hla
  obtain ⟨j, hj, hje⟩ := mem_nl hkl
  have hlt : ∀ t, t < l.length → nl l t < n := fun t ht => (h.lt _ (nl_mem ht)).1
  have hj0 : j = 0 := by
    rcases Nat.eq_zero_or_pos j with h1 | h1
    · exact h1
    · exfalso
      have h2 := h.step (j - 1) (by show j - 1 + 1 < l.length; omega)
      simp only at h2
      rw [show j - 1 + 1 = j by omega, hje, ← hla] at h2
      have h3 := hp.inj (hlt _ (by omega)) (hlt _ (by omega)) h2
      have h4 := nod_nl h.nod (by show j - 1 < l.length; omega) (by show l.length - 1 < l.length; omega) h3
      omega
  subst hj0
  refine ⟨⟨hne, fun x hx => (h.lt x hx).1, h.nod, h.step, by rw [hla]; exact hje.symm, fun x hx => ?_⟩, hz⟩
  rw [hz]
  rcases Nat.lt_or_ge x i with h1 | h1
  · have h2 := (h.lt x hx).2
    rw [hup x h1] at h2
    cases h2
  · exact h1
theorem IsCyc.fwd {p : List Nat} {n : Nat} {c : List Nat} (h : IsCyc p n c) {x : Nat} (hx : x ∈ c) : nl p x ∈ c := by
  obtain ⟨j, hj, rfl⟩ := mem_nl hx
  by_cases e : j + 1 < c.length
  · rw [h.step j e]
    exact nl_mem e
  · rw [show j = c.length - 1 by omega, h.last]
    exact nl_mem h.ne
theorem IsCyc.bwd {p : List Nat} {n : Nat} {c : List Nat} (hp : Perm p n) (h : IsCyc p n c) {x : Nat} (hx : x < n) (hm : nl p x ∈ c) : x ∈ c := by
  obtain ⟨j, hj, hje⟩ := mem_nl hm
  by_cases e : j = 0
  · subst e
    rw [← h.last] at hje
    have := hp.inj (h.lt _ (nl_mem (by have := h.ne; omega))) hx hje
    rw [← this]
    exact nl_mem (by have := h.ne; omega)
  · have h2 := h.step (j - 1) (by omega)
    rw [show j - 1 + 1 = j by omega, hje] at h2
    have := hp.inj (h.lt _ (nl_mem (by omega))) hx h2
    rw [← this]
    exact nl_mem (by omega)
structure CycOk (p : List Nat) (n i : Nat) (sc : List Bool × List (List Nat)) : Prop where
  len : sc.1.length = 16
  mem : ∀ x, bl sc.1 x = true ↔ ∃ c ∈ sc.2, x ∈ c
  inv : ∀ x, x < n → bl sc.1 (nl p x) = bl sc.1 x
  cyc : ∀ c ∈ sc.2, IsCyc p n c
  cnt : sc.1.count true = sc.2.flatten.length
  nod : sc.2.flatten.Nodup
  upto : ∀ x, x < i → bl sc.1 x = true
  hd : ∀ c ∈ sc.2, nl c 0 < i
  num : sc.2.length ≤ i
theorem CycOk.all {p : List Nat} {n m : Nat} (hm : m = 16) (hp : Perm p n) : ∀ {i : Nat}, i ≤ n → CycOk p n i (cycK p m i)
  | 0, _ => by
    have h0 : ∀ x, bl (List.replicate 16 false) x = false := fun x => bl_rep
    rw [show cycK p m 0 = (List.replicate 16 false, []) from rfl]
    have hno : ∀ c : List Nat, c ∉ ([] : List (List Nat)) := fun c => List.not_mem_nil
    have hc0 : (List.replicate 16 false).count true = 0 := rfl
    exact ⟨List.length_replicate, fun x => ⟨fun h => absurd ((h0 x).symm.trans h) Bool.false_ne_true, fun ⟨c, h, _⟩ => absurd h (hno c)⟩, fun x _ => (h0 _).trans (h0 x).symm, fun c h => absurd h (hno c), hc0, List.nodup_nil, fun x h => absurd h (Nat.not_lt_zero x), fun c h => absurd h (hno c), Nat.le_refl _⟩
  | i + 1, hi => by
    have ih := CycOk.all hm hp (i := i) (by omega)
    have hn := hp.1
    simp only [cycK]
    generalize cycK p m i = sc at ih ⊢
    by_cases hb : bl sc.1 i = true
    · rw [if_pos hb]
      exact ⟨ih.len, ih.mem, ih.inv, ih.cyc, ih.cnt, ih.nod, fun x hx => by
        by_cases e : x = i
        · rw [e]; exact hb
        · exact ih.upto x (by omega), fun c hc => by have := ih.hd c hc; omega, by have := ih.num; omega⟩
    · rw [if_neg hb]
      have h0 : bl sc.1 i = false := by simpa using hb
      have hw := WkOk.wk hp ih.len (show i < n by omega) h0 ih.inv m
      obtain ⟨hc, hz⟩ := WkOk.cyc hm hp ih.len (show i < n by omega) h0 ih.inv ih.upto
      generalize Bm.wk p (sc.1, [], i) m = st at hw hc hz ⊢
      obtain ⟨s, l, k⟩ := st
      have hm := hw.mem
      have hlt := hw.lt
      have hwc := hw.cnt
      simp only at hc hz hm hlt hwc ⊢
      have hil : i ∈ l := by rw [← hz]; exact nl_mem hc.ne
      refine ⟨hw.len, fun x => ?_, fun x hx => ?_, fun c hc' => ?_, ?_, ?_, fun x hx => ?_, fun c hc' => ?_, by simp; exact ih.num⟩
      · show bl s x = true ↔ _
        rw [hm x, ih.mem x]
        simp only [List.mem_append, List.mem_singleton]
        constructor
        · rintro (⟨c, h1, h2⟩ | h)
          · exact ⟨c, .inl h1, h2⟩
          · exact ⟨l, .inr rfl, h⟩
        · rintro ⟨c, h1 | rfl, h2⟩
          · exact .inl ⟨c, h1, h2⟩
          · exact .inr h2
      · show bl s (nl p x) = bl s x
        have key : bl s (nl p x) = true ↔ bl s x = true := by
          rw [hm, hm, ih.inv x hx]
          constructor
          · rintro (h | h)
            · exact .inl h
            · exact .inr (hc.bwd hp hx h)
          · rintro (h | h)
            · exact .inl h
            · exact .inr (hc.fwd h)
        exact Bool.eq_iff_iff.2 key
      · rcases List.mem_append.1 hc' with h | h
        · exact ih.cyc c h
        · rw [List.mem_singleton] at h
          subst h
          exact hc
      · show s.count true = (sc.2 ++ [l]).flatten.length
        rw [hwc, ih.cnt]
        simp
      · show (sc.2 ++ [l]).flatten.Nodup
        rw [List.flatten_append, List.nodup_append]
        refine ⟨ih.nod, by simpa using hw.nod, fun a ha b hb' => ?_⟩
        have hb'' : b ∈ l := by simpa using hb'
        rintro rfl
        obtain ⟨c, h1, h2⟩ := List.mem_flatten.1 ha
        have h3 := (ih.mem a).2 ⟨c, h1, h2⟩
        rw [(hlt a hb'').2] at h3
        cases h3
      · show bl s x = true
        rw [hm]
        by_cases e : x = i
        · rw [e]; exact .inr hil
        · exact .inl (ih.upto x (by omega))
      · rcases List.mem_append.1 hc' with h | h
        · have := ih.hd c h; omega
        · rw [List.mem_singleton] at h
          subst h
          omega
def cyc (p : List Nat) (n : Nat) : List (List Nat) := (cycK p 16 n).2
section
variable {p : List Nat} {n : Nat}
theorem cyc_at (hp : Perm p n) {x : Nat} (hx : x < n) : ∃ c ∈ cyc p n, x ∈ c := ((CycOk.all rfl hp (Nat.le_refl n)).mem x).1 ((CycOk.all rfl hp (Nat.le_refl n)).upto x hx)
theorem cyc_is (hp : Perm p n) {c : List Nat} (h : c ∈ cyc p n) : IsCyc p n c := (CycOk.all rfl hp (Nat.le_refl n)).cyc c h
theorem cyc_num (hp : Perm p n) : (cyc p n).length ≤ n := (CycOk.all rfl hp (Nat.le_refl n)).num
theorem cyc_len (hp : Perm p n) {c : List Nat} (h : c ∈ cyc p n) : 1 ≤ c.length ∧ c.length ≤ n := by
  have hc := cyc_is hp h
  refine ⟨hc.ne, ?_⟩
  have : ∀ (m : Nat) (c : List Nat), c.Nodup → (∀ x ∈ c, x < m) → c.length ≤ m := by
    intro m
    induction m with
    | zero =>
      intro c _ hc
      cases c with
      | nil => simp
      | cons a c => exact absurd (hc a (by simp)) (by omega)
    | succ m ih =>
      intro c hn hc
      have h1 := ih (c.erase m) (hn.erase m) fun x hx => by
        have h2 := hc x (List.mem_of_mem_erase hx)
        have h3 : x ≠ m := fun e => by
          subst e
          exact (List.Nodup.not_mem_erase hn) hx
        omega
      have h4 := List.length_erase (a := m) (l := c)
      split at h4 <;> omega
  exact this n c hc.nod hc.lt
end
end Go.Bm

