/- The reference's test of permutations; products and inverses. -/
import Derived.Test.YtbbgifoamnjhoaaDp0
set_option linter.unusedVariables false
set_option linter.unusedSimpArgs false
namespace Go.Bm
open Go Go.Am

theorem l01Perm_spec {x : Bool} {p : List Nat} {n : Int} {H : BH} {K : Value → BH → Prop} (hp : By 16 p) (hK : K (.bool (decide (Perm p n))) H) : CallX x F_spec_l01Perm [PL p, I n] H K := by
  have hlen := hp.len
  refine callP (by simp only [RH]) ?_
  refine CallX_body Γ_spec_l01Perm ?_
  simp only [A_spec_l01Perm, T_aiff]
  refine T_rseq fun Kr hKr => ?_
  simp (disch := omega) only [RA, ↓reduceIte, Nat.reduceEqDiff, RD]
  refine hKr _ _ ?_
  clear hKr Kr
  try simp only [RN, reduceIte]
  try refine T_e rfl ?_
  refine T_rseq fun Kr hKr => ?_
  simp (disch := omega) only [RA, ↓reduceIte, Nat.reduceEqDiff, RD]
  refine l01In_spec ?_
  simp (disch := omega) only [RA, ↓reduceIte, Nat.reduceEqDiff, RD]
  refine hKr _ _ ?_
  clear hKr Kr
  try simp only [blkQ, thenQ, loopQ]
  try simp only [RN, reduceIte]
  try refine T_e rfl ?_
  refine T_csplit (p := ¬ (1 ≤ n ∧ n ≤ 16)) (by simp only [RA, ↓reduceIte, Nat.reduceEqDiff] <;> rfl) (by (try simp only [RB]) <;> first | done | exact Iff.rfl | omega | simp) (fun hc => ?_) (fun hc => ?_) <;> (try simp only [RN, reduceIte]) <;> (try refine T_e rfl ?_)
  · refine T_rseq fun Kr hKr => ?_
    simp (disch := omega) only [RA, ↓reduceIte, Nat.reduceEqDiff, RD]
    refine hKr _ _ ?_
    clear hKr Kr
    try simp only [RN, reduceIte]
    try refine T_e rfl ?_
    refine bodyQ_ret (by simp (disch := omega) only [RA, ↓reduceIte, Nat.reduceEqDiff, RD, resAll, resOf]; rfl) GhV.refl ?_
    simp only [tup]
    exact ⟨NN.bool, by simpa [Perm, hc] using hK⟩
  have hc' : 1 ≤ n ∧ n ≤ 16 := by omega
  refine T_rseq fun Kr hKr => ?_
  simp (disch := omega) only [RA, ↓reduceIte, Nat.reduceEqDiff, RD]
  refine hKr _ _ ?_
  clear hKr Kr
  try simp only [RN, reduceIte]
  try refine T_e rfl ?_
  refine T_rseq fun Kr hKr => ?_
  simp (disch := omega) only [RA, ↓reduceIte, Nat.reduceEqDiff, RD]
  refine hKr _ _ ?_
  clear hKr Kr
  try simp only [RN, reduceIte]
  try refine T_e rfl ?_
  refine T_wloop (fun m f H' => ∃ k s, k ≤ 16 ∧ m = 16 - k ∧ Met p n k s ∧ (∀ i, i < k → PermAt p n i) ∧ f 1 = I n ∧ f 2 = P 0 0 ∧ f 5 = P 1 0 ∧ f 6 = I k ∧ H' = [some (p.map N8), some (s.map B)]) (16) ?_ ?_
  · refine ⟨_, _, Gh.refl, 0, List.replicate 16 false, by omega, by omega, Met.zero, by omega, by simp [RA, ↓reduceIte, Nat.reduceEqDiff], by simp [RA, ↓reduceIte, Nat.reduceEqDiff], by simp [RA, ↓reduceIte, Nat.reduceEqDiff], by simp [RA, ↓reduceIte, Nat.reduceEqDiff], by simp [RA, ↓reduceIte, Nat.reduceEqDiff]⟩
  · rintro m f H' R ⟨k, s, hk, rfl, hm, hat, h1, h2, h5, h6, rfl⟩ hN hX hR hE
    simp only [A_spec_l01Perm.l0, T_aiff]
    refine T_rseq fun Kr hKr => ?_
    simp (disch := omega) only [RA, ↓reduceIte, Nat.reduceEqDiff, RD, h6]
    refine hKr _ _ ?_
    clear hKr Kr
    try simp only [RN, reduceIte]
    try refine T_e rfl ?_
    refine T_csplit (p := k < 16) (by simp only [RA, ↓reduceIte, Nat.reduceEqDiff] <;> rfl) (by (try simp only [RB]) <;> first | done | exact Iff.rfl | omega | simp) (fun hc => ?_) (fun hc => ?_) <;> (try simp only [RN, reduceIte]) <;> (try refine T_e rfl ?_)
    · have hlt := hp.lt k
      have hsl := hm.1
      have hnext : ∀ f' s', f' 1 = I n → f' 2 = P 0 0 → f' 5 = P 1 0 → f' 6 = I k → Met p n (k + 1) s' → PermAt p n k → T 0 A_spec_l01Perm.r6 R f' [some (p.map N8), some (s'.map B)] := by
        intro f' s' h1 h2 h5 h6 hm' hat'
        refine T_reg_k fun Kr hKr => ?_
        simp (disch := omega) only [RA, ↓reduceIte, Nat.reduceEqDiff, RD, h6]
        refine hKr _ _ ?_
        clear hKr Kr
        refine hN (16 - (k + 1)) _ _ _ _ (by omega) Gh.refl ⟨k + 1, s', by omega, rfl, hm', fun i hi => ?_, by simp [RA, ↓reduceIte, Nat.reduceEqDiff, h1], by simp [RA, ↓reduceIte, Nat.reduceEqDiff, h2], by simp [RA, ↓reduceIte, Nat.reduceEqDiff, h5], by simp [RA, ↓reduceIte, Nat.reduceEqDiff], rfl⟩
        rcases Nat.lt_or_ge i k with h | h
        · exact hat i h
        · obtain rfl : i = k := by omega
          exact hat'
      first | refine T_bfree rfl ?_ | refine T_bfree' rfl ?_
      try simp only [RN, reduceIte]
      try refine T_e rfl ?_
      first | refine T_bfree rfl ?_ | refine T_bfree' rfl ?_
      try simp only [RN, reduceIte]
      try refine T_e rfl ?_
      refine T_rseq fun Kr hKr => ?_
      simp (disch := omega) only [RA, ↓reduceIte, Nat.reduceEqDiff, RD, h1, h6]
      refine hKr _ _ ?_
      clear hKr Kr
      try simp only [RN, reduceIte]
      try refine T_e rfl ?_
      refine T_csplit (p := n ≤ k) (by simp only [RA, ↓reduceIte, Nat.reduceEqDiff] <;> rfl) (by (try simp only [RB]) <;> first | done | exact Iff.rfl | omega | simp) (fun hc => ?_) (fun hc => ?_) <;> (try simp only [RN, reduceIte]) <;> (try refine T_e rfl ?_)
      · refine T_rseq fun Kr hKr => ?_
        simp (disch := omega) only [RA, ↓reduceIte, Nat.reduceEqDiff, RD, h2, h6, hlen]
        refine hKr _ _ ?_
        clear hKr Kr
        try simp only [RN, reduceIte]
        try refine T_e rfl ?_
        refine T_csplit (p := nl p k ≠ 0) (by simp only [RA, ↓reduceIte, Nat.reduceEqDiff] <;> rfl) (by (try simp only [RB]) <;> first | done | exact Iff.rfl | omega | simp) (fun hc => ?_) (fun hc => ?_) <;> (try simp only [RN, reduceIte]) <;> (try refine T_e rfl ?_)
        · refine T_rseq fun Kr hKr => ?_
          simp (disch := omega) only [RA, ↓reduceIte, Nat.reduceEqDiff, RD]
          refine hKr _ _ ?_
          clear hKr Kr
          try simp only [RN, reduceIte]
          try refine T_e rfl ?_
          refine hR _ _ ?_
          refine bodyQ_ret (by simp (disch := omega) only [RA, ↓reduceIte, Nat.reduceEqDiff, RD, resAll, resOf]; rfl) GhV.refl ?_
          simp only [tup]
          refine ⟨NN.bool, ?_⟩
          have : ¬ Perm p n := fun h => hc ((h.2 k (by omega)).1 (by omega))
          simpa [this] using hK
        · try simp only [RN, reduceIte]
          try refine T_e rfl ?_
          exact hnext _ s (by simp [RA, ↓reduceIte, Nat.reduceEqDiff, h1]) (by simp [RA, ↓reduceIte, Nat.reduceEqDiff, h2]) (by simp [RA, ↓reduceIte, Nat.reduceEqDiff, h5]) (by simp [RA, ↓reduceIte, Nat.reduceEqDiff, h6]) (hm.skip (by omega)) ⟨fun _ => by omega, fun h => by omega⟩
      · by_cases hb : n ≤ nl p k
        · refine T_rseq fun Kr hKr => ?_
          simp (disch := omega) only [RA, ↓reduceIte, Nat.reduceEqDiff, RD, h1, h2, h6, hb, hlen]
          refine hKr _ _ ?_
          clear hKr Kr
          try simp only [RN, reduceIte]
          try refine T_e rfl ?_
          refine T_cseq (t := true) (by simp (disch := omega) only [RA, ↓reduceIte, Nat.reduceEqDiff, RD]) ?_
          try simp only [RN, reduceIte]
          try refine T_e rfl ?_
          refine T_rseq fun Kr hKr => ?_
          simp (disch := omega) only [RA, ↓reduceIte, Nat.reduceEqDiff, RD]
          refine hKr _ _ ?_
          clear hKr Kr
          try simp only [RN, reduceIte]
          try refine T_e rfl ?_
          refine hR _ _ ?_
          refine bodyQ_ret (by simp (disch := omega) only [RA, ↓reduceIte, Nat.reduceEqDiff, RD, resAll, resOf]; rfl) GhV.refl ?_
          simp only [tup]
          refine ⟨NN.bool, ?_⟩
          have : ¬ Perm p n := fun h => by have := ((h.2 k (by omega)).2 (by omega)).1; omega
          simpa [this] using hK
        · refine T_rseq fun Kr hKr => ?_
          simp (disch := omega) only [RA, ↓reduceIte, Nat.reduceEqDiff, RD, h1, h2, h5, h6, hb, hsl, hlen]
          refine hKr _ _ ?_
          clear hKr Kr
          try simp only [RN, reduceIte]
          try refine T_e rfl ?_
          refine T_csplit (p := bl s (nl p k) = true) (by simp only [RA, ↓reduceIte, Nat.reduceEqDiff] <;> rfl) (by (try simp only [RB]) <;> first | done | exact Iff.rfl | omega | simp) (fun hc => ?_) (fun hc => ?_) <;> (try simp only [RN, reduceIte]) <;> (try refine T_e rfl ?_)
          · refine T_rseq fun Kr hKr => ?_
            simp (disch := omega) only [RA, ↓reduceIte, Nat.reduceEqDiff, RD]
            refine hKr _ _ ?_
            clear hKr Kr
            try simp only [RN, reduceIte]
            try refine T_e rfl ?_
            refine hR _ _ ?_
            refine bodyQ_ret (by simp (disch := omega) only [RA, ↓reduceIte, Nat.reduceEqDiff, RD, resAll, resOf]; rfl) GhV.refl ?_
            simp only [tup]
            refine ⟨NN.bool, ?_⟩
            obtain ⟨i, hi1, hi2, hi3⟩ := (hm.2 _).1 hc
            have : ¬ Perm p n := fun h => ((h.2 k (by omega)).2 (by omega)).2 i hi1 hi3
            simpa [this] using hK
          · refine T_rseq fun Kr hKr => ?_
            simp (disch := omega) only [RA, ↓reduceIte, Nat.reduceEqDiff, RD, h2, h5, h6, hsl, hlen]
            refine hKr _ _ ?_
            clear hKr Kr
            try simp only [RN, reduceIte]
            try refine T_e rfl ?_
            refine hnext _ (s.set (nl p k) true) (by simp [RA, ↓reduceIte, Nat.reduceEqDiff, h1]) (by simp [RA, ↓reduceIte, Nat.reduceEqDiff, h2]) (by simp [RA, ↓reduceIte, Nat.reduceEqDiff, h5]) (by simp [RA, ↓reduceIte, Nat.reduceEqDiff, h6]) (hm.next (by omega) (by omega)) ⟨fun h => by omega, fun _ => ⟨by omega, fun j hj e => hc ((hm.2 _).2 ⟨j, hj, by omega, e⟩)⟩⟩
    · refine hX _ _ ?_
      refine T_rseq fun Kr hKr => ?_
      simp (disch := omega) only [RA, ↓reduceIte, Nat.reduceEqDiff, RD]
      refine hKr _ _ ?_
      clear hKr Kr
      try simp only [RN, reduceIte]
      try refine T_e rfl ?_
      refine bodyQ_ret (by simp (disch := omega) only [RA, ↓reduceIte, Nat.reduceEqDiff, RD, resAll, resOf]; rfl) GhV.refl ?_
      simp only [tup]
      refine ⟨NN.bool, ?_⟩
      have : Perm p n := ⟨hc', fun i hi => hat i (by omega)⟩
      simpa [this] using hK

theorem Perm.lt {p : List Nat} {n : Nat} (h : Perm p n) {i : Nat} (hi : i < n) : nl p i < n := by have := ((h.2 i (by have := h.1; omega)).2 (by omega)).1; omega
theorem Perm.lt16 {p : List Nat} {n : Nat} (h : Perm p n) (hl : p.length = 16) (i : Nat) : nl p i < 16 := by
  have h1 := h.1
  rcases Nat.lt_or_ge i n with hi | hi
  · have := h.lt hi; omega
  · rcases Nat.lt_or_ge i 16 with h2 | h2
    · rw [(h.2 i h2).1 (by omega)]; omega
    · rw [nl_out (by omega)]; omega

/-- p then q, at the first k numbers. -/
def thenK (p q : List Nat) : Nat → List Nat
  | 0 => List.replicate 16 0
  | k + 1 => (thenK p q k).set k (nl q (nl p k))
/-- The permutation that leads back, of the first k numbers. -/
def backK (p : List Nat) : Nat → List Nat
  | 0 => List.replicate 16 0
  | k + 1 => (backK p k).set (nl p k) k
theorem thenK_len {p q : List Nat} {k : Nat} : (thenK p q k).length = 16 := by
  induction k with
  | zero => simp [thenK]
  | succ k ih => simp [thenK, ih]
theorem backK_len {p : List Nat} {k : Nat} : (backK p k).length = 16 := by
  induction k with
  | zero => simp [backK]
  | succ k ih => simp [backK, ih]
theorem thenK_nl {p q : List Nat} {k i : Nat} (hk : k ≤ 16) : nl (thenK p q k) i = if i < k then nl q (nl p i) else 0 := by
  induction k with
  | zero => simp only [thenK, nl_rep]; split <;> simp
  | succ k ih =>
    simp only [thenK, nl_set, thenK_len]
    rw [ih (by omega)]
    by_cases h : i = k
    · subst h; simp [show i < 16 by omega]
    · simp only [h, false_and, if_false]
      split <;> split <;> first | rfl | omega
theorem thenK_by {p q : List Nat} {k : Nat} (hq : By 16 q) (hk : k ≤ 16) : By 16 (thenK p q k) := ⟨thenK_len, fun i => by rw [thenK_nl hk]; split; exact hq.lt _; omega⟩
theorem backK_by {p : List Nat} {k : Nat} (hk : k ≤ 16) : By 16 (backK p k) := by
  induction k with
  | zero => exact By.rep
  | succ k ih => exact (ih (by omega)).set (by omega)

theorem l01Then_spec {x : Bool} {p q : List Nat} {n : Nat} {H : BH} {K : Value → BH → Prop} (hp : By 16 p) (hq : By 16 q) (hn : n ≤ 16) (hp16 : ∀ i, nl p i < 16) (hK : K (PL (thenK p q n)) H) : CallX x F_spec_l01Then [PL p, PL q, I n] H K := by
  have hlen := hp.len
  have hlen' := hq.len
  refine callP (by simp only [RH]) ?_
  refine CallX_body Γ_spec_l01Then ?_
  simp only [A_spec_l01Then, T_aiff]
  refine T_rseq fun Kr hKr => ?_
  simp (disch := omega) only [RA, ↓reduceIte, Nat.reduceEqDiff, RD]
  refine hKr _ _ ?_
  clear hKr Kr
  try simp only [RN, reduceIte]
  try refine T_e rfl ?_
  refine T_rseq fun Kr hKr => ?_
  simp (disch := omega) only [RA, ↓reduceIte, Nat.reduceEqDiff, RD]
  refine hKr _ _ ?_
  clear hKr Kr
  try simp only [RN, reduceIte]
  try refine T_e rfl ?_
  refine T_rseq fun Kr hKr => ?_
  simp (disch := omega) only [RA, ↓reduceIte, Nat.reduceEqDiff, RD]
  refine hKr _ _ ?_
  clear hKr Kr
  try simp only [RN, reduceIte]
  try refine T_e rfl ?_
  refine T_wloop (fun m f H' => ∃ k, k ≤ n ∧ m = n - k ∧ f 2 = I n ∧ f 3 = P 0 0 ∧ f 4 = P 1 0 ∧ f 6 = P 2 0 ∧ f 7 = P 3 0 ∧ f 8 = I k ∧ H' = [some (p.map N8), some (q.map N8), some (List.replicate 16 (.int .u8 0)), some ((thenK p q k).map N8)]) (n) ?_ ?_
  · refine ⟨_, _, Gh.refl, 0, by omega, by omega, by simp [RA, ↓reduceIte, Nat.reduceEqDiff], by simp [RA, ↓reduceIte, Nat.reduceEqDiff], by simp [RA, ↓reduceIte, Nat.reduceEqDiff], by simp [RA, ↓reduceIte, Nat.reduceEqDiff], by simp [RA, ↓reduceIte, Nat.reduceEqDiff], by simp [RA, ↓reduceIte, Nat.reduceEqDiff], by simp [RA, ↓reduceIte, Nat.reduceEqDiff, thenK]⟩
  · rintro m f H' R ⟨k, hk, rfl, h2, h3, h4, h6, h7, h8, rfl⟩ hN hX hR hE
    simp only [A_spec_l01Then.l0, T_aiff]
    refine T_rseq fun Kr hKr => ?_
    simp (disch := omega) only [RA, ↓reduceIte, Nat.reduceEqDiff, RD, h2, h8]
    refine hKr _ _ ?_
    clear hKr Kr
    try simp only [RN, reduceIte]
    try refine T_e rfl ?_
    refine T_csplit (p := k < n) (by simp only [RA, ↓reduceIte, Nat.reduceEqDiff] <;> rfl) (by (try simp only [RB]) <;> first | done | exact Iff.rfl | omega | simp) (fun hc => ?_) (fun hc => ?_) <;> (try simp only [RN, reduceIte]) <;> (try refine T_e rfl ?_)
    · have hlk := @thenK_len p q k
      have hpk := hp16 k
      first | refine T_bfree rfl ?_ | refine T_bfree' rfl ?_
      try simp only [RN, reduceIte]
      try refine T_e rfl ?_
      refine T_rseq fun Kr hKr => ?_
      simp (disch := omega) only [RA, ↓reduceIte, Nat.reduceEqDiff, RD, h3, h4, h7, h8, hlen, hlen', hlk]
      refine hKr _ _ ?_
      clear hKr Kr
      try simp only [RN, reduceIte]
      try refine T_e rfl ?_
      refine T_reg_k fun Kr hKr => ?_
      simp (disch := omega) only [RA, ↓reduceIte, Nat.reduceEqDiff, RD, h8]
      refine hKr _ _ ?_
      clear hKr Kr
      refine hN (n - (k + 1)) _ _ _ _ (by omega) Gh.refl ⟨k + 1, by omega, rfl, by simp [RA, ↓reduceIte, Nat.reduceEqDiff, h2], by simp [RA, ↓reduceIte, Nat.reduceEqDiff, h3], by simp [RA, ↓reduceIte, Nat.reduceEqDiff, h4], by simp [RA, ↓reduceIte, Nat.reduceEqDiff, h6], by simp [RA, ↓reduceIte, Nat.reduceEqDiff, h7], by simp [RA, ↓reduceIte, Nat.reduceEqDiff], rfl⟩
    · refine hX _ _ ?_
      obtain rfl : k = n := by omega
      have hlk := @thenK_len p q k
      refine T_rseq fun Kr hKr => ?_
      simp (disch := omega) only [RA, ↓reduceIte, Nat.reduceEqDiff, RD, h6, h7, hlk]
      refine hKr _ _ ?_
      clear hKr Kr
      try simp only [RN, reduceIte]
      try refine T_e rfl ?_
      refine bodyQ_ret (by simp (disch := omega) only [RA, ↓reduceIte, Nat.reduceEqDiff, RD, resAll, resOf, h6, hlk]; rfl) GhV.refl ?_
      simp only [tup]
      exact ⟨NN_agg (by (simp only [RH])), hK⟩
theorem then_spec {x : Bool} {p q : List Nat} {n : Nat} {H : BH} {K : Value → BH → Prop} (hp : By 16 p) (hq : By 16 q) (hn : n ≤ 16) (hp16 : ∀ i, nl p i < 16) (hK : K (PL (thenK p q n)) H) : CallX x F_impl_then [PL p, PL q, I n] H K := by
  have hlen := hp.len
  have hlen' := hq.len
  refine callP (by simp only [RH]) ?_
  refine CallX_body Γ_impl_then ?_
  simp only [A_impl_then, T_aiff]
  refine T_rseq fun Kr hKr => ?_
  simp (disch := omega) only [RA, ↓reduceIte, Nat.reduceEqDiff, RD]
  refine hKr _ _ ?_
  clear hKr Kr
  try simp only [RN, reduceIte]
  try refine T_e rfl ?_
  refine T_rseq fun Kr hKr => ?_
  simp (disch := omega) only [RA, ↓reduceIte, Nat.reduceEqDiff, RD]
  refine hKr _ _ ?_
  clear hKr Kr
  try simp only [RN, reduceIte]
  try refine T_e rfl ?_
  refine T_rseq fun Kr hKr => ?_
  simp (disch := omega) only [RA, ↓reduceIte, Nat.reduceEqDiff, RD]
  refine hKr _ _ ?_
  clear hKr Kr
  try simp only [RN, reduceIte]
  try refine T_e rfl ?_
  refine T_wloop (fun m f H' => ∃ k, k ≤ n ∧ m = n - k ∧ f 10 = I n ∧ f 3 = P 0 0 ∧ f 4 = P 1 0 ∧ f 6 = P 2 0 ∧ f 7 = P 3 0 ∧ f 11 = I k ∧ H' = [some (p.map N8), some (q.map N8), some (List.replicate 16 (.int .u8 0)), some ((thenK p q k).map N8)]) (n) ?_ ?_
  · refine ⟨_, _, Gh.refl, 0, by omega, by omega, by simp [RA, ↓reduceIte, Nat.reduceEqDiff], by simp [RA, ↓reduceIte, Nat.reduceEqDiff], by simp [RA, ↓reduceIte, Nat.reduceEqDiff], by simp [RA, ↓reduceIte, Nat.reduceEqDiff], by simp [RA, ↓reduceIte, Nat.reduceEqDiff], by simp [RA, ↓reduceIte, Nat.reduceEqDiff], by simp [RA, ↓reduceIte, Nat.reduceEqDiff, thenK]⟩
  · rintro m f H' R ⟨k, hk, rfl, h2, h3, h4, h6, h7, h8, rfl⟩ hN hX hR hE
    simp only [A_impl_then.l0, T_aiff]
    refine T_rseq fun Kr hKr => ?_
    simp (disch := omega) only [RA, ↓reduceIte, Nat.reduceEqDiff, RD, h2, h8]
    refine hKr _ _ ?_
    clear hKr Kr
    try simp only [RN, reduceIte]
    try refine T_e rfl ?_
    refine T_csplit (p := k < n) (by simp only [RA, ↓reduceIte, Nat.reduceEqDiff] <;> rfl) (by (try simp only [RB]) <;> first | done | exact Iff.rfl | omega | simp) (fun hc => ?_) (fun hc => ?_) <;> (try simp only [RN, reduceIte]) <;> (try refine T_e rfl ?_)
    · have hlk := @thenK_len p q k
      have hpk := hp16 k
      first | refine T_bfree rfl ?_ | refine T_bfree' rfl ?_
      try simp only [RN, reduceIte]
      try refine T_e rfl ?_
      refine T_rseq fun Kr hKr => ?_
      simp (disch := omega) only [RA, ↓reduceIte, Nat.reduceEqDiff, RD, h8]
      refine hKr _ _ ?_
      clear hKr Kr
      try simp only [RN, reduceIte]
      try refine T_e rfl ?_
      refine T_rseq fun Kr hKr => ?_
      simp (disch := omega) only [RA, ↓reduceIte, Nat.reduceEqDiff, RD, h3, h4, h7, h8, hlen, hlen', hlk]
      refine hKr _ _ ?_
      clear hKr Kr
      try simp only [RN, reduceIte]
      try refine T_e rfl ?_
      refine T_reg_k fun Kr hKr => ?_
      simp (disch := omega) only [RA, ↓reduceIte, Nat.reduceEqDiff, RD, h8]
      refine hKr _ _ ?_
      clear hKr Kr
      refine hN (n - (k + 1)) _ _ _ _ (by omega) Gh.refl ⟨k + 1, by omega, rfl, by simp [RA, ↓reduceIte, Nat.reduceEqDiff, h2], by simp [RA, ↓reduceIte, Nat.reduceEqDiff, h3], by simp [RA, ↓reduceIte, Nat.reduceEqDiff, h4], by simp [RA, ↓reduceIte, Nat.reduceEqDiff, h6], by simp [RA, ↓reduceIte, Nat.reduceEqDiff, h7], by simp [RA, ↓reduceIte, Nat.reduceEqDiff], rfl⟩
    · refine hX _ _ ?_
      obtain rfl : k = n := by omega
      have hlk := @thenK_len p q k
      refine T_rseq fun Kr hKr => ?_
      simp (disch := omega) only [RA, ↓reduceIte, Nat.reduceEqDiff, RD, h6, h7, hlk]
      refine hKr _ _ ?_
      clear hKr Kr
      try simp only [RN, reduceIte]
      try refine T_e rfl ?_
      refine bodyQ_ret (by simp (disch := omega) only [RA, ↓reduceIte, Nat.reduceEqDiff, RD, resAll, resOf, h6, hlk]; rfl) GhV.refl ?_
      simp only [tup]
      exact ⟨NN_agg (by (simp only [RH])), hK⟩
theorem l01Back_spec {x : Bool} {p : List Nat} {n : Nat} {H : BH} {K : Value → BH → Prop} (hp : By 16 p) (hn : n ≤ 16) (hp16 : ∀ i, nl p i < 16) (hK : K (PL (backK p n)) H) : CallX x F_spec_l01Back [PL p, I n] H K := by
  have hlen := hp.len
  refine callP (by simp only [RH]) ?_
  refine CallX_body Γ_spec_l01Back ?_
  simp only [A_spec_l01Back, T_aiff]
  refine T_rseq fun Kr hKr => ?_
  simp (disch := omega) only [RA, ↓reduceIte, Nat.reduceEqDiff, RD]
  refine hKr _ _ ?_
  clear hKr Kr
  try simp only [RN, reduceIte]
  try refine T_e rfl ?_
  refine T_rseq fun Kr hKr => ?_
  simp (disch := omega) only [RA, ↓reduceIte, Nat.reduceEqDiff, RD]
  refine hKr _ _ ?_
  clear hKr Kr
  try simp only [RN, reduceIte]
  try refine T_e rfl ?_
  refine T_rseq fun Kr hKr => ?_
  simp (disch := omega) only [RA, ↓reduceIte, Nat.reduceEqDiff, RD]
  refine hKr _ _ ?_
  clear hKr Kr
  try simp only [RN, reduceIte]
  try refine T_e rfl ?_
  refine T_wloop (fun m f H' => ∃ k, k ≤ n ∧ m = n - k ∧ f 1 = I n ∧ f 2 = P 0 0 ∧ f 4 = P 1 0 ∧ f 5 = P 2 0 ∧ f 6 = I k ∧ H' = [some (p.map N8), some (List.replicate 16 (.int .u8 0)), some ((backK p k).map N8)]) (n) ?_ ?_
  · refine ⟨_, _, Gh.refl, 0, by omega, by omega, by simp [RA, ↓reduceIte, Nat.reduceEqDiff], by simp [RA, ↓reduceIte, Nat.reduceEqDiff], by simp [RA, ↓reduceIte, Nat.reduceEqDiff], by simp [RA, ↓reduceIte, Nat.reduceEqDiff], by simp [RA, ↓reduceIte, Nat.reduceEqDiff], by simp [RA, ↓reduceIte, Nat.reduceEqDiff, backK]⟩
  · rintro m f H' R ⟨k, hk, rfl, h1, h2, h4, h5, h6, rfl⟩ hN hX hR hE
    simp only [A_spec_l01Back.l0, T_aiff]
    refine T_rseq fun Kr hKr => ?_
    simp (disch := omega) only [RA, ↓reduceIte, Nat.reduceEqDiff, RD, h1, h6]
    refine hKr _ _ ?_
    clear hKr Kr
    try simp only [RN, reduceIte]
    try refine T_e rfl ?_
    refine T_csplit (p := k < n) (by simp only [RA, ↓reduceIte, Nat.reduceEqDiff] <;> rfl) (by (try simp only [RB]) <;> first | done | exact Iff.rfl | omega | simp) (fun hc => ?_) (fun hc => ?_) <;> (try simp only [RN, reduceIte]) <;> (try refine T_e rfl ?_)
    · have hlk := @backK_len p k
      have hpk := hp16 k
      first | refine T_bfree rfl ?_ | refine T_bfree' rfl ?_
      try simp only [RN, reduceIte]
      try refine T_e rfl ?_
      refine T_rseq fun Kr hKr => ?_
      simp (disch := omega) only [RA, ↓reduceIte, Nat.reduceEqDiff, RD, h2, h4, h5, h6, hlen, hlk]
      refine hKr _ _ ?_
      clear hKr Kr
      try simp only [RN, reduceIte]
      try refine T_e rfl ?_
      refine T_reg_k fun Kr hKr => ?_
      simp (disch := omega) only [RA, ↓reduceIte, Nat.reduceEqDiff, RD, h6]
      refine hKr _ _ ?_
      clear hKr Kr
      refine hN (n - (k + 1)) _ _ _ _ (by omega) Gh.refl ⟨k + 1, by omega, rfl, by simp [RA, ↓reduceIte, Nat.reduceEqDiff, h1], by simp [RA, ↓reduceIte, Nat.reduceEqDiff, h2], by simp [RA, ↓reduceIte, Nat.reduceEqDiff, h4], by simp [RA, ↓reduceIte, Nat.reduceEqDiff, h5], by simp [RA, ↓reduceIte, Nat.reduceEqDiff], rfl⟩
    · refine hX _ _ ?_
      obtain rfl : k = n := by omega
      have hlk := @backK_len p k
      refine T_rseq fun Kr hKr => ?_
      simp (disch := omega) only [RA, ↓reduceIte, Nat.reduceEqDiff, RD, h4, h5, hlk]
      refine hKr _ _ ?_
      clear hKr Kr
      try simp only [RN, reduceIte]
      try refine T_e rfl ?_
      refine bodyQ_ret (by simp (disch := omega) only [RA, ↓reduceIte, Nat.reduceEqDiff, RD, resAll, resOf, h4, hlk]; rfl) GhV.refl ?_
      simp only [tup]
      exact ⟨NN_agg (by (simp only [RH])), hK⟩
theorem back_spec {x : Bool} {p : List Nat} {n : Nat} {H : BH} {K : Value → BH → Prop} (hp : By 16 p) (hn : n ≤ 16) (hp16 : ∀ i, nl p i < 16) (hK : K (PL (backK p n)) H) : CallX x F_impl_back [PL p, I n] H K := by
  have hlen := hp.len
  refine callP (by simp only [RH]) ?_
  refine CallX_body Γ_impl_back ?_
  simp only [A_impl_back, T_aiff]
  refine T_rseq fun Kr hKr => ?_
  simp (disch := omega) only [RA, ↓reduceIte, Nat.reduceEqDiff, RD]
  refine hKr _ _ ?_
  clear hKr Kr
  try simp only [RN, reduceIte]
  try refine T_e rfl ?_
  refine T_rseq fun Kr hKr => ?_
  simp (disch := omega) only [RA, ↓reduceIte, Nat.reduceEqDiff, RD]
  refine hKr _ _ ?_
  clear hKr Kr
  try simp only [RN, reduceIte]
  try refine T_e rfl ?_
  refine T_rseq fun Kr hKr => ?_
  simp (disch := omega) only [RA, ↓reduceIte, Nat.reduceEqDiff, RD]
  refine hKr _ _ ?_
  clear hKr Kr
  try simp only [RN, reduceIte]
  try refine T_e rfl ?_
  refine T_wloop (fun m f H' => ∃ k, k ≤ n ∧ m = n - k ∧ f 8 = I n ∧ f 2 = P 0 0 ∧ f 4 = P 1 0 ∧ f 5 = P 2 0 ∧ f 9 = I k ∧ H' = [some (p.map N8), some (List.replicate 16 (.int .u8 0)), some ((backK p k).map N8)]) (n) ?_ ?_
  · refine ⟨_, _, Gh.refl, 0, by omega, by omega, by simp [RA, ↓reduceIte, Nat.reduceEqDiff], by simp [RA, ↓reduceIte, Nat.reduceEqDiff], by simp [RA, ↓reduceIte, Nat.reduceEqDiff], by simp [RA, ↓reduceIte, Nat.reduceEqDiff], by simp [RA, ↓reduceIte, Nat.reduceEqDiff], by simp [RA, ↓reduceIte, Nat.reduceEqDiff, backK]⟩
  · rintro m f H' R ⟨k, hk, rfl, h1, h2, h4, h5, h6, rfl⟩ hN hX hR hE
    simp only [A_impl_back.l0, T_aiff]
    refine T_rseq fun Kr hKr => ?_
    simp (disch := omega) only [RA, ↓reduceIte, Nat.reduceEqDiff, RD, h1, h6]
    refine hKr _ _ ?_
    clear hKr Kr
    try simp only [RN, reduceIte]
    try refine T_e rfl ?_
    refine T_csplit (p := k < n) (by simp only [RA, ↓reduceIte, Nat.reduceEqDiff] <;> rfl) (by (try simp only [RB]) <;> first | done | exact Iff.rfl | omega | simp) (fun hc => ?_) (fun hc => ?_) <;> (try simp only [RN, reduceIte]) <;> (try refine T_e rfl ?_)
    · have hlk := @backK_len p k
      have hpk := hp16 k
      first | refine T_bfree rfl ?_ | refine T_bfree' rfl ?_
      try simp only [RN, reduceIte]
      try refine T_e rfl ?_
      refine T_rseq fun Kr hKr => ?_
      simp (disch := omega) only [RA, ↓reduceIte, Nat.reduceEqDiff, RD, h6]
      refine hKr _ _ ?_
      clear hKr Kr
      try simp only [RN, reduceIte]
      try refine T_e rfl ?_
      refine T_rseq fun Kr hKr => ?_
      simp (disch := omega) only [RA, ↓reduceIte, Nat.reduceEqDiff, RD, h2, h4, h5, h6, hlen, hlk]
      refine hKr _ _ ?_
      clear hKr Kr
      try simp only [RN, reduceIte]
      try refine T_e rfl ?_
      refine T_reg_k fun Kr hKr => ?_
      simp (disch := omega) only [RA, ↓reduceIte, Nat.reduceEqDiff, RD, h6]
      refine hKr _ _ ?_
      clear hKr Kr
      refine hN (n - (k + 1)) _ _ _ _ (by omega) Gh.refl ⟨k + 1, by omega, rfl, by simp [RA, ↓reduceIte, Nat.reduceEqDiff, h1], by simp [RA, ↓reduceIte, Nat.reduceEqDiff, h2], by simp [RA, ↓reduceIte, Nat.reduceEqDiff, h4], by simp [RA, ↓reduceIte, Nat.reduceEqDiff, h5], by simp [RA, ↓reduceIte, Nat.reduceEqDiff], rfl⟩
    · refine hX _ _ ?_
      obtain rfl : k = n := by omega
      have hlk := @backK_len p k
      refine T_rseq fun Kr hKr => ?_
      simp (disch := omega) only [RA, ↓reduceIte, Nat.reduceEqDiff, RD, h4, h5, hlk]
      refine hKr _ _ ?_
      clear hKr Kr
      try simp only [RN, reduceIte]
      try refine T_e rfl ?_
      refine bodyQ_ret (by simp (disch := omega) only [RA, ↓reduceIte, Nat.reduceEqDiff, RD, resAll, resOf, h4, hlk]; rfl) GhV.refl ?_
      simp only [tup]
      exact ⟨NN_agg (by (simp only [RH])), hK⟩

/-! ### Dessins -/
abbrev DC (n : Int) (b w : List Nat) : List Value := I n :: (b.map N8 ++ w.map N8)
abbrev DV (n : Int) (b w : List Nat) : Value := aggL (DC n b w)
theorem getN_D {n : Int} {b w : List Nat} : getN none (DC n b w) 0 = some (I n) := rfl
theorem getN_bk {n : Int} {b w : List Nat} (hb : b.length = 16) : getN (some 16) (DC n b w) 1 = some (PL b) := by
  rw [getN_agg (by simp [hb])]
  simp [List.take_append_of_le_length, hb]
theorem getN_wh {n : Int} {b w : List Nat} (hb : b.length = 16) (hw : w.length = 16) : getN (some 16) (DC n b w) 17 = some (PL w) := by
  rw [getN_agg (by simp [hb, hw])]
  simp [List.drop_append, hb, hw]
  rw [List.take_of_length_le (by simp [hw])]
theorem getN_all {n : Nat} {cs : List Value} (h : cs.length = n) : getN (some n) cs 0 = some (aggL cs) := by
  rw [getN_agg (by omega), List.drop_zero, List.take_of_length_le (by omega)]
theorem getN_DV {n : Int} {b w : List Nat} (hb : b.length = 16) (hw : w.length = 16) : getN (some 33) (DC n b w) 0 = some (DV n b w) := getN_all (by simp [hb, hw])
def faceP (b w : List Nat) (n : Nat) : List Nat := backK (thenK b w n) n
theorem thenK_16 {p q : List Nat} {k i : Nat} (hq : ∀ i, nl q i < 16) (hk : k ≤ 16) : nl (thenK p q k) i < 16 := by rw [thenK_nl hk]; split; exact hq _; omega
theorem l01Face_spec {x : Bool} {b w : List Nat} {n : Nat} {H : BH} {K : Value → BH → Prop} (hb : By 16 b) (hw : By 16 w) (hn : n ≤ 16) (hb16 : ∀ i, nl b i < 16) (hw16 : ∀ i, nl w i < 16) (hK : K (PL (faceP b w n)) H) : CallX x F_spec_l01Face [DV n b w] H K := by
  have hlb := hb.len
  have hlw := hw.len
  refine callP (by simp only [RH]) ?_
  refine CallX_body Γ_spec_l01Face ?_
  simp only [A_spec_l01Face, T_aiff]
  refine T_rseq fun Kr hKr => ?_
  simp (disch := omega) only [RA, ↓reduceIte, Nat.reduceEqDiff, RD]
  refine hKr _ _ ?_
  clear hKr Kr
  try simp only [RN, reduceIte]
  try refine T_e rfl ?_
  refine T_rseq fun Kr hKr => ?_
  simp (disch := omega) only [RA, ↓reduceIte, Nat.reduceEqDiff, RD, getN_D, getN_bk, getN_wh]
  refine l01Then_spec hb hw hn hb16 ?_
  simp (disch := omega) only [RA, ↓reduceIte, Nat.reduceEqDiff, RD, getN_D]
  refine l01Back_spec (thenK_by hw hn) hn (fun i => thenK_16 hw16 hn) ?_
  have hl := @backK_len (thenK b w n) n
  simp (disch := omega) only [RA, ↓reduceIte, Nat.reduceEqDiff, RD]
  refine hKr _ _ ?_
  clear hKr Kr
  try simp only [blkQ, thenQ, loopQ]
  try simp only [RN, reduceIte]
  try refine T_e rfl ?_
  refine bodyQ_ret (by simp (disch := omega) only [RA, ↓reduceIte, Nat.reduceEqDiff, RD, resAll, resOf, hl]; rfl) GhV.refl ?_
  simp only [tup]
  exact ⟨NN_agg (by (simp only [RH])), hK⟩
theorem face_spec {x : Bool} {b w : List Nat} {n : Nat} {H : BH} {K : Value → BH → Prop} (hb : By 16 b) (hw : By 16 w) (hn : n ≤ 16) (hb16 : ∀ i, nl b i < 16) (hw16 : ∀ i, nl w i < 16) (hK : K (PL (faceP b w n)) H) : CallX x F_impl_face [DV n b w] H K := by
  have hlb := hb.len
  have hlw := hw.len
  refine callP (by simp only [RH]) ?_
  refine CallX_body Γ_impl_face ?_
  simp only [A_impl_face, T_aiff]
  refine T_rseq fun Kr hKr => ?_
  simp (disch := omega) only [RA, ↓reduceIte, Nat.reduceEqDiff, RD]
  refine hKr _ _ ?_
  clear hKr Kr
  try simp only [RN, reduceIte]
  try refine T_e rfl ?_
  refine T_rseq fun Kr hKr => ?_
  simp (disch := omega) only [RA, ↓reduceIte, Nat.reduceEqDiff, RD, getN_D, getN_bk, getN_wh]
  refine then_spec hb hw hn hb16 ?_
  simp (disch := omega) only [RA, ↓reduceIte, Nat.reduceEqDiff, RD, getN_D]
  refine back_spec (thenK_by hw hn) hn (fun i => thenK_16 hw16 hn) ?_
  have hl := @backK_len (thenK b w n) n
  simp (disch := omega) only [RA, ↓reduceIte, Nat.reduceEqDiff, RD]
  refine hKr _ _ ?_
  clear hKr Kr
  try simp only [blkQ, thenQ, loopQ]
  try simp only [RN, reduceIte]
  try refine T_e rfl ?_
  refine bodyQ_ret (by simp (disch := omega) only [RA, ↓reduceIte, Nat.reduceEqDiff, RD, resAll, resOf, hl]; rfl) GhV.refl ?_
  simp only [tup]
  exact ⟨NN_agg (by (simp only [RH])), hK⟩
end Go.Bm
