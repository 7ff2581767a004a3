/- The least word, the symmetry, the leaves. -/
import Derived.Test.YtbbgifoamnjhoaaDpTc
set_option linter.unusedVariables false
set_option linter.unusedSimpArgs false
namespace Go.Bm
open Go Go.Am

def ltS (a b : List UInt8) : Bool := Op.bytesLess (bs a).toList (bs b).toList
def eqS (a b : List UInt8) : Bool := (bs a).toList == (bs b).toList
theorem less_irr : ∀ l : List UInt8, Op.bytesLess l l = false
  | [] => rfl
  | a :: l => by simp [Op.bytesLess, less_irr l]
theorem lt_not_eq {a b : List UInt8} (h : ltS a b = true) : eqS a b = false := by
  cases he : eqS a b with
  | false => rfl
  | true =>
    have e : (bs a).toList = (bs b).toList := by simpa [eqS] using he
    rw [ltS, e, less_irr] at h
    cases h
theorem ltS_self (a : List UInt8) : ltS a a = false := less_irr _
theorem eqS_self (a : List UInt8) : eqS a a = true := by simp [eqS]
theorem sbin_lt {a b : List UInt8} : aSbin .lss (.string (bs a)) (.string (bs b)) = some (.bool (ltS a b)) := rfl
theorem sbin_eq {a b : List UInt8} : aSbin .eql (.string (bs a)) (.string (bs b)) = some (.bool (eqS a b)) := rfl
/-- The least of the words of the edges 0..k, and how often it comes. -/
def lwK (b w : List Nat) : Nat → List UInt8 × Nat
  | 0 => (wd b w 0, 1)
  | k + 1 => if eqS (wd b w (k + 1)) (lwK b w k).1 then ((lwK b w k).1, (lwK b w k).2 + 1) else if ltS (wd b w (k + 1)) (lwK b w k).1 then (wd b w (k + 1), 1) else lwK b w k
theorem lwK_le {b w : List Nat} : ∀ {k : Nat}, (lwK b w k).2 ≤ k + 1
  | 0 => Nat.le_refl _
  | k + 1 => by
    have := @lwK_le b w k
    simp only [lwK]
    split
    · simp; omega
    · split
      · simp
      · omega
theorem l05Canonical_spec {x : Bool} {n : Nat} {b w : List Nat} {H : BH} {K : Value → BH → Prop} (hb : By 16 b) (hw : By 16 w) (hd : Des n b w) (ht : Tree n b w)
    (hK : K (.tuple ⟨[.string (bs (lwK b w (n - 1)).1), I (lwK b w (n - 1)).2]⟩) H) : CallX x F_spec_l05Canonical [DV n b w] H K := by
  have hlb := hb.len
  have hlw := hw.len
  have hn := hd.1.1
  refine callP (.cons nn_D .nil) ?_
  refine CallX_body Γ_spec_l05Canonical ?_
  simp only [A_spec_l05Canonical, T_aiff]
  refine T_rseq fun Kr hKr => ?_
  simp (disch := omega) only [RA, ↓reduceIte, Nat.reduceEqDiff, RD, RDS]
  refine hKr _ _ ?_
  clear hKr Kr
  try simp only [RN, reduceIte]
  try refine T_e rfl ?_
  refine T_rseq fun Kr hKr => ?_
  simp (disch := omega) only [RA, ↓reduceIte, Nat.reduceEqDiff, RD, RDS, RDD]
  refine l05At_spec (x := 0) hb hw hd (by omega) (wd_some hd ht (by omega)) (wd_len hd ht (by omega)) ?_
  simp (disch := omega) only [RA, ↓reduceIte, Nat.reduceEqDiff, RD]
  refine hKr _ _ ?_
  clear hKr Kr
  try simp only [blkQ, thenQ, loopQ]
  try simp only [RN, reduceIte]
  try refine T_e rfl ?_
  refine T_rseq fun Kr hKr => ?_
  simp (disch := omega) only [RA, ↓reduceIte, Nat.reduceEqDiff, RD]
  refine hKr _ _ ?_
  clear hKr Kr
  try simp only [RN, reduceIte]
  try refine T_e rfl ?_
  refine T_wloop (fun m f H' => ∃ k r, k + 1 ≤ n ∧ m = n - (k + 1) ∧ r = lwK b w k ∧ f 1 = P 0 0 ∧ f 4 = .string (bs r.1) ∧ f 5 = I r.2 ∧ f 6 = I ((k + 1 : Nat) : Int) ∧ H' = [some (DC n b w)]) (n - 1) ?_ ?_
  · refine ⟨_, _, Gh.refl, 0, (wd b w 0, 1), by omega, by omega, rfl, ?_, ?_, ?_, ?_, rfl⟩
    any_goals (simp (disch := omega) only [RA, ↓reduceIte, Nat.reduceEqDiff, RD, RE, *] <;> rfl)
  · rintro m f H' R ⟨k, r, hk, rfl, hr, g1, g4, g5, g6, rfl⟩ hN hX hR hE
    simp only [A_spec_l05Canonical.l0, T_aiff]
    have hr2 := @lwK_le b w k
    rw [← hr] at hr2
    refine T_rseq fun Kr hKr => ?_
    simp (disch := omega) only [RA, ↓reduceIte, Nat.reduceEqDiff, RD, g1, g6, RDS]
    refine hKr _ _ ?_
    clear hKr Kr
    try simp only [RN, reduceIte]
    try refine T_e rfl ?_
    refine T_csplit (p := k + 1 < n) (by simp only [RA, ↓reduceIte, Nat.reduceEqDiff] <;> rfl) (by (try simp only [RB]) <;> first | done | exact Iff.rfl | omega | simp) (fun hc => ?_) (fun hc => ?_) <;> (try simp only [RN, reduceIte]) <;> (try refine T_e rfl ?_)
    · have e1 : ((k + 1 : Nat) : Int) + 1 = ((k + 1 + 1 : Nat) : Int) := by omega
      have e2 : (r.2 : Int) + 1 = ((r.2 + 1 : Nat) : Int) := by omega
      have hnext : ∀ f' r', f' 1 = P 0 0 → f' 4 = .string (bs r'.1) → f' 5 = I r'.2 → f' 6 = I ((k + 1 : Nat) : Int) → r' = lwK b w (k + 1) → T 0 A_spec_l05Canonical.r4 R f' [some (DC n b w)] := by
        intro f' r' g1 g4 g5 g6 hr'
        refine T_reg_k fun Kr hKr => ?_
        simp (disch := omega) only [RA, ↓reduceIte, Nat.reduceEqDiff, RD, g6, e1]
        refine hKr _ _ ?_
        clear hKr Kr
        refine hN (n - (k + 1 + 1)) _ _ _ _ (by omega) Gh.refl ⟨k + 1, r', by omega, rfl, hr', ?_, ?_, ?_, ?_, rfl⟩
        any_goals (simp (disch := omega) only [RA, ↓reduceIte, Nat.reduceEqDiff, RD, RE, *] <;> rfl)
      first | refine T_bfree rfl ?_ | refine T_bfree' rfl ?_
      try simp only [RN, reduceIte]
      try refine T_e rfl ?_
      refine T_rseq fun Kr hKr => ?_
      simp (disch := omega) only [RA, ↓reduceIte, Nat.reduceEqDiff, RD, g1, g6, RDS, RDD]
      refine l05At_spec hb hw hd hc (wd_some hd ht hc) (wd_len hd ht hc) ?_
      simp (disch := omega) only [RA, ↓reduceIte, Nat.reduceEqDiff, RD]
      refine hKr _ _ ?_
      clear hKr Kr
      try simp only [blkQ, thenQ, loopQ]
      try simp only [RN, reduceIte]
      try refine T_e rfl ?_
      first | refine T_bfree rfl ?_ | refine T_bfree' rfl ?_
      try simp only [RN, reduceIte]
      try refine T_e rfl ?_
      refine T_rseq fun Kr hKr => ?_
      simp (disch := omega) only [RA, ↓reduceIte, Nat.reduceEqDiff, RD, g4, sbin_eq]
      refine hKr _ _ ?_
      clear hKr Kr
      try simp only [RN, reduceIte]
      try refine T_e rfl ?_
      cases he : eqS (wd b w (k + 1)) r.1 with
      | true =>
        refine T_cseq (t := true) (by simp (disch := omega) only [RA, ↓reduceIte, Nat.reduceEqDiff, RD, he]) ?_
        try simp only [RN, reduceIte]
        try refine T_e rfl ?_
        refine T_rseq fun Kr hKr => ?_
        simp (disch := omega) only [RA, ↓reduceIte, Nat.reduceEqDiff, RD, g5, e2]
        refine hKr _ _ ?_
        clear hKr Kr
        try simp only [RN, reduceIte]
        try refine T_e rfl ?_
        refine hnext _ (r.1, r.2 + 1) ?_ ?_ ?_ ?_ ?_
        any_goals (simp (disch := omega) only [RA, ↓reduceIte, Nat.reduceEqDiff, RD, RE, *] <;> rfl)
        rw [lwK, ← hr, if_pos he]
      | false =>
        refine T_cseq (t := false) (by simp (disch := omega) only [RA, ↓reduceIte, Nat.reduceEqDiff, RD, he]) ?_
        try simp only [RN, reduceIte]
        try refine T_e rfl ?_
        refine T_rseq fun Kr hKr => ?_
        simp (disch := omega) only [RA, ↓reduceIte, Nat.reduceEqDiff, RD, g4, sbin_lt]
        refine hKr _ _ ?_
        clear hKr Kr
        try simp only [RN, reduceIte]
        try refine T_e rfl ?_
        cases hl : ltS (wd b w (k + 1)) r.1 with
        | true =>
          refine T_cseq (t := true) (by simp (disch := omega) only [RA, ↓reduceIte, Nat.reduceEqDiff, RD, hl]) ?_
          try simp only [RN, reduceIte]
          try refine T_e rfl ?_
          refine T_rseq fun Kr hKr => ?_
          simp (disch := omega) only [RA, ↓reduceIte, Nat.reduceEqDiff, RD]
          refine hKr _ _ ?_
          clear hKr Kr
          try simp only [RN, reduceIte]
          try refine T_e rfl ?_
          refine T_rseq fun Kr hKr => ?_
          simp (disch := omega) only [RA, ↓reduceIte, Nat.reduceEqDiff, RD]
          refine hKr _ _ ?_
          clear hKr Kr
          try simp only [RN, reduceIte]
          try refine T_e rfl ?_
          refine hnext _ (wd b w (k + 1), 1) ?_ ?_ ?_ ?_ ?_
          any_goals (simp (disch := omega) only [RA, ↓reduceIte, Nat.reduceEqDiff, RD, RE, *] <;> rfl)
          rw [lwK, ← hr, if_neg (by simp [he]), if_pos hl]
        | false =>
          refine T_cseq (t := false) (by simp (disch := omega) only [RA, ↓reduceIte, Nat.reduceEqDiff, RD, hl]) ?_
          try simp only [RN, reduceIte]
          try refine T_e rfl ?_
          refine hnext _ r ?_ ?_ ?_ ?_ ?_
          any_goals (simp (disch := omega) only [RA, ↓reduceIte, Nat.reduceEqDiff, RD, RE, *] <;> rfl)
          rw [lwK, ← hr, if_neg (by simp [he]), if_neg (by simp [hl])]
    · refine hX _ _ ?_
      obtain rfl : k = n - 1 := by omega
      rw [← hr] at hK
      refine T_rseq fun Kr hKr => ?_
      simp (disch := omega) only [RA, ↓reduceIte, Nat.reduceEqDiff, RD, g4, g5]
      refine hKr _ _ ?_
      clear hKr Kr
      try simp only [RN, reduceIte]
      try refine T_e rfl ?_
      refine bodyQ_ret (by simp (disch := omega) only [RA, ↓reduceIte, Nat.reduceEqDiff, RD, resAll, resOf]; rfl) GhV.refl ?_
      simp only [tup]
      exact ⟨nn_SI, hK⟩
theorem leastWord_spec {x : Bool} {n : Nat} {b w : List Nat} {H : BH} {K : Value → BH → Prop} (hb : By 16 b) (hw : By 16 w) (hd : Des n b w) (ht : Tree n b w)
    (hK : K (.tuple ⟨[.string (bs (lwK b w (n - 1)).1), I (lwK b w (n - 1)).2]⟩) H) : CallX x F_impl_leastWord [DV n b w] H K := by
  have hlb := hb.len
  have hlw := hw.len
  have hn := hd.1.1
  refine callP (.cons nn_D .nil) ?_
  refine CallX_body Γ_impl_leastWord ?_
  simp only [A_impl_leastWord, T_aiff]
  refine T_rseq fun Kr hKr => ?_
  simp (disch := omega) only [RA, ↓reduceIte, Nat.reduceEqDiff, RD, RDS]
  refine hKr _ _ ?_
  clear hKr Kr
  try simp only [RN, reduceIte]
  try refine T_e rfl ?_
  refine T_rseq fun Kr hKr => ?_
  simp (disch := omega) only [RA, ↓reduceIte, Nat.reduceEqDiff, RD, RDS, RDD]
  refine wordOfTree_spec (x := 0) hb hw hd (by omega) (wd_some hd ht (by omega)) (wd_len hd ht (by omega)) ?_
  simp (disch := omega) only [RA, ↓reduceIte, Nat.reduceEqDiff, RD]
  refine hKr _ _ ?_
  clear hKr Kr
  try simp only [blkQ, thenQ, loopQ]
  try simp only [RN, reduceIte]
  try refine T_e rfl ?_
  refine T_rseq fun Kr hKr => ?_
  simp (disch := omega) only [RA, ↓reduceIte, Nat.reduceEqDiff, RD, RDS]
  refine hKr _ _ ?_
  clear hKr Kr
  try simp only [RN, reduceIte]
  try refine T_e rfl ?_
  refine T_wloop (fun m f H' => ∃ k r, k ≤ n ∧ m = n - k ∧ (k = 0 ∧ r = (wd b w 0, 0) ∨ 0 < k ∧ r = lwK b w (k - 1)) ∧ f 1 = P 0 0 ∧ f 4 = .string (bs r.1) ∧ f 5 = I r.2 ∧ f 11 = I n ∧ f 12 = I k ∧ H' = [some (DC n b w)]) (n) ?_ ?_
  · refine ⟨_, _, Gh.refl, 0, (wd b w 0, 0), by omega, by omega, .inl ⟨rfl, rfl⟩, ?_, ?_, ?_, ?_, ?_, rfl⟩
    any_goals (simp (disch := omega) only [RA, ↓reduceIte, Nat.reduceEqDiff, RD, RE, *] <;> rfl)
  · rintro m f H' R ⟨k, r, hk, rfl, hr, g1, g4, g5, g11, g12, rfl⟩ hN hX hR hE
    simp only [A_impl_leastWord.l0, T_aiff]
    have hr2 : r.2 ≤ k := by
      rcases hr with ⟨rfl, rfl⟩ | ⟨h, rfl⟩
      · exact Nat.le_refl _
      · have := @lwK_le b w (k - 1)
        omega
    refine T_rseq fun Kr hKr => ?_
    simp (disch := omega) only [RA, ↓reduceIte, Nat.reduceEqDiff, RD, g11, g12]
    refine hKr _ _ ?_
    clear hKr Kr
    try simp only [RN, reduceIte]
    try refine T_e rfl ?_
    refine T_csplit (p := k < n) (by simp only [RA, ↓reduceIte, Nat.reduceEqDiff] <;> rfl) (by (try simp only [RB]) <;> first | done | exact Iff.rfl | omega | simp) (fun hc => ?_) (fun hc => ?_) <;> (try simp only [RN, reduceIte]) <;> (try refine T_e rfl ?_)
    · have e2 : (r.2 : Int) + 1 = ((r.2 + 1 : Nat) : Int) := by omega
      have hnext : ∀ f' r', f' 1 = P 0 0 → f' 4 = .string (bs r'.1) → f' 5 = I r'.2 → f' 11 = I n → f' 12 = I k → r' = lwK b w k → T 0 A_impl_leastWord.r10 R f' [some (DC n b w)] := by
        intro f' r' g1 g4 g5 g11 g12 hr'
        refine T_reg_k fun Kr hKr => ?_
        simp (disch := omega) only [RA, ↓reduceIte, Nat.reduceEqDiff, RD, g12]
        refine hKr _ _ ?_
        clear hKr Kr
        refine hN (n - (k + 1)) _ _ _ _ (by omega) Gh.refl ⟨k + 1, r', by omega, rfl, .inr ⟨by omega, by rw [Nat.add_sub_cancel]; exact hr'⟩, ?_, ?_, ?_, ?_, ?_, rfl⟩
        any_goals (simp (disch := omega) only [RA, ↓reduceIte, Nat.reduceEqDiff, RD, RE, *] <;> rfl)
      have hstep : lwK b w k = if eqS (wd b w k) r.1 then (r.1, r.2 + 1) else if ltS (wd b w k) r.1 then (wd b w k, 1) else r := by
        rcases hr with ⟨rfl, rfl⟩ | ⟨h, rfl⟩
        · rw [if_pos (eqS_self _)]; rfl
        · obtain ⟨j, rfl⟩ : ∃ j, k = j + 1 := ⟨k - 1, by omega⟩
          rfl
      first | refine T_bfree rfl ?_ | refine T_bfree' rfl ?_
      try simp only [RN, reduceIte]
      try refine T_e rfl ?_
      refine T_rseq fun Kr hKr => ?_
      simp (disch := omega) only [RA, ↓reduceIte, Nat.reduceEqDiff, RD, g12]
      refine hKr _ _ ?_
      clear hKr Kr
      try simp only [RN, reduceIte]
      try refine T_e rfl ?_
      refine T_rseq fun Kr hKr => ?_
      simp (disch := omega) only [RA, ↓reduceIte, Nat.reduceEqDiff, RD, g1, RDS, RDD]
      refine wordOfTree_spec hb hw hd hc (wd_some hd ht hc) (wd_len hd ht hc) ?_
      simp (disch := omega) only [RA, ↓reduceIte, Nat.reduceEqDiff, RD]
      refine hKr _ _ ?_
      clear hKr Kr
      try simp only [blkQ, thenQ, loopQ]
      try simp only [RN, reduceIte]
      try refine T_e rfl ?_
      first | refine T_bfree rfl ?_ | refine T_bfree' rfl ?_
      try simp only [RN, reduceIte]
      try refine T_e rfl ?_
      refine T_rseq fun Kr hKr => ?_
      simp (disch := omega) only [RA, ↓reduceIte, Nat.reduceEqDiff, RD, g4, sbin_lt]
      refine hKr _ _ ?_
      clear hKr Kr
      try simp only [RN, reduceIte]
      try refine T_e rfl ?_
      cases hl : ltS (wd b w k) r.1 with
      | true =>
        refine T_cseq (t := true) (by simp (disch := omega) only [RA, ↓reduceIte, Nat.reduceEqDiff, RD, hl]) ?_
        try simp only [RN, reduceIte]
        try refine T_e rfl ?_
        refine T_rseq fun Kr hKr => ?_
        simp (disch := omega) only [RA, ↓reduceIte, Nat.reduceEqDiff, RD]
        refine hKr _ _ ?_
        clear hKr Kr
        try simp only [RN, reduceIte]
        try refine T_e rfl ?_
        refine hnext _ (wd b w k, 1) ?_ ?_ ?_ ?_ ?_ ?_
        any_goals (simp (disch := omega) only [RA, ↓reduceIte, Nat.reduceEqDiff, RD, RE, *] <;> rfl)
        rw [hstep, if_neg (by simp [lt_not_eq hl]), if_pos hl]
      | false =>
        refine T_cseq (t := false) (by simp (disch := omega) only [RA, ↓reduceIte, Nat.reduceEqDiff, RD, hl]) ?_
        try simp only [RN, reduceIte]
        try refine T_e rfl ?_
        refine T_rseq fun Kr hKr => ?_
        simp (disch := omega) only [RA, ↓reduceIte, Nat.reduceEqDiff, RD, g4, sbin_eq]
        refine hKr _ _ ?_
        clear hKr Kr
        try simp only [RN, reduceIte]
        try refine T_e rfl ?_
        cases he : eqS (wd b w k) r.1 with
        | true =>
          refine T_cseq (t := true) (by simp (disch := omega) only [RA, ↓reduceIte, Nat.reduceEqDiff, RD, he]) ?_
          try simp only [RN, reduceIte]
          try refine T_e rfl ?_
          refine T_rseq fun Kr hKr => ?_
          simp (disch := omega) only [RA, ↓reduceIte, Nat.reduceEqDiff, RD, g5, e2]
          refine hKr _ _ ?_
          clear hKr Kr
          try simp only [RN, reduceIte]
          try refine T_e rfl ?_
          refine hnext _ (r.1, r.2 + 1) ?_ ?_ ?_ ?_ ?_ ?_
          any_goals (simp (disch := omega) only [RA, ↓reduceIte, Nat.reduceEqDiff, RD, RE, *] <;> rfl)
          all_goals rw [hstep, if_pos he]
        | false =>
          refine T_cseq (t := false) (by simp (disch := omega) only [RA, ↓reduceIte, Nat.reduceEqDiff, RD, he]) ?_
          try simp only [RN, reduceIte]
          try refine T_e rfl ?_
          refine hnext _ r ?_ ?_ ?_ ?_ ?_ ?_
          any_goals (simp (disch := omega) only [RA, ↓reduceIte, Nat.reduceEqDiff, RD, RE, *] <;> rfl)
          all_goals rw [hstep, if_neg (by simp [he]), if_neg (by simp [hl])]
    · refine hX _ _ ?_
      obtain rfl : k = n := by omega
      have hr' : r = lwK b w (k - 1) := by
        rcases hr with ⟨h, _⟩ | ⟨_, h⟩
        · omega
        · exact h
      rw [← hr'] at hK
      refine T_rseq fun Kr hKr => ?_
      simp (disch := omega) only [RA, ↓reduceIte, Nat.reduceEqDiff, RD, g4, g5]
      refine hKr _ _ ?_
      clear hKr Kr
      try simp only [RN, reduceIte]
      try refine T_e rfl ?_
      refine bodyQ_ret (by simp (disch := omega) only [RA, ↓reduceIte, Nat.reduceEqDiff, RD, resAll, resOf]; rfl) GhV.refl ?_
      simp only [tup]
      exact ⟨nn_SI, hK⟩
def resCw (n : Int) (b w : List Nat) : List UInt8 × Int := if tcode n b w [] = 0 then ((lwK b w (n.toNat - 1)).1, 0) else ([], tcode n b w [])
def resSy (n : Int) (b w : List Nat) : Int × Int := if tcode n b w [] = 0 then ((lwK b w (n.toNat - 1)).2, 0) else (0, tcode n b w [])
theorem tcode_0 {n : Int} {b w : List Nat} (h : tcode n b w [] = 0) : Des n b w ∧ Tree n.toNat b w := by
  unfold tcode at h
  split at h
  · cases h
  · rename_i g1
    split at h
    · cases h
    · split at h
      · cases h
      · rename_i g3
        exact ⟨Decidable.not_not.1 g1, Decidable.not_not.1 g3⟩
theorem nn_II' {a c : Int} : NN (.tuple ⟨[I a, I c]⟩) := NN.tuple (NNL.cons NN.int (NNL.cons NN.int NNL.nil))
theorem spec_CanonicalWord_spec {x : Bool} {n : Int} {b w : List Nat} {H : BH} {K : Value → BH → Prop} (hb : By 16 b) (hw : By 16 w)
    (hK : K (.tuple ⟨[.string (bs (resCw n b w).1), I (resCw n b w).2]⟩) H) : CallX x F_spec_CanonicalWord [DV n b w] H K := by
  have hlb := hb.len
  have hlw := hw.len
  refine callP (.cons nn_D .nil) ?_
  refine CallX_body Γ_spec_CanonicalWord ?_
  simp only [A_spec_CanonicalWord, T_aiff]
  refine T_rseq fun Kr hKr => ?_
  simp (disch := omega) only [RA, ↓reduceIte, Nat.reduceEqDiff, RD, RDS]
  refine hKr _ _ ?_
  clear hKr Kr
  try simp only [RN, reduceIte]
  try refine T_e rfl ?_
  refine T_rseq fun Kr hKr => ?_
  simp (disch := omega) only [RA, ↓reduceIte, Nat.reduceEqDiff, RD, RDS, RDD]
  refine l05Code_spec hb hw ?_
  simp (disch := omega) only [RA, ↓reduceIte, Nat.reduceEqDiff, RD]
  refine hKr _ _ ?_
  clear hKr Kr
  try simp only [blkQ, thenQ, loopQ]
  try simp only [RN, reduceIte]
  try refine T_e rfl ?_
  by_cases h0 : tcode n b w [] = 0
  · obtain ⟨hd, ht⟩ := tcode_0 h0
    rw [resCw, if_pos h0] at hK
    obtain ⟨m, rfl, hm1, hm2⟩ := hd.n0
    rw [Int.toNat_natCast] at ht hK
    refine T_rseq fun Kr hKr => ?_
    simp (disch := omega) only [RA, ↓reduceIte, Nat.reduceEqDiff, RD, h0]
    refine hKr _ _ ?_
    clear hKr Kr
    try simp only [RN, reduceIte]
    try refine T_e rfl ?_
    refine T_cseq (t := false) (by simp (disch := omega) only [RA, ↓reduceIte, Nat.reduceEqDiff, RD]) ?_
    try simp only [RN, reduceIte]
    try refine T_e rfl ?_
    refine T_rseq fun Kr hKr => ?_
    simp (disch := omega) only [RA, ↓reduceIte, Nat.reduceEqDiff, RD, RDS, RDD]
    refine l05Canonical_spec hb hw hd ht ?_
    simp (disch := omega) only [RA, ↓reduceIte, Nat.reduceEqDiff, RD]
    refine hKr _ _ ?_
    clear hKr Kr
    try simp only [blkQ, thenQ, loopQ]
    try simp only [RN, reduceIte]
    try refine T_e rfl ?_
    refine T_rseq fun Kr hKr => ?_
    simp (disch := omega) only [RA, ↓reduceIte, Nat.reduceEqDiff, RD]
    refine hKr _ _ ?_
    clear hKr Kr
    try simp only [RN, reduceIte]
    try refine T_e rfl ?_
    refine bodyQ_ret (by simp (disch := omega) only [RA, ↓reduceIte, Nat.reduceEqDiff, RD, resAll, resOf]; rfl) GhV.refl ?_
    simp only [tup]
    exact ⟨nn_SI, hK⟩
  · rw [resCw, if_neg h0] at hK
    refine T_rseq fun Kr hKr => ?_
    simp (disch := omega) only [RA, ↓reduceIte, Nat.reduceEqDiff, RD]
    refine hKr _ _ ?_
    clear hKr Kr
    try simp only [RN, reduceIte]
    try refine T_e rfl ?_
    refine T_cseq (t := true) (by simp (disch := omega) only [RA, ↓reduceIte, Nat.reduceEqDiff, RD]) ?_
    try simp only [RN, reduceIte]
    try refine T_e rfl ?_
    refine T_rseq fun Kr hKr => ?_
    simp (disch := omega) only [RA, ↓reduceIte, Nat.reduceEqDiff, RD]
    refine hKr _ _ ?_
    clear hKr Kr
    try simp only [RN, reduceIte]
    try refine T_e rfl ?_
    refine bodyQ_ret (by simp (disch := omega) only [RA, ↓reduceIte, Nat.reduceEqDiff, RD, resAll, resOf]; rfl) GhV.refl ?_
    simp only [tup]
    exact ⟨nn_SI, hK⟩
theorem impl_CanonicalWord_spec {x : Bool} {n : Int} {b w : List Nat} {H : BH} {K : Value → BH → Prop} (hb : By 16 b) (hw : By 16 w)
    (hK : K (.tuple ⟨[.string (bs (resCw n b w).1), I (resCw n b w).2]⟩) H) : CallX x F_impl_CanonicalWord [DV n b w] H K := by
  have hlb := hb.len
  have hlw := hw.len
  refine callP (.cons nn_D .nil) ?_
  refine CallX_body Γ_impl_CanonicalWord ?_
  simp only [A_impl_CanonicalWord, T_aiff]
  refine T_rseq fun Kr hKr => ?_
  simp (disch := omega) only [RA, ↓reduceIte, Nat.reduceEqDiff, RD, RDS]
  refine hKr _ _ ?_
  clear hKr Kr
  try simp only [RN, reduceIte]
  try refine T_e rfl ?_
  refine T_rseq fun Kr hKr => ?_
  simp (disch := omega) only [RA, ↓reduceIte, Nat.reduceEqDiff, RD, RDS, RDD]
  refine callNil 1 ?_
  simp only [List.map_cons, List.map_nil, unnil]
  refine treeCode_spec (xs := []) hb hw (by simp) ?_
  simp (disch := omega) only [RA, ↓reduceIte, Nat.reduceEqDiff, RD]
  refine hKr _ _ ?_
  clear hKr Kr
  try simp only [blkQ, thenQ, loopQ]
  try simp only [RN, reduceIte]
  try refine T_e rfl ?_
  by_cases h0 : tcode n b w [] = 0
  · obtain ⟨hd, ht⟩ := tcode_0 h0
    rw [resCw, if_pos h0] at hK
    obtain ⟨m, rfl, hm1, hm2⟩ := hd.n0
    rw [Int.toNat_natCast] at ht hK
    refine T_rseq fun Kr hKr => ?_
    simp (disch := omega) only [RA, ↓reduceIte, Nat.reduceEqDiff, RD, h0]
    refine hKr _ _ ?_
    clear hKr Kr
    try simp only [RN, reduceIte]
    try refine T_e rfl ?_
    refine T_cseq (t := false) (by simp (disch := omega) only [RA, ↓reduceIte, Nat.reduceEqDiff, RD]) ?_
    try simp only [RN, reduceIte]
    try refine T_e rfl ?_
    refine T_rseq fun Kr hKr => ?_
    simp (disch := omega) only [RA, ↓reduceIte, Nat.reduceEqDiff, RD, RDS, RDD]
    refine leastWord_spec hb hw hd ht ?_
    simp (disch := omega) only [RA, ↓reduceIte, Nat.reduceEqDiff, RD]
    refine hKr _ _ ?_
    clear hKr Kr
    try simp only [blkQ, thenQ, loopQ]
    try simp only [RN, reduceIte]
    try refine T_e rfl ?_
    refine T_rseq fun Kr hKr => ?_
    simp (disch := omega) only [RA, ↓reduceIte, Nat.reduceEqDiff, RD]
    refine hKr _ _ ?_
    clear hKr Kr
    try simp only [RN, reduceIte]
    try refine T_e rfl ?_
    refine bodyQ_ret (by simp (disch := omega) only [RA, ↓reduceIte, Nat.reduceEqDiff, RD, resAll, resOf]; rfl) GhV.refl ?_
    simp only [tup]
    exact ⟨nn_SI, hK⟩
  · rw [resCw, if_neg h0] at hK
    refine T_rseq fun Kr hKr => ?_
    simp (disch := omega) only [RA, ↓reduceIte, Nat.reduceEqDiff, RD]
    refine hKr _ _ ?_
    clear hKr Kr
    try simp only [RN, reduceIte]
    try refine T_e rfl ?_
    refine T_cseq (t := true) (by simp (disch := omega) only [RA, ↓reduceIte, Nat.reduceEqDiff, RD]) ?_
    try simp only [RN, reduceIte]
    try refine T_e rfl ?_
    refine T_rseq fun Kr hKr => ?_
    simp (disch := omega) only [RA, ↓reduceIte, Nat.reduceEqDiff, RD]
    refine hKr _ _ ?_
    clear hKr Kr
    try simp only [RN, reduceIte]
    try refine T_e rfl ?_
    refine bodyQ_ret (by simp (disch := omega) only [RA, ↓reduceIte, Nat.reduceEqDiff, RD, resAll, resOf]; rfl) GhV.refl ?_
    simp only [tup]
    exact ⟨nn_SI, hK⟩
theorem spec_SymmetryOf_spec {x : Bool} {n : Int} {b w : List Nat} {H : BH} {K : Value → BH → Prop} (hb : By 16 b) (hw : By 16 w)
    (hK : K (.tuple ⟨[I (resSy n b w).1, I (resSy n b w).2]⟩) H) : CallX x F_spec_SymmetryOf [DV n b w] H K := by
  have hlb := hb.len
  have hlw := hw.len
  refine callP (.cons nn_D .nil) ?_
  refine CallX_body Γ_spec_SymmetryOf ?_
  simp only [A_spec_SymmetryOf, T_aiff]
  refine T_rseq fun Kr hKr => ?_
  simp (disch := omega) only [RA, ↓reduceIte, Nat.reduceEqDiff, RD, RDS]
  refine hKr _ _ ?_
  clear hKr Kr
  try simp only [RN, reduceIte]
  try refine T_e rfl ?_
  refine T_rseq fun Kr hKr => ?_
  simp (disch := omega) only [RA, ↓reduceIte, Nat.reduceEqDiff, RD, RDS, RDD]
  refine l05Code_spec hb hw ?_
  simp (disch := omega) only [RA, ↓reduceIte, Nat.reduceEqDiff, RD]
  refine hKr _ _ ?_
  clear hKr Kr
  try simp only [blkQ, thenQ, loopQ]
  try simp only [RN, reduceIte]
  try refine T_e rfl ?_
  by_cases h0 : tcode n b w [] = 0
  · obtain ⟨hd, ht⟩ := tcode_0 h0
    rw [resSy, if_pos h0] at hK
    obtain ⟨m, rfl, hm1, hm2⟩ := hd.n0
    rw [Int.toNat_natCast] at ht hK
    refine T_rseq fun Kr hKr => ?_
    simp (disch := omega) only [RA, ↓reduceIte, Nat.reduceEqDiff, RD, h0]
    refine hKr _ _ ?_
    clear hKr Kr
    try simp only [RN, reduceIte]
    try refine T_e rfl ?_
    refine T_cseq (t := false) (by simp (disch := omega) only [RA, ↓reduceIte, Nat.reduceEqDiff, RD]) ?_
    try simp only [RN, reduceIte]
    try refine T_e rfl ?_
    refine T_rseq fun Kr hKr => ?_
    simp (disch := omega) only [RA, ↓reduceIte, Nat.reduceEqDiff, RD, RDS, RDD]
    refine l05Canonical_spec hb hw hd ht ?_
    simp (disch := omega) only [RA, ↓reduceIte, Nat.reduceEqDiff, RD]
    refine hKr _ _ ?_
    clear hKr Kr
    try simp only [blkQ, thenQ, loopQ]
    try simp only [RN, reduceIte]
    try refine T_e rfl ?_
    refine T_rseq fun Kr hKr => ?_
    simp (disch := omega) only [RA, ↓reduceIte, Nat.reduceEqDiff, RD]
    refine hKr _ _ ?_
    clear hKr Kr
    try simp only [RN, reduceIte]
    try refine T_e rfl ?_
    refine bodyQ_ret (by simp (disch := omega) only [RA, ↓reduceIte, Nat.reduceEqDiff, RD, resAll, resOf]; rfl) GhV.refl ?_
    simp only [tup]
    exact ⟨nn_II', hK⟩
  · rw [resSy, if_neg h0] at hK
    refine T_rseq fun Kr hKr => ?_
    simp (disch := omega) only [RA, ↓reduceIte, Nat.reduceEqDiff, RD]
    refine hKr _ _ ?_
    clear hKr Kr
    try simp only [RN, reduceIte]
    try refine T_e rfl ?_
    refine T_cseq (t := true) (by simp (disch := omega) only [RA, ↓reduceIte, Nat.reduceEqDiff, RD]) ?_
    try simp only [RN, reduceIte]
    try refine T_e rfl ?_
    refine T_rseq fun Kr hKr => ?_
    simp (disch := omega) only [RA, ↓reduceIte, Nat.reduceEqDiff, RD]
    refine hKr _ _ ?_
    clear hKr Kr
    try simp only [RN, reduceIte]
    try refine T_e rfl ?_
    refine bodyQ_ret (by simp (disch := omega) only [RA, ↓reduceIte, Nat.reduceEqDiff, RD, resAll, resOf]; rfl) GhV.refl ?_
    simp only [tup]
    exact ⟨nn_II', hK⟩
theorem impl_SymmetryOf_spec {x : Bool} {n : Int} {b w : List Nat} {H : BH} {K : Value → BH → Prop} (hb : By 16 b) (hw : By 16 w)
    (hK : K (.tuple ⟨[I (resSy n b w).1, I (resSy n b w).2]⟩) H) : CallX x F_impl_SymmetryOf [DV n b w] H K := by
  have hlb := hb.len
  have hlw := hw.len
  refine callP (.cons nn_D .nil) ?_
  refine CallX_body Γ_impl_SymmetryOf ?_
  simp only [A_impl_SymmetryOf, T_aiff]
  refine T_rseq fun Kr hKr => ?_
  simp (disch := omega) only [RA, ↓reduceIte, Nat.reduceEqDiff, RD, RDS]
  refine hKr _ _ ?_
  clear hKr Kr
  try simp only [RN, reduceIte]
  try refine T_e rfl ?_
  refine T_rseq fun Kr hKr => ?_
  simp (disch := omega) only [RA, ↓reduceIte, Nat.reduceEqDiff, RD, RDS, RDD]
  refine callNil 1 ?_
  simp only [List.map_cons, List.map_nil, unnil]
  refine treeCode_spec (xs := []) hb hw (by simp) ?_
  simp (disch := omega) only [RA, ↓reduceIte, Nat.reduceEqDiff, RD]
  refine hKr _ _ ?_
  clear hKr Kr
  try simp only [blkQ, thenQ, loopQ]
  try simp only [RN, reduceIte]
  try refine T_e rfl ?_
  by_cases h0 : tcode n b w [] = 0
  · obtain ⟨hd, ht⟩ := tcode_0 h0
    rw [resSy, if_pos h0] at hK
    obtain ⟨m, rfl, hm1, hm2⟩ := hd.n0
    rw [Int.toNat_natCast] at ht hK
    refine T_rseq fun Kr hKr => ?_
    simp (disch := omega) only [RA, ↓reduceIte, Nat.reduceEqDiff, RD, h0]
    refine hKr _ _ ?_
    clear hKr Kr
    try simp only [RN, reduceIte]
    try refine T_e rfl ?_
    refine T_cseq (t := false) (by simp (disch := omega) only [RA, ↓reduceIte, Nat.reduceEqDiff, RD]) ?_
    try simp only [RN, reduceIte]
    try refine T_e rfl ?_
    refine T_rseq fun Kr hKr => ?_
    simp (disch := omega) only [RA, ↓reduceIte, Nat.reduceEqDiff, RD, RDS, RDD]
    refine leastWord_spec hb hw hd ht ?_
    simp (disch := omega) only [RA, ↓reduceIte, Nat.reduceEqDiff, RD]
    refine hKr _ _ ?_
    clear hKr Kr
    try simp only [blkQ, thenQ, loopQ]
    try simp only [RN, reduceIte]
    try refine T_e rfl ?_
    refine T_rseq fun Kr hKr => ?_
    simp (disch := omega) only [RA, ↓reduceIte, Nat.reduceEqDiff, RD]
    refine hKr _ _ ?_
    clear hKr Kr
    try simp only [RN, reduceIte]
    try refine T_e rfl ?_
    refine bodyQ_ret (by simp (disch := omega) only [RA, ↓reduceIte, Nat.reduceEqDiff, RD, resAll, resOf]; rfl) GhV.refl ?_
    simp only [tup]
    exact ⟨nn_II', hK⟩
  · rw [resSy, if_neg h0] at hK
    refine T_rseq fun Kr hKr => ?_
    simp (disch := omega) only [RA, ↓reduceIte, Nat.reduceEqDiff, RD]
    refine hKr _ _ ?_
    clear hKr Kr
    try simp only [RN, reduceIte]
    try refine T_e rfl ?_
    refine T_cseq (t := true) (by simp (disch := omega) only [RA, ↓reduceIte, Nat.reduceEqDiff, RD]) ?_
    try simp only [RN, reduceIte]
    try refine T_e rfl ?_
    refine T_rseq fun Kr hKr => ?_
    simp (disch := omega) only [RA, ↓reduceIte, Nat.reduceEqDiff, RD]
    refine hKr _ _ ?_
    clear hKr Kr
    try simp only [RN, reduceIte]
    try refine T_e rfl ?_
    refine bodyQ_ret (by simp (disch := omega) only [RA, ↓reduceIte, Nat.reduceEqDiff, RD, resAll, resOf]; rfl) GhV.refl ?_
    simp only [tup]
    exact ⟨nn_II', hK⟩
end Go.Bm
