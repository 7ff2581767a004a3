/- The flags of a map, and what is clean: the program's and the reference's. -/
import Derived.Test.YtbbgifoamnjhoaaDpW
import Derived.Test.YtbbgifoamnjhoaaDp6b
set_option linter.unusedVariables false
set_option linter.unusedSimpArgs false
namespace Go.Bm
open Go Go.Am

def resCl (n : Int) (b w : List Nat) : Bool × Int := if Des n b w then (decide (Clean w n.toNat), 0) else (false, 1)
theorem nn_BI {b : Bool} {k : IntKind} {a : Int} : NN (.tuple ⟨[.bool b, .int k a]⟩) := NN.tuple (NNL.cons NN.bool (NNL.cons NN.int NNL.nil))
theorem spec_IsClean_spec {x : Bool} {n : Int} {b w : List Nat} {H : BH} {K : Value → BH → Prop} (hb : By 16 b) (hw : By 16 w)
    (hK : K (.tuple ⟨[.bool (resCl n b w).1, I (resCl n b w).2]⟩) H) : CallX x F_spec_IsClean [DV n b w] H K := by
  have hlb := hb.len
  have hlw := hw.len
  refine callP (by exact .cons nn_D .nil) ?_
  refine CallX_body Γ_spec_IsClean ?_
  simp only [A_spec_IsClean, T_aiff]
  refine T_rseq fun Kr hKr => ?_
  simp (disch := omega) only [RA, ↓reduceIte, Nat.reduceEqDiff, RD, RDS]
  refine hKr _ _ ?_
  clear hKr Kr
  try simp only [RN, reduceIte]
  try refine T_e rfl ?_
  refine T_rseq fun Kr hKr => ?_
  simp (disch := omega) only [RA, ↓reduceIte, Nat.reduceEqDiff, RD, RDS, RDD]
  refine l01Is_spec hb hw ?_
  simp (disch := omega) only [RA, ↓reduceIte, Nat.reduceEqDiff, RD]
  refine hKr _ _ ?_
  clear hKr Kr
  try simp only [blkQ, thenQ, loopQ]
  try simp only [RN, reduceIte]
  try refine T_e rfl ?_
  refine T_csplit (p := ¬ Des n b w) (by simp only [RA, ↓reduceIte, Nat.reduceEqDiff] <;> rfl) (by (try simp only [RB]) <;> first | done | exact Iff.rfl | omega | simp) (fun hc => ?_) (fun hc => ?_) <;> (try simp only [RN, reduceIte]) <;> (try refine T_e rfl ?_)
  · refine T_rseq fun Kr hKr => ?_
    simp (disch := omega) only [RA, ↓reduceIte, Nat.reduceEqDiff, RD]
    refine hKr _ _ ?_
    clear hKr Kr
    try simp only [RN, reduceIte]
    try refine T_e rfl ?_
    refine bodyQ_ret (by simp (disch := omega) only [RA, ↓reduceIte, Nat.reduceEqDiff, RD, resAll, resOf]; rfl) GhV.refl ?_
    simp only [tup]
    rw [resCl, if_neg hc] at hK
    exact ⟨nn_BI, hK⟩
  have hd := Decidable.not_not.1 hc
  rw [resCl, if_pos hd] at hK
  obtain ⟨m, rfl, hm1, hm2⟩ := hd.n0
  rw [Int.toNat_natCast] at hK
  clear hc
  refine T_rseq fun Kr hKr => ?_
  simp (disch := omega) only [RA, ↓reduceIte, Nat.reduceEqDiff, RD, RDS, RDD]
  refine l07Clean_spec hb hw hd.2.1 ?_
  simp (disch := omega) only [RA, ↓reduceIte, Nat.reduceEqDiff, RD]
  refine hKr _ _ ?_
  clear hKr Kr
  try simp only [blkQ, thenQ, loopQ]
  try simp only [RN, reduceIte]
  try refine T_e rfl ?_
  refine bodyQ_ret (by simp (disch := omega) only [RA, ↓reduceIte, Nat.reduceEqDiff, RD, resAll, resOf]; rfl) GhV.refl ?_
  simp only [tup]
  exact ⟨nn_BI, hK⟩
theorem impl_IsClean_spec {x : Bool} {n : Int} {b w : List Nat} {H : BH} {K : Value → BH → Prop} (hb : By 16 b) (hw : By 16 w)
    (hK : K (.tuple ⟨[.bool (resCl n b w).1, I (resCl n b w).2]⟩) H) : CallX x F_impl_IsClean [DV n b w] H K := by
  have hlb := hb.len
  have hlw := hw.len
  refine callP (by exact .cons nn_D .nil) ?_
  refine CallX_body Γ_impl_IsClean ?_
  simp only [A_impl_IsClean, T_aiff]
  refine T_rseq fun Kr hKr => ?_
  simp (disch := omega) only [RA, ↓reduceIte, Nat.reduceEqDiff, RD, RDS]
  refine hKr _ _ ?_
  clear hKr Kr
  try simp only [RN, reduceIte]
  try refine T_e rfl ?_
  refine T_rseq fun Kr hKr => ?_
  simp (disch := omega) only [RA, ↓reduceIte, Nat.reduceEqDiff, RD, RDS, RDD]
  refine IsDessin_spec hb hw ?_
  simp (disch := omega) only [RA, ↓reduceIte, Nat.reduceEqDiff, RD]
  refine hKr _ _ ?_
  clear hKr Kr
  try simp only [blkQ, thenQ, loopQ]
  try simp only [RN, reduceIte]
  try refine T_e rfl ?_
  refine T_csplit (p := ¬ Des n b w) (by simp only [RA, ↓reduceIte, Nat.reduceEqDiff] <;> rfl) (by (try simp only [RB]) <;> first | done | exact Iff.rfl | omega | simp) (fun hc => ?_) (fun hc => ?_) <;> (try simp only [RN, reduceIte]) <;> (try refine T_e rfl ?_)
  · refine T_rseq fun Kr hKr => ?_
    simp (disch := omega) only [RA, ↓reduceIte, Nat.reduceEqDiff, RD]
    refine hKr _ _ ?_
    clear hKr Kr
    try simp only [RN, reduceIte]
    try refine T_e rfl ?_
    refine bodyQ_ret (by simp (disch := omega) only [RA, ↓reduceIte, Nat.reduceEqDiff, RD, resAll, resOf]; rfl) GhV.refl ?_
    simp only [tup]
    rw [resCl, if_neg hc] at hK
    exact ⟨nn_BI, hK⟩
  have hd := Decidable.not_not.1 hc
  rw [resCl, if_pos hd] at hK
  obtain ⟨m, rfl, hm1, hm2⟩ := hd.n0
  rw [Int.toNat_natCast] at hK
  clear hc
  refine T_rseq fun Kr hKr => ?_
  simp (disch := omega) only [RA, ↓reduceIte, Nat.reduceEqDiff, RD, RDS, RDD]
  refine isClean_spec hb hw hd.2.1 ?_
  simp (disch := omega) only [RA, ↓reduceIte, Nat.reduceEqDiff, RD]
  refine hKr _ _ ?_
  clear hKr Kr
  try simp only [blkQ, thenQ, loopQ]
  try simp only [RN, reduceIte]
  try refine T_e rfl ?_
  refine bodyQ_ret (by simp (disch := omega) only [RA, ↓reduceIte, Nat.reduceEqDiff, RD, resAll, resOf]; rfl) GhV.refl ?_
  simp only [tup]
  exact ⟨nn_BI, hK⟩

/-! ### The flags of a map -/
abbrev L3 := List Nat × List Nat × List Nat
/-- The two flags of a dart, the first j of them. -/
def inK (w : List Nat) (x : Nat) (cs : List Nat × List Nat) : Nat → List Nat × List Nat
  | 0 => cs
  | j + 1 => ((inK w x cs j).1.set (2 * x + j) (2 * nl w x + (1 - j)), (inK w x cs j).2.set (2 * x + j) (2 * x + 1 - j))
def flK (b w : List Nat) : Nat → L3
  | 0 => (z32, z32, z32)
  | x + 1 => ((inK w x ((flK b w x).1, (flK b w x).2.2) 2).1, ((flK b w x).2.1.set (2 * x + 1) (2 * nl b x)).set (2 * nl b x) (2 * x + 1), (inK w x ((flK b w x).1, (flK b w x).2.2) 2).2)
theorem inK_by {w : List Nat} {x j : Nat} {cs : List Nat × List Nat} (hw : ∀ i, nl w i < 16) (hx : x < 16) (hc : By 32 cs.1 ∧ By 32 cs.2) : By 32 (inK w x cs j).1 ∧ By 32 (inK w x cs j).2 := by
  induction j with
  | zero => exact hc
  | succ j ih =>
    have := hw x
    exact ⟨ih.1.set (by omega), ih.2.set (by omega)⟩
theorem flK_by {b w : List Nat} (hb : ∀ i, nl b i < 16) (hw : ∀ i, nl w i < 16) : ∀ {x : Nat}, x ≤ 16 → By 32 (flK b w x).1 ∧ By 32 (flK b w x).2.1 ∧ By 32 (flK b w x).2.2
  | 0, _ => ⟨z32_by, z32_by, z32_by⟩
  | x + 1, hx => by
    obtain ⟨h1, h2, h3⟩ := flK_by hb hw (x := x) (by omega)
    have := hb x
    have hi := inK_by (j := 2) (cs := ((flK b w x).1, (flK b w x).2.2)) hw (show x < 16 by omega) ⟨h1, h3⟩
    exact ⟨hi.1, (h2.set (by omega)).set (by omega), hi.2⟩
def resFl (n : Int) (b w : List Nat) : (Int × L3) × Int :=
  if ¬ Des n b w then ((0, z32, z32, z32), 1) else if ¬ Clean w n.toNat then ((0, z32, z32, z32), 5) else ((2 * n, flK b w n.toNat), 0)
theorem resFl_by {n : Int} {b w : List Nat} (hb : By 16 b) (hw : By 16 w) : By 32 (resFl n b w).1.2.1 ∧ By 32 (resFl n b w).1.2.2.1 ∧ By 32 (resFl n b w).1.2.2.2 := by
  unfold resFl
  split
  · exact ⟨z32_by, z32_by, z32_by⟩
  · split
    · exact ⟨z32_by, z32_by, z32_by⟩
    · rename_i hd _
      have hd := Decidable.not_not.1 hd
      have hn := hd.1.1
      exact flK_by (fun i => hd.1.lt16' hb.len i) (fun i => hd.2.1.lt16' hw.len i) (by omega)
theorem l07Flags_spec {x : Bool} {n : Nat} {b w : List Nat} {H : BH} {K : Value → BH → Prop} (hb : By 16 b) (hw : By 16 w) (hd : Des n b w)
    (hK : K (FV ((2 * n : Nat) : Int) (flK b w n).1 (flK b w n).2.1 (flK b w n).2.2) H) : CallX x F_spec_l07Flags [DV n b w] H K := by
  have hlb := hb.len
  have hlw := hw.len
  have hz := z32_len
  have hn := hd.1.1
  have hb16 := fun i => hd.1.lt16 hlb i
  have hw16 := fun i => hd.2.1.lt16 hlw i
  have e2 : 2 * (n : Int) = ((2 * n : Nat) : Int) := by omega
  refine callP (by exact .cons nn_D .nil) ?_
  refine CallX_body Γ_spec_l07Flags ?_
  simp only [A_spec_l07Flags, T_aiff]
  refine T_rseq fun Kr hKr => ?_
  simp (disch := omega) only [RA, ↓reduceIte, Nat.reduceEqDiff, RD, RDS, RFS]
  refine hKr _ _ ?_
  clear hKr Kr
  try simp only [RN, reduceIte]
  try refine T_e rfl ?_
  refine T_rseq fun Kr hKr => ?_
  simp (disch := omega) only [RA, ↓reduceIte, Nat.reduceEqDiff, RD, RDS, RFS, RFD, e2]
  refine hKr _ _ ?_
  clear hKr Kr
  try simp only [RN, reduceIte]
  try refine T_e rfl ?_
  refine T_rseq fun Kr hKr => ?_
  simp (disch := omega) only [RA, ↓reduceIte, Nat.reduceEqDiff, RD]
  refine hKr _ _ ?_
  clear hKr Kr
  try simp only [RN, reduceIte]
  try refine T_e rfl ?_
  refine T_wloop (fun m f H' => ∃ i r, i ≤ n ∧ m = n - i ∧ r = flK b w i ∧ f 1 = P 0 0 ∧ f 2 = P 1 0 ∧ f 3 = P 2 0 ∧ f 4 = I i ∧ H' = [some (DC n b w), some (FC 0 z32 z32 z32), some (FC ((2 * n : Nat) : Int) r.1 r.2.1 r.2.2)]) (n) ?_ ?_
  · refine ⟨_, _, Gh.refl, 0, (z32, z32, z32), by omega, by omega, rfl, ?_, ?_, ?_, ?_, rfl⟩
    any_goals (simp (disch := omega) only [RA, ↓reduceIte, Nat.reduceEqDiff, RD, RE, *] <;> rfl)
  · rintro m f H' R ⟨i, r, hi, rfl, hr, g1, g2, g3, g4, rfl⟩ hN hX hR hE
    simp only [A_spec_l07Flags.l1, T_aiff]
    obtain ⟨q1, q2, q3⟩ := flK_by hb16 hw16 (x := i) (by omega)
    rw [← hr] at q1 q2 q3
    have l1 := q1.len
    have l2 := q2.len
    have l3 := q3.len
    refine T_rseq fun Kr hKr => ?_
    simp (disch := omega) only [RA, ↓reduceIte, Nat.reduceEqDiff, RD, g1, g4, RDS]
    refine hKr _ _ ?_
    clear hKr Kr
    try simp only [RN, reduceIte]
    try refine T_e rfl ?_
    refine T_csplit (p := i < n) (by simp only [RA, ↓reduceIte, Nat.reduceEqDiff] <;> rfl) (by (try simp only [RB]) <;> first | done | exact Iff.rfl | omega | simp) (fun hc => ?_) (fun hc => ?_) <;> (try simp only [RN, reduceIte]) <;> (try refine T_e rfl ?_)
    · have hin : i < n := by assumption
      have hwi := hw16 i
      have hbi := hb16 i
      first | refine T_bfree rfl ?_ | refine T_bfree' rfl ?_
      try simp only [RN, reduceIte]
      try refine T_e rfl ?_
      refine T_rseq fun Kr hKr => ?_
      simp (disch := omega) only [RA, ↓reduceIte, Nat.reduceEqDiff, RD]
      refine hKr _ _ ?_
      clear hKr Kr
      try simp only [RN, reduceIte]
      try refine T_e rfl ?_
      refine T_wloop (fun m f H' => ∃ j q, j ≤ 2 ∧ m = 2 - j ∧ q = inK w i (r.1, r.2.2) j ∧ f 1 = P 0 0 ∧ f 2 = P 1 0 ∧ f 3 = P 2 0 ∧ f 4 = I i ∧ f 5 = I j ∧ H' = [some (DC n b w), some (FC 0 z32 z32 z32), some (FC ((2 * n : Nat) : Int) q.1 r.2.1 q.2)]) (2) ?_ ?_
      · refine ⟨_, _, Gh.refl, 0, (r.1, r.2.2), by omega, by omega, rfl, ?_, ?_, ?_, ?_, ?_, rfl⟩
        any_goals (simp (disch := omega) only [RA, ↓reduceIte, Nat.reduceEqDiff, RD, RE, *] <;> rfl)
      · clear g1 g2 g3 g4
        rintro m f H' R1 ⟨j, q, hj, rfl, hq, g1, g2, g3, g4, g5, rfl⟩ hN1 hX1 hR1 hE1
        simp only [A_spec_l07Flags.l0, T_aiff]
        have hqb := inK_by (w := w) (x := i) (j := j) (cs := (r.1, r.2.2)) hw16 (by omega) ⟨q1, q3⟩
        rw [← hq] at hqb
        have m1 := hqb.1.len
        have m3 := hqb.2.len
        refine T_rseq fun Kr hKr => ?_
        simp (disch := omega) only [RA, ↓reduceIte, Nat.reduceEqDiff, RD, g5]
        refine hKr _ _ ?_
        clear hKr Kr
        try simp only [RN, reduceIte]
        try refine T_e rfl ?_
        refine T_csplit (p := j < 2) (by simp only [RA, ↓reduceIte, Nat.reduceEqDiff] <;> rfl) (by (try simp only [RB]) <;> first | done | exact Iff.rfl | omega | simp) (fun hc => ?_) (fun hc => ?_) <;> (try simp only [RN, reduceIte]) <;> (try refine T_e rfl ?_)
        · have e3 : 2 * (i : Int) + (j : Int) = ((2 * i + j : Nat) : Int) := by omega
          have e4 : 2 * (nl w i : Int) + (1 - (j : Int)) = ((2 * nl w i + (1 - j) : Nat) : Int) := by omega
          have e5 : 2 * (i : Int) + 1 - (j : Int) = ((2 * i + 1 - j : Nat) : Int) := by omega
          have e6 : (q.1.set (2 * i + j) (2 * nl w i + (1 - j))).length = 32 := by rw [List.length_set]; exact m1
          first | refine T_bfree rfl ?_ | refine T_bfree' rfl ?_
          try simp only [RN, reduceIte]
          try refine T_e rfl ?_
          refine T_rseq fun Kr hKr => ?_
          simp (disch := omega) only [RA, ↓reduceIte, Nat.reduceEqDiff, RD, g1, g3, g4, g5, RDS, RDD, RFS, RFD, e3, e4]
          refine hKr _ _ ?_
          clear hKr Kr
          try simp only [RN, reduceIte]
          try refine T_e rfl ?_
          refine T_rseq fun Kr hKr => ?_
          simp (disch := omega) only [RA, ↓reduceIte, Nat.reduceEqDiff, RD, g1, g3, g4, g5, RDS, RDD, RFS, RFD, e3, e5]
          refine hKr _ _ ?_
          clear hKr Kr
          try simp only [RN, reduceIte]
          try refine T_e rfl ?_
          refine T_reg_k fun Kr hKr => ?_
          simp (disch := omega) only [RA, ↓reduceIte, Nat.reduceEqDiff, RD, g5]
          refine hKr _ _ ?_
          clear hKr Kr
          refine hN1 (2 - (j + 1)) _ _ _ _ (by omega) Gh.refl ⟨j + 1, inK w i (r.1, r.2.2) (j + 1), by omega, rfl, rfl, ?_, ?_, ?_, ?_, ?_, ?_⟩
          any_goals (simp (disch := omega) only [RA, ↓reduceIte, Nat.reduceEqDiff, RD, RE, *] <;> rfl)
          all_goals rw [inK, ← hq]
        · refine hX1 _ _ ?_
          obtain rfl : j = 2 := by omega
          have e3 : 2 * (i : Int) + 1 = ((2 * i + 1 : Nat) : Int) := by omega
          have e4 : 2 * (nl b i : Int) = ((2 * nl b i : Nat) : Int) := by omega
          have e7 : (r.2.1.set (2 * i + 1) (2 * nl b i)).length = 32 := by rw [List.length_set]; exact l2
          try simp only [RN, reduceIte]
          try refine T_e rfl ?_
          refine T_rseq fun Kr hKr => ?_
          simp (disch := omega) only [RA, ↓reduceIte, Nat.reduceEqDiff, RD, g1, g3, g4, RDS, RDD, RFS, RFD, e3, e4]
          refine hKr _ _ ?_
          clear hKr Kr
          try simp only [RN, reduceIte]
          try refine T_e rfl ?_
          refine T_rseq fun Kr hKr => ?_
          simp (disch := omega) only [RA, ↓reduceIte, Nat.reduceEqDiff, RD, g1, g3, g4, RDS, RDD, RFS, RFD, e3, e4]
          refine hKr _ _ ?_
          clear hKr Kr
          try simp only [RN, reduceIte]
          try refine T_e rfl ?_
          refine T_reg_k fun Kr hKr => ?_
          simp (disch := omega) only [RA, ↓reduceIte, Nat.reduceEqDiff, RD, g4]
          refine hKr _ _ ?_
          clear hKr Kr
          refine hN (n - (i + 1)) _ _ _ _ (by omega) Gh.refl ⟨i + 1, flK b w (i + 1), by omega, rfl, rfl, ?_, ?_, ?_, ?_, ?_⟩
          any_goals (simp (disch := omega) only [RA, ↓reduceIte, Nat.reduceEqDiff, RD, RE, *] <;> rfl)
          all_goals rw [flK, ← hr, ← hq]
    · refine hX _ _ ?_
      obtain rfl : i = n := by omega
      rw [← hr] at hK
      refine T_rseq fun Kr hKr => ?_
      simp (disch := omega) only [RA, ↓reduceIte, Nat.reduceEqDiff, RD, g2, g3, RFS, RFD]
      refine hKr _ _ ?_
      clear hKr Kr
      try simp only [RN, reduceIte]
      try refine T_e rfl ?_
      refine bodyQ_ret (by simp (disch := omega) only [RA, ↓reduceIte, Nat.reduceEqDiff, RD, resAll, resOf, g2, RFS, RFD]; rfl) GhV.refl ?_
      simp only [tup]
      exact ⟨nn_F, hK⟩
theorem spec_FlagsOf_spec {x : Bool} {n : Int} {b w : List Nat} {H : BH} {K : Value → BH → Prop} (hb : By 16 b) (hw : By 16 w)
    (hK : K (.tuple ⟨[FV (resFl n b w).1.1 (resFl n b w).1.2.1 (resFl n b w).1.2.2.1 (resFl n b w).1.2.2.2, I (resFl n b w).2]⟩) H) : CallX x F_spec_FlagsOf [DV n b w] H K := by
  have hlb := hb.len
  have hlw := hw.len
  have hz := z32_len
  refine callP (by exact .cons nn_D .nil) ?_
  refine CallX_body Γ_spec_FlagsOf ?_
  simp only [A_spec_FlagsOf, T_aiff]
  refine T_rseq fun Kr hKr => ?_
  simp (disch := omega) only [RA, ↓reduceIte, Nat.reduceEqDiff, RD, RDS, RFS]
  refine hKr _ _ ?_
  clear hKr Kr
  try simp only [RN, reduceIte]
  try refine T_e rfl ?_
  refine T_seq (T_block ?_)
  try simp only [RN, reduceIte]
  try refine T_e rfl ?_
  refine T_rseq fun Kr hKr => ?_
  simp (disch := omega) only [RA, ↓reduceIte, Nat.reduceEqDiff, RD, RDS, RDD]
  refine l01Is_spec hb hw ?_
  simp (disch := omega) only [RA, ↓reduceIte, Nat.reduceEqDiff, RD]
  refine hKr _ _ ?_
  clear hKr Kr
  try simp only [blkQ, thenQ, loopQ]
  try simp only [RN, reduceIte]
  try refine T_e rfl ?_
  refine T_csplit1 (p := ¬ Des n b w) (by simp only [RA, ↓reduceIte, Nat.reduceEqDiff] <;> rfl) (by (try simp only [RB]) <;> first | done | exact Iff.rfl | omega | simp) (fun hc => ?_) (fun hc => ?_) <;> (try simp only [RN, reduceIte]) <;> (try refine T_e rfl ?_)
  · refine T_rseq fun Kr hKr => ?_
    simp (disch := omega) only [RA, ↓reduceIte, Nat.reduceEqDiff, RD, RFS, RFD]
    refine hKr _ _ ?_
    clear hKr Kr
    try simp only [RN, reduceIte]
    try refine T_e rfl ?_
    simp only [blkQ, thenQ, loopQ, if_true]
    refine bodyQ_ret (by simp (disch := omega) only [RA, ↓reduceIte, Nat.reduceEqDiff, RD, resAll, resOf, RFS, RFD]; rfl) GhV.refl ?_
    simp only [tup]
    rw [resFl, if_pos hc] at hK
    exact ⟨nn_FI, hK⟩
  have hd := Decidable.not_not.1 hc
  rw [resFl, if_neg hc] at hK
  obtain ⟨m, rfl, hm1, hm2⟩ := hd.n0
  rw [Int.toNat_natCast] at hK
  clear hc
  refine T_rseq fun Kr hKr => ?_
  simp (disch := omega) only [RA, ↓reduceIte, Nat.reduceEqDiff, RD, RDS, RDD]
  refine l07Clean_spec hb hw hd.2.1 ?_
  simp (disch := omega) only [RA, ↓reduceIte, Nat.reduceEqDiff, RD]
  refine hKr _ _ ?_
  clear hKr Kr
  try simp only [blkQ, thenQ, loopQ]
  try simp only [RN, reduceIte]
  try refine T_e rfl ?_
  refine T_csplit1 (p := ¬ Clean w m) (by simp only [RA, ↓reduceIte, Nat.reduceEqDiff] <;> rfl) (by (try simp only [RB]) <;> first | done | exact Iff.rfl | omega | simp) (fun hc => ?_) (fun hc => ?_) <;> (try simp only [RN, reduceIte]) <;> (try refine T_e rfl ?_)
  · refine T_rseq fun Kr hKr => ?_
    simp (disch := omega) only [RA, ↓reduceIte, Nat.reduceEqDiff, RD, RFS, RFD]
    refine hKr _ _ ?_
    clear hKr Kr
    try simp only [RN, reduceIte]
    try refine T_e rfl ?_
    simp only [blkQ, thenQ, loopQ, if_true]
    refine bodyQ_ret (by simp (disch := omega) only [RA, ↓reduceIte, Nat.reduceEqDiff, RD, resAll, resOf, RFS, RFD]; rfl) GhV.refl ?_
    simp only [tup]
    rw [if_pos hc] at hK
    exact ⟨nn_FI, hK⟩
  rw [if_neg hc] at hK
  clear hc
  simp only [blkQ, thenQ, loopQ, if_true]
  have hfb := flK_by (fun i => hd.1.lt16 hlb i) (fun i => hd.2.1.lt16 hlw i) (x := m) (by omega)
  have l1 := hfb.1.len
  have l2 := hfb.2.1.len
  have l3 := hfb.2.2.len
  refine T_rseq fun Kr hKr => ?_
  simp (disch := omega) only [RA, ↓reduceIte, Nat.reduceEqDiff, RD, RDS, RDD]
  refine l07Flags_spec hb hw hd ?_
  simp (disch := omega) only [RA, ↓reduceIte, Nat.reduceEqDiff, RD, RFS, RFD]
  refine hKr _ _ ?_
  clear hKr Kr
  try simp only [blkQ, thenQ, loopQ]
  try simp only [RN, reduceIte]
  try refine T_e rfl ?_
  refine bodyQ_ret (by simp (disch := omega) only [RA, ↓reduceIte, Nat.reduceEqDiff, RD, resAll, resOf, RFS, RFD]; rfl) GhV.refl ?_
  simp only [tup]
  rw [show 2 * (m : Int) = ((2 * m : Nat) : Int) by omega] at hK
  exact ⟨nn_FI, hK⟩
theorem impl_FlagsOf_spec {x : Bool} {n : Int} {b w : List Nat} {H : BH} {K : Value → BH → Prop} (hb : By 16 b) (hw : By 16 w)
    (hK : K (.tuple ⟨[FV (resFl n b w).1.1 (resFl n b w).1.2.1 (resFl n b w).1.2.2.1 (resFl n b w).1.2.2.2, I (resFl n b w).2]⟩) H) : CallX x F_impl_FlagsOf [DV n b w] H K := by
  have hlb := hb.len
  have hlw := hw.len
  have hz := z32_len
  refine callP (by exact .cons nn_D .nil) ?_
  refine CallX_body Γ_impl_FlagsOf ?_
  simp only [A_impl_FlagsOf, T_aiff]
  refine T_rseq fun Kr hKr => ?_
  simp (disch := omega) only [RA, ↓reduceIte, Nat.reduceEqDiff, RD, RDS, RFS]
  refine hKr _ _ ?_
  clear hKr Kr
  try simp only [RN, reduceIte]
  try refine T_e rfl ?_
  refine T_seq (T_block ?_)
  try simp only [RN, reduceIte]
  try refine T_e rfl ?_
  refine T_rseq fun Kr hKr => ?_
  simp (disch := omega) only [RA, ↓reduceIte, Nat.reduceEqDiff, RD, RDS, RDD]
  refine IsDessin_spec hb hw ?_
  simp (disch := omega) only [RA, ↓reduceIte, Nat.reduceEqDiff, RD]
  refine hKr _ _ ?_
  clear hKr Kr
  try simp only [blkQ, thenQ, loopQ]
  try simp only [RN, reduceIte]
  try refine T_e rfl ?_
  refine T_csplit1 (p := ¬ Des n b w) (by simp only [RA, ↓reduceIte, Nat.reduceEqDiff] <;> rfl) (by (try simp only [RB]) <;> first | done | exact Iff.rfl | omega | simp) (fun hc => ?_) (fun hc => ?_) <;> (try simp only [RN, reduceIte]) <;> (try refine T_e rfl ?_)
  · refine T_rseq fun Kr hKr => ?_
    simp (disch := omega) only [RA, ↓reduceIte, Nat.reduceEqDiff, RD, RFS, RFD]
    refine hKr _ _ ?_
    clear hKr Kr
    try simp only [RN, reduceIte]
    try refine T_e rfl ?_
    simp only [blkQ, thenQ, loopQ, if_true]
    refine bodyQ_ret (by simp (disch := omega) only [RA, ↓reduceIte, Nat.reduceEqDiff, RD, resAll, resOf, RFS, RFD]; rfl) GhV.refl ?_
    simp only [tup]
    rw [resFl, if_pos hc] at hK
    exact ⟨nn_FI, hK⟩
  have hd := Decidable.not_not.1 hc
  rw [resFl, if_neg hc] at hK
  obtain ⟨n, rfl, hm1, hm2⟩ := hd.n0
  rw [Int.toNat_natCast] at hK
  clear hc
  refine T_rseq fun Kr hKr => ?_
  simp (disch := omega) only [RA, ↓reduceIte, Nat.reduceEqDiff, RD, RDS, RDD]
  refine isClean_spec hb hw hd.2.1 ?_
  simp (disch := omega) only [RA, ↓reduceIte, Nat.reduceEqDiff, RD]
  refine hKr _ _ ?_
  clear hKr Kr
  try simp only [blkQ, thenQ, loopQ]
  try simp only [RN, reduceIte]
  try refine T_e rfl ?_
  refine T_csplit1 (p := ¬ Clean w n) (by simp only [RA, ↓reduceIte, Nat.reduceEqDiff] <;> rfl) (by (try simp only [RB]) <;> first | done | exact Iff.rfl | omega | simp) (fun hc => ?_) (fun hc => ?_) <;> (try simp only [RN, reduceIte]) <;> (try refine T_e rfl ?_)
  · refine T_rseq fun Kr hKr => ?_
    simp (disch := omega) only [RA, ↓reduceIte, Nat.reduceEqDiff, RD, RFS, RFD]
    refine hKr _ _ ?_
    clear hKr Kr
    try simp only [RN, reduceIte]
    try refine T_e rfl ?_
    simp only [blkQ, thenQ, loopQ, if_true]
    refine bodyQ_ret (by simp (disch := omega) only [RA, ↓reduceIte, Nat.reduceEqDiff, RD, resAll, resOf, RFS, RFD]; rfl) GhV.refl ?_
    simp only [tup]
    rw [if_pos hc] at hK
    exact ⟨nn_FI, hK⟩
  rw [if_neg hc] at hK
  clear hc
  simp only [blkQ, thenQ, loopQ, if_true]
  have hb16 := fun i => hd.1.lt16 hlb i
  have hw16 := fun i => hd.2.1.lt16 hlw i
  have e2 : 2 * (n : Int) = ((2 * n : Nat) : Int) := by omega
  rw [e2] at hK
  refine T_rseq fun Kr hKr => ?_
  simp (disch := omega) only [RA, ↓reduceIte, Nat.reduceEqDiff, RD, RDS, RFS, RFD, e2]
  refine hKr _ _ ?_
  clear hKr Kr
  try simp only [RN, reduceIte]
  try refine T_e rfl ?_
  refine T_rseq fun Kr hKr => ?_
  simp (disch := omega) only [RA, ↓reduceIte, Nat.reduceEqDiff, RD, RDS]
  refine hKr _ _ ?_
  clear hKr Kr
  try simp only [RN, reduceIte]
  try refine T_e rfl ?_
  refine T_wloop (fun m f H' => ∃ i r, i ≤ n ∧ m = n - i ∧ r = flK b w i ∧ f 1 = P 0 0 ∧ f 2 = P 1 0 ∧ f 4 = P 2 0 ∧ f 23 = I n ∧ f 24 = I i ∧ H' = [some (DC n b w), some (FC 0 z32 z32 z32), some (FC ((2 * n : Nat) : Int) r.1 r.2.1 r.2.2)]) (n) ?_ ?_
  · refine ⟨_, _, Gh.refl, 0, (z32, z32, z32), by omega, by omega, rfl, ?_, ?_, ?_, ?_, ?_, rfl⟩
    any_goals (simp (disch := omega) only [RA, ↓reduceIte, Nat.reduceEqDiff, RD, RE, *] <;> rfl)
  · rintro m f H' R ⟨i, r, hi, rfl, hr, g1, g2, g3, g23, g24, rfl⟩ hN hX hR hE
    simp only [A_impl_FlagsOf.l1, T_aiff]
    obtain ⟨q1, q2, q3⟩ := flK_by hb16 hw16 (x := i) (by omega)
    rw [← hr] at q1 q2 q3
    have l1 := q1.len
    have l2 := q2.len
    have l3 := q3.len
    refine T_rseq fun Kr hKr => ?_
    simp (disch := omega) only [RA, ↓reduceIte, Nat.reduceEqDiff, RD, g23, g24]
    refine hKr _ _ ?_
    clear hKr Kr
    try simp only [RN, reduceIte]
    try refine T_e rfl ?_
    refine T_csplit (p := i < n) (by simp only [RA, ↓reduceIte, Nat.reduceEqDiff] <;> rfl) (by (try simp only [RB]) <;> first | done | exact Iff.rfl | omega | simp) (fun hc => ?_) (fun hc => ?_) <;> (try simp only [RN, reduceIte]) <;> (try refine T_e rfl ?_)
    · have hin : i < n := by assumption
      have hwi := hw16 i
      have hbi := hb16 i
      first | refine T_bfree rfl ?_ | refine T_bfree' rfl ?_
      try simp only [RN, reduceIte]
      try refine T_e rfl ?_
      refine T_rseq fun Kr hKr => ?_
      simp (disch := omega) only [RA, ↓reduceIte, Nat.reduceEqDiff, RD, g24]
      refine hKr _ _ ?_
      clear hKr Kr
      try simp only [RN, reduceIte]
      try refine T_e rfl ?_
      refine T_rseq fun Kr hKr => ?_
      simp (disch := omega) only [RA, ↓reduceIte, Nat.reduceEqDiff, RD]
      refine hKr _ _ ?_
      clear hKr Kr
      try simp only [RN, reduceIte]
      try refine T_e rfl ?_
      refine T_wloop (fun m f H' => ∃ j q, j ≤ 2 ∧ m = 2 - j ∧ q = inK w i (r.1, r.2.2) j ∧ f 1 = P 0 0 ∧ f 2 = P 1 0 ∧ f 4 = P 2 0 ∧ f 5 = I i ∧ f 23 = I n ∧ f 24 = I i ∧ f 27 = I j ∧ H' = [some (DC n b w), some (FC 0 z32 z32 z32), some (FC ((2 * n : Nat) : Int) q.1 r.2.1 q.2)]) (2) ?_ ?_
      · refine ⟨_, _, Gh.refl, 0, (r.1, r.2.2), by omega, by omega, rfl, ?_, ?_, ?_, ?_, ?_, ?_, ?_, rfl⟩
        any_goals (simp (disch := omega) only [RA, ↓reduceIte, Nat.reduceEqDiff, RD, RE, *] <;> rfl)
      · clear g1 g2 g3 g23 g24
        rintro m f H' R1 ⟨j, q, hj, rfl, hq, g1, g2, g3, g4, g23, g24, g5, rfl⟩ hN1 hX1 hR1 hE1
        simp only [A_impl_FlagsOf.l0, T_aiff]
        have hqb := inK_by (w := w) (x := i) (j := j) (cs := (r.1, r.2.2)) hw16 (by omega) ⟨q1, q3⟩
        rw [← hq] at hqb
        have m1 := hqb.1.len
        have m3 := hqb.2.len
        refine T_rseq fun Kr hKr => ?_
        simp (disch := omega) only [RA, ↓reduceIte, Nat.reduceEqDiff, RD, g5]
        refine hKr _ _ ?_
        clear hKr Kr
        try simp only [RN, reduceIte]
        try refine T_e rfl ?_
        refine T_csplit (p := j < 2) (by simp only [RA, ↓reduceIte, Nat.reduceEqDiff] <;> rfl) (by (try simp only [RB]) <;> first | done | exact Iff.rfl | omega | simp) (fun hc => ?_) (fun hc => ?_) <;> (try simp only [RN, reduceIte]) <;> (try refine T_e rfl ?_)
        · have e3 : 2 * (i : Int) + (j : Int) = ((2 * i + j : Nat) : Int) := by omega
          have e4 : 2 * (nl w i : Int) + (1 - (j : Int)) = ((2 * nl w i + (1 - j) : Nat) : Int) := by omega
          have e5 : 2 * (i : Int) + 1 - (j : Int) = ((2 * i + 1 - j : Nat) : Int) := by omega
          have e6 : (q.1.set (2 * i + j) (2 * nl w i + (1 - j))).length = 32 := by rw [List.length_set]; exact m1
          first | refine T_bfree rfl ?_ | refine T_bfree' rfl ?_
          try simp only [RN, reduceIte]
          try refine T_e rfl ?_
          refine T_rseq fun Kr hKr => ?_
          simp (disch := omega) only [RA, ↓reduceIte, Nat.reduceEqDiff, RD, g5]
          refine hKr _ _ ?_
          clear hKr Kr
          try simp only [RN, reduceIte]
          try refine T_e rfl ?_
          refine T_rseq fun Kr hKr => ?_
          simp (disch := omega) only [RA, ↓reduceIte, Nat.reduceEqDiff, RD, g1, g3, g4, RDS, RDD, RFS, RFD, e3, e4]
          refine hKr _ _ ?_
          clear hKr Kr
          try simp only [RN, reduceIte]
          try refine T_e rfl ?_
          refine T_rseq fun Kr hKr => ?_
          simp (disch := omega) only [RA, ↓reduceIte, Nat.reduceEqDiff, RD, g1, g3, g4, RDS, RDD, RFS, RFD, e3, e5]
          refine hKr _ _ ?_
          clear hKr Kr
          try simp only [RN, reduceIte]
          try refine T_e rfl ?_
          refine T_reg_k fun Kr hKr => ?_
          simp (disch := omega) only [RA, ↓reduceIte, Nat.reduceEqDiff, RD, g5]
          refine hKr _ _ ?_
          clear hKr Kr
          refine hN1 (2 - (j + 1)) _ _ _ _ (by omega) Gh.refl ⟨j + 1, inK w i (r.1, r.2.2) (j + 1), by omega, rfl, rfl, ?_, ?_, ?_, ?_, ?_, ?_, ?_, ?_⟩
          any_goals (simp (disch := omega) only [RA, ↓reduceIte, Nat.reduceEqDiff, RD, RE, *] <;> rfl)
          all_goals rw [inK, ← hq]
        · refine hX1 _ _ ?_
          obtain rfl : j = 2 := by omega
          have e3 : 2 * (i : Int) + 1 = ((2 * i + 1 : Nat) : Int) := by omega
          have e4 : 2 * (nl b i : Int) = ((2 * nl b i : Nat) : Int) := by omega
          have e7 : (r.2.1.set (2 * i + 1) (2 * nl b i)).length = 32 := by rw [List.length_set]; exact l2
          try simp only [RN, reduceIte]
          try refine T_e rfl ?_
          refine T_rseq fun Kr hKr => ?_
          simp (disch := omega) only [RA, ↓reduceIte, Nat.reduceEqDiff, RD, g1, g3, g4, RDS, RDD, RFS, RFD, e3, e4]
          refine hKr _ _ ?_
          clear hKr Kr
          try simp only [RN, reduceIte]
          try refine T_e rfl ?_
          refine T_rseq fun Kr hKr => ?_
          simp (disch := omega) only [RA, ↓reduceIte, Nat.reduceEqDiff, RD, g1, g3, g4, RDS, RDD, RFS, RFD, e3, e4]
          refine hKr _ _ ?_
          clear hKr Kr
          try simp only [RN, reduceIte]
          try refine T_e rfl ?_
          refine T_rseq fun Kr hKr => ?_
          simp (disch := omega) only [RA, ↓reduceIte, Nat.reduceEqDiff, RD, g1, g3, g4, RDS, RDD, RFS, RFD, e3, e4]
          refine hKr _ _ ?_
          clear hKr Kr
          try simp only [RN, reduceIte]
          try refine T_e rfl ?_
          refine T_reg_k fun Kr hKr => ?_
          simp (disch := omega) only [RA, ↓reduceIte, Nat.reduceEqDiff, RD, g24]
          refine hKr _ _ ?_
          clear hKr Kr
          refine hN (n - (i + 1)) _ _ _ _ (by omega) Gh.refl ⟨i + 1, flK b w (i + 1), by omega, rfl, rfl, ?_, ?_, ?_, ?_, ?_, ?_⟩
          any_goals (simp (disch := omega) only [RA, ↓reduceIte, Nat.reduceEqDiff, RD, RE, *] <;> rfl)
          all_goals rw [flK, ← hr, ← hq]
    · refine hX _ _ ?_
      obtain rfl : i = n := by omega
      rw [← hr] at hK
      refine T_rseq fun Kr hKr => ?_
      simp (disch := omega) only [RA, ↓reduceIte, Nat.reduceEqDiff, RD, g2, g3, RFS, RFD]
      refine hKr _ _ ?_
      clear hKr Kr
      try simp only [RN, reduceIte]
      try refine T_e rfl ?_
      refine bodyQ_ret (by simp (disch := omega) only [RA, ↓reduceIte, Nat.reduceEqDiff, RD, resAll, resOf, g2, RFS, RFD]; rfl) GhV.refl ?_
      simp only [tup]
      exact ⟨nn_FI, hK⟩
end Go.Bm
