/- Flags compared. -/
import Derived.Test.YtbbgifoamnjhoaaDp6
set_option linter.unusedVariables false
set_option linter.unusedSimpArgs false
namespace Go.Bm
open Go Go.Am

theorem nn_FI {n : Int} {c t s : List Nat} {k : IntKind} {a : Int} : NN (.tuple ⟨[aggL (FC n c t s), .int k a]⟩) := NN.tuple (NNL.cons nn_F (NNL.cons NN.int NNL.nil))
/-! ### The laws' comparisons -/
theorem eqByteA32_spec {x : Bool} {p q : List Nat} {H : BH} {K : Value → BH → Prop} (hp : By 32 p) (hq : By 32 q) (hK : K (.bool (decide (p = q))) H) : CallX x F_laws_eqByteA32 [PL p, PL q] H K := by
  have hlp := hp.len
  have hlq := hq.len
  refine callP (by simp only [RH]) ?_
  refine CallX_body Γ_laws_eqByteA32 ?_
  simp only [A_laws_eqByteA32, T_aiff]
  refine T_rseq fun Kr hKr => ?_
  simp (disch := omega) only [RA, ↓reduceIte, Nat.reduceEqDiff, RD]
  refine hKr _ _ ?_
  clear hKr Kr
  try simp only [RN, reduceIte]
  try refine T_e rfl ?_
  refine T_rseq fun Kr hKr => ?_
  simp (disch := omega) only [RA, ↓reduceIte, Nat.reduceEqDiff, RD]
  refine hKr _ _ ?_
  clear hKr Kr
  try simp only [RN, reduceIte]
  try refine T_e rfl ?_
  refine T_wloop (fun m f H' => ∃ k, k ≤ 32 ∧ m = 32 - k ∧ f 2 = P 0 0 ∧ f 3 = P 1 0 ∧ f 5 = I k ∧ H' = [some (p.map N8), some (q.map N8)] ∧ ∀ i, i < k → nl p i = nl q i) (32) ?_ ?_
  · refine ⟨_, _, Gh.refl, 0, by omega, by omega, ?_, ?_, ?_, rfl, by omega⟩
    any_goals (simp (disch := omega) only [RA, ↓reduceIte, Nat.reduceEqDiff, RD, RE, *] <;> rfl)
  · rintro m f H' R ⟨k, hk, rfl, h1, h2, h4, rfl, hall⟩ hN hX hR hE
    simp only [A_laws_eqByteA32.l0, T_aiff]
    refine T_rseq fun Kr hKr => ?_
    simp (disch := omega) only [RA, ↓reduceIte, Nat.reduceEqDiff, RD, h4]
    refine hKr _ _ ?_
    clear hKr Kr
    try simp only [RN, reduceIte]
    try refine T_e rfl ?_
    refine T_csplit (p := k < 32) (by simp only [RA, ↓reduceIte, Nat.reduceEqDiff] <;> rfl) (by (try simp only [RB]) <;> first | done | exact Iff.rfl | omega | simp) (fun hc => ?_) (fun hc => ?_) <;> (try simp only [RN, reduceIte]) <;> (try refine T_e rfl ?_)
    · first | refine T_bfree rfl ?_ | refine T_bfree' rfl ?_
      try simp only [RN, reduceIte]
      try refine T_e rfl ?_
      refine T_rseq fun Kr hKr => ?_
      simp (disch := omega) only [RA, ↓reduceIte, Nat.reduceEqDiff, RD, h1, h2, h4, hlp, hlq]
      refine hKr _ _ ?_
      clear hKr Kr
      try simp only [RN, reduceIte]
      try refine T_e rfl ?_
      refine T_csplit (p := nl p k ≠ nl q k) (by simp only [RA, ↓reduceIte, Nat.reduceEqDiff] <;> rfl) (by (try simp only [RB]) <;> first | done | exact Iff.rfl | omega | simp) (fun hc => ?_) (fun hc => ?_) <;> (try simp only [RN, reduceIte]) <;> (try refine T_e rfl ?_)
      · refine T_rseq fun Kr hKr => ?_
        simp (disch := omega) only [RA, ↓reduceIte, Nat.reduceEqDiff, RD]
        refine hKr _ _ ?_
        clear hKr Kr
        try simp only [RN, reduceIte]
        try refine T_e rfl ?_
        refine hR _ _ ?_
        refine bodyQ_ret (by simp (disch := omega) only [RA, ↓reduceIte, Nat.reduceEqDiff, RD, resAll, resOf]; rfl) GhV.refl ?_
        simp only [tup]
        refine ⟨NN.bool, ?_⟩
        have : ¬ p = q := fun e => hc (by rw [e])
        simpa [this] using hK
      · refine T_reg_k fun Kr hKr => ?_
        simp (disch := omega) only [RA, ↓reduceIte, Nat.reduceEqDiff, RD, h4]
        refine hKr _ _ ?_
        clear hKr Kr
        refine hN (32 - (k + 1)) _ _ _ _ (by omega) Gh.refl ⟨k + 1, by omega, rfl, ?_, ?_, ?_, rfl, fun i hi => ?_⟩
        any_goals (simp (disch := omega) only [RA, ↓reduceIte, Nat.reduceEqDiff, RD, RE, *] <;> rfl)
        rcases Nat.lt_or_ge i k with h | h
        · exact hall i h
        · obtain rfl : i = k := by omega
          exact Decidable.not_not.1 hc
    · refine hX _ _ ?_
      refine T_rseq fun Kr hKr => ?_
      simp (disch := omega) only [RA, ↓reduceIte, Nat.reduceEqDiff, RD]
      refine hKr _ _ ?_
      clear hKr Kr
      try simp only [RN, reduceIte]
      try refine T_e rfl ?_
      refine bodyQ_ret (by simp (disch := omega) only [RA, ↓reduceIte, Nat.reduceEqDiff, RD, resAll, resOf]; rfl) GhV.refl ?_
      simp only [tup]
      refine ⟨NN.bool, ?_⟩
      have : p = q := nl_ext (by omega) fun i hi => hall i (by omega)
      simpa [this] using hK
/-- Flags are equal to themselves. -/
theorem eqFlags_same {x : Bool} {n : Int} {c t s : List Nat} {H : BH} {K : Value → BH → Prop} (hc : By 32 c) (ht : By 32 t) (hs : By 32 s) (hK : K (.bool true) H) :
    CallX x F_laws_eqFlags [FV n c t s, FV n c t s] H K := by
  have hlc := hc.len
  have hlt := ht.len
  have hls := hs.len
  refine callP (by exact .cons nn_F (.cons nn_F .nil)) ?_
  refine CallX_body Γ_laws_eqFlags ?_
  simp only [A_laws_eqFlags, T_aiff]
  refine T_rseq fun Kr hKr => ?_
  simp (disch := omega) only [RA, ↓reduceIte, Nat.reduceEqDiff, RD, RFS]
  refine hKr _ _ ?_
  clear hKr Kr
  try simp only [RN, reduceIte]
  try refine T_e rfl ?_
  refine T_rseq fun Kr hKr => ?_
  simp (disch := omega) only [RA, ↓reduceIte, Nat.reduceEqDiff, RD, RFS]
  refine hKr _ _ ?_
  clear hKr Kr
  try simp only [RN, reduceIte]
  try refine T_e rfl ?_
  refine T_cseq (t := false) (by simp (disch := omega) only [RA, ↓reduceIte, Nat.reduceEqDiff, RD]) ?_
  try simp only [RN, reduceIte]
  try refine T_e rfl ?_
  refine T_rseq fun Kr hKr => ?_
  simp (disch := omega) only [RA, ↓reduceIte, Nat.reduceEqDiff, RD, RFS, RFD]
  refine eqByteA32_spec hc hc ?_
  rw [decide_eq_true rfl]
  simp (disch := omega) only [RA, ↓reduceIte, Nat.reduceEqDiff, RD]
  refine hKr _ _ ?_
  clear hKr Kr
  try simp only [blkQ, thenQ, loopQ]
  try simp only [RN, reduceIte]
  try refine T_e rfl ?_
  refine T_cseq (t := false) (by simp (disch := omega) only [RA, ↓reduceIte, Nat.reduceEqDiff, RD]) ?_
  try simp only [RN, reduceIte]
  try refine T_e rfl ?_
  refine T_rseq fun Kr hKr => ?_
  simp (disch := omega) only [RA, ↓reduceIte, Nat.reduceEqDiff, RD, RFS, RFD]
  refine eqByteA32_spec ht ht ?_
  rw [decide_eq_true rfl]
  simp (disch := omega) only [RA, ↓reduceIte, Nat.reduceEqDiff, RD]
  refine hKr _ _ ?_
  clear hKr Kr
  try simp only [blkQ, thenQ, loopQ]
  try simp only [RN, reduceIte]
  try refine T_e rfl ?_
  refine T_cseq (t := false) (by simp (disch := omega) only [RA, ↓reduceIte, Nat.reduceEqDiff, RD]) ?_
  try simp only [RN, reduceIte]
  try refine T_e rfl ?_
  refine T_rseq fun Kr hKr => ?_
  simp (disch := omega) only [RA, ↓reduceIte, Nat.reduceEqDiff, RD, RFS, RFD]
  refine eqByteA32_spec hs hs ?_
  rw [decide_eq_true rfl]
  simp (disch := omega) only [RA, ↓reduceIte, Nat.reduceEqDiff, RD]
  refine hKr _ _ ?_
  clear hKr Kr
  try simp only [blkQ, thenQ, loopQ]
  try simp only [RN, reduceIte]
  try refine T_e rfl ?_
  refine T_cseq (t := false) (by simp (disch := omega) only [RA, ↓reduceIte, Nat.reduceEqDiff, RD]) ?_
  try simp only [RN, reduceIte]
  try refine T_e rfl ?_
  refine T_rseq fun Kr hKr => ?_
  simp (disch := omega) only [RA, ↓reduceIte, Nat.reduceEqDiff, RD]
  refine hKr _ _ ?_
  clear hKr Kr
  try simp only [RN, reduceIte]
  try refine T_e rfl ?_
  refine bodyQ_ret (by simp (disch := omega) only [RA, ↓reduceIte, Nat.reduceEqDiff, RD, resAll, resOf]; rfl) GhV.refl ?_
  simp only [tup]
  exact ⟨NN.bool, hK⟩
end Go.Bm
