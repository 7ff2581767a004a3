/- Corner, then Side. -/
import Derived.Test.YtbbgifoamnjhoaaDp8
set_option linter.unusedVariables false
set_option linter.unusedSimpArgs false
namespace Go.Bm
open Go Go.Am

theorem both_spec {x : Bool} {n : Nat} {c t s : List Nat} {H : BH} {K : Value → BH → Prop} (hcc : By 32 c) (ht : By 32 t) (hs : By 32 s) (hd : Fl n c t s) (hK : K (PL (bothK c s n)) H) : CallX x F_impl_both [FV n c t s] H K := by
  have hlc := hcc.len
  have hlt := ht.len
  have hls := hs.len
  have hz := z32_len
  have hn : n ≤ 32 := by have := hd.1.2; omega
  have hc32 := fun i => hd.2.2.1.lt (by omega) hcc (by omega) i
  refine callP (by exact .cons nn_F .nil) ?_
  refine CallX_body Γ_impl_both ?_
  simp only [A_impl_both, T_aiff]
  refine T_rseq fun Kr hKr => ?_
  simp (disch := omega) only [RA, ↓reduceIte, Nat.reduceEqDiff, RD, RFS]
  refine hKr _ _ ?_
  clear hKr Kr
  try simp only [RN, reduceIte]
  try refine T_e rfl ?_
  refine T_rseq fun Kr hKr => ?_
  simp (disch := omega) only [RA, ↓reduceIte, Nat.reduceEqDiff, RD]
  refine hKr _ _ ?_
  clear hKr Kr
  try simp only [RN, reduceIte]
  try refine T_e rfl ?_
  refine T_rseq fun Kr hKr => ?_
  simp (disch := omega) only [RA, ↓reduceIte, Nat.reduceEqDiff, RD, RFS, RFD]
  refine hKr _ _ ?_
  clear hKr Kr
  try simp only [RN, reduceIte]
  try refine T_e rfl ?_
  refine T_wloop (fun m f H' => ∃ k, k ≤ n ∧ m = n - k ∧ f 1 = P 0 0 ∧ f 2 = P 1 0 ∧ f 3 = P 2 0 ∧ f 7 = I n ∧ f 8 = I k ∧ H' = [some (FC n c t s), some (List.replicate 32 (.int .u8 0)), some ((bothK c s k).map N8)]) (n) ?_ ?_
  · refine ⟨_, _, Gh.refl, 0, by omega, by omega, ?_, ?_, ?_, ?_, ?_, by simp [RA, ↓reduceIte, Nat.reduceEqDiff, bothK]⟩
    any_goals (simp (disch := omega) only [RA, ↓reduceIte, Nat.reduceEqDiff, RD, RE, *] <;> rfl)
  · rintro m f H' R ⟨k, hk, rfl, h1, h2, h3, h7, h8, rfl⟩ hN hX hR hE
    simp only [A_impl_both.l0, T_aiff]
    refine T_rseq fun Kr hKr => ?_
    simp (disch := omega) only [RA, ↓reduceIte, Nat.reduceEqDiff, RD, h7, h8]
    refine hKr _ _ ?_
    clear hKr Kr
    try simp only [RN, reduceIte]
    try refine T_e rfl ?_
    refine T_csplit (p := k < n) (by simp only [RA, ↓reduceIte, Nat.reduceEqDiff] <;> rfl) (by (try simp only [RB]) <;> first | done | exact Iff.rfl | omega | simp) (fun hc => ?_) (fun hc => ?_) <;> (try simp only [RN, reduceIte]) <;> (try refine T_e rfl ?_)
    · have hlk := @bothK_len c s k
      have hpk := hc32 k
      first | refine T_bfree rfl ?_ | refine T_bfree' rfl ?_
      try simp only [RN, reduceIte]
      try refine T_e rfl ?_
      refine T_rseq fun Kr hKr => ?_
      simp (disch := omega) only [RA, ↓reduceIte, Nat.reduceEqDiff, RD, h8]
      refine hKr _ _ ?_
      clear hKr Kr
      try simp only [RN, reduceIte]
      try refine T_e rfl ?_
      refine T_rseq fun Kr hKr => ?_
      simp (disch := omega) only [RA, ↓reduceIte, Nat.reduceEqDiff, RD, h1, h3, h8, RFS, RFD]
      refine hKr _ _ ?_
      clear hKr Kr
      try simp only [RN, reduceIte]
      try refine T_e rfl ?_
      refine T_reg_k fun Kr hKr => ?_
      simp (disch := omega) only [RA, ↓reduceIte, Nat.reduceEqDiff, RD, h8]
      refine hKr _ _ ?_
      clear hKr Kr
      refine hN (n - (k + 1)) _ _ _ _ (by omega) Gh.refl ⟨k + 1, by omega, rfl, ?_, ?_, ?_, ?_, ?_, rfl⟩
      any_goals (simp (disch := omega) only [RA, ↓reduceIte, Nat.reduceEqDiff, RD, RE, *] <;> rfl)
    · refine hX _ _ ?_
      obtain rfl : k = n := by omega
      have hlk := @bothK_len c s k
      refine T_rseq fun Kr hKr => ?_
      simp (disch := omega) only [RA, ↓reduceIte, Nat.reduceEqDiff, RD, h2, h3, hlk]
      refine hKr _ _ ?_
      clear hKr Kr
      try simp only [RN, reduceIte]
      try refine T_e rfl ?_
      refine bodyQ_ret (by simp (disch := omega) only [RA, ↓reduceIte, Nat.reduceEqDiff, RD, resAll, resOf, h2, hlk]; rfl) GhV.refl ?_
      simp only [tup]
      exact ⟨NN_agg (by (simp only [RH])), hK⟩
end Go.Bm
