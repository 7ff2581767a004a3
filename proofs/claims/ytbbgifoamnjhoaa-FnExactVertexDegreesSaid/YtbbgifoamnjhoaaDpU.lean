/- Degrees of flags. -/
import Derived.Test.YtbbgifoamnjhoaaDpT
import Derived.Test.YtbbgifoamnjhoaaDp8c
set_option linter.unusedVariables false
set_option linter.unusedSimpArgs false
namespace Go.Bm
open Go Go.Am

theorem memL {zs : List Nat} {i : Nat} (h : i < zs.length) : nl zs i ∈ zs := by simp [nl, List.getD, h]
theorem nn_ZI {l e : Nat} {cs : List Value} {n : Int} : NN (.tuple ⟨[Fz l e cs, I n]⟩) := NN.tuple (NNL.cons NN.fz (NNL.cons NN.int NNL.nil))
theorem nn_NI {n : Int} : NN (.tuple ⟨[.slice none 0 0, I n]⟩) := NN.tuple (NNL.cons NN.nil (NNL.cons NN.int NNL.nil))
/-- The first k halved. -/
def hvK (zs : List Nat) : Nat → List Nat
  | 0 => zs
  | k + 1 => (hvK zs k).set k (nl zs k / 2)
theorem hvK_len {zs : List Nat} {k : Nat} : (hvK zs k).length = zs.length := by
  induction k with
  | zero => rfl
  | succ k ih => simp [hvK, ih]
theorem hvK_nl {zs : List Nat} {k i : Nat} (hi : i < zs.length) : nl (hvK zs k) i = if i < k then nl zs i / 2 else nl zs i := by
  induction k with
  | zero => rfl
  | succ k ih =>
    rw [hvK, nl_set, hvK_len, ih]
    by_cases e : i = k
    · subst e
      rw [if_pos ⟨rfl, hi⟩, if_pos (by omega)]
    · rw [if_neg (fun h => e h.1)]
      by_cases h : i < k
      · rw [if_pos h, if_pos (by omega)]
      · rw [if_neg h, if_neg (by omega)]
theorem hvK_all {zs : List Nat} : hvK zs zs.length = zs.map fun z => z / 2 := by
  apply nl_ext (by rw [hvK_len, List.length_map])
  intro i hi
  rw [hvK_len] at hi
  rw [hvK_nl hi, if_pos hi]
  simp [nl, List.getD, hi]
abbrev resDeg (n : Int) (t l : List Nat) : List Nat := degL (orbK [t, l] n.toNat).2
theorem degrees_run {n : Int} {c t s l : List Nat} (hcc : By 32 c) (ht : By 32 t) (hs : By 32 s) (hl : By 32 l) (hl32 : ∀ i, nl l i < 32) (hd : Fl n c t s) :
    CallX false F_impl_degrees [FV n c t s, PL l] [] fun v H1 => ∃ j, v = .tuple ⟨[S j 0 (resDeg n t l).length 1, I 0]⟩ ∧ blk H1 j = some ((resDeg n t l).map N64) := by
  have hlc := hcc.len
  have hlt := ht.len
  have hls := hs.len
  have hll := hl.len
  have hn := hd.1
  obtain ⟨m, rfl⟩ : ∃ m : Nat, n = m := ⟨n.toNat, by omega⟩
  have ht32 := hd.2.2.2.1.lt hn.2 ht (by omega)
  have htp : ∀ x, x < m → nl t x ≠ x ∧ nl t (nl t x) = x := fun x hx => by
    have := (hd.2.2.2.1 x (by omega)).2 (by omega)
    exact ⟨this.2.1, this.2.2⟩
  have hall32 : ∀ p ∈ [t, l], ∀ i, nl p i < 32 := by simp; exact ⟨ht32, hl32⟩
  rw [show resDeg (m : Int) t l = degL (orbK [t, l] m).2 by rw [resDeg, Int.toNat_natCast]]
  have h16 := orb_16 (show m ≤ 32 by omega) hall32 htp
  have hsz := orbK_sz hall32 (show m ≤ 32 by omega)
  refine CallX_body Γ_impl_degrees ?_
  simp only [A_impl_degrees, T_aiff]
  refine T_rseq fun Kr hKr => ?_
  simp (disch := omega) only [RA, ↓reduceIte, Nat.reduceEqDiff, RD, RFS]
  refine hKr _ _ ?_
  clear hKr Kr
  try simp only [RN, reduceIte]
  try refine T_e rfl ?_
  refine T_rseq fun Kr hKr => ?_
  simp (disch := omega) only [RA, ↓reduceIte, Nat.reduceEqDiff, RD, RFS, RFD]
  refine impl_AreFlags_spec hcc ht hs ?_
  simp (disch := omega) only [RA, ↓reduceIte, Nat.reduceEqDiff, Nat.reduceBEq, Nat.reduceSub, Nat.reduceAdd, Nat.reduceMul, Nat.reduceLT, Nat.reduceLeDiff, Int.reduceLE, Int.reduceLT, Int.reduceEq, Int.reduceNeg, Int.reduceToNat, Int.reduceMul, Int.reduceAdd, Int.reduceSub, Int.reduceBEq, Int.reduceBNe, reduceCtorEq, RD]
  refine hKr _ _ ?_
  clear hKr Kr
  try simp only [blkQ, thenQ, loopQ]
  try simp only [RN, reduceIte]
  try refine T_e rfl ?_
  refine T_cseq (t := false) (by simp (disch := omega) only [RA, ↓reduceIte, Nat.reduceEqDiff, Nat.reduceBEq, Nat.reduceSub, Nat.reduceAdd, Nat.reduceMul, Nat.reduceLT, Nat.reduceLeDiff, Int.reduceLE, Int.reduceLT, Int.reduceEq, Int.reduceNeg, Int.reduceToNat, Int.reduceMul, Int.reduceAdd, Int.reduceSub, Int.reduceBEq, Int.reduceBNe, reduceCtorEq, RD]) ?_
  try simp only [RN, reduceIte]
  try refine T_e rfl ?_
  refine T_rseq fun Kr hKr => ?_
  simp (disch := omega) only [RA, ↓reduceIte, Nat.reduceEqDiff, Nat.reduceBEq, Nat.reduceSub, Nat.reduceAdd, Nat.reduceMul, Nat.reduceLT, Nat.reduceLeDiff, Int.reduceLE, Int.reduceLT, Int.reduceEq, Int.reduceNeg, Int.reduceToNat, Int.reduceMul, Int.reduceAdd, Int.reduceSub, Int.reduceBEq, Int.reduceBNe, reduceCtorEq, RD, RFS, RFD, fill2P32]
  have h64 : 2 * 32 = ([t, l].flatten.map N8).length := by simp [hlt, hll]
  refine callFz 2 rfl (by simp only [RH]) ?_
  simp only [RZ, frz_all h64]
  refine orbits_own (ls := [t, l]) (by omega) (by simp) (by simp [hlt, hll]) hall32 ?_
  obtain ⟨zs, hzs⟩ : ∃ zs, (orbK [t, l] m).2 = zs := ⟨_, rfl⟩
  rw [hzs] at h16 hsz ⊢
  simp (disch := omega) only [RA, ↓reduceIte, Nat.reduceEqDiff, Nat.reduceBEq, Nat.reduceSub, Nat.reduceAdd, Nat.reduceMul, Nat.reduceLT, Nat.reduceLeDiff, Int.reduceLE, Int.reduceLT, Int.reduceEq, Int.reduceNeg, Int.reduceToNat, Int.reduceMul, Int.reduceAdd, Int.reduceSub, Int.reduceBEq, Int.reduceBNe, reduceCtorEq, RD]
  refine hKr _ _ ?_
  clear hKr Kr
  try simp only [blkQ, thenQ, loopQ]
  try simp only [RN, reduceIte]
  try refine T_e rfl ?_
  refine T_rseq fun Kr hKr => ?_
  simp (disch := omega) only [RA, ↓reduceIte, Nat.reduceEqDiff, RD]
  refine hKr _ _ ?_
  clear hKr Kr
  try simp only [RN, reduceIte]
  try refine T_e rfl ?_
  refine T_gh (Gh.nrm [3] rfl rfl (by simp only [RH])) ?_
  refine T_wloop (fun d f H' => ∃ i, i ≤ zs.length ∧ d = zs.length - i ∧ f 6 = S 0 0 zs.length 1 ∧ f 19 = I zs.length ∧ f 20 = I i ∧ H' = [some ((hvK zs i).map N64)]) (zs.length) ?_ ?_
  · refine ⟨_, _, Gh.refl, 0, by omega, by omega, ?_, ?_, ?_, rfl⟩
    any_goals (simp (disch := omega) only [RA, ↓reduceIte, Nat.reduceEqDiff, RD, RE, *] <;> rfl)
  · rintro d f H' R ⟨i, hi, rfl, g6, g19, g20, rfl⟩ hN hX hR hE
    simp only [A_impl_degrees.l0, T_aiff]
    have hhl := @hvK_len zs i
    refine T_rseq fun Kr hKr => ?_
    simp (disch := omega) only [RA, ↓reduceIte, Nat.reduceEqDiff, Nat.reduceAdd, Nat.reduceMul, Int.reduceToNat, Nat.reduceLT, reduceCtorEq, RD, g19, g20]
    refine hKr _ _ ?_
    clear hKr Kr
    try simp only [RN, reduceIte]
    try refine T_e rfl ?_
    refine T_csplit (p := i < zs.length) (by simp only [RA, ↓reduceIte, Nat.reduceEqDiff, Nat.reduceBEq, Nat.reduceSub, Nat.reduceAdd, Nat.reduceMul, Nat.reduceLT, Nat.reduceLeDiff, Int.reduceLE, Int.reduceLT, Int.reduceEq, Int.reduceNeg, Int.reduceToNat, Int.reduceMul, Int.reduceAdd, Int.reduceSub, Int.reduceBEq, Int.reduceBNe, reduceCtorEq] <;> rfl) (by (try simp only [RB]) <;> first | done | exact Iff.rfl | omega | simp) (fun hc => ?_) (fun hc => ?_) <;> (try simp only [RN, reduceIte]) <;> (try refine T_e rfl ?_)
    · have e1 : nl (hvK zs i) i = nl zs i := by rw [hvK_nl hc, if_neg (by omega)]
      have e2 : ((nl zs i : Nat) : Int).tdiv 2 = ((nl zs i / 2 : Nat) : Int) := (Int.ofNat_tdiv _ 2).symm
      have hz := (hsz _ (memL hc)).2
      first | refine T_bfree rfl ?_ | refine T_bfree' rfl ?_
      try simp only [RN, reduceIte]
      try refine T_e rfl ?_
      refine T_rseq fun Kr hKr => ?_
      simp (disch := omega) only [RA, ↓reduceIte, Nat.reduceEqDiff, Nat.reduceBEq, Nat.reduceSub, Nat.reduceAdd, Nat.reduceMul, Nat.reduceLT, Nat.reduceLeDiff, Int.reduceLE, Int.reduceLT, Int.reduceEq, Int.reduceNeg, Int.reduceToNat, Int.reduceMul, Int.reduceAdd, Int.reduceSub, Int.reduceBEq, Int.reduceBNe, reduceCtorEq, RD, g20]
      refine hKr _ _ ?_
      clear hKr Kr
      try simp only [RN, reduceIte]
      try refine T_e rfl ?_
      refine T_rseq fun Kr hKr => ?_
      simp (disch := omega) only [RA, ↓reduceIte, Nat.reduceEqDiff, Nat.reduceBEq, Nat.reduceSub, Nat.reduceAdd, Nat.reduceMul, Nat.reduceLT, Nat.reduceLeDiff, Int.reduceLE, Int.reduceLT, Int.reduceEq, Int.reduceNeg, Int.reduceToNat, Int.reduceMul, Int.reduceAdd, Int.reduceSub, Int.reduceBEq, Int.reduceBNe, reduceCtorEq, RD, g6, getN_64, hhl, e1, e2, st1_64']
      refine hKr _ _ ?_
      clear hKr Kr
      try simp only [RN, reduceIte]
      try refine T_e rfl ?_
      refine T_reg_k fun Kr hKr => ?_
      simp (disch := omega) only [RA, ↓reduceIte, Nat.reduceEqDiff, RD, g20]
      refine hKr _ _ ?_
      clear hKr Kr
      refine hN (zs.length - (i + 1)) _ _ _ _ (by omega) Gh.refl ⟨i + 1, by omega, rfl, ?_, ?_, ?_, rfl⟩
      any_goals (simp (disch := omega) only [RA, ↓reduceIte, Nat.reduceEqDiff, RD, RE, *] <;> rfl)
    · refine hX _ _ ?_
      obtain rfl : i = zs.length := by omega
      rw [hvK_all]
      have hpl : (ofN (zs.map fun z => z / 2)).length = zs.length := by rw [ofN_len, List.length_map]
      have hpm := degL_perm hsz
      have hrl : (degL zs).length = zs.length := by
        have := hpm.length_eq
        rw [ofN_len, hpl] at this
        exact this
      refine T_rseq fun Kr hKr => ?_
      simp (disch := omega) only [RA, ↓reduceIte, Nat.reduceEqDiff, RD, g6]
      refine call1S (i := 0) rfl (by rw [map_N64]; exact NNL.map fun _ => .int) ?_
      have e : ([S 0 0 zs.length 1] : List Value).map (ren [0]) = [S 0 0 (ofN (zs.map fun z => z / 2)).length 1] := by rw [hpl]; simp [ren, ren1, nm]
      rw [e, map_N64]
      refine descending_spec (r := ofN (degL zs)) (by omega) degL_dsc hpm ?_
      refine ⟨0, _, _, rfl, HN.cons (NNL.map fun _ => .int) HN.nil, ?_⟩
      rw [hpl]
      simp (disch := omega) only [RA, ↓reduceIte, Nat.reduceEqDiff, Nat.reduceBEq, Nat.reduceSub, Nat.reduceAdd, Nat.reduceMul, Nat.reduceLT, Nat.reduceLeDiff, Int.reduceLE, Int.reduceLT, Int.reduceEq, Int.reduceNeg, Int.reduceToNat, Int.reduceMul, Int.reduceAdd, Int.reduceSub, Int.reduceBEq, Int.reduceBNe, reduceCtorEq, RD]
      refine hKr _ _ ?_
      clear hKr Kr
      try simp only [blkQ, thenQ, loopQ]
      try simp only [RN, reduceIte]
      try refine T_e rfl ?_
      refine bodyQ_ret (by simp (disch := omega) only [RA, ↓reduceIte, Nat.reduceEqDiff, RD, resAll, resOf]; rfl) GhV.refl ?_
      simp only [tup]
      rw [hzs]
      exact ⟨0, by rw [hrl], by rw [map_N64]; rfl⟩
theorem degrees_own {x : Bool} {n : Int} {c t s l : List Nat} {H : BH} {K : Value → BH → Prop} (hcc : By 32 c) (ht : By 32 t) (hs : By 32 s) (hl : By 32 l) (hl32 : ∀ i, nl l i < 32) (hd : Fl n c t s)
    (hK : K (.tuple ⟨[S H.length 0 (resDeg n t l).length 1, I 0]⟩) (H ++ [some ((resDeg n t l).map N64)])) : CallX x F_impl_degrees [FV n c t s, PL l] H K :=
  callRI (.cons nn_F (.cons (NN.agg (NNL.map fun _ => .int)) .nil)) ((degrees_run hcc ht hs hl hl32 hd).mono fun v H1 ⟨j, h1, h2⟩ => ⟨j, _, _, _, _, _, h1, h2, NNL.map fun _ => .int, hK⟩)
theorem degrees_nil {x : Bool} {n : Int} {c t s l : List Nat} {H : BH} {K : Value → BH → Prop} (hcc : By 32 c) (ht : By 32 t) (hs : By 32 s) (hl : By 32 l) (hd : ¬ Fl n c t s)
    (hK : K (.tuple ⟨[.slice none 0 0, I 1]⟩) H) : CallX x F_impl_degrees [FV n c t s, PL l] H K := by
  have hlc := hcc.len
  have hlt := ht.len
  have hls := hs.len
  refine callP (.cons nn_F (.cons (NN.agg (NNL.map fun _ => .int)) .nil)) ?_
  refine CallX_body Γ_impl_degrees ?_
  simp only [A_impl_degrees, T_aiff]
  refine T_rseq fun Kr hKr => ?_
  simp (disch := omega) only [RA, ↓reduceIte, Nat.reduceEqDiff, RD, RFS]
  refine hKr _ _ ?_
  clear hKr Kr
  try simp only [RN, reduceIte]
  try refine T_e rfl ?_
  refine T_rseq fun Kr hKr => ?_
  simp (disch := omega) only [RA, ↓reduceIte, Nat.reduceEqDiff, RD, RFS, RFD]
  refine impl_AreFlags_spec hcc ht hs ?_
  simp (disch := omega) only [RA, ↓reduceIte, Nat.reduceEqDiff, RD]
  refine hKr _ _ ?_
  clear hKr Kr
  try simp only [blkQ, thenQ, loopQ]
  try simp only [RN, reduceIte]
  try refine T_e rfl ?_
  refine T_cseq (t := true) (by simp (disch := omega) only [RA, ↓reduceIte, Nat.reduceEqDiff, RD]) ?_
  try simp only [RN, reduceIte]
  try refine T_e rfl ?_
  refine T_rseq fun Kr hKr => ?_
  simp (disch := omega) only [RA, ↓reduceIte, Nat.reduceEqDiff, RD]
  refine hKr _ _ ?_
  clear hKr Kr
  try simp only [RN, reduceIte]
  try refine T_e rfl ?_
  refine bodyQ_ret (by simp (disch := omega) only [RA, ↓reduceIte, Nat.reduceEqDiff, RD, resAll, resOf]; rfl) GhV.refl ?_
  simp only [tup]
  exact ⟨NN.tuple (NNL.cons NN.nil (NNL.cons NN.int NNL.nil)), hK⟩
theorem spec_VertexDegrees_nil {x : Bool} {n : Int} {c t s : List Nat} {H : BH} {K : Value → BH → Prop} (hcc : By 32 c) (ht : By 32 t) (hs : By 32 s) (hd : ¬ Fl n c t s)
    (hK : K (.tuple ⟨[.slice none 0 0, I 1]⟩) H) : CallX x F_spec_VertexDegrees [FV n c t s] H K := by
  have hlc := hcc.len
  have hlt := ht.len
  have hls := hs.len
  refine callP (by exact .cons nn_F .nil) ?_
  refine CallX_body Γ_spec_VertexDegrees ?_
  simp only [A_spec_VertexDegrees, T_aiff]
  refine T_rseq fun Kr hKr => ?_
  simp (disch := omega) only [RA, ↓reduceIte, Nat.reduceEqDiff, RD, RFS]
  refine hKr _ _ ?_
  clear hKr Kr
  try simp only [RN, reduceIte]
  try refine T_e rfl ?_
  refine T_rseq fun Kr hKr => ?_
  simp (disch := omega) only [RA, ↓reduceIte, Nat.reduceEqDiff, RD, RFS, RFD]
  refine l07Are_spec hcc ht hs ?_
  simp (disch := omega) only [RA, ↓reduceIte, Nat.reduceEqDiff, RD]
  refine hKr _ _ ?_
  clear hKr Kr
  try simp only [blkQ, thenQ, loopQ]
  try simp only [RN, reduceIte]
  try refine T_e rfl ?_
  refine T_cseq (t := true) (by simp (disch := omega) only [RA, ↓reduceIte, Nat.reduceEqDiff, RD]) ?_
  try simp only [RN, reduceIte]
  try refine T_e rfl ?_
  refine T_rseq fun Kr hKr => ?_
  simp (disch := omega) only [RA, ↓reduceIte, Nat.reduceEqDiff, RD]
  refine hKr _ _ ?_
  clear hKr Kr
  try simp only [RN, reduceIte]
  try refine T_e rfl ?_
  refine bodyQ_ret (by simp (disch := omega) only [RA, ↓reduceIte, Nat.reduceEqDiff, RD, resAll, resOf]; rfl) GhV.refl ?_
  simp only [tup]
  exact ⟨nn_NI, hK⟩
theorem spec_VertexDegrees_spec {x : Bool} {n : Int} {c t s : List Nat} {H : BH} {K : Value → BH → Prop} (hcc : By 32 c) (ht : By 32 t) (hs : By 32 s) (hd : Fl n c t s)
    (hK : K (.tuple ⟨[Fz (resDeg n t s).length 1 ((resDeg n t s).map N64), I 0]⟩) H) : CallX x F_spec_VertexDegrees [FV n c t s] H K := by
  have hlc := hcc.len
  have hlt := ht.len
  have hls := hs.len
  have hn := hd.1
  have hc32 := hd.2.2.1.lt hn.2 hcc (by omega)
  have ht32 := hd.2.2.2.1.lt hn.2 ht (by omega)
  have hs32 := hd.2.2.2.2.1.lt hn.2 hs (by omega)
  obtain ⟨m, rfl⟩ : ∃ m : Nat, n = m := ⟨n.toNat, by omega⟩
  refine callP (by exact .cons nn_F .nil) ?_
  refine CallX_body Γ_spec_VertexDegrees ?_
  simp only [A_spec_VertexDegrees, T_aiff]
  refine T_rseq fun Kr hKr => ?_
  simp (disch := omega) only [RA, ↓reduceIte, Nat.reduceEqDiff, RD, RFS]
  refine hKr _ _ ?_
  clear hKr Kr
  try simp only [RN, reduceIte]
  try refine T_e rfl ?_
  refine T_rseq fun Kr hKr => ?_
  simp (disch := omega) only [RA, ↓reduceIte, Nat.reduceEqDiff, RD, RFS, RFD]
  refine l07Are_spec hcc ht hs ?_
  simp (disch := omega) only [RA, ↓reduceIte, Nat.reduceEqDiff, RD]
  refine hKr _ _ ?_
  clear hKr Kr
  try simp only [blkQ, thenQ, loopQ]
  try simp only [RN, reduceIte]
  try refine T_e rfl ?_
  refine T_cseq (t := false) (by simp (disch := omega) only [RA, ↓reduceIte, Nat.reduceEqDiff, RD]) ?_
  try simp only [RN, reduceIte]
  try refine T_e rfl ?_
  refine T_rseq fun Kr hKr => ?_
  simp (disch := omega) only [RA, ↓reduceIte, Nat.reduceEqDiff, RD, RFS, RFD]
  refine l07Degrees_spec (by omega) hcc ht hs hs ht32 hs32 ?_
  simp (disch := omega) only [RA, ↓reduceIte, Nat.reduceEqDiff, RD]
  refine hKr _ _ ?_
  clear hKr Kr
  try simp only [blkQ, thenQ, loopQ]
  try simp only [RN, reduceIte]
  try refine T_e rfl ?_
  refine bodyQ_ret (by simp (disch := omega) only [RA, ↓reduceIte, Nat.reduceEqDiff, RD, resAll, resOf]; rfl) GhV.refl ?_
  simp only [tup]
  exact ⟨nn_ZI, hK⟩
theorem impl_VertexDegrees_nil {x : Bool} {n : Int} {c t s : List Nat} {H : BH} {K : Value → BH → Prop} (hcc : By 32 c) (ht : By 32 t) (hs : By 32 s) (hd : ¬ Fl n c t s)
    (hK : K (.tuple ⟨[.slice none 0 0, I 1]⟩) H) : CallX x F_impl_VertexDegrees [FV n c t s] H K := by
  have hlc := hcc.len
  have hlt := ht.len
  have hls := hs.len
  refine callP (by exact .cons nn_F .nil) ?_
  refine CallX_body Γ_impl_VertexDegrees ?_
  simp only [A_impl_VertexDegrees, T_aiff]
  refine T_rseq fun Kr hKr => ?_
  simp (disch := omega) only [RA, ↓reduceIte, Nat.reduceEqDiff, RD, RFS]
  refine hKr _ _ ?_
  clear hKr Kr
  try simp only [RN, reduceIte]
  try refine T_e rfl ?_
  refine T_rseq fun Kr hKr => ?_
  simp (disch := omega) only [RA, ↓reduceIte, Nat.reduceEqDiff, RD, RFS, RFD]
  refine degrees_nil hcc ht hs hs hd ?_
  simp (disch := omega) only [RA, ↓reduceIte, Nat.reduceEqDiff, RD]
  refine hKr _ _ ?_
  clear hKr Kr
  try simp only [blkQ, thenQ, loopQ]
  try simp only [RN, reduceIte]
  try refine T_e rfl ?_
  refine bodyQ_ret (by simp (disch := omega) only [RA, ↓reduceIte, Nat.reduceEqDiff, RD, resAll, resOf]; rfl) GhV.refl ?_
  simp only [tup]
  exact ⟨nn_NI, hK⟩
theorem impl_VertexDegrees_run {n : Int} {c t s : List Nat} (hcc : By 32 c) (ht : By 32 t) (hs : By 32 s) (hd : Fl n c t s) :
    CallX false F_impl_VertexDegrees [FV n c t s] [] fun v H1 => ∃ j, v = .tuple ⟨[S j 0 (resDeg n t s).length 1, I 0]⟩ ∧ blk H1 j = some ((resDeg n t s).map N64) := by
  have hlc := hcc.len
  have hlt := ht.len
  have hls := hs.len
  have hn := hd.1
  have hc32 := hd.2.2.1.lt hn.2 hcc (by omega)
  have ht32 := hd.2.2.2.1.lt hn.2 ht (by omega)
  have hs32 := hd.2.2.2.2.1.lt hn.2 hs (by omega)
  obtain ⟨m, rfl⟩ : ∃ m : Nat, n = m := ⟨n.toNat, by omega⟩
  refine CallX_body Γ_impl_VertexDegrees ?_
  simp only [A_impl_VertexDegrees, T_aiff]
  refine T_rseq fun Kr hKr => ?_
  simp (disch := omega) only [RA, ↓reduceIte, Nat.reduceEqDiff, RD, RFS]
  refine hKr _ _ ?_
  clear hKr Kr
  try simp only [RN, reduceIte]
  try refine T_e rfl ?_
  refine T_rseq fun Kr hKr => ?_
  simp (disch := omega) only [RA, ↓reduceIte, Nat.reduceEqDiff, RD, RFS, RFD]
  refine degrees_own hcc ht hs hs hs32 hd ?_
  simp (disch := omega) only [RA, ↓reduceIte, Nat.reduceEqDiff, RD]
  refine hKr _ _ ?_
  clear hKr Kr
  try simp only [blkQ, thenQ, loopQ]
  try simp only [RN, reduceIte]
  try refine T_e rfl ?_
  refine bodyQ_ret (by simp (disch := omega) only [RA, ↓reduceIte, Nat.reduceEqDiff, RD, resAll, resOf]; rfl) GhV.refl ?_
  simp only [tup]
  exact ⟨_, rfl, rfl⟩
theorem impl_VertexDegrees_own {x : Bool} {n : Int} {c t s : List Nat} {H : BH} {K : Value → BH → Prop} (hcc : By 32 c) (ht : By 32 t) (hs : By 32 s) (hd : Fl n c t s)
    (hK : K (.tuple ⟨[S H.length 0 (resDeg n t s).length 1, I 0]⟩) (H ++ [some ((resDeg n t s).map N64)])) : CallX x F_impl_VertexDegrees [FV n c t s] H K :=
  callRI (.cons nn_F .nil) ((impl_VertexDegrees_run hcc ht hs hd).mono fun v H1 ⟨j, h1, h2⟩ => ⟨j, _, _, _, _, _, h1, h2, NNL.map fun _ => .int, hK⟩)
theorem spec_FaceDegrees_nil {x : Bool} {n : Int} {c t s : List Nat} {H : BH} {K : Value → BH → Prop} (hcc : By 32 c) (ht : By 32 t) (hs : By 32 s) (hd : ¬ Fl n c t s)
    (hK : K (.tuple ⟨[.slice none 0 0, I 1]⟩) H) : CallX x F_spec_FaceDegrees [FV n c t s] H K := by
  have hlc := hcc.len
  have hlt := ht.len
  have hls := hs.len
  refine callP (by exact .cons nn_F .nil) ?_
  refine CallX_body Γ_spec_FaceDegrees ?_
  simp only [A_spec_FaceDegrees, T_aiff]
  refine T_rseq fun Kr hKr => ?_
  simp (disch := omega) only [RA, ↓reduceIte, Nat.reduceEqDiff, RD, RFS]
  refine hKr _ _ ?_
  clear hKr Kr
  try simp only [RN, reduceIte]
  try refine T_e rfl ?_
  refine T_rseq fun Kr hKr => ?_
  simp (disch := omega) only [RA, ↓reduceIte, Nat.reduceEqDiff, RD, RFS, RFD]
  refine l07Are_spec hcc ht hs ?_
  simp (disch := omega) only [RA, ↓reduceIte, Nat.reduceEqDiff, RD]
  refine hKr _ _ ?_
  clear hKr Kr
  try simp only [blkQ, thenQ, loopQ]
  try simp only [RN, reduceIte]
  try refine T_e rfl ?_
  refine T_cseq (t := true) (by simp (disch := omega) only [RA, ↓reduceIte, Nat.reduceEqDiff, RD]) ?_
  try simp only [RN, reduceIte]
  try refine T_e rfl ?_
  refine T_rseq fun Kr hKr => ?_
  simp (disch := omega) only [RA, ↓reduceIte, Nat.reduceEqDiff, RD]
  refine hKr _ _ ?_
  clear hKr Kr
  try simp only [RN, reduceIte]
  try refine T_e rfl ?_
  refine bodyQ_ret (by simp (disch := omega) only [RA, ↓reduceIte, Nat.reduceEqDiff, RD, resAll, resOf]; rfl) GhV.refl ?_
  simp only [tup]
  exact ⟨nn_NI, hK⟩
theorem spec_FaceDegrees_spec {x : Bool} {n : Int} {c t s : List Nat} {H : BH} {K : Value → BH → Prop} (hcc : By 32 c) (ht : By 32 t) (hs : By 32 s) (hd : Fl n c t s)
    (hK : K (.tuple ⟨[Fz (resDeg n t c).length 1 ((resDeg n t c).map N64), I 0]⟩) H) : CallX x F_spec_FaceDegrees [FV n c t s] H K := by
  have hlc := hcc.len
  have hlt := ht.len
  have hls := hs.len
  have hn := hd.1
  have hc32 := hd.2.2.1.lt hn.2 hcc (by omega)
  have ht32 := hd.2.2.2.1.lt hn.2 ht (by omega)
  have hs32 := hd.2.2.2.2.1.lt hn.2 hs (by omega)
  obtain ⟨m, rfl⟩ : ∃ m : Nat, n = m := ⟨n.toNat, by omega⟩
  refine callP (by exact .cons nn_F .nil) ?_
  refine CallX_body Γ_spec_FaceDegrees ?_
  simp only [A_spec_FaceDegrees, T_aiff]
  refine T_rseq fun Kr hKr => ?_
  simp (disch := omega) only [RA, ↓reduceIte, Nat.reduceEqDiff, RD, RFS]
  refine hKr _ _ ?_
  clear hKr Kr
  try simp only [RN, reduceIte]
  try refine T_e rfl ?_
  refine T_rseq fun Kr hKr => ?_
  simp (disch := omega) only [RA, ↓reduceIte, Nat.reduceEqDiff, RD, RFS, RFD]
  refine l07Are_spec hcc ht hs ?_
  simp (disch := omega) only [RA, ↓reduceIte, Nat.reduceEqDiff, RD]
  refine hKr _ _ ?_
  clear hKr Kr
  try simp only [blkQ, thenQ, loopQ]
  try simp only [RN, reduceIte]
  try refine T_e rfl ?_
  refine T_cseq (t := false) (by simp (disch := omega) only [RA, ↓reduceIte, Nat.reduceEqDiff, RD]) ?_
  try simp only [RN, reduceIte]
  try refine T_e rfl ?_
  refine T_rseq fun Kr hKr => ?_
  simp (disch := omega) only [RA, ↓reduceIte, Nat.reduceEqDiff, RD, RFS, RFD]
  refine l07Degrees_spec (by omega) hcc ht hs hcc ht32 hc32 ?_
  simp (disch := omega) only [RA, ↓reduceIte, Nat.reduceEqDiff, RD]
  refine hKr _ _ ?_
  clear hKr Kr
  try simp only [blkQ, thenQ, loopQ]
  try simp only [RN, reduceIte]
  try refine T_e rfl ?_
  refine bodyQ_ret (by simp (disch := omega) only [RA, ↓reduceIte, Nat.reduceEqDiff, RD, resAll, resOf]; rfl) GhV.refl ?_
  simp only [tup]
  exact ⟨nn_ZI, hK⟩
theorem impl_FaceDegrees_nil {x : Bool} {n : Int} {c t s : List Nat} {H : BH} {K : Value → BH → Prop} (hcc : By 32 c) (ht : By 32 t) (hs : By 32 s) (hd : ¬ Fl n c t s)
    (hK : K (.tuple ⟨[.slice none 0 0, I 1]⟩) H) : CallX x F_impl_FaceDegrees [FV n c t s] H K := by
  have hlc := hcc.len
  have hlt := ht.len
  have hls := hs.len
  refine callP (by exact .cons nn_F .nil) ?_
  refine CallX_body Γ_impl_FaceDegrees ?_
  simp only [A_impl_FaceDegrees, T_aiff]
  refine T_rseq fun Kr hKr => ?_
  simp (disch := omega) only [RA, ↓reduceIte, Nat.reduceEqDiff, RD, RFS]
  refine hKr _ _ ?_
  clear hKr Kr
  try simp only [RN, reduceIte]
  try refine T_e rfl ?_
  refine T_rseq fun Kr hKr => ?_
  simp (disch := omega) only [RA, ↓reduceIte, Nat.reduceEqDiff, RD, RFS, RFD]
  refine degrees_nil hcc ht hs hcc hd ?_
  simp (disch := omega) only [RA, ↓reduceIte, Nat.reduceEqDiff, RD]
  refine hKr _ _ ?_
  clear hKr Kr
  try simp only [blkQ, thenQ, loopQ]
  try simp only [RN, reduceIte]
  try refine T_e rfl ?_
  refine bodyQ_ret (by simp (disch := omega) only [RA, ↓reduceIte, Nat.reduceEqDiff, RD, resAll, resOf]; rfl) GhV.refl ?_
  simp only [tup]
  exact ⟨nn_NI, hK⟩
theorem impl_FaceDegrees_run {n : Int} {c t s : List Nat} (hcc : By 32 c) (ht : By 32 t) (hs : By 32 s) (hd : Fl n c t s) :
    CallX false F_impl_FaceDegrees [FV n c t s] [] fun v H1 => ∃ j, v = .tuple ⟨[S j 0 (resDeg n t c).length 1, I 0]⟩ ∧ blk H1 j = some ((resDeg n t c).map N64) := by
  have hlc := hcc.len
  have hlt := ht.len
  have hls := hs.len
  have hn := hd.1
  have hc32 := hd.2.2.1.lt hn.2 hcc (by omega)
  have ht32 := hd.2.2.2.1.lt hn.2 ht (by omega)
  have hs32 := hd.2.2.2.2.1.lt hn.2 hs (by omega)
  obtain ⟨m, rfl⟩ : ∃ m : Nat, n = m := ⟨n.toNat, by omega⟩
  refine CallX_body Γ_impl_FaceDegrees ?_
  simp only [A_impl_FaceDegrees, T_aiff]
  refine T_rseq fun Kr hKr => ?_
  simp (disch := omega) only [RA, ↓reduceIte, Nat.reduceEqDiff, RD, RFS]
  refine hKr _ _ ?_
  clear hKr Kr
  try simp only [RN, reduceIte]
  try refine T_e rfl ?_
  refine T_rseq fun Kr hKr => ?_
  simp (disch := omega) only [RA, ↓reduceIte, Nat.reduceEqDiff, RD, RFS, RFD]
  refine degrees_own hcc ht hs hcc hc32 hd ?_
  simp (disch := omega) only [RA, ↓reduceIte, Nat.reduceEqDiff, RD]
  refine hKr _ _ ?_
  clear hKr Kr
  try simp only [blkQ, thenQ, loopQ]
  try simp only [RN, reduceIte]
  try refine T_e rfl ?_
  refine bodyQ_ret (by simp (disch := omega) only [RA, ↓reduceIte, Nat.reduceEqDiff, RD, resAll, resOf]; rfl) GhV.refl ?_
  simp only [tup]
  exact ⟨_, rfl, rfl⟩
theorem impl_FaceDegrees_own {x : Bool} {n : Int} {c t s : List Nat} {H : BH} {K : Value → BH → Prop} (hcc : By 32 c) (ht : By 32 t) (hs : By 32 s) (hd : Fl n c t s)
    (hK : K (.tuple ⟨[S H.length 0 (resDeg n t c).length 1, I 0]⟩) (H ++ [some ((resDeg n t c).map N64)])) : CallX x F_impl_FaceDegrees [FV n c t s] H K :=
  callRI (.cons nn_F .nil) ((impl_FaceDegrees_run hcc ht hs hd).mono fun v H1 ⟨j, h1, h2⟩ => ⟨j, _, _, _, _, _, h1, h2, NNL.map fun _ => .int, hK⟩)
theorem spec_ZigzagDegrees_nil {x : Bool} {n : Int} {c t s : List Nat} {H : BH} {K : Value → BH → Prop} (hcc : By 32 c) (ht : By 32 t) (hs : By 32 s) (hd : ¬ Fl n c t s)
    (hK : K (.tuple ⟨[.slice none 0 0, I 1]⟩) H) : CallX x F_spec_ZigzagDegrees [FV n c t s] H K := by
  have hlc := hcc.len
  have hlt := ht.len
  have hls := hs.len
  refine callP (by exact .cons nn_F .nil) ?_
  refine CallX_body Γ_spec_ZigzagDegrees ?_
  simp only [A_spec_ZigzagDegrees, T_aiff]
  refine T_rseq fun Kr hKr => ?_
  simp (disch := omega) only [RA, ↓reduceIte, Nat.reduceEqDiff, RD, RFS]
  refine hKr _ _ ?_
  clear hKr Kr
  try simp only [RN, reduceIte]
  try refine T_e rfl ?_
  refine T_rseq fun Kr hKr => ?_
  simp (disch := omega) only [RA, ↓reduceIte, Nat.reduceEqDiff, RD, RFS, RFD]
  refine l07Are_spec hcc ht hs ?_
  simp (disch := omega) only [RA, ↓reduceIte, Nat.reduceEqDiff, RD]
  refine hKr _ _ ?_
  clear hKr Kr
  try simp only [blkQ, thenQ, loopQ]
  try simp only [RN, reduceIte]
  try refine T_e rfl ?_
  refine T_cseq (t := true) (by simp (disch := omega) only [RA, ↓reduceIte, Nat.reduceEqDiff, RD]) ?_
  try simp only [RN, reduceIte]
  try refine T_e rfl ?_
  refine T_rseq fun Kr hKr => ?_
  simp (disch := omega) only [RA, ↓reduceIte, Nat.reduceEqDiff, RD]
  refine hKr _ _ ?_
  clear hKr Kr
  try simp only [RN, reduceIte]
  try refine T_e rfl ?_
  refine bodyQ_ret (by simp (disch := omega) only [RA, ↓reduceIte, Nat.reduceEqDiff, RD, resAll, resOf]; rfl) GhV.refl ?_
  simp only [tup]
  exact ⟨nn_NI, hK⟩
theorem spec_ZigzagDegrees_spec {x : Bool} {n : Int} {c t s : List Nat} {H : BH} {K : Value → BH → Prop} (hcc : By 32 c) (ht : By 32 t) (hs : By 32 s) (hd : Fl n c t s)
    (hK : K (.tuple ⟨[Fz (resDeg n t (bothK c s n.toNat)).length 1 ((resDeg n t (bothK c s n.toNat)).map N64), I 0]⟩) H) : CallX x F_spec_ZigzagDegrees [FV n c t s] H K := by
  have hlc := hcc.len
  have hlt := ht.len
  have hls := hs.len
  have hn := hd.1
  have hc32 := hd.2.2.1.lt hn.2 hcc (by omega)
  have ht32 := hd.2.2.2.1.lt hn.2 ht (by omega)
  have hs32 := hd.2.2.2.2.1.lt hn.2 hs (by omega)
  obtain ⟨m, rfl⟩ : ∃ m : Nat, n = m := ⟨n.toNat, by omega⟩
  rw [Int.toNat_natCast] at *
  have hz := bothK_by (p := c) (q := s) hs (show m ≤ 32 by omega)
  have hzl := hz.len
  have hz32 : ∀ i, nl (bothK c s m) i < 32 := fun i => by
    rw [bothK_nl (by omega)]
    split
    · exact hs32 _
    · omega
  refine callP (by exact .cons nn_F .nil) ?_
  refine CallX_body Γ_spec_ZigzagDegrees ?_
  simp only [A_spec_ZigzagDegrees, T_aiff]
  refine T_rseq fun Kr hKr => ?_
  simp (disch := omega) only [RA, ↓reduceIte, Nat.reduceEqDiff, RD, RFS]
  refine hKr _ _ ?_
  clear hKr Kr
  try simp only [RN, reduceIte]
  try refine T_e rfl ?_
  refine T_rseq fun Kr hKr => ?_
  simp (disch := omega) only [RA, ↓reduceIte, Nat.reduceEqDiff, RD, RFS, RFD]
  refine l07Are_spec hcc ht hs ?_
  simp (disch := omega) only [RA, ↓reduceIte, Nat.reduceEqDiff, RD]
  refine hKr _ _ ?_
  clear hKr Kr
  try simp only [blkQ, thenQ, loopQ]
  try simp only [RN, reduceIte]
  try refine T_e rfl ?_
  refine T_cseq (t := false) (by simp (disch := omega) only [RA, ↓reduceIte, Nat.reduceEqDiff, RD]) ?_
  try simp only [RN, reduceIte]
  try refine T_e rfl ?_
  refine T_rseq fun Kr hKr => ?_
  simp (disch := omega) only [RA, ↓reduceIte, Nat.reduceEqDiff, RD, RFS, RFD]
  refine l07Both_spec hcc hs (by omega) (fun i _ => hc32 i) ?_
  simp (disch := omega) only [RA, ↓reduceIte, Nat.reduceEqDiff, RD]
  refine l07Degrees_spec (by omega) hcc ht hs hz ht32 hz32 ?_
  simp (disch := omega) only [RA, ↓reduceIte, Nat.reduceEqDiff, RD]
  refine hKr _ _ ?_
  clear hKr Kr
  try simp only [blkQ, thenQ, loopQ]
  try simp only [RN, reduceIte]
  try refine T_e rfl ?_
  refine bodyQ_ret (by simp (disch := omega) only [RA, ↓reduceIte, Nat.reduceEqDiff, RD, resAll, resOf]; rfl) GhV.refl ?_
  simp only [tup]
  exact ⟨nn_ZI, hK⟩
theorem impl_ZigzagDegrees_nil {x : Bool} {n : Int} {c t s : List Nat} {H : BH} {K : Value → BH → Prop} (hcc : By 32 c) (ht : By 32 t) (hs : By 32 s) (hd : ¬ Fl n c t s)
    (hK : K (.tuple ⟨[.slice none 0 0, I 1]⟩) H) : CallX x F_impl_ZigzagDegrees [FV n c t s] H K := by
  have hlc := hcc.len
  have hlt := ht.len
  have hls := hs.len
  refine callP (by exact .cons nn_F .nil) ?_
  refine CallX_body Γ_impl_ZigzagDegrees ?_
  simp only [A_impl_ZigzagDegrees, T_aiff]
  refine T_rseq fun Kr hKr => ?_
  simp (disch := omega) only [RA, ↓reduceIte, Nat.reduceEqDiff, RD, RFS]
  refine hKr _ _ ?_
  clear hKr Kr
  try simp only [RN, reduceIte]
  try refine T_e rfl ?_
  refine T_rseq fun Kr hKr => ?_
  simp (disch := omega) only [RA, ↓reduceIte, Nat.reduceEqDiff, RD, RFS, RFD]
  refine impl_AreFlags_spec hcc ht hs ?_
  simp (disch := omega) only [RA, ↓reduceIte, Nat.reduceEqDiff, RD]
  refine hKr _ _ ?_
  clear hKr Kr
  try simp only [blkQ, thenQ, loopQ]
  try simp only [RN, reduceIte]
  try refine T_e rfl ?_
  refine T_cseq (t := true) (by simp (disch := omega) only [RA, ↓reduceIte, Nat.reduceEqDiff, RD]) ?_
  try simp only [RN, reduceIte]
  try refine T_e rfl ?_
  refine T_rseq fun Kr hKr => ?_
  simp (disch := omega) only [RA, ↓reduceIte, Nat.reduceEqDiff, RD]
  refine hKr _ _ ?_
  clear hKr Kr
  try simp only [RN, reduceIte]
  try refine T_e rfl ?_
  refine bodyQ_ret (by simp (disch := omega) only [RA, ↓reduceIte, Nat.reduceEqDiff, RD, resAll, resOf]; rfl) GhV.refl ?_
  simp only [tup]
  exact ⟨nn_NI, hK⟩
theorem impl_ZigzagDegrees_run {n : Int} {c t s : List Nat} (hcc : By 32 c) (ht : By 32 t) (hs : By 32 s) (hd : Fl n c t s) :
    CallX false F_impl_ZigzagDegrees [FV n c t s] [] fun v H1 => ∃ j, v = .tuple ⟨[S j 0 (resDeg n t (bothK c s n.toNat)).length 1, I 0]⟩ ∧ blk H1 j = some ((resDeg n t (bothK c s n.toNat)).map N64) := by
  have hlc := hcc.len
  have hlt := ht.len
  have hls := hs.len
  have hn := hd.1
  have hc32 := hd.2.2.1.lt hn.2 hcc (by omega)
  have ht32 := hd.2.2.2.1.lt hn.2 ht (by omega)
  have hs32 := hd.2.2.2.2.1.lt hn.2 hs (by omega)
  obtain ⟨m, rfl⟩ : ∃ m : Nat, n = m := ⟨n.toNat, by omega⟩
  rw [Int.toNat_natCast] at *
  have hz := bothK_by (p := c) (q := s) hs (show m ≤ 32 by omega)
  have hzl := hz.len
  have hz32 : ∀ i, nl (bothK c s m) i < 32 := fun i => by
    rw [bothK_nl (by omega)]
    split
    · exact hs32 _
    · omega
  refine CallX_body Γ_impl_ZigzagDegrees ?_
  simp only [A_impl_ZigzagDegrees, T_aiff]
  refine T_rseq fun Kr hKr => ?_
  simp (disch := omega) only [RA, ↓reduceIte, Nat.reduceEqDiff, RD, RFS]
  refine hKr _ _ ?_
  clear hKr Kr
  try simp only [RN, reduceIte]
  try refine T_e rfl ?_
  refine T_rseq fun Kr hKr => ?_
  simp (disch := omega) only [RA, ↓reduceIte, Nat.reduceEqDiff, RD, RFS, RFD]
  refine impl_AreFlags_spec hcc ht hs ?_
  simp (disch := omega) only [RA, ↓reduceIte, Nat.reduceEqDiff, RD]
  refine hKr _ _ ?_
  clear hKr Kr
  try simp only [blkQ, thenQ, loopQ]
  try simp only [RN, reduceIte]
  try refine T_e rfl ?_
  refine T_cseq (t := false) (by simp (disch := omega) only [RA, ↓reduceIte, Nat.reduceEqDiff, RD]) ?_
  try simp only [RN, reduceIte]
  try refine T_e rfl ?_
  refine T_rseq fun Kr hKr => ?_
  simp (disch := omega) only [RA, ↓reduceIte, Nat.reduceEqDiff, RD, RFS, RFD]
  refine both_spec hcc ht hs hd ?_
  simp (disch := omega) only [RA, ↓reduceIte, Nat.reduceEqDiff, RD, RFS, RFD]
  refine degrees_own hcc ht hs hz hz32 hd ?_
  simp (disch := omega) only [RA, ↓reduceIte, Nat.reduceEqDiff, RD]
  refine hKr _ _ ?_
  clear hKr Kr
  try simp only [blkQ, thenQ, loopQ]
  try simp only [RN, reduceIte]
  try refine T_e rfl ?_
  refine bodyQ_ret (by simp (disch := omega) only [RA, ↓reduceIte, Nat.reduceEqDiff, RD, resAll, resOf]; rfl) GhV.refl ?_
  simp only [tup]
  exact ⟨_, rfl, rfl⟩
theorem impl_ZigzagDegrees_own {x : Bool} {n : Int} {c t s : List Nat} {H : BH} {K : Value → BH → Prop} (hcc : By 32 c) (ht : By 32 t) (hs : By 32 s) (hd : Fl n c t s)
    (hK : K (.tuple ⟨[S H.length 0 (resDeg n t (bothK c s n.toNat)).length 1, I 0]⟩) (H ++ [some ((resDeg n t (bothK c s n.toNat)).map N64)])) : CallX x F_impl_ZigzagDegrees [FV n c t s] H K :=
  callRI (.cons nn_F .nil) ((impl_ZigzagDegrees_run hcc ht hs hd).mono fun v H1 ⟨j, h1, h2⟩ => ⟨j, _, _, _, _, _, h1, h2, NNL.map fun _ => .int, hK⟩)
theorem Fl.c32 {n : Int} {c t s : List Nat} (hc : By 32 c) (hd : Fl n c t s) (i : Nat) : nl c i < 32 := hd.2.2.1.lt hd.1.2 hc (by have := hd.1; omega) i
theorem Fl.t32 {n : Int} {c t s : List Nat} (ht : By 32 t) (hd : Fl n c t s) (i : Nat) : nl t i < 32 := hd.2.2.2.1.lt hd.1.2 ht (by have := hd.1; omega) i
theorem Fl.s32 {n : Int} {c t s : List Nat} (hs : By 32 s) (hd : Fl n c t s) (i : Nat) : nl s i < 32 := hd.2.2.2.2.1.lt hd.1.2 hs (by have := hd.1; omega) i
theorem Fl.z32 {n : Int} {c t s : List Nat} (hc : By 32 c) (hs : By 32 s) (hd : Fl n c t s) (i : Nat) : nl (bothK c s n.toNat) i < 32 := by
  rw [bothK_nl (by have := hd.1; omega)]
  split
  · exact Fl.s32 hs hd _
  · omega
theorem resDeg_len {n : Int} {c t s l : List Nat} (hc : By 32 c) (ht : By 32 t) (hs : By 32 s) (hd : Fl n c t s) (hl : ∀ i, nl l i < 32) : (resDeg n t l).length ≤ 32 := by
  have hn := hd.1
  have ht32 := Fl.t32 ht hd
  have hall32 : ∀ p ∈ [t, l], ∀ i, nl p i < 32 := by simp; exact ⟨ht32, hl⟩
  rw [resDeg, degL_len (orbK_sz hall32 (by omega))]
  have := (orbK_ok hall32 (show n.toNat ≤ 32 by omega)).2
  omega
end Go.Bm
