/- Degrees of flags, the reference's. -/
import Derived.Test.YtbbgifoamnjhoaaDp8
set_option linter.unusedVariables false
set_option linter.unusedSimpArgs false
namespace Go.Bm
open Go Go.Am

/-- How many there are of each number, at the first i. -/
def cntK (zs : List Nat) : Nat → List Nat
  | 0 => List.replicate 33 0
  | i + 1 => (cntK zs i).set (nl zs i) (nl (cntK zs i) (nl zs i) + 1)
theorem cntK_len {zs : List Nat} {i : Nat} : (cntK zs i).length = 33 := by
  induction i with
  | zero => simp [cntK]
  | succ i ih => simp [cntK, ih]
theorem take_succ_nl {zs : List Nat} {i : Nat} (h : i < zs.length) : zs.take (i + 1) = zs.take i ++ [nl zs i] := by
  rw [List.take_add_one]
  simp [nl, List.getD, h]
theorem cntK_nl {zs : List Nat} {i v : Nat} (hi : i ≤ zs.length) (hv : v < 33) : nl (cntK zs i) v = (zs.take i).count v := by
  induction i with
  | zero => simp only [cntK, nl_rep]; split <;> simp
  | succ i ih =>
    rw [take_succ_nl (by omega), List.count_append, cntK, nl_set, ih (by omega)]
    by_cases h : v = nl zs i
    · subst h
      rw [if_pos ⟨rfl, by rw [cntK_len]; exact hv⟩, ih (by omega)]
      simp
    · rw [if_neg (fun e => h e.1)]
      have : ([nl zs i] : List Nat).count v = 0 := by
        rw [List.count_cons, List.count_nil]
        simp [show (nl zs i == v) = false by simpa using fun e => h e.symm]
      omega
/-- Of the numbers 32, 31, .. the halves, as often as they come. -/
def degK (cn : List Nat) : Nat → List Nat
  | 0 => []
  | k + 1 => degK cn k ++ List.replicate (nl cn (32 - k)) ((32 - k) / 2)
def sumK (cn : List Nat) : Nat → Nat
  | 0 => 0
  | k + 1 => sumK cn k + nl cn (32 - k)
theorem degK_len {cn : List Nat} {k : Nat} : (degK cn k).length = sumK cn k := by
  induction k with
  | zero => rfl
  | succ k ih => simp [degK, sumK, ih]
def degL (zs : List Nat) : List Nat := degK (cntK zs zs.length) 32
theorem sumK_count : ∀ (zs : List Nat) (k : Nat), k ≤ 32 → (∀ v, v < 33 → nl (cntK zs zs.length) v = zs.count v) → sumK (cntK zs zs.length) k = zs.countP fun z => decide (32 - k < z ∧ z ≤ 32) := by
  intro zs k hk hc
  induction k with
  | zero =>
    rw [List.countP_eq_zero.2 (by intro a _; simp)]
    rfl
  | succ k ih =>
    rw [sumK, ih (by omega), hc _ (by omega)]
    clear ih hc
    induction zs with
    | nil => rfl
    | cons z zs ih =>
      simp only [List.countP_cons, List.count_cons, beq_iff_eq, decide_eq_true_eq]
      rw [← ih]
      by_cases h1 : z = 32 - k
      · rw [if_neg (by omega), if_pos h1, if_pos (by omega)]
        omega
      · by_cases h2 : 32 - k < z ∧ z ≤ 32
        · rw [if_pos h2, if_neg h1, if_pos (by omega)]
          omega
        · rw [if_neg h2, if_neg h1, if_neg (by omega)]
          omega
theorem degL_len {zs : List Nat} (h : ∀ z ∈ zs, 1 ≤ z ∧ z ≤ 32) : (degL zs).length = zs.length := by
  rw [degL, degK_len, sumK_count zs 32 (Nat.le_refl _) (fun v hv => by rw [cntK_nl (Nat.le_refl _) hv, List.take_length])]
  rw [List.countP_eq_length.2]
  intro a ha
  have := h a ha
  simp
  omega
theorem degK_32 {zs : List Nat} (h : ∀ z ∈ zs, 1 ≤ z ∧ z ≤ 32) (hz : zs.length ≤ 32) {k : Nat} (hk : k ≤ 32) : (degK (cntK zs zs.length) k).length ≤ 32 := by
  rw [degK_len, sumK_count zs k hk (fun v hv => by rw [cntK_nl (Nat.le_refl _) hv, List.take_length])]
  have := List.countP_le_length (p := fun z => decide (32 - k < z ∧ z ≤ 32)) (l := zs)
  omega
theorem orbK_sz {ls : List (List Nat)} (hl : ∀ p ∈ ls, ∀ i, nl p i < 32) : ∀ {k : Nat}, k ≤ 32 → ∀ z ∈ (orbK ls k).2, 1 ≤ z ∧ z ≤ 32
  | 0, _, z, hz => by simp [orbK] at hz
  | k + 1, h, z, hz => by
    have ih := orbK_sz hl (k := k) (by omega)
    obtain ⟨h1, h2⟩ := orbK_ok hl (k := k) (by omega)
    simp only [orbK] at hz
    split at hz
    · exact ih z hz
    · rename_i hb
      have hB := (Bi.stX h1 (show k < 32 by omega) (by simpa using hb)).bfs hl 32
      obtain ⟨q, hq⟩ := @bfs_pre ls (stX (orbK ls k).1 k) 32
      rcases List.mem_append.1 hz with hz | hz
      · exact ih z hz
      · rw [List.mem_singleton] at hz
        have h3 := hB.le
        have h4 : 1 ≤ (bfs ls (stX (orbK ls k).1 k) 32).2.length := by rw [hq]; simp [stX]
        omega
theorem st1_64' {H : BH} {b o : Nat} {s : List Nat} {c : Nat} (h : o < s.length) : stO (some (s.map N64)) H b o 1 (.int .i64 (c : Int)) = some (undef, H.set b (some ((s.set o c).map N64))) := by
  rw [stO_int (by simpa using h)]
  rw [splice_1 (g := N64) h]
theorem st33_0 {H : BH} {b : Nat} : stO (some (List.replicate 33 (.int .i64 0))) H b 0 33 (aggL (List.replicate 33 (.int .i64 0))) = some (undef, H.set b (some ((List.replicate 33 0).map N64))) := by
  rw [st_ri]; rfl
theorem l07Degrees_spec {x : Bool} {n : Nat} {c t s l : List Nat} {H : BH} {K : Value → BH → Prop} (hn : n ≤ 32) (hc : By 32 c) (ht : By 32 t) (hs : By 32 s) (hl : By 32 l) (ht32 : ∀ i, nl t i < 32) (hl32 : ∀ i, nl l i < 32)
    (hK : K (Fz (degL (orbK [t, l] n).2).length 1 ((degL (orbK [t, l] n).2).map N64)) H) : CallX x F_spec_l07Degrees [FV n c t s, PL l] H K := by
  have hlc := hc.len
  have hlt := ht.len
  have hls := hs.len
  have hll := hl.len
  have hall32 : ∀ p ∈ [t, l], ∀ i, nl p i < 32 := by simp; exact ⟨ht32, hl32⟩
  refine callP (by exact .cons nn_F (.cons (NN.agg (NNL.map fun _ => .int)) .nil)) ?_
  refine CallX_body Γ_spec_l07Degrees ?_
  simp only [A_spec_l07Degrees, T_aiff]
  refine T_rseq fun Kr hKr => ?_
  simp (disch := omega) only [RA, ↓reduceIte, Nat.reduceEqDiff, Nat.reduceBEq, Nat.reduceSub, Nat.reduceAdd, Nat.reduceMul, Nat.reduceLT, Nat.reduceLeDiff, Int.reduceLE, Int.reduceLT, Int.reduceEq, Int.reduceNeg, Int.reduceToNat, Int.reduceMul, Int.reduceAdd, Int.reduceSub, Int.reduceBEq, Int.reduceBNe, reduceCtorEq, RD, RFS]
  refine hKr _ _ ?_
  clear hKr Kr
  try simp only [RN, reduceIte]
  try refine T_e rfl ?_
  refine T_rseq fun Kr hKr => ?_
  simp (disch := omega) only [RA, ↓reduceIte, Nat.reduceEqDiff, Nat.reduceBEq, Nat.reduceSub, Nat.reduceAdd, Nat.reduceMul, Nat.reduceLT, Nat.reduceLeDiff, Int.reduceLE, Int.reduceLT, Int.reduceEq, Int.reduceNeg, Int.reduceToNat, Int.reduceMul, Int.reduceAdd, Int.reduceSub, Int.reduceBEq, Int.reduceBNe, reduceCtorEq, RD, RFS, RFD, fill2P32]
  have h64 : 2 * 32 = ([t, l].flatten.map N8).length := by simp [hlt, hll]
  refine callFz 2 rfl (by simp only [RH]) ?_
  simp only [RZ, frz_all h64]
  refine l07Sets_spec (ls := [t, l]) hn (by simp) (by simp [hlt, hll]) hall32 ?_
  have hzs := orbK_sz hall32 hn
  have hzl := (orbK_ok hall32 hn).2
  generalize (orbK [t, l] n).2 = zs at hK hzs hzl
  simp (disch := omega) only [RA, ↓reduceIte, Nat.reduceEqDiff, Nat.reduceBEq, Nat.reduceSub, Nat.reduceAdd, Nat.reduceMul, Nat.reduceLT, Nat.reduceLeDiff, Int.reduceLE, Int.reduceLT, Int.reduceEq, Int.reduceNeg, Int.reduceToNat, Int.reduceMul, Int.reduceAdd, Int.reduceSub, Int.reduceBEq, Int.reduceBNe, reduceCtorEq, RD, st33_0]
  refine hKr _ _ ?_
  clear hKr Kr
  try simp only [blkQ, thenQ, loopQ]
  try simp only [RN, reduceIte]
  try refine T_e rfl ?_
  have hz33 : ∀ i, i < zs.length → nl zs i < 33 ∧ 1 ≤ nl zs i := fun i hi => by
    have : nl zs i ∈ zs := by simp [nl, List.getD, hi]
    have := hzs _ this
    omega
  refine T_rseq fun Kr hKr => ?_
  simp (disch := omega) only [RA, ↓reduceIte, Nat.reduceEqDiff, RD]
  refine hKr _ _ ?_
  clear hKr Kr
  try simp only [RN, reduceIte]
  try refine T_e rfl ?_
  refine T_gh (Gh.nrm [3, 4] rfl rfl (by simp only [RH])) ?_
  refine T_wloop (fun m f H' => ∃ i cn, i ≤ zs.length ∧ m = zs.length - i ∧ cn = cntK zs i ∧ f 5 = Fz zs.length 1 (zs.map N64) ∧ f 6 = P 1 0 ∧ f 7 = S 0 0 0 1 ∧ f 8 = I i ∧ H' = [some (([] : List Nat).map N64), some (cn.map N64)]) (zs.length) ?_ ?_
  · refine ⟨_, _, Gh.refl, 0, List.replicate 33 0, by omega, by omega, rfl, ?_, ?_, ?_, ?_, rfl⟩
    any_goals (simp (disch := omega) only [RA, ↓reduceIte, Nat.reduceEqDiff, RD, RE, *] <;> rfl)
  · rintro m f H' R ⟨i, cn, hi, rfl, hcn, g5, g6, g7, g8, rfl⟩ hN hX hR hE
    simp only [A_spec_l07Degrees.l0, T_aiff]
    have hcl : cn.length = 33 := by rw [hcn]; exact cntK_len
    refine T_rseq fun Kr hKr => ?_
    simp (disch := omega) only [RA, ↓reduceIte, Nat.reduceEqDiff, RD, g5, g8]
    refine hKr _ _ ?_
    clear hKr Kr
    try simp only [RN, reduceIte]
    try refine T_e rfl ?_
    refine T_csplit (p := i < zs.length) (by simp only [RA, ↓reduceIte, Nat.reduceEqDiff] <;> rfl) (by (try simp only [RB]) <;> first | done | exact Iff.rfl | omega | simp) (fun hc => ?_) (fun hc => ?_) <;> (try simp only [RN, reduceIte]) <;> (try refine T_e rfl ?_)
    · obtain ⟨hz1, hz2⟩ := hz33 i hc
      have hle : nl cn (nl zs i) ≤ 32 := by
        rw [hcn, cntK_nl hi hz1]
        have := List.count_le_length (a := nl zs i) (l := zs.take i)
        rw [List.length_take] at this
        omega
      first | refine T_bfree rfl ?_ | refine T_bfree' rfl ?_
      try simp only [RN, reduceIte]
      try refine T_e rfl ?_
      have e1 : (nl cn (nl zs i) : Int) + 1 = ((nl cn (nl zs i) + 1 : Nat) : Int) := by omega
      refine T_rseq fun Kr hKr => ?_
      simp (disch := omega) only [RA, ↓reduceIte, Nat.reduceEqDiff, RD, g5, g6, g8, getN_64, hcl, e1, st1_64']
      refine hKr _ _ ?_
      clear hKr Kr
      try simp only [RN, reduceIte]
      try refine T_e rfl ?_
      refine T_reg_k fun Kr hKr => ?_
      simp (disch := omega) only [RA, ↓reduceIte, Nat.reduceEqDiff, RD, g8]
      refine hKr _ _ ?_
      clear hKr Kr
      refine hN (zs.length - (i + 1)) _ _ _ _ (by omega) Gh.refl ⟨i + 1, cn.set (nl zs i) (nl cn (nl zs i) + 1), by omega, rfl, by rw [cntK, hcn], ?_, ?_, ?_, ?_, rfl⟩
      any_goals (simp (disch := omega) only [RA, ↓reduceIte, Nat.reduceEqDiff, RD, RE, *] <;> rfl)
    · refine hX _ _ ?_
      obtain rfl : i = zs.length := by omega
      have hd32 : ∀ k, k ≤ 32 → (degK cn k).length ≤ 32 := fun k hk => by rw [hcn]; exact degK_32 hzs (by omega) hk
      have hcv : ∀ v, v < 33 → nl cn v ≤ 32 := fun v hv => by
        rw [hcn, cntK_nl (Nat.le_refl _) hv]
        have := List.count_le_length (a := v) (l := zs.take zs.length)
        rw [List.length_take] at this
        omega
      have hdl : degL zs = degK cn 32 := by rw [hcn]; rfl
      rw [hdl] at hK
      clear g5 g8 hc
      try simp only [RN, reduceIte]
      try refine T_e rfl ?_
      refine T_rseq fun Kr hKr => ?_
      simp (disch := omega) only [RA, ↓reduceIte, Nat.reduceEqDiff, RD]
      refine hKr _ _ ?_
      clear hKr Kr
      try simp only [RN, reduceIte]
      try refine T_e rfl ?_
      refine T_wloop (fun m f H' => ∃ v out, v ≤ 32 ∧ v = m ∧ out = degK cn (32 - v) ∧ f 6 = P 1 0 ∧ f 7 = S 0 0 out.length 1 ∧ f 9 = I v ∧ H' = [some (out.map N64), some (cn.map N64)]) (32) ?_ ?_
      · refine ⟨_, _, Gh.refl, 32, [], by omega, by omega, rfl, ?_, ?_, ?_, rfl⟩
        any_goals (simp (disch := omega) only [RA, ↓reduceIte, Nat.reduceEqDiff, RD, RE, *] <;> rfl)
      · clear g6 g7
        rintro m f H' R2 ⟨v, out, hv, rfl, hout, g6, g7, g9, rfl⟩ hN2 hX2 hR2 hE2
        simp only [A_spec_l07Degrees.l2, T_aiff]
        refine T_rseq fun Kr hKr => ?_
        simp (disch := omega) only [RA, ↓reduceIte, Nat.reduceEqDiff, RD, g9]
        refine hKr _ _ ?_
        clear hKr Kr
        try simp only [RN, reduceIte]
        try refine T_e rfl ?_
        refine T_csplit (p := 0 < v) (by simp only [RA, ↓reduceIte, Nat.reduceEqDiff] <;> rfl) (by (try simp only [RB]) <;> first | done | exact Iff.rfl | omega | simp) (fun hc => ?_) (fun hc => ?_) <;> (try simp only [RN, reduceIte]) <;> (try refine T_e rfl ?_)
        · have hd : ((v : Nat) : Int).tdiv 2 = ((v / 2 : Nat) : Int) := (Int.ofNat_tdiv v 2).symm
          have hq := hcv v (by omega)
          have hstep : degK cn (32 - (v - 1)) = degK cn (32 - v) ++ List.replicate (nl cn v) (v / 2) := by
            rw [show 32 - (v - 1) = (32 - v) + 1 by omega, degK, show 32 - (32 - v) = v by omega]
          have hdn := hd32 (32 - (v - 1)) (by omega)
          rw [hstep, ← hout, List.length_append, List.length_replicate] at hdn
          rw [← hout] at hstep
          first | refine T_bfree rfl ?_ | refine T_bfree' rfl ?_
          try simp only [RN, reduceIte]
          try refine T_e rfl ?_
          refine T_rseq fun Kr hKr => ?_
          simp (disch := omega) only [RA, ↓reduceIte, Nat.reduceEqDiff, RD, g6, g9, getN_64, hcl]
          refine hKr _ _ ?_
          clear hKr Kr
          try simp only [RN, reduceIte]
          try refine T_e rfl ?_
          obtain ⟨q, hqe⟩ : ∃ q, nl cn v = q := ⟨_, rfl⟩
          rw [hqe] at hq hstep hdn
          simp only [hqe]
          refine T_wloop (fun m f H' => ∃ j o, j ≤ q ∧ j = m ∧ o = out ++ List.replicate (q - j) (v / 2) ∧ f 6 = P 1 0 ∧ f 7 = S 0 0 o.length 1 ∧ f 9 = I v ∧ f 10 = I j ∧ H' = [some (o.map N64), some (cn.map N64)]) (q) ?_ ?_
          · refine ⟨_, _, Gh.refl, q, out, by omega, by omega, by simp, ?_, ?_, ?_, ?_, rfl⟩
            any_goals (simp (disch := omega) only [RA, ↓reduceIte, Nat.reduceEqDiff, Nat.reduceBEq, Nat.reduceSub, Nat.reduceAdd, Nat.reduceMul, Nat.reduceLT, Nat.reduceLeDiff, Int.reduceLE, Int.reduceLT, Int.reduceEq, Int.reduceNeg, Int.reduceToNat, Int.reduceMul, Int.reduceAdd, Int.reduceSub, Int.reduceBEq, Int.reduceBNe, reduceCtorEq, RD, RE, *] <;> rfl)
          · clear g6 g7 g9
            rintro m f H' R3 ⟨j, o, hj, rfl, ho, g6, g7, g9, g10, rfl⟩ hN3 hX3 hR3 hE3
            simp only [A_spec_l07Degrees.l1, T_aiff]
            have hol : o.length ≤ 32 := by rw [ho, List.length_append, List.length_replicate]; omega
            refine T_rseq fun Kr hKr => ?_
            simp (disch := omega) only [RA, ↓reduceIte, Nat.reduceEqDiff, Nat.reduceBEq, Nat.reduceSub, Nat.reduceAdd, Nat.reduceMul, Nat.reduceLT, Nat.reduceLeDiff, Int.reduceLE, Int.reduceLT, Int.reduceEq, Int.reduceNeg, Int.reduceToNat, Int.reduceMul, Int.reduceAdd, Int.reduceSub, Int.reduceBEq, Int.reduceBNe, reduceCtorEq, RD, g10]
            refine hKr _ _ ?_
            clear hKr Kr
            try simp only [RN, reduceIte]
            try refine T_e rfl ?_
            refine T_csplit (p := 0 < j) (by simp only [RA, ↓reduceIte, Nat.reduceEqDiff, Nat.reduceBEq, Nat.reduceSub, Nat.reduceAdd, Nat.reduceMul, Nat.reduceLT, Nat.reduceLeDiff, Int.reduceLE, Int.reduceLT, Int.reduceEq, Int.reduceNeg, Int.reduceToNat, Int.reduceMul, Int.reduceAdd, Int.reduceSub, Int.reduceBEq, Int.reduceBNe, reduceCtorEq] <;> rfl) (by (try simp only [RB]) <;> first | done | exact Iff.rfl | omega | simp) (fun hc => ?_) (fun hc => ?_) <;> (try simp only [RN, reduceIte]) <;> (try refine T_e rfl ?_)
            · have hj1 : (j : Int) - 1 = ((j - 1 : Nat) : Int) := by omega
              first | refine T_bfree rfl ?_ | refine T_bfree' rfl ?_
              try simp only [RN, reduceIte]
              try refine T_e rfl ?_
              refine T_rseq fun Kr hKr => ?_
              simp (disch := omega) only [RA, ↓reduceIte, Nat.reduceEqDiff, Nat.reduceBEq, Nat.reduceSub, Nat.reduceAdd, Nat.reduceMul, Nat.reduceLT, Nat.reduceLeDiff, Int.reduceLE, Int.reduceLT, Int.reduceEq, Int.reduceNeg, Int.reduceToNat, Int.reduceMul, Int.reduceAdd, Int.reduceSub, Int.reduceBEq, Int.reduceBNe, reduceCtorEq, RD, g7, g9, hd, app1_64]
              refine hKr _ _ ?_
              clear hKr Kr
              try simp only [RN, reduceIte]
              try refine T_e rfl ?_
              refine T_reg_k fun Kr hKr => ?_
              simp (disch := omega) only [RA, ↓reduceIte, Nat.reduceEqDiff, RD, g10, hj1]
              refine hKr _ _ ?_
              clear hKr Kr
              refine hN3 (j - 1) _ _ _ _ (by omega) (Gh.nrm [3, 1] rfl rfl (by simp only [RH])) ⟨j - 1, o ++ [v / 2], by omega, rfl, ?_, ?_, ?_, ?_, ?_, rfl⟩
              any_goals (simp (disch := omega) only [RA, ↓reduceIte, Nat.reduceEqDiff, RD, RE, *] <;> rfl)
              rw [ho, List.append_assoc, show q - (j - 1) = (q - j) + 1 by omega, List.replicate_succ']
            · refine hX3 _ _ ?_
              obtain rfl : j = 0 := by omega
              have hv1 : (v : Int) - 1 = ((v - 1 : Nat) : Int) := by omega
              refine T_reg_k fun Kr hKr => ?_
              simp (disch := omega) only [RA, ↓reduceIte, Nat.reduceEqDiff, RD, g9, hv1]
              refine hKr _ _ ?_
              clear hKr Kr
              refine hN2 (v - 1) _ _ _ _ (by omega) Gh.refl ⟨v - 1, o, by omega, rfl, by rw [hstep, ho]; rfl, ?_, ?_, ?_, rfl⟩
              any_goals (simp (disch := omega) only [RA, ↓reduceIte, Nat.reduceEqDiff, RD, RE, *] <;> rfl)
        · refine hX2 _ _ ?_
          obtain rfl : v = 0 := by omega
          refine T_rseq fun Kr hKr => ?_
          simp (disch := omega) only [RA, ↓reduceIte, Nat.reduceEqDiff, RD, g7]
          refine hKr _ _ ?_
          clear hKr Kr
          try simp only [RN, reduceIte]
          try refine T_e rfl ?_
          refine bodyQ_ret (by simp (disch := omega) only [RA, ↓reduceIte, Nat.reduceEqDiff, RD, resAll, resOf, g7]; rfl) (GhV.fz (i := 0) (by simp (disch := omega) only [RA, ↓reduceIte, Nat.reduceEqDiff, RD, g7]; rfl) (by simp only [RH])) ?_
          simp only [tup, frzT]
          rw [frz_all (by simp)]
          rw [hout] at *
          exact ⟨NN.fz, hK⟩
end Go.Bm
