/- Types of permutations, and what is clean. -/
import Derived.Test.YtbbgifoamnjhoaaDpV
import Derived.Test.YtbbgifoamnjhoaaDpS
import Derived.Test.YtbbgifoamnjhoaaDp4
set_option linter.unusedVariables false
set_option linter.unusedSimpArgs false
namespace Go.Bm
open Go Go.Am

theorem lens_nl {p : List Nat} {n i : Nat} (h : i < (cyc p n).length) : nl (lens p n) i = ((cyc p n).getD i []).length := by
  simp [nl, lens, List.getD, h]
theorem typeOf_run {p : List Nat} {n : Nat} (hb : By 16 p) (hp : Perm p n) :
    CallX false F_impl_typeOf [PL p, I n] [] fun v H1 => ∃ j, v = S j 0 (typ p n).length 1 ∧ blk H1 j = some ((typ p n).map N64) := by
  have hlen := hb.len
  have hnum := cyc_num hp
  have hn := hp.1
  have hll : (lens p n).length = (cyc p n).length := by rw [lens, List.length_map]
  refine CallX_body Γ_impl_typeOf ?_
  simp only [A_impl_typeOf, T_aiff]
  refine T_rseq fun Kr hKr => ?_
  simp (disch := omega) only [RA, ↓reduceIte, Nat.reduceEqDiff, Nat.reduceBEq, Nat.reduceSub, Nat.reduceAdd, Nat.reduceMul, Nat.reduceLT, Nat.reduceLeDiff, Int.reduceLE, Int.reduceLT, Int.reduceEq, Int.reduceNeg, Int.reduceToNat, Int.reduceMul, Int.reduceAdd, Int.reduceSub, Int.reduceBEq, Int.reduceBNe, reduceCtorEq, RD]
  refine hKr _ _ ?_
  clear hKr Kr
  try simp only [RN, reduceIte]
  try refine T_e rfl ?_
  refine T_rseq fun Kr hKr => ?_
  simp (disch := omega) only [RA, ↓reduceIte, Nat.reduceEqDiff, Nat.reduceBEq, Nat.reduceSub, Nat.reduceAdd, Nat.reduceMul, Nat.reduceLT, Nat.reduceLeDiff, Int.reduceLE, Int.reduceLT, Int.reduceEq, Int.reduceNeg, Int.reduceToNat, Int.reduceMul, Int.reduceAdd, Int.reduceSub, Int.reduceBEq, Int.reduceBNe, reduceCtorEq, RD]
  refine hKr _ _ ?_
  clear hKr Kr
  try simp only [RN, reduceIte]
  try refine T_e rfl ?_
  refine T_rseq fun Kr hKr => ?_
  simp (disch := omega) only [RA, ↓reduceIte, Nat.reduceEqDiff, RD]
  refine cycles_spec hb hp ?_
  simp (disch := omega) only [RA, ↓reduceIte, Nat.reduceEqDiff, RD]
  refine hKr _ _ ?_
  clear hKr Kr
  try simp only [blkQ, thenQ, loopQ]
  try simp only [RN, reduceIte]
  try refine T_e rfl ?_
  refine T_wloop (fun m f H' => ∃ i out, i ≤ (cyc p n).length ∧ m = (cyc p n).length - i ∧ out = (lens p n).take i ∧ f 5 = S 1 0 out.length 1 ∧ f 11 = Fz (cyc p n).length 1 ((cyc p n).map FN) ∧ f 12 = I (cyc p n).length ∧ f 13 = I i ∧ H' = [some (p.map N8), some (out.map N64)]) ((cyc p n).length) ?_ ?_
  · refine ⟨_, _, Gh.refl, 0, [], by omega, by omega, by simp, ?_, ?_, ?_, ?_, by simp⟩
    any_goals (simp (disch := omega) only [RA, ↓reduceIte, Nat.reduceEqDiff, RD, RE, *] <;> rfl)
  · rintro m f H' R ⟨i, out, hi, rfl, hout, g5, g11, g12, g13, rfl⟩ hN hX hR hE
    simp only [A_impl_typeOf.l0, T_aiff]
    refine T_rseq fun Kr hKr => ?_
    simp (disch := omega) only [RA, ↓reduceIte, Nat.reduceEqDiff, Nat.reduceAdd, Nat.reduceMul, Int.reduceToNat, Nat.reduceLT, reduceCtorEq, RD, g12, g13]
    refine hKr _ _ ?_
    clear hKr Kr
    try simp only [RN, reduceIte]
    try refine T_e rfl ?_
    refine T_csplit (p := i < (cyc p n).length) (by simp only [RA, ↓reduceIte, Nat.reduceEqDiff, Nat.reduceBEq, Nat.reduceSub, Nat.reduceAdd, Nat.reduceMul, Nat.reduceLT, Nat.reduceLeDiff, Int.reduceLE, Int.reduceLT, Int.reduceEq, Int.reduceNeg, Int.reduceToNat, Int.reduceMul, Int.reduceAdd, Int.reduceSub, Int.reduceBEq, Int.reduceBNe, reduceCtorEq] <;> rfl) (by (try simp only [RB]) <;> first | done | exact Iff.rfl | omega | simp) (fun hc => ?_) (fun hc => ?_) <;> (try simp only [RN, reduceIte]) <;> (try refine T_e rfl ?_)
    · have hol : out.length ≤ 16 := by rw [hout, List.length_take]; omega
      have hci := lens_nl hc
      first | refine T_bfree rfl ?_ | refine T_bfree' rfl ?_
      try simp only [RN, reduceIte]
      try refine T_e rfl ?_
      refine T_rseq fun Kr hKr => ?_
      simp (disch := omega) only [RA, ↓reduceIte, Nat.reduceEqDiff, Nat.reduceBEq, Nat.reduceSub, Nat.reduceAdd, Nat.reduceMul, Nat.reduceLT, Nat.reduceLeDiff, Int.reduceLE, Int.reduceLT, Int.reduceEq, Int.reduceNeg, Int.reduceToNat, Int.reduceMul, Int.reduceAdd, Int.reduceSub, Int.reduceBEq, Int.reduceBNe, reduceCtorEq, RD, g11, g13, getN_FN]
      refine hKr _ _ ?_
      clear hKr Kr
      try simp only [RN, reduceIte]
      try refine T_e rfl ?_
      refine T_rseq fun Kr hKr => ?_
      simp (disch := omega) only [RA, ↓reduceIte, Nat.reduceEqDiff, Nat.reduceBEq, Nat.reduceSub, Nat.reduceAdd, Nat.reduceMul, Nat.reduceLT, Nat.reduceLeDiff, Int.reduceLE, Int.reduceLT, Int.reduceEq, Int.reduceNeg, Int.reduceToNat, Int.reduceMul, Int.reduceAdd, Int.reduceSub, Int.reduceBEq, Int.reduceBNe, reduceCtorEq, RD, g5, ← hci, app1_64]
      refine hKr _ _ ?_
      clear hKr Kr
      try simp only [RN, reduceIte]
      try refine T_e rfl ?_
      refine T_reg_k fun Kr hKr => ?_
      simp (disch := omega) only [RA, ↓reduceIte, Nat.reduceEqDiff, RD, g13]
      refine hKr _ _ ?_
      clear hKr Kr
      refine hN ((cyc p n).length - (i + 1)) _ _ _ _ (by omega) (Gh.nrm [0, 3] rfl rfl (by simp only [RH, RV])) ⟨i + 1, out ++ [nl (lens p n) i], by omega, rfl, by rw [take_succ_nl' (by omega), hout], ?_, ?_, ?_, ?_, rfl⟩
      any_goals (simp (disch := omega) only [RA, ↓reduceIte, Nat.reduceEqDiff, RD, RE, *] <;> rfl)
    · refine hX _ _ ?_
      obtain rfl : i = (cyc p n).length := by omega
      have hout' : out = lens p n := by rw [hout, ← hll, List.take_length]
      subst hout'
      have hpl : (ofN (lens p n)).length = (lens p n).length := ofN_len
      have hpm : (ofN (typ p n)).Perm (ofN (lens p n)) := (typ_perm hp).map _
      have htl : (typ p n).length = (lens p n).length := (typ_perm hp).length_eq
      have hl16 := lens_len hp
      refine T_rseq fun Kr hKr => ?_
      simp (disch := omega) only [RA, ↓reduceIte, Nat.reduceEqDiff, RD, g5]
      refine call1S (i := 1) rfl NNL_64 ?_
      have e : ([S 1 0 (lens p n).length 1] : List Value).map (ren [1]) = [S 0 0 (ofN (lens p n)).length 1] := by rw [hpl]; simp [ren, ren1, nm]
      rw [e, map_N64]
      refine descending_spec (r := ofN (typ p n)) (by omega) typL_dsc hpm ?_
      refine ⟨0, _, _, rfl, HN.cons (NNL.map fun _ => .int) HN.nil, ?_⟩
      rw [hpl]
      simp (disch := omega) only [RA, ↓reduceIte, Nat.reduceEqDiff, RD]
      refine hKr _ _ ?_
      clear hKr Kr
      try simp only [blkQ, thenQ, loopQ]
      try simp only [RN, reduceIte]
      try refine T_e rfl ?_
      refine bodyQ_ret (by simp (disch := omega) only [RA, ↓reduceIte, Nat.reduceEqDiff, RD, resAll, resOf]; rfl) GhV.refl ?_
      simp only [tup]
      exact ⟨1, by rw [htl], by rw [map_N64]; rfl⟩
theorem typeOf_spec {x : Bool} {p : List Nat} {n : Nat} {H : BH} {K : Value → BH → Prop} (hb : By 16 p) (hp : Perm p n) (hK : K (FN (typ p n)) H) : CallX x F_impl_typeOf [PL p, I n] H K :=
  callRZ (by (simp only [RH])) NNL_64 (by simp) (typeOf_run hb hp) hK
theorem st17_0 {H : BH} {b : Nat} : stO (some (List.replicate 17 (.int .i64 0))) H b 0 17 (aggL (List.replicate 17 (.int .i64 0))) = some (undef, H.set b (some ((List.replicate 17 0).map N64))) := by
  rw [st_ri]; rfl
theorem st64 {H : BH} {b o : Nat} {s : List Nat} {c : Nat} (h : o < s.length) : stO (some (s.map N64)) H b o 1 (.int .i64 (c : Int)) = some (undef, H.set b (some ((s.set o c).map N64))) := by
  rw [stO_int (by simpa using h)]
  rw [splice_1 (g := N64) h]
theorem l01Type_run {p : List Nat} {n : Nat} (hb : By 16 p) (hp : Perm p n) :
    CallX false F_spec_l01Type [PL p, I n] [] fun v H1 => ∃ j, v = S j 0 (typ p n).length 1 ∧ blk H1 j = some ((typ p n).map N64) := by
  have hlen := hb.len
  have hnum := cyc_num hp
  have hn := hp.1
  have hll : (lens p n).length = (cyc p n).length := by rw [lens, List.length_map]
  have hlo := lens_ok hp
  have hl16 := lens_len hp
  refine CallX_body Γ_spec_l01Type ?_
  simp only [A_spec_l01Type, T_aiff]
  refine T_rseq fun Kr hKr => ?_
  simp (disch := omega) only [RA, ↓reduceIte, Nat.reduceEqDiff, Nat.reduceBEq, Nat.reduceSub, Nat.reduceAdd, Nat.reduceMul, Nat.reduceLT, Nat.reduceLeDiff, Int.reduceLE, Int.reduceLT, Int.reduceEq, Int.reduceNeg, Int.reduceToNat, Int.reduceMul, Int.reduceAdd, Int.reduceSub, Int.reduceBEq, Int.reduceBNe, reduceCtorEq, RD]
  refine hKr _ _ ?_
  clear hKr Kr
  try simp only [RN, reduceIte]
  try refine T_e rfl ?_
  refine T_rseq fun Kr hKr => ?_
  simp (disch := omega) only [RA, ↓reduceIte, Nat.reduceEqDiff, Nat.reduceBEq, Nat.reduceSub, Nat.reduceAdd, Nat.reduceMul, Nat.reduceLT, Nat.reduceLeDiff, Int.reduceLE, Int.reduceLT, Int.reduceEq, Int.reduceNeg, Int.reduceToNat, Int.reduceMul, Int.reduceAdd, Int.reduceSub, Int.reduceBEq, Int.reduceBNe, reduceCtorEq, RD]
  refine l01Cycles_spec hb hp ?_
  simp (disch := omega) only [RA, ↓reduceIte, Nat.reduceEqDiff, Nat.reduceBEq, Nat.reduceSub, Nat.reduceAdd, Nat.reduceMul, Nat.reduceLT, Nat.reduceLeDiff, Int.reduceLE, Int.reduceLT, Int.reduceEq, Int.reduceNeg, Int.reduceToNat, Int.reduceMul, Int.reduceAdd, Int.reduceSub, Int.reduceBEq, Int.reduceBNe, reduceCtorEq, RD, st17_0]
  refine hKr _ _ ?_
  clear hKr Kr
  try simp only [blkQ, thenQ, loopQ]
  try simp only [RN, reduceIte]
  try refine T_e rfl ?_
  refine T_rseq fun Kr hKr => ?_
  simp (disch := omega) only [RA, ↓reduceIte, Nat.reduceEqDiff, Nat.reduceBEq, Nat.reduceSub, Nat.reduceAdd, Nat.reduceMul, Nat.reduceLT, Nat.reduceLeDiff, Int.reduceLE, Int.reduceLT, Int.reduceEq, Int.reduceNeg, Int.reduceToNat, Int.reduceMul, Int.reduceAdd, Int.reduceSub, Int.reduceBEq, Int.reduceBNe, reduceCtorEq, RD]
  refine hKr _ _ ?_
  clear hKr Kr
  try simp only [RN, reduceIte]
  try refine T_e rfl ?_
  refine T_wloop (fun m f H' => ∃ i cn, i ≤ (cyc p n).length ∧ m = (cyc p n).length - i ∧ cn = cntT (lens p n) i ∧ f 1 = I n ∧ f 5 = P 2 0 ∧ f 6 = Fz (cyc p n).length 1 ((cyc p n).map FN) ∧ f 7 = S 1 0 0 1 ∧ f 8 = I i ∧ H' = [some (p.map N8), some (([] : List Nat).map N64), some (cn.map N64)]) ((cyc p n).length) ?_ ?_
  · refine ⟨_, _, Gh.refl, 0, List.replicate 17 0, by omega, by omega, rfl, ?_, ?_, ?_, ?_, ?_, rfl⟩
    any_goals (simp (disch := omega) only [RA, ↓reduceIte, Nat.reduceEqDiff, RD, RE, *] <;> rfl)
  · rintro m f H' R ⟨i, cn, hi, rfl, hcn, g1, g5, g6, g7, g8, rfl⟩ hN hX hR hE
    simp only [A_spec_l01Type.l0, T_aiff]
    have hcl : cn.length = 17 := by rw [hcn]; exact cntT_len
    refine T_rseq fun Kr hKr => ?_
    simp (disch := omega) only [RA, ↓reduceIte, Nat.reduceEqDiff, RD, g6, g8]
    refine hKr _ _ ?_
    clear hKr Kr
    try simp only [RN, reduceIte]
    try refine T_e rfl ?_
    refine T_csplit (p := i < (cyc p n).length) (by simp only [RA, ↓reduceIte, Nat.reduceEqDiff] <;> rfl) (by (try simp only [RB]) <;> first | done | exact Iff.rfl | omega | simp) (fun hc => ?_) (fun hc => ?_) <;> (try simp only [RN, reduceIte]) <;> (try refine T_e rfl ?_)
    · have hci := lens_nl hc
      have hz := hlo _ (nl_mem (show i < (lens p n).length by omega))
      have hle : nl cn (nl (lens p n) i) ≤ 16 := by
        rw [hcn, cntT_nl (by omega) (by omega)]
        have := List.count_le_length (a := nl (lens p n) i) (l := (lens p n).take i)
        rw [List.length_take] at this
        omega
      have e1 : (nl cn (nl (lens p n) i) : Int) + 1 = ((nl cn (nl (lens p n) i) + 1 : Nat) : Int) := by omega
      first | refine T_bfree rfl ?_ | refine T_bfree' rfl ?_
      try simp only [RN, reduceIte]
      try refine T_e rfl ?_
      refine T_rseq fun Kr hKr => ?_
      simp (disch := omega) only [RA, ↓reduceIte, Nat.reduceEqDiff, RD, g5, g6, g8, getN_FN, ← hci, getN_64, hcl, e1, st64]
      refine hKr _ _ ?_
      clear hKr Kr
      try simp only [RN, reduceIte]
      try refine T_e rfl ?_
      refine T_reg_k fun Kr hKr => ?_
      simp (disch := omega) only [RA, ↓reduceIte, Nat.reduceEqDiff, RD, g8]
      refine hKr _ _ ?_
      clear hKr Kr
      refine hN ((cyc p n).length - (i + 1)) _ _ _ _ (by omega) Gh.refl ⟨i + 1, cn.set (nl (lens p n) i) (nl cn (nl (lens p n) i) + 1), by omega, rfl, by rw [cntT, hcn], ?_, ?_, ?_, ?_, ?_, rfl⟩
      any_goals (simp (disch := omega) only [RA, ↓reduceIte, Nat.reduceEqDiff, RD, RE, *] <;> rfl)
    · refine hX _ _ ?_
      obtain rfl : i = (cyc p n).length := by omega
      rw [← hll] at hcn
      have hd16 : ∀ k, k ≤ n → (typK cn n k).length ≤ 16 := fun k hk => by
        rw [hcn]
        have := typK_le (show n ≤ 16 by omega) hk hlo
        omega
      have hcv : ∀ v, v < 17 → nl cn v ≤ 16 := fun v hv => by
        rw [hcn, cntT_nl (Nat.le_refl _) hv]
        have := List.count_le_length (a := v) (l := (lens p n).take (lens p n).length)
        rw [List.length_take] at this
        omega
      have hdl : typ p n = typK cn n n := by rw [hcn]; rfl
      rw [hdl] at hX
      clear g6 g8 hc hN hX hR hE
      try simp only [RN, reduceIte]
      try refine T_e rfl ?_
      refine T_rseq fun Kr hKr => ?_
      simp (disch := omega) only [RA, ↓reduceIte, Nat.reduceEqDiff, RD, g1]
      refine hKr _ _ ?_
      clear hKr Kr
      try simp only [RN, reduceIte]
      try refine T_e rfl ?_
      rw [hdl]
      refine T_wloop (fun m f H' => ∃ v out, v ≤ n ∧ v = m ∧ out = typK cn n (n - v) ∧ f 5 = P 1 0 ∧ f 7 = S 0 0 out.length 1 ∧ f 9 = I v ∧ H' = [some (out.map N64), some (cn.map N64)]) (n) ?_ ?_
      · refine ⟨_, _, (Gh.nrm [1, 2] rfl rfl (by simp only [RH, RV])), n, [], by omega, by omega, by simp [typK], ?_, ?_, ?_, rfl⟩
        any_goals (simp (disch := omega) only [RA, ↓reduceIte, Nat.reduceEqDiff, RD, RE, *] <;> rfl)
      · clear g1 g5 g7
        rintro m f H' R2 ⟨v, out, hv, rfl, hout, g5, g7, g9, rfl⟩ hN2 hX2 hR2 hE2
        simp only [A_spec_l01Type.l2, T_aiff]
        refine T_rseq fun Kr hKr => ?_
        simp (disch := omega) only [RA, ↓reduceIte, Nat.reduceEqDiff, RD, g9]
        refine hKr _ _ ?_
        clear hKr Kr
        try simp only [RN, reduceIte]
        try refine T_e rfl ?_
        refine T_csplit (p := 0 < v) (by simp only [RA, ↓reduceIte, Nat.reduceEqDiff] <;> rfl) (by (try simp only [RB]) <;> first | done | exact Iff.rfl | omega | simp) (fun hc => ?_) (fun hc => ?_) <;> (try simp only [RN, reduceIte]) <;> (try refine T_e rfl ?_)
        · have hq := hcv v (by omega)
          have hstep : typK cn n (n - (v - 1)) = typK cn n (n - v) ++ List.replicate (nl cn v) v := by
            rw [show n - (v - 1) = (n - v) + 1 by omega, typK, show n - (n - v) = v by omega]
          have hdn := hd16 (n - (v - 1)) (by omega)
          rw [hstep, ← hout, List.length_append, List.length_replicate] at hdn
          rw [← hout] at hstep
          first | refine T_bfree rfl ?_ | refine T_bfree' rfl ?_
          try simp only [RN, reduceIte]
          try refine T_e rfl ?_
          refine T_rseq fun Kr hKr => ?_
          simp (disch := omega) only [RA, ↓reduceIte, Nat.reduceEqDiff, RD, g5, g9, getN_64, hcl]
          refine hKr _ _ ?_
          clear hKr Kr
          try simp only [RN, reduceIte]
          try refine T_e rfl ?_
          obtain ⟨q, hqe⟩ : ∃ q, nl cn v = q := ⟨_, rfl⟩
          rw [hqe] at hq hstep hdn
          simp only [hqe]
          refine T_wloop (fun m f H' => ∃ j o, j ≤ q ∧ j = m ∧ o = out ++ List.replicate (q - j) v ∧ f 5 = P 1 0 ∧ f 7 = S 0 0 o.length 1 ∧ f 9 = I v ∧ f 10 = I j ∧ H' = [some (o.map N64), some (cn.map N64)]) (q) ?_ ?_
          · refine ⟨_, _, Gh.refl, q, out, by omega, by omega, by simp, ?_, ?_, ?_, ?_, rfl⟩
            any_goals (simp (disch := omega) only [RA, ↓reduceIte, Nat.reduceEqDiff, Nat.reduceAdd, Nat.reduceMul, Int.reduceToNat, Nat.reduceLT, reduceCtorEq, RD, RE, *] <;> rfl)
          · clear g5 g7 g9
            rintro m f H' R3 ⟨j, o, hj, rfl, ho, g5, g7, g9, g10, rfl⟩ hN3 hX3 hR3 hE3
            simp only [A_spec_l01Type.l1, T_aiff]
            have hol : o.length ≤ 16 := by rw [ho, List.length_append, List.length_replicate]; omega
            refine T_rseq fun Kr hKr => ?_
            simp (disch := omega) only [RA, ↓reduceIte, Nat.reduceEqDiff, Nat.reduceBEq, Nat.reduceSub, Nat.reduceAdd, Nat.reduceMul, Nat.reduceLT, Nat.reduceLeDiff, Int.reduceLE, Int.reduceLT, Int.reduceEq, Int.reduceNeg, Int.reduceToNat, Int.reduceMul, Int.reduceAdd, Int.reduceSub, Int.reduceBEq, Int.reduceBNe, reduceCtorEq, RD, g10]
            refine hKr _ _ ?_
            clear hKr Kr
            try simp only [RN, reduceIte]
            try refine T_e rfl ?_
            refine T_csplit (p := 0 < j) (by simp only [RA, ↓reduceIte, Nat.reduceEqDiff, Nat.reduceBEq, Nat.reduceSub, Nat.reduceAdd, Nat.reduceMul, Nat.reduceLT, Nat.reduceLeDiff, Int.reduceLE, Int.reduceLT, Int.reduceEq, Int.reduceNeg, Int.reduceToNat, Int.reduceMul, Int.reduceAdd, Int.reduceSub, Int.reduceBEq, Int.reduceBNe, reduceCtorEq] <;> rfl) (by (try simp only [RB]) <;> first | done | exact Iff.rfl | omega | simp) (fun hc => ?_) (fun hc => ?_) <;> (try simp only [RN, reduceIte]) <;> (try refine T_e rfl ?_)
            · have hj1 : (j : Int) - 1 = ((j - 1 : Nat) : Int) := by omega
              first | refine T_bfree rfl ?_ | refine T_bfree' rfl ?_
              try simp only [RN, reduceIte]
              try refine T_e rfl ?_
              refine T_rseq fun Kr hKr => ?_
              simp (disch := omega) only [RA, ↓reduceIte, Nat.reduceEqDiff, Nat.reduceBEq, Nat.reduceSub, Nat.reduceAdd, Nat.reduceMul, Nat.reduceLT, Nat.reduceLeDiff, Int.reduceLE, Int.reduceLT, Int.reduceEq, Int.reduceNeg, Int.reduceToNat, Int.reduceMul, Int.reduceAdd, Int.reduceSub, Int.reduceBEq, Int.reduceBNe, reduceCtorEq, RD, g7, g9, app1_64]
              refine hKr _ _ ?_
              clear hKr Kr
              try simp only [RN, reduceIte]
              try refine T_e rfl ?_
              refine T_reg_k fun Kr hKr => ?_
              simp (disch := omega) only [RA, ↓reduceIte, Nat.reduceEqDiff, RD, g10, hj1]
              refine hKr _ _ ?_
              clear hKr Kr
              refine hN3 (j - 1) _ _ _ _ (by omega) (Gh.nrm [3, 1] rfl rfl (by simp only [RH, RV])) ⟨j - 1, o ++ [v], by omega, rfl, ?_, ?_, ?_, ?_, ?_, rfl⟩
              any_goals (simp (disch := omega) only [RA, ↓reduceIte, Nat.reduceEqDiff, RD, RE, *] <;> rfl)
              rw [ho, List.append_assoc, show q - (j - 1) = (q - j) + 1 by omega, List.replicate_succ']
            · refine hX3 _ _ ?_
              obtain rfl : j = 0 := by omega
              have hv1 : (v : Int) - 1 = ((v - 1 : Nat) : Int) := by omega
              refine T_reg_k fun Kr hKr => ?_
              simp (disch := omega) only [RA, ↓reduceIte, Nat.reduceEqDiff, RD, g9, hv1]
              refine hKr _ _ ?_
              clear hKr Kr
              refine hN2 (v - 1) _ _ _ _ (by omega) Gh.refl ⟨v - 1, o, by omega, rfl, by rw [hstep, ho]; rfl, ?_, ?_, ?_, rfl⟩
              any_goals (simp (disch := omega) only [RA, ↓reduceIte, Nat.reduceEqDiff, RD, RE, *] <;> rfl)
        · refine hX2 _ _ ?_
          obtain rfl : v = 0 := by omega
          refine T_rseq fun Kr hKr => ?_
          simp (disch := omega) only [RA, ↓reduceIte, Nat.reduceEqDiff, RD, g7]
          refine hKr _ _ ?_
          clear hKr Kr
          try simp only [RN, reduceIte]
          try refine T_e rfl ?_
          refine bodyQ_ret (by simp (disch := omega) only [RA, ↓reduceIte, Nat.reduceEqDiff, RD, resAll, resOf, g7]; rfl) GhV.refl ?_
          simp only [tup]
          rw [hout]
          exact ⟨0, rfl, rfl⟩
theorem l01Type_spec {x : Bool} {p : List Nat} {n : Nat} {H : BH} {K : Value → BH → Prop} (hb : By 16 p) (hp : Perm p n) (hK : K (FN (typ p n)) H) : CallX x F_spec_l01Type [PL p, I n] H K :=
  callRZ (by (simp only [RH])) NNL_64 (by simp) (l01Type_run hb hp) hK

/-! ### Clean -/
theorem nn_BI {b : Bool} {k : IntKind} {a : Int} : NN (.tuple ⟨[.bool b, .int k a]⟩) := NN.tuple (NNL.cons NN.bool (NNL.cons NN.int NNL.nil))
def Clean (w : List Nat) (n : Nat) : Prop := ∀ x, x < n → nl w x ≠ x ∧ nl w (nl w x) = x
instance (w : List Nat) (n : Nat) : Decidable (Clean w n) := by unfold Clean; infer_instance
theorem isClean_spec {x : Bool} {n : Nat} {b w : List Nat} {H : BH} {K : Value → BH → Prop} (hb : By 16 b) (hw : By 16 w) (hp : Perm w n) (hK : K (.bool (decide (Clean w n))) H) : CallX x F_impl_isClean [DV n b w] H K := by
  have hlb := hb.len
  have hlw := hw.len
  have hn := hp.1
  have hcl := typ_clean hp
  have hz16 : (typ w n).length ≤ 16 := by rw [typ_len hp]; have := cyc_num hp; omega
  refine callP (by exact .cons nn_D .nil) ?_
  refine CallX_body Γ_impl_isClean ?_
  simp only [A_impl_isClean, T_aiff]
  refine T_rseq fun Kr hKr => ?_
  simp (disch := omega) only [RA, ↓reduceIte, Nat.reduceEqDiff, RD, RDS]
  refine hKr _ _ ?_
  clear hKr Kr
  try simp only [RN, reduceIte]
  try refine T_e rfl ?_
  refine T_rseq fun Kr hKr => ?_
  simp (disch := omega) only [RA, ↓reduceIte, Nat.reduceEqDiff, RD, RDS, RDD]
  refine typeOf_spec hw hp ?_
  generalize typ w n = zs at hcl hz16
  simp (disch := omega) only [RA, ↓reduceIte, Nat.reduceEqDiff, RD]
  refine hKr _ _ ?_
  clear hKr Kr
  try simp only [blkQ, thenQ, loopQ]
  try simp only [RN, reduceIte]
  try refine T_e rfl ?_
  refine T_wloop (fun m f H' => ∃ i, i ≤ zs.length ∧ m = zs.length - i ∧ (∀ j, j < i → nl zs j = 2) ∧ f 9 = Fz zs.length 1 (zs.map N64) ∧ f 10 = I zs.length ∧ f 11 = I i ∧ H' = [some (DC n b w)]) (zs.length) ?_ ?_
  · refine ⟨_, _, Gh.refl, 0, by omega, by omega, fun j hj => by omega, ?_, ?_, ?_, rfl⟩
    any_goals (simp (disch := omega) only [RA, ↓reduceIte, Nat.reduceEqDiff, RD, RE, *] <;> rfl)
  · rintro m f H' R ⟨i, hi, rfl, hall, g9, g10, g11, rfl⟩ hN hX hR hE
    simp only [A_impl_isClean.l0, T_aiff]
    refine T_rseq fun Kr hKr => ?_
    simp (disch := omega) only [RA, ↓reduceIte, Nat.reduceEqDiff, RD, g10, g11]
    refine hKr _ _ ?_
    clear hKr Kr
    try simp only [RN, reduceIte]
    try refine T_e rfl ?_
    refine T_csplit (p := i < zs.length) (by simp only [RA, ↓reduceIte, Nat.reduceEqDiff] <;> rfl) (by (try simp only [RB]) <;> first | done | exact Iff.rfl | omega | simp) (fun hc => ?_) (fun hc => ?_) <;> (try simp only [RN, reduceIte]) <;> (try refine T_e rfl ?_)
    · first | refine T_bfree rfl ?_ | refine T_bfree' rfl ?_
      try simp only [RN, reduceIte]
      try refine T_e rfl ?_
      refine T_rseq fun Kr hKr => ?_
      simp (disch := omega) only [RA, ↓reduceIte, Nat.reduceEqDiff, RD, g9, g11, getN_64]
      refine hKr _ _ ?_
      clear hKr Kr
      try simp only [RN, reduceIte]
      try refine T_e rfl ?_
      refine T_rseq fun Kr hKr => ?_
      simp (disch := omega) only [RA, ↓reduceIte, Nat.reduceEqDiff, RD]
      refine hKr _ _ ?_
      clear hKr Kr
      try simp only [RN, reduceIte]
      try refine T_e rfl ?_
      refine T_csplit (p := ¬ nl zs i = 2) (by simp only [RA, ↓reduceIte, Nat.reduceEqDiff] <;> rfl) (by (try simp only [RB]) <;> first | done | exact Iff.rfl | omega | simp) (fun hc => ?_) (fun hc => ?_) <;> (try simp only [RN, reduceIte]) <;> (try refine T_e rfl ?_)
      · refine T_rseq fun Kr hKr => ?_
        simp (disch := omega) only [RA, ↓reduceIte, Nat.reduceEqDiff, RD]
        refine hKr _ _ ?_
        clear hKr Kr
        try simp only [RN, reduceIte]
        try refine T_e rfl ?_
        refine hR _ _ ?_
        refine bodyQ_ret (by simp (disch := omega) only [RA, ↓reduceIte, Nat.reduceEqDiff, RD, resAll, resOf]; rfl) GhV.refl ?_
        simp only [tup]
        rw [show decide (Clean w n) = false by rw [decide_eq_false_iff_not]; exact fun h => hc (hcl.2 h _ (nl_mem (by assumption)))] at hK
        exact ⟨.bool, hK⟩
      · have hz2 := Decidable.not_not.1 hc
        have hall' : ∀ j, j < i + 1 → nl zs j = 2 := fun j hj => by
          by_cases e : j = i
          · rw [e]; exact hz2
          · exact hall j (by omega)
        refine T_reg_k fun Kr hKr => ?_
        simp (disch := omega) only [RA, ↓reduceIte, Nat.reduceEqDiff, RD, g11]
        refine hKr _ _ ?_
        clear hKr Kr
        refine hN (zs.length - (i + 1)) _ _ _ _ (by omega) Gh.refl ⟨i + 1, by omega, rfl, hall', ?_, ?_, ?_, rfl⟩
        any_goals (simp (disch := omega) only [RA, ↓reduceIte, Nat.reduceEqDiff, RD, RE, *] <;> rfl)
    · refine hX _ _ ?_
      refine T_rseq fun Kr hKr => ?_
      simp (disch := omega) only [RA, ↓reduceIte, Nat.reduceEqDiff, RD]
      refine hKr _ _ ?_
      clear hKr Kr
      try simp only [RN, reduceIte]
      try refine T_e rfl ?_
      refine bodyQ_ret (by simp (disch := omega) only [RA, ↓reduceIte, Nat.reduceEqDiff, RD, resAll, resOf]; rfl) GhV.refl ?_
      simp only [tup]
      rw [show decide (Clean w n) = true by
        rw [decide_eq_true_eq]
        exact hcl.1 fun z hz => by
          obtain ⟨j, hj, rfl⟩ := mem_nl hz
          exact hall j (by omega)] at hK
      exact ⟨.bool, hK⟩
theorem l07Clean_spec {x : Bool} {n : Nat} {b w : List Nat} {H : BH} {K : Value → BH → Prop} (hb : By 16 b) (hw : By 16 w) (hp : Perm w n) (hK : K (.bool (decide (Clean w n))) H) : CallX x F_spec_l07Clean [DV n b w] H K := by
  have hlb := hb.len
  have hlw := hw.len
  have hn := hp.1
  refine callP (by exact .cons nn_D .nil) ?_
  refine CallX_body Γ_spec_l07Clean ?_
  simp only [A_spec_l07Clean, T_aiff]
  refine T_rseq fun Kr hKr => ?_
  simp (disch := omega) only [RA, ↓reduceIte, Nat.reduceEqDiff, RD, RDS]
  refine hKr _ _ ?_
  clear hKr Kr
  try simp only [RN, reduceIte]
  try refine T_e rfl ?_
  refine T_rseq fun Kr hKr => ?_
  simp (disch := omega) only [RA, ↓reduceIte, Nat.reduceEqDiff, RD]
  refine hKr _ _ ?_
  clear hKr Kr
  try simp only [RN, reduceIte]
  try refine T_e rfl ?_
  refine T_wloop (fun m f H' => ∃ i, i ≤ n ∧ m = n - i ∧ (∀ j, j < i → nl w j ≠ j ∧ nl w (nl w j) = j) ∧ f 1 = P 0 0 ∧ f 3 = I i ∧ H' = [some (DC n b w)]) (n) ?_ ?_
  · refine ⟨_, _, Gh.refl, 0, by omega, by omega, fun j hj => by omega, ?_, ?_, rfl⟩
    any_goals (simp (disch := omega) only [RA, ↓reduceIte, Nat.reduceEqDiff, RD, RE, *] <;> rfl)
  · rintro m f H' R ⟨i, hi, rfl, hall, g1, g3, rfl⟩ hN hX hR hE
    simp only [A_spec_l07Clean.l0, T_aiff]
    refine T_rseq fun Kr hKr => ?_
    simp (disch := omega) only [RA, ↓reduceIte, Nat.reduceEqDiff, RD, g1, g3, RDS]
    refine hKr _ _ ?_
    clear hKr Kr
    try simp only [RN, reduceIte]
    try refine T_e rfl ?_
    refine T_csplit (p := i < n) (by simp only [RA, ↓reduceIte, Nat.reduceEqDiff] <;> rfl) (by (try simp only [RB]) <;> first | done | exact Iff.rfl | omega | simp) (fun hc => ?_) (fun hc => ?_) <;> (try simp only [RN, reduceIte]) <;> (try refine T_e rfl ?_)
    · have h1 := hp.lt hc
      have h2 := hp.lt h1
      have hin : i < n := by assumption
      have hnext : ∀ f', f' 1 = P 0 0 → f' 3 = I i → nl w i ≠ i ∧ nl w (nl w i) = i → T 0 A_spec_l07Clean.r3 R f' [some (DC n b w)] := by
        intro f' g1 g3 h
        have hall' : ∀ j, j < i + 1 → nl w j ≠ j ∧ nl w (nl w j) = j := fun j hj => by
          by_cases e : j = i
          · rw [e]; exact h
          · exact hall j (by omega)
        refine T_reg_k fun Kr hKr => ?_
        simp (disch := omega) only [RA, ↓reduceIte, Nat.reduceEqDiff, RD, g3]
        refine hKr _ _ ?_
        clear hKr Kr
        refine hN (n - (i + 1)) _ _ _ _ (by omega) Gh.refl ⟨i + 1, by omega, rfl, hall', ?_, ?_, rfl⟩
        any_goals (simp (disch := omega) only [RA, ↓reduceIte, Nat.reduceEqDiff, RD, RE, *] <;> rfl)
      first | refine T_bfree rfl ?_ | refine T_bfree' rfl ?_
      try simp only [RN, reduceIte]
      try refine T_e rfl ?_
      refine T_rseq fun Kr hKr => ?_
      simp (disch := omega) only [RA, ↓reduceIte, Nat.reduceEqDiff, RD, g1, g3, RDS, RDD]
      refine hKr _ _ ?_
      clear hKr Kr
      try simp only [RN, reduceIte]
      try refine T_e rfl ?_
      by_cases he : nl w i = i
      · refine T_rseq fun Kr hKr => ?_
        simp (disch := omega) only [RA, ↓reduceIte, Nat.reduceEqDiff, RD, g1, g3, RDS, RDD]
        refine hKr _ _ ?_
        clear hKr Kr
        try simp only [RN, reduceIte]
        try refine T_e rfl ?_
        refine T_cseq (t := true) (by simp (disch := omega) only [RA, ↓reduceIte, Nat.reduceEqDiff, RD]) ?_
        try simp only [RN, reduceIte]
        try refine T_e rfl ?_
        refine T_rseq fun Kr hKr => ?_
        simp (disch := omega) only [RA, ↓reduceIte, Nat.reduceEqDiff, RD]
        refine hKr _ _ ?_
        clear hKr Kr
        try simp only [RN, reduceIte]
        try refine T_e rfl ?_
        refine hR _ _ ?_
        refine bodyQ_ret (by simp (disch := omega) only [RA, ↓reduceIte, Nat.reduceEqDiff, RD, resAll, resOf]; rfl) GhV.refl ?_
        simp only [tup]
        rw [show decide (Clean w n) = false by rw [decide_eq_false_iff_not]; exact fun h => (h i hin).1 he] at hK
        exact ⟨.bool, hK⟩
      · refine T_rseq fun Kr hKr => ?_
        simp (disch := omega) only [RA, ↓reduceIte, Nat.reduceEqDiff, RD, g1, g3, RDS, RDD]
        refine hKr _ _ ?_
        clear hKr Kr
        try simp only [RN, reduceIte]
        try refine T_e rfl ?_
        refine T_csplit (p := ¬ nl w (nl w i) = i) (by simp only [RA, ↓reduceIte, Nat.reduceEqDiff] <;> rfl) (by (try simp only [RB]) <;> first | done | exact Iff.rfl | omega | simp) (fun hc => ?_) (fun hc => ?_) <;> (try simp only [RN, reduceIte]) <;> (try refine T_e rfl ?_)
        · refine T_rseq fun Kr hKr => ?_
          simp (disch := omega) only [RA, ↓reduceIte, Nat.reduceEqDiff, RD]
          refine hKr _ _ ?_
          clear hKr Kr
          try simp only [RN, reduceIte]
          try refine T_e rfl ?_
          refine hR _ _ ?_
          refine bodyQ_ret (by simp (disch := omega) only [RA, ↓reduceIte, Nat.reduceEqDiff, RD, resAll, resOf]; rfl) GhV.refl ?_
          simp only [tup]
          rw [show decide (Clean w n) = false by rw [decide_eq_false_iff_not]; exact fun h => hc (h i hin).2] at hK
          exact ⟨.bool, hK⟩
        · refine hnext _ ?_ ?_ ⟨he, Decidable.not_not.1 hc⟩
          any_goals (simp (disch := omega) only [RA, ↓reduceIte, Nat.reduceEqDiff, RD, RE, *] <;> rfl)
    · refine hX _ _ ?_
      refine T_rseq fun Kr hKr => ?_
      simp (disch := omega) only [RA, ↓reduceIte, Nat.reduceEqDiff, RD]
      refine hKr _ _ ?_
      clear hKr Kr
      try simp only [RN, reduceIte]
      try refine T_e rfl ?_
      refine bodyQ_ret (by simp (disch := omega) only [RA, ↓reduceIte, Nat.reduceEqDiff, RD, resAll, resOf]; rfl) GhV.refl ?_
      simp only [tup]
      rw [show decide (Clean w n) = true by rw [decide_eq_true_eq]; exact fun j hj => hall j (by omega)] at hK
      exact ⟨.bool, hK⟩
end Go.Bm
