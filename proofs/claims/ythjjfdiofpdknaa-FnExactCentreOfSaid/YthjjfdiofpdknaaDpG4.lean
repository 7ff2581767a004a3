/- DpW, DpTb, DpTh, DpTi, DpTc -/
import Derived.Test.YthjjfdiofpdknaaDpG0
import Derived.Test.YthjjfdiofpdknaaDpG2
import Derived.Test.YthjjfdiofpdknaaDpG3
/- Types of permutations, and what is clean. -/
set_option linter.unusedVariables false
set_option linter.unusedSimpArgs false
namespace Go.Bm
open Go Go.Am

theorem lens_nl {p : List Nat} {n i : Nat} (h : i < (cyc p n).length) : nl (lens p n) i = ((cyc p n).getD i []).length := by
  simp [nl, lens, List.getD, h]
theorem typeOf_run {p : List Nat} {n : Nat} (hb : By 16 p) (hp : Perm p n) :
    CallX false F_impl_typeOf [PL p, I n] [] fun v H1 => ∃ j, v = S j 0 (typ p n).length 1 ∧ blk H1 j = some ((typ p n).map N64) := by
  have hlen := hb.len
  have hnum := cyc_num hp
  have hn := hp.1
  have hll : (lens p n).length = (cyc p n).length := by rw [lens, List.length_map]
  refine CallX_body Γ_impl_typeOf ?_
  simp only [A_impl_typeOf, T_aiff]
  refine T_rseq fun Kr hKr => ?_
  simp (disch := omega) only [RA, ↓reduceIte, Nat.reduceEqDiff, Nat.reduceBEq, Nat.reduceSub, Nat.reduceAdd, Nat.reduceMul, Nat.reduceLT, Nat.reduceLeDiff, Int.reduceLE, Int.reduceLT, Int.reduceEq, Int.reduceNeg, Int.reduceToNat, Int.reduceMul, Int.reduceAdd, Int.reduceSub, Int.reduceBEq, Int.reduceBNe, reduceCtorEq, RD]
  refine hKr _ _ ?_
  clear hKr Kr
  try simp only [RN, reduceIte]
  try refine T_e rfl ?_
  refine T_rseq fun Kr hKr => ?_
  simp (disch := omega) only [RA, ↓reduceIte, Nat.reduceEqDiff, Nat.reduceBEq, Nat.reduceSub, Nat.reduceAdd, Nat.reduceMul, Nat.reduceLT, Nat.reduceLeDiff, Int.reduceLE, Int.reduceLT, Int.reduceEq, Int.reduceNeg, Int.reduceToNat, Int.reduceMul, Int.reduceAdd, Int.reduceSub, Int.reduceBEq, Int.reduceBNe, reduceCtorEq, RD]
  refine hKr _ _ ?_
  clear hKr Kr
  try simp only [RN, reduceIte]
  try refine T_e rfl ?_
  refine T_rseq fun Kr hKr => ?_
  simp (disch := omega) only [RA, ↓reduceIte, Nat.reduceEqDiff, RD]
  refine cycles_spec hb hp ?_
  simp (disch := omega) only [RA, ↓reduceIte, Nat.reduceEqDiff, RD]
  refine hKr _ _ ?_
  clear hKr Kr
  try simp only [blkQ, thenQ, loopQ]
  try simp only [RN, reduceIte]
  try refine T_e rfl ?_
  refine T_wloop (fun m f H' => ∃ i out, i ≤ (cyc p n).length ∧ m = (cyc p n).length - i ∧ out = (lens p n).take i ∧ f 5 = S 1 0 out.length 1 ∧ f 11 = Fz (cyc p n).length 1 ((cyc p n).map FN) ∧ f 12 = I (cyc p n).length ∧ f 13 = I i ∧ H' = [some (p.map N8), some (out.map N64)]) ((cyc p n).length) ?_ ?_
  · refine ⟨_, _, Gh.refl, 0, [], by omega, by omega, by simp, ?_, ?_, ?_, ?_, by simp⟩
    any_goals (simp (disch := omega) only [RA, ↓reduceIte, Nat.reduceEqDiff, RD, RE, *] <;> rfl)
  · rintro m f H' R ⟨i, out, hi, rfl, hout, g5, g11, g12, g13, rfl⟩ hN hX hR hE
    simp only [A_impl_typeOf.l0, T_aiff]
    refine T_rseq fun Kr hKr => ?_
    simp (disch := omega) only [RA, ↓reduceIte, Nat.reduceEqDiff, Nat.reduceAdd, Nat.reduceMul, Int.reduceToNat, Nat.reduceLT, reduceCtorEq, RD, g12, g13]
    refine hKr _ _ ?_
    clear hKr Kr
    try simp only [RN, reduceIte]
    try refine T_e rfl ?_
    refine T_csplit (p := i < (cyc p n).length) (by simp only [RA, ↓reduceIte, Nat.reduceEqDiff, Nat.reduceBEq, Nat.reduceSub, Nat.reduceAdd, Nat.reduceMul, Nat.reduceLT, Nat.reduceLeDiff, Int.reduceLE, Int.reduceLT, Int.reduceEq, Int.reduceNeg, Int.reduceToNat, Int.reduceMul, Int.reduceAdd, Int.reduceSub, Int.reduceBEq, Int.reduceBNe, reduceCtorEq] <;> rfl) (by (try simp only [RB]) <;> first | done | exact Iff.rfl | omega | simp) (fun hc => ?_) (fun hc => ?_) <;> (try simp only [RN, reduceIte]) <;> (try refine T_e rfl ?_)
    · have hol : out.length ≤ 16 := by rw [hout, List.length_take]; omega
      have hci := lens_nl hc
      first | refine T_bfree rfl ?_ | refine T_bfree' rfl ?_
      try simp only [RN, reduceIte]
      try refine T_e rfl ?_
      refine T_rseq fun Kr hKr => ?_
      simp (disch := omega) only [RA, ↓reduceIte, Nat.reduceEqDiff, Nat.reduceBEq, Nat.reduceSub, Nat.reduceAdd, Nat.reduceMul, Nat.reduceLT, Nat.reduceLeDiff, Int.reduceLE, Int.reduceLT, Int.reduceEq, Int.reduceNeg, Int.reduceToNat, Int.reduceMul, Int.reduceAdd, Int.reduceSub, Int.reduceBEq, Int.reduceBNe, reduceCtorEq, RD, g11, g13, getN_FN]
      refine hKr _ _ ?_
      clear hKr Kr
      try simp only [RN, reduceIte]
      try refine T_e rfl ?_
      refine T_rseq fun Kr hKr => ?_
      simp (disch := omega) only [RA, ↓reduceIte, Nat.reduceEqDiff, Nat.reduceBEq, Nat.reduceSub, Nat.reduceAdd, Nat.reduceMul, Nat.reduceLT, Nat.reduceLeDiff, Int.reduceLE, Int.reduceLT, Int.reduceEq, Int.reduceNeg, Int.reduceToNat, Int.reduceMul, Int.reduceAdd, Int.reduceSub, Int.reduceBEq, Int.reduceBNe, reduceCtorEq, RD, g5, ← hci, app1_64]
      refine hKr _ _ ?_
      clear hKr Kr
      try simp only [RN, reduceIte]
      try refine T_e rfl ?_
      refine T_reg_k fun Kr hKr => ?_
      simp (disch := omega) only [RA, ↓reduceIte, Nat.reduceEqDiff, RD, g13]
      refine hKr _ _ ?_
      clear hKr Kr
      refine hN ((cyc p n).length - (i + 1)) _ _ _ _ (by omega) (Gh.nrm [0, 3] rfl rfl (by simp only [RH, RV])) ⟨i + 1, out ++ [nl (lens p n) i], by omega, rfl, by rw [take_succ_nl' (by omega), hout], ?_, ?_, ?_, ?_, rfl⟩
      any_goals (simp (disch := omega) only [RA, ↓reduceIte, Nat.reduceEqDiff, RD, RE, *] <;> rfl)
    · refine hX _ _ ?_
      obtain rfl : i = (cyc p n).length := by omega
      have hout' : out = lens p n := by rw [hout, ← hll, List.take_length]
      subst hout'
      have hpl : (ofN (lens p n)).length = (lens p n).length := ofN_len
      have hpm : (ofN (typ p n)).Perm (ofN (lens p n)) := (typ_perm hp).map _
      have htl : (typ p n).length = (lens p n).length := (typ_perm hp).length_eq
      have hl16 := lens_len hp
      refine T_rseq fun Kr hKr => ?_
      simp (disch := omega) only [RA, ↓reduceIte, Nat.reduceEqDiff, RD, g5]
      refine call1S (i := 1) rfl NNL_64 ?_
      have e : ([S 1 0 (lens p n).length 1] : List Value).map (ren [1]) = [S 0 0 (ofN (lens p n)).length 1] := by rw [hpl]; simp [ren, ren1, nm]
      rw [e, map_N64]
      refine descending_spec (r := ofN (typ p n)) (by omega) typL_dsc hpm ?_
      refine ⟨0, _, _, rfl, HN.cons (NNL.map fun _ => .int) HN.nil, ?_⟩
      rw [hpl]
      simp (disch := omega) only [RA, ↓reduceIte, Nat.reduceEqDiff, RD]
      refine hKr _ _ ?_
      clear hKr Kr
      try simp only [blkQ, thenQ, loopQ]
      try simp only [RN, reduceIte]
      try refine T_e rfl ?_
      refine bodyQ_ret (by simp (disch := omega) only [RA, ↓reduceIte, Nat.reduceEqDiff, RD, resAll, resOf]; rfl) GhV.refl ?_
      simp only [tup]
      exact ⟨1, by rw [htl], by rw [map_N64]; rfl⟩
theorem typeOf_spec {x : Bool} {p : List Nat} {n : Nat} {H : BH} {K : Value → BH → Prop} (hb : By 16 p) (hp : Perm p n) (hK : K (FN (typ p n)) H) : CallX x F_impl_typeOf [PL p, I n] H K :=
  callRZ (by (simp only [RH])) NNL_64 (by simp) (typeOf_run hb hp) hK
theorem st17_0 {H : BH} {b : Nat} : stO (some (List.replicate 17 (.int .i64 0))) H b 0 17 (aggL (List.replicate 17 (.int .i64 0))) = some (undef, H.set b (some ((List.replicate 17 0).map N64))) := by
  rw [st_ri]; rfl
theorem st64 {H : BH} {b o : Nat} {s : List Nat} {c : Nat} (h : o < s.length) : stO (some (s.map N64)) H b o 1 (.int .i64 (c : Int)) = some (undef, H.set b (some ((s.set o c).map N64))) := by
  rw [stO_int (by simpa using h)]
  rw [splice_1 (g := N64) h]
theorem l01Type_run {p : List Nat} {n : Nat} (hb : By 16 p) (hp : Perm p n) :
    CallX false F_spec_l01Type [PL p, I n] [] fun v H1 => ∃ j, v = S j 0 (typ p n).length 1 ∧ blk H1 j = some ((typ p n).map N64) := by
  have hlen := hb.len
  have hnum := cyc_num hp
  have hn := hp.1
  have hll : (lens p n).length = (cyc p n).length := by rw [lens, List.length_map]
  have hlo := lens_ok hp
  have hl16 := lens_len hp
  refine CallX_body Γ_spec_l01Type ?_
  simp only [A_spec_l01Type, T_aiff]
  refine T_rseq fun Kr hKr => ?_
  simp (disch := omega) only [RA, ↓reduceIte, Nat.reduceEqDiff, Nat.reduceBEq, Nat.reduceSub, Nat.reduceAdd, Nat.reduceMul, Nat.reduceLT, Nat.reduceLeDiff, Int.reduceLE, Int.reduceLT, Int.reduceEq, Int.reduceNeg, Int.reduceToNat, Int.reduceMul, Int.reduceAdd, Int.reduceSub, Int.reduceBEq, Int.reduceBNe, reduceCtorEq, RD]
  refine hKr _ _ ?_
  clear hKr Kr
  try simp only [RN, reduceIte]
  try refine T_e rfl ?_
  refine T_rseq fun Kr hKr => ?_
  simp (disch := omega) only [RA, ↓reduceIte, Nat.reduceEqDiff, Nat.reduceBEq, Nat.reduceSub, Nat.reduceAdd, Nat.reduceMul, Nat.reduceLT, Nat.reduceLeDiff, Int.reduceLE, Int.reduceLT, Int.reduceEq, Int.reduceNeg, Int.reduceToNat, Int.reduceMul, Int.reduceAdd, Int.reduceSub, Int.reduceBEq, Int.reduceBNe, reduceCtorEq, RD]
  refine l01Cycles_spec hb hp ?_
  simp (disch := omega) only [RA, ↓reduceIte, Nat.reduceEqDiff, Nat.reduceBEq, Nat.reduceSub, Nat.reduceAdd, Nat.reduceMul, Nat.reduceLT, Nat.reduceLeDiff, Int.reduceLE, Int.reduceLT, Int.reduceEq, Int.reduceNeg, Int.reduceToNat, Int.reduceMul, Int.reduceAdd, Int.reduceSub, Int.reduceBEq, Int.reduceBNe, reduceCtorEq, RD, st17_0]
  refine hKr _ _ ?_
  clear hKr Kr
  try simp only [blkQ, thenQ, loopQ]
  try simp only [RN, reduceIte]
  try refine T_e rfl ?_
  refine T_rseq fun Kr hKr => ?_
  simp (disch := omega) only [RA, ↓reduceIte, Nat.reduceEqDiff, Nat.reduceBEq, Nat.reduceSub, Nat.reduceAdd, Nat.reduceMul, Nat.reduceLT, Nat.reduceLeDiff, Int.reduceLE, Int.reduceLT, Int.reduceEq, Int.reduceNeg, Int.reduceToNat, Int.reduceMul, Int.reduceAdd, Int.reduceSub, Int.reduceBEq, Int.reduceBNe, reduceCtorEq, RD]
  refine hKr _ _ ?_
  clear hKr Kr
  try simp only [RN, reduceIte]
  try refine T_e rfl ?_
  refine T_wloop (fun m f H' => ∃ i cn, i ≤ (cyc p n).length ∧ m = (cyc p n).length - i ∧ cn = cntT (lens p n) i ∧ f 1 = I n ∧ f 5 = P 2 0 ∧ f 6 = Fz (cyc p n).length 1 ((cyc p n).map FN) ∧ f 7 = S 1 0 0 1 ∧ f 8 = I i ∧ H' = [some (p.map N8), some (([] : List Nat).map N64), some (cn.map N64)]) ((cyc p n).length) ?_ ?_
  · refine ⟨_, _, Gh.refl, 0, List.replicate 17 0, by omega, by omega, rfl, ?_, ?_, ?_, ?_, ?_, rfl⟩
    any_goals (simp (disch := omega) only [RA, ↓reduceIte, Nat.reduceEqDiff, RD, RE, *] <;> rfl)
  · rintro m f H' R ⟨i, cn, hi, rfl, hcn, g1, g5, g6, g7, g8, rfl⟩ hN hX hR hE
    simp only [A_spec_l01Type.l0, T_aiff]
    have hcl : cn.length = 17 := by rw [hcn]; exact cntT_len
    refine T_rseq fun Kr hKr => ?_
    simp (disch := omega) only [RA, ↓reduceIte, Nat.reduceEqDiff, RD, g6, g8]
    refine hKr _ _ ?_
    clear hKr Kr
    try simp only [RN, reduceIte]
    try refine T_e rfl ?_
    refine T_csplit (p := i < (cyc p n).length) (by simp only [RA, ↓reduceIte, Nat.reduceEqDiff] <;> rfl) (by (try simp only [RB]) <;> first | done | exact Iff.rfl | omega | simp) (fun hc => ?_) (fun hc => ?_) <;> (try simp only [RN, reduceIte]) <;> (try refine T_e rfl ?_)
    · have hci := lens_nl hc
      have hz := hlo _ (nl_mem (show i < (lens p n).length by omega))
      have hle : nl cn (nl (lens p n) i) ≤ 16 := by
        rw [hcn, cntT_nl (by omega) (by omega)]
        have := List.count_le_length (a := nl (lens p n) i) (l := (lens p n).take i)
        rw [List.length_take] at this
        omega
      have e1 : (nl cn (nl (lens p n) i) : Int) + 1 = ((nl cn (nl (lens p n) i) + 1 : Nat) : Int) := by omega
      first | refine T_bfree rfl ?_ | refine T_bfree' rfl ?_
      try simp only [RN, reduceIte]
      try refine T_e rfl ?_
      refine T_rseq fun Kr hKr => ?_
      simp (disch := omega) only [RA, ↓reduceIte, Nat.reduceEqDiff, RD, g5, g6, g8, getN_FN, ← hci, getN_64, hcl, e1, st64]
      refine hKr _ _ ?_
      clear hKr Kr
      try simp only [RN, reduceIte]
      try refine T_e rfl ?_
      refine T_reg_k fun Kr hKr => ?_
      simp (disch := omega) only [RA, ↓reduceIte, Nat.reduceEqDiff, RD, g8]
      refine hKr _ _ ?_
      clear hKr Kr
      refine hN ((cyc p n).length - (i + 1)) _ _ _ _ (by omega) Gh.refl ⟨i + 1, cn.set (nl (lens p n) i) (nl cn (nl (lens p n) i) + 1), by omega, rfl, by rw [cntT, hcn], ?_, ?_, ?_, ?_, ?_, rfl⟩
      any_goals (simp (disch := omega) only [RA, ↓reduceIte, Nat.reduceEqDiff, RD, RE, *] <;> rfl)
    · refine hX _ _ ?_
      obtain rfl : i = (cyc p n).length := by omega
      rw [← hll] at hcn
      have hd16 : ∀ k, k ≤ n → (typK cn n k).length ≤ 16 := fun k hk => by
        rw [hcn]
        have := typK_le (show n ≤ 16 by omega) hk hlo
        omega
      have hcv : ∀ v, v < 17 → nl cn v ≤ 16 := fun v hv => by
        rw [hcn, cntT_nl (Nat.le_refl _) hv]
        have := List.count_le_length (a := v) (l := (lens p n).take (lens p n).length)
        rw [List.length_take] at this
        omega
      have hdl : typ p n = typK cn n n := by rw [hcn]; rfl
      rw [hdl] at hX
      clear g6 g8 hc hN hX hR hE
      try simp only [RN, reduceIte]
      try refine T_e rfl ?_
      refine T_rseq fun Kr hKr => ?_
      simp (disch := omega) only [RA, ↓reduceIte, Nat.reduceEqDiff, RD, g1]
      refine hKr _ _ ?_
      clear hKr Kr
      try simp only [RN, reduceIte]
      try refine T_e rfl ?_
      rw [hdl]
      refine T_wloop (fun m f H' => ∃ v out, v ≤ n ∧ v = m ∧ out = typK cn n (n - v) ∧ f 5 = P 1 0 ∧ f 7 = S 0 0 out.length 1 ∧ f 9 = I v ∧ H' = [some (out.map N64), some (cn.map N64)]) (n) ?_ ?_
      · refine ⟨_, _, (Gh.nrm [1, 2] rfl rfl (by simp only [RH, RV])), n, [], by omega, by omega, by simp [typK], ?_, ?_, ?_, rfl⟩
        any_goals (simp (disch := omega) only [RA, ↓reduceIte, Nat.reduceEqDiff, RD, RE, *] <;> rfl)
      · clear g1 g5 g7
        rintro m f H' R2 ⟨v, out, hv, rfl, hout, g5, g7, g9, rfl⟩ hN2 hX2 hR2 hE2
        simp only [A_spec_l01Type.l2, T_aiff]
        refine T_rseq fun Kr hKr => ?_
        simp (disch := omega) only [RA, ↓reduceIte, Nat.reduceEqDiff, RD, g9]
        refine hKr _ _ ?_
        clear hKr Kr
        try simp only [RN, reduceIte]
        try refine T_e rfl ?_
        refine T_csplit (p := 0 < v) (by simp only [RA, ↓reduceIte, Nat.reduceEqDiff] <;> rfl) (by (try simp only [RB]) <;> first | done | exact Iff.rfl | omega | simp) (fun hc => ?_) (fun hc => ?_) <;> (try simp only [RN, reduceIte]) <;> (try refine T_e rfl ?_)
        · have hq := hcv v (by omega)
          have hstep : typK cn n (n - (v - 1)) = typK cn n (n - v) ++ List.replicate (nl cn v) v := by
            rw [show n - (v - 1) = (n - v) + 1 by omega, typK, show n - (n - v) = v by omega]
          have hdn := hd16 (n - (v - 1)) (by omega)
          rw [hstep, ← hout, List.length_append, List.length_replicate] at hdn
          rw [← hout] at hstep
          first | refine T_bfree rfl ?_ | refine T_bfree' rfl ?_
          try simp only [RN, reduceIte]
          try refine T_e rfl ?_
          refine T_rseq fun Kr hKr => ?_
          simp (disch := omega) only [RA, ↓reduceIte, Nat.reduceEqDiff, RD, g5, g9, getN_64, hcl]
          refine hKr _ _ ?_
          clear hKr Kr
          try simp only [RN, reduceIte]
          try refine T_e rfl ?_
          obtain ⟨q, hqe⟩ : ∃ q, nl cn v = q := ⟨_, rfl⟩
          rw [hqe] at hq hstep hdn
          simp only [hqe]
          refine T_wloop (fun m f H' => ∃ j o, j ≤ q ∧ j = m ∧ o = out ++ List.replicate (q - j) v ∧ f 5 = P 1 0 ∧ f 7 = S 0 0 o.length 1 ∧ f 9 = I v ∧ f 10 = I j ∧ H' = [some (o.map N64), some (cn.map N64)]) (q) ?_ ?_
          · refine ⟨_, _, Gh.refl, q, out, by omega, by omega, by simp, ?_, ?_, ?_, ?_, rfl⟩
            any_goals (simp (disch := omega) only [RA, ↓reduceIte, Nat.reduceEqDiff, Nat.reduceAdd, Nat.reduceMul, Int.reduceToNat, Nat.reduceLT, reduceCtorEq, RD, RE, *] <;> rfl)
          · clear g5 g7 g9
            rintro m f H' R3 ⟨j, o, hj, rfl, ho, g5, g7, g9, g10, rfl⟩ hN3 hX3 hR3 hE3
            simp only [A_spec_l01Type.l1, T_aiff]
            have hol : o.length ≤ 16 := by rw [ho, List.length_append, List.length_replicate]; omega
            refine T_rseq fun Kr hKr => ?_
            simp (disch := omega) only [RA, ↓reduceIte, Nat.reduceEqDiff, Nat.reduceBEq, Nat.reduceSub, Nat.reduceAdd, Nat.reduceMul, Nat.reduceLT, Nat.reduceLeDiff, Int.reduceLE, Int.reduceLT, Int.reduceEq, Int.reduceNeg, Int.reduceToNat, Int.reduceMul, Int.reduceAdd, Int.reduceSub, Int.reduceBEq, Int.reduceBNe, reduceCtorEq, RD, g10]
            refine hKr _ _ ?_
            clear hKr Kr
            try simp only [RN, reduceIte]
            try refine T_e rfl ?_
            refine T_csplit (p := 0 < j) (by simp only [RA, ↓reduceIte, Nat.reduceEqDiff, Nat.reduceBEq, Nat.reduceSub, Nat.reduceAdd, Nat.reduceMul, Nat.reduceLT, Nat.reduceLeDiff, Int.reduceLE, Int.reduceLT, Int.reduceEq, Int.reduceNeg, Int.reduceToNat, Int.reduceMul, Int.reduceAdd, Int.reduceSub, Int.reduceBEq, Int.reduceBNe, reduceCtorEq] <;> rfl) (by (try simp only [RB]) <;> first | done | exact Iff.rfl | omega | simp) (fun hc => ?_) (fun hc => ?_) <;> (try simp only [RN, reduceIte]) <;> (try refine T_e rfl ?_)
            · have hj1 : (j : Int) - 1 = ((j - 1 : Nat) : Int) := by omega
              first | refine T_bfree rfl ?_ | refine T_bfree' rfl ?_
              try simp only [RN, reduceIte]
              try refine T_e rfl ?_
              refine T_rseq fun Kr hKr => ?_
              simp (disch := omega) only [RA, ↓reduceIte, Nat.reduceEqDiff, Nat.reduceBEq, Nat.reduceSub, Nat.reduceAdd, Nat.reduceMul, Nat.reduceLT, Nat.reduceLeDiff, Int.reduceLE, Int.reduceLT, Int.reduceEq, Int.reduceNeg, Int.reduceToNat, Int.reduceMul, Int.reduceAdd, Int.reduceSub, Int.reduceBEq, Int.reduceBNe, reduceCtorEq, RD, g7, g9, app1_64]
              refine hKr _ _ ?_
              clear hKr Kr
              try simp only [RN, reduceIte]
              try refine T_e rfl ?_
              refine T_reg_k fun Kr hKr => ?_
              simp (disch := omega) only [RA, ↓reduceIte, Nat.reduceEqDiff, RD, g10, hj1]
              refine hKr _ _ ?_
              clear hKr Kr
              refine hN3 (j - 1) _ _ _ _ (by omega) (Gh.nrm [3, 1] rfl rfl (by simp only [RH, RV])) ⟨j - 1, o ++ [v], by omega, rfl, ?_, ?_, ?_, ?_, ?_, rfl⟩
              any_goals (simp (disch := omega) only [RA, ↓reduceIte, Nat.reduceEqDiff, RD, RE, *] <;> rfl)
              rw [ho, List.append_assoc, show q - (j - 1) = (q - j) + 1 by omega, List.replicate_succ']
            · refine hX3 _ _ ?_
              obtain rfl : j = 0 := by omega
              have hv1 : (v : Int) - 1 = ((v - 1 : Nat) : Int) := by omega
              refine T_reg_k fun Kr hKr => ?_
              simp (disch := omega) only [RA, ↓reduceIte, Nat.reduceEqDiff, RD, g9, hv1]
              refine hKr _ _ ?_
              clear hKr Kr
              refine hN2 (v - 1) _ _ _ _ (by omega) Gh.refl ⟨v - 1, o, by omega, rfl, by rw [hstep, ho]; rfl, ?_, ?_, ?_, rfl⟩
              any_goals (simp (disch := omega) only [RA, ↓reduceIte, Nat.reduceEqDiff, RD, RE, *] <;> rfl)
        · refine hX2 _ _ ?_
          obtain rfl : v = 0 := by omega
          refine T_rseq fun Kr hKr => ?_
          simp (disch := omega) only [RA, ↓reduceIte, Nat.reduceEqDiff, RD, g7]
          refine hKr _ _ ?_
          clear hKr Kr
          try simp only [RN, reduceIte]
          try refine T_e rfl ?_
          refine bodyQ_ret (by simp (disch := omega) only [RA, ↓reduceIte, Nat.reduceEqDiff, RD, resAll, resOf, g7]; rfl) GhV.refl ?_
          simp only [tup]
          rw [hout]
          exact ⟨0, rfl, rfl⟩
theorem l01Type_spec {x : Bool} {p : List Nat} {n : Nat} {H : BH} {K : Value → BH → Prop} (hb : By 16 p) (hp : Perm p n) (hK : K (FN (typ p n)) H) : CallX x F_spec_l01Type [PL p, I n] H K :=
  callRZ (by (simp only [RH])) NNL_64 (by simp) (l01Type_run hb hp) hK

/-! ### Clean -/
def Clean (w : List Nat) (n : Nat) : Prop := ∀ x, x < n → nl w x ≠ x ∧ nl w (nl w x) = x
instance (w : List Nat) (n : Nat) : Decidable (Clean w n) := by unfold Clean; infer_instance
end Go.Bm

/- Trees: passports, what is a tree, codes. -/
set_option linter.unusedVariables false
set_option linter.unusedSimpArgs false
namespace Go.Bm
open Go Go.Am

theorem face_by {b w : List Nat} {n : Nat} (hn : n ≤ 16) : By 16 (faceP b w n) := backK_by hn
def pass (b w : List Nat) (n : Nat) : List (List Nat) := [typ b n, typ w n, typ (faceP b w n) n]
abbrev FNN (xs : List (List Nat)) : Value := Fz xs.length 1 (xs.map FN)
theorem passport_spec {x : Bool} {n : Nat} {b w : List Nat} {H : BH} {K : Value → BH → Prop} (hb : By 16 b) (hw : By 16 w) (hd : Des n b w)
    (hK : K (FNN (pass b w n)) H) : CallX x F_impl_passport [DV n b w] H K := by
  have hlb := hb.len
  have hlw := hw.len
  have hn := hd.1.1
  have hb16 := fun i => hd.1.lt16 hlb i
  have hw16 := fun i => hd.2.1.lt16 hlw i
  refine callRZ (l := 3) (e := 1) (cs := (pass b w n).map FN) (.cons nn_D .nil) NNL_FN (by simp [pass]) ?_ hK
  refine CallX_body Γ_impl_passport ?_
  simp only [A_impl_passport, T_aiff]
  refine T_rseq fun Kr hKr => ?_
  simp (disch := omega) only [RA, ↓reduceIte, Nat.reduceEqDiff, RD, RDS]
  refine hKr _ _ ?_
  clear hKr Kr
  try simp only [RN, reduceIte]
  try refine T_e rfl ?_
  refine T_rseq fun Kr hKr => ?_
  simp (disch := omega) only [RA, ↓reduceIte, Nat.reduceEqDiff, RD, RDS, RDD]
  refine typeOf_spec hb hd.1 ?_
  simp (disch := omega) only [RA, ↓reduceIte, Nat.reduceEqDiff, Nat.reduceBEq, Nat.reduceSub, Nat.reduceAdd, Nat.reduceMul, Nat.reduceLT, Nat.reduceLeDiff, Int.reduceLE, Int.reduceLT, Int.reduceEq, Int.reduceNeg, Int.reduceToNat, Int.reduceMul, Int.reduceAdd, Int.reduceSub, Int.reduceBEq, Int.reduceBNe, reduceCtorEq, RD, RDS, RDD]
  refine typeOf_spec hw hd.2.1 ?_
  simp (disch := omega) only [RA, ↓reduceIte, Nat.reduceEqDiff, Nat.reduceBEq, Nat.reduceSub, Nat.reduceAdd, Nat.reduceMul, Nat.reduceLT, Nat.reduceLeDiff, Int.reduceLE, Int.reduceLT, Int.reduceEq, Int.reduceNeg, Int.reduceToNat, Int.reduceMul, Int.reduceAdd, Int.reduceSub, Int.reduceBEq, Int.reduceBNe, reduceCtorEq, RD, RDS, RDD]
  refine face_spec hb hw (by omega) hb16 hw16 ?_
  simp (disch := omega) only [RA, ↓reduceIte, Nat.reduceEqDiff, Nat.reduceBEq, Nat.reduceSub, Nat.reduceAdd, Nat.reduceMul, Nat.reduceLT, Nat.reduceLeDiff, Int.reduceLE, Int.reduceLT, Int.reduceEq, Int.reduceNeg, Int.reduceToNat, Int.reduceMul, Int.reduceAdd, Int.reduceSub, Int.reduceBEq, Int.reduceBNe, reduceCtorEq, RD, RDS, RDD]
  refine typeOf_spec (face_by (by omega)) (face_perm hd.1 hd.2.1) ?_
  simp (disch := omega) only [RA, ↓reduceIte, Nat.reduceEqDiff, Nat.reduceBEq, Nat.reduceSub, Nat.reduceAdd, Nat.reduceMul, Nat.reduceLT, Nat.reduceLeDiff, Int.reduceLE, Int.reduceLT, Int.reduceEq, Int.reduceNeg, Int.reduceToNat, Int.reduceMul, Int.reduceAdd, Int.reduceSub, Int.reduceBEq, Int.reduceBNe, reduceCtorEq, RD]
  refine hKr _ _ ?_
  clear hKr Kr
  try simp only [blkQ, thenQ, loopQ]
  try simp only [RN, reduceIte]
  try refine T_e rfl ?_
  refine bodyQ_ret (by simp (disch := omega) only [RA, ↓reduceIte, Nat.reduceEqDiff, RD, resAll, resOf]; rfl) GhV.refl ?_
  simp only [tup]
  exact ⟨1, rfl, rfl⟩
theorem l01Passport_spec {x : Bool} {n : Nat} {b w : List Nat} {H : BH} {K : Value → BH → Prop} (hb : By 16 b) (hw : By 16 w) (hd : Des n b w)
    (hK : K (FNN (pass b w n)) H) : CallX x F_spec_l01Passport [DV n b w] H K := by
  have hlb := hb.len
  have hlw := hw.len
  have hn := hd.1.1
  have hb16 := fun i => hd.1.lt16 hlb i
  have hw16 := fun i => hd.2.1.lt16 hlw i
  refine callRZ (l := 3) (e := 1) (cs := (pass b w n).map FN) (.cons nn_D .nil) NNL_FN (by simp [pass]) ?_ hK
  refine CallX_body Γ_spec_l01Passport ?_
  simp only [A_spec_l01Passport, T_aiff]
  refine T_rseq fun Kr hKr => ?_
  simp (disch := omega) only [RA, ↓reduceIte, Nat.reduceEqDiff, RD, RDS]
  refine hKr _ _ ?_
  clear hKr Kr
  try simp only [RN, reduceIte]
  try refine T_e rfl ?_
  refine T_rseq fun Kr hKr => ?_
  simp (disch := omega) only [RA, ↓reduceIte, Nat.reduceEqDiff, RD, RDS, RDD]
  refine l01Type_spec hb hd.1 ?_
  simp (disch := omega) only [RA, ↓reduceIte, Nat.reduceEqDiff, Nat.reduceBEq, Nat.reduceSub, Nat.reduceAdd, Nat.reduceMul, Nat.reduceLT, Nat.reduceLeDiff, Int.reduceLE, Int.reduceLT, Int.reduceEq, Int.reduceNeg, Int.reduceToNat, Int.reduceMul, Int.reduceAdd, Int.reduceSub, Int.reduceBEq, Int.reduceBNe, reduceCtorEq, RD, RDS, RDD]
  refine l01Type_spec hw hd.2.1 ?_
  simp (disch := omega) only [RA, ↓reduceIte, Nat.reduceEqDiff, Nat.reduceBEq, Nat.reduceSub, Nat.reduceAdd, Nat.reduceMul, Nat.reduceLT, Nat.reduceLeDiff, Int.reduceLE, Int.reduceLT, Int.reduceEq, Int.reduceNeg, Int.reduceToNat, Int.reduceMul, Int.reduceAdd, Int.reduceSub, Int.reduceBEq, Int.reduceBNe, reduceCtorEq, RD, RDS, RDD]
  refine l01Face_spec hb hw (by omega) hb16 hw16 ?_
  simp (disch := omega) only [RA, ↓reduceIte, Nat.reduceEqDiff, Nat.reduceBEq, Nat.reduceSub, Nat.reduceAdd, Nat.reduceMul, Nat.reduceLT, Nat.reduceLeDiff, Int.reduceLE, Int.reduceLT, Int.reduceEq, Int.reduceNeg, Int.reduceToNat, Int.reduceMul, Int.reduceAdd, Int.reduceSub, Int.reduceBEq, Int.reduceBNe, reduceCtorEq, RD, RDS, RDD]
  refine l01Type_spec (face_by (by omega)) (face_perm hd.1 hd.2.1) ?_
  simp (disch := omega) only [RA, ↓reduceIte, Nat.reduceEqDiff, Nat.reduceBEq, Nat.reduceSub, Nat.reduceAdd, Nat.reduceMul, Nat.reduceLT, Nat.reduceLeDiff, Int.reduceLE, Int.reduceLT, Int.reduceEq, Int.reduceNeg, Int.reduceToNat, Int.reduceMul, Int.reduceAdd, Int.reduceSub, Int.reduceBEq, Int.reduceBNe, reduceCtorEq, RD]
  refine hKr _ _ ?_
  clear hKr Kr
  try simp only [blkQ, thenQ, loopQ]
  try simp only [RN, reduceIte]
  try refine T_e rfl ?_
  refine bodyQ_ret (by simp (disch := omega) only [RA, ↓reduceIte, Nat.reduceEqDiff, RD, resAll, resOf]; rfl) GhV.refl ?_
  simp only [tup]
  exact ⟨1, rfl, rfl⟩
theorem tree_dec {n : Nat} {b w : List Nat} (hd : Des n b w) : Tree n b w ↔ (typ (faceP b w n) n).length = 1 ∧ (typ b n).length + (typ w n).length = n + 1 := by
  rw [Tree, typ_len (face_perm hd.1 hd.2.1), typ_len hd.1, typ_len hd.2.1]
theorem isTree_spec {x : Bool} {n : Nat} {b w : List Nat} {H : BH} {K : Value → BH → Prop} (hb : By 16 b) (hw : By 16 w) (hd : Des n b w)
    (hK : K (.bool (decide (Tree n b w))) H) : CallX x F_impl_isTree [DV n b w] H K := by
  have hlb := hb.len
  have hlw := hw.len
  have hn := hd.1.1
  have htd := tree_dec hd
  have hz : ∀ p : List Nat, Perm p n → (typ p n).length ≤ 16 := fun p hp => by rw [typ_len hp]; have := cyc_num hp; omega
  have hz1 := hz b hd.1
  have hz2 := hz w hd.2.1
  have hz3 := hz _ (face_perm hd.1 hd.2.1)
  refine callP (.cons nn_D .nil) ?_
  refine CallX_body Γ_impl_isTree ?_
  simp only [A_impl_isTree, T_aiff]
  refine T_rseq fun Kr hKr => ?_
  simp (disch := omega) only [RA, ↓reduceIte, Nat.reduceEqDiff, RD, RDS]
  refine hKr _ _ ?_
  clear hKr Kr
  try simp only [RN, reduceIte]
  try refine T_e rfl ?_
  refine T_rseq fun Kr hKr => ?_
  simp (disch := omega) only [RA, ↓reduceIte, Nat.reduceEqDiff, Nat.reduceAdd, Nat.reduceMul, Int.reduceToNat, Nat.reduceLT, reduceCtorEq, RD, RDS, RDD]
  refine passport_spec hb hw hd ?_
  have hg0 : getN none ((pass b w n).map FN) 0 = some (FN (typ b n)) := rfl
  have hg1 : getN none ((pass b w n).map FN) 1 = some (FN (typ w n)) := rfl
  have hg2 : getN none ((pass b w n).map FN) 2 = some (FN (typ (faceP b w n) n)) := rfl
  have hp3 : (pass b w n).length = 3 := rfl
  generalize (pass b w n) = ps at hg0 hg1 hg2 hp3 ⊢
  generalize typ b n = t1 at hg0 htd hz1
  generalize typ w n = t2 at hg1 htd hz2
  generalize typ (faceP b w n) n = t3 at hg2 htd hz3
  simp (disch := omega) only [RA, ↓reduceIte, Nat.reduceEqDiff, Nat.reduceAdd, Nat.reduceMul, Int.reduceToNat, Nat.reduceLT, reduceCtorEq, RD]
  refine hKr _ _ ?_
  clear hKr Kr
  try simp only [blkQ, thenQ, loopQ]
  try simp only [RN, reduceIte]
  try refine T_e rfl ?_
  by_cases h3 : t3.length = 1
  · by_cases h12 : t1.length + t2.length = n + 1
    · rw [decide_eq_true (htd.2 ⟨h3, h12⟩)] at hK
      refine T_rseq fun Kr hKr => ?_
      simp (disch := omega) only [RA, ↓reduceIte, Nat.reduceEqDiff, Nat.reduceAdd, Nat.reduceMul, Int.reduceToNat, Nat.reduceLT, reduceCtorEq, RD, RDS, hg0, hg1, hg2]
      refine hKr _ _ ?_
      clear hKr Kr
      try simp only [RN, reduceIte]
      try refine T_e rfl ?_
      refine bodyQ_ret (by simp (disch := omega) only [RA, ↓reduceIte, Nat.reduceEqDiff, Nat.reduceAdd, Nat.reduceMul, Int.reduceToNat, Nat.reduceLT, reduceCtorEq, RD, resAll, resOf]; rfl) GhV.refl ?_
      simp only [tup]
      exact ⟨.bool, hK⟩
    · rw [decide_eq_false (fun h => h12 (htd.1 h).2)] at hK
      refine T_rseq fun Kr hKr => ?_
      simp (disch := omega) only [RA, ↓reduceIte, Nat.reduceEqDiff, Nat.reduceAdd, Nat.reduceMul, Int.reduceToNat, Nat.reduceLT, reduceCtorEq, RD, RDS, hg0, hg1, hg2]
      refine hKr _ _ ?_
      clear hKr Kr
      try simp only [RN, reduceIte]
      try refine T_e rfl ?_
      refine bodyQ_ret (by simp (disch := omega) only [RA, ↓reduceIte, Nat.reduceEqDiff, Nat.reduceAdd, Nat.reduceMul, Int.reduceToNat, Nat.reduceLT, reduceCtorEq, RD, resAll, resOf]; rfl) GhV.refl ?_
      simp only [tup]
      exact ⟨.bool, hK⟩
  · rw [decide_eq_false (fun h => h3 (htd.1 h).1)] at hK
    refine T_rseq fun Kr hKr => ?_
    simp (disch := omega) only [RA, ↓reduceIte, Nat.reduceEqDiff, Nat.reduceAdd, Nat.reduceMul, Int.reduceToNat, Nat.reduceLT, reduceCtorEq, RD, RDS, hg2]
    refine hKr _ _ ?_
    clear hKr Kr
    try simp only [RN, reduceIte]
    try refine T_e rfl ?_
    refine bodyQ_ret (by simp (disch := omega) only [RA, ↓reduceIte, Nat.reduceEqDiff, Nat.reduceAdd, Nat.reduceMul, Int.reduceToNat, Nat.reduceLT, reduceCtorEq, RD, resAll, resOf]; rfl) GhV.refl ?_
    simp only [tup]
    exact ⟨.bool, hK⟩
theorem l05Tree_spec {x : Bool} {n : Nat} {b w : List Nat} {H : BH} {K : Value → BH → Prop} (hb : By 16 b) (hw : By 16 w) (hd : Des n b w)
    (hK : K (.bool (decide (Tree n b w))) H) : CallX x F_spec_l05Tree [DV n b w] H K := by
  have hlb := hb.len
  have hlw := hw.len
  have hn := hd.1.1
  have htd := tree_dec hd
  have hz : ∀ p : List Nat, Perm p n → (typ p n).length ≤ 16 := fun p hp => by rw [typ_len hp]; have := cyc_num hp; omega
  have hz1 := hz b hd.1
  have hz2 := hz w hd.2.1
  have hz3 := hz _ (face_perm hd.1 hd.2.1)
  refine callP (.cons nn_D .nil) ?_
  refine CallX_body Γ_spec_l05Tree ?_
  simp only [A_spec_l05Tree, T_aiff]
  refine T_rseq fun Kr hKr => ?_
  simp (disch := omega) only [RA, ↓reduceIte, Nat.reduceEqDiff, RD, RDS]
  refine hKr _ _ ?_
  clear hKr Kr
  try simp only [RN, reduceIte]
  try refine T_e rfl ?_
  refine T_rseq fun Kr hKr => ?_
  simp (disch := omega) only [RA, ↓reduceIte, Nat.reduceEqDiff, Nat.reduceAdd, Nat.reduceMul, Int.reduceToNat, Nat.reduceLT, reduceCtorEq, RD, RDS, RDD]
  refine l01Passport_spec hb hw hd ?_
  have hg0 : getN none ((pass b w n).map FN) 0 = some (FN (typ b n)) := rfl
  have hg1 : getN none ((pass b w n).map FN) 1 = some (FN (typ w n)) := rfl
  have hg2 : getN none ((pass b w n).map FN) 2 = some (FN (typ (faceP b w n) n)) := rfl
  have hp3 : (pass b w n).length = 3 := rfl
  generalize (pass b w n) = ps at hg0 hg1 hg2 hp3 ⊢
  generalize typ b n = t1 at hg0 htd hz1
  generalize typ w n = t2 at hg1 htd hz2
  generalize typ (faceP b w n) n = t3 at hg2 htd hz3
  simp (disch := omega) only [RA, ↓reduceIte, Nat.reduceEqDiff, Nat.reduceAdd, Nat.reduceMul, Int.reduceToNat, Nat.reduceLT, reduceCtorEq, RD]
  refine hKr _ _ ?_
  clear hKr Kr
  try simp only [blkQ, thenQ, loopQ]
  try simp only [RN, reduceIte]
  try refine T_e rfl ?_
  by_cases h3 : t3.length = 1
  · by_cases h12 : t1.length + t2.length = n + 1
    · rw [decide_eq_true (htd.2 ⟨h3, h12⟩)] at hK
      refine T_rseq fun Kr hKr => ?_
      simp (disch := omega) only [RA, ↓reduceIte, Nat.reduceEqDiff, Nat.reduceAdd, Nat.reduceMul, Int.reduceToNat, Nat.reduceLT, reduceCtorEq, RD, RDS, hg0, hg1, hg2]
      refine hKr _ _ ?_
      clear hKr Kr
      try simp only [RN, reduceIte]
      try refine T_e rfl ?_
      refine bodyQ_ret (by simp (disch := omega) only [RA, ↓reduceIte, Nat.reduceEqDiff, Nat.reduceAdd, Nat.reduceMul, Int.reduceToNat, Nat.reduceLT, reduceCtorEq, RD, resAll, resOf]; rfl) GhV.refl ?_
      simp only [tup]
      exact ⟨.bool, hK⟩
    · rw [decide_eq_false (fun h => h12 (htd.1 h).2)] at hK
      refine T_rseq fun Kr hKr => ?_
      simp (disch := omega) only [RA, ↓reduceIte, Nat.reduceEqDiff, Nat.reduceAdd, Nat.reduceMul, Int.reduceToNat, Nat.reduceLT, reduceCtorEq, RD, RDS, hg0, hg1, hg2]
      refine hKr _ _ ?_
      clear hKr Kr
      try simp only [RN, reduceIte]
      try refine T_e rfl ?_
      refine bodyQ_ret (by simp (disch := omega) only [RA, ↓reduceIte, Nat.reduceEqDiff, Nat.reduceAdd, Nat.reduceMul, Int.reduceToNat, Nat.reduceLT, reduceCtorEq, RD, resAll, resOf]; rfl) GhV.refl ?_
      simp only [tup]
      exact ⟨.bool, hK⟩
  · rw [decide_eq_false (fun h => h3 (htd.1 h).1)] at hK
    refine T_rseq fun Kr hKr => ?_
    simp (disch := omega) only [RA, ↓reduceIte, Nat.reduceEqDiff, Nat.reduceAdd, Nat.reduceMul, Int.reduceToNat, Nat.reduceLT, reduceCtorEq, RD, RDS, hg2]
    refine hKr _ _ ?_
    clear hKr Kr
    try simp only [RN, reduceIte]
    try refine T_e rfl ?_
    refine bodyQ_ret (by simp (disch := omega) only [RA, ↓reduceIte, Nat.reduceEqDiff, Nat.reduceAdd, Nat.reduceMul, Int.reduceToNat, Nat.reduceLT, reduceCtorEq, RD, resAll, resOf]; rfl) GhV.refl ?_
    simp only [tup]
    exact ⟨.bool, hK⟩
/-! ### Codes -/
theorem isDart_spec {x : Bool} {n : Int} {b w : List Nat} {xs : List Int} {H : BH} {K : Value → BH → Prop} (hb : By 16 b) (hw : By 16 w) (hl : xs.length ≤ 1000)
    (hK : K (.bool (decide (∀ y ∈ xs, 0 ≤ y ∧ y < n))) H) : CallX x F_impl_isDart [DV n b w, FI xs] H K := by
  have hlb := hb.len
  have hlw := hw.len
  refine callP (.cons nn_D (.cons .fz .nil)) ?_
  refine CallX_body Γ_impl_isDart ?_
  simp only [A_impl_isDart, T_aiff]
  refine T_rseq fun Kr hKr => ?_
  simp (disch := omega) only [RA, ↓reduceIte, Nat.reduceEqDiff, RD, RDS]
  refine hKr _ _ ?_
  clear hKr Kr
  try simp only [RN, reduceIte]
  try refine T_e rfl ?_
  refine T_rseq fun Kr hKr => ?_
  simp (disch := omega) only [RA, ↓reduceIte, Nat.reduceEqDiff, RD]
  refine hKr _ _ ?_
  clear hKr Kr
  try simp only [RN, reduceIte]
  try refine T_e rfl ?_
  refine T_wloop (fun m f H' => ∃ i, i ≤ xs.length ∧ m = xs.length - i ∧ (∀ j, j < i → 0 ≤ el xs j ∧ el xs j < n) ∧ f 2 = P 0 0 ∧ f 7 = FI xs ∧ f 8 = I xs.length ∧ f 9 = I i ∧ H' = [some (DC n b w)]) (xs.length) ?_ ?_
  · refine ⟨_, _, Gh.refl, 0, by omega, by omega, fun j hj => by omega, ?_, ?_, ?_, ?_, rfl⟩
    any_goals (simp (disch := omega) only [RA, ↓reduceIte, Nat.reduceEqDiff, RD, RE, *] <;> rfl)
  · rintro m f H' R ⟨i, hi, rfl, hall, g2, g7, g8, g9, rfl⟩ hN hX hR hE
    simp only [A_impl_isDart.l0, T_aiff]
    refine T_rseq fun Kr hKr => ?_
    simp (disch := omega) only [RA, ↓reduceIte, Nat.reduceEqDiff, RD, g8, g9]
    refine hKr _ _ ?_
    clear hKr Kr
    try simp only [RN, reduceIte]
    try refine T_e rfl ?_
    refine T_csplit (p := i < xs.length) (by simp only [RA, ↓reduceIte, Nat.reduceEqDiff] <;> rfl) (by (try simp only [RB]) <;> first | done | exact Iff.rfl | omega | simp) (fun hc => ?_) (fun hc => ?_) <;> (try simp only [RN, reduceIte]) <;> (try refine T_e rfl ?_)
    · have hil : i < xs.length := by assumption
      have hno : ¬ (0 ≤ el xs i ∧ el xs i < n) → decide (∀ y ∈ xs, 0 ≤ y ∧ y < n) = false := fun h => by
        rw [decide_eq_false_iff_not]
        intro h2
        refine h (h2 _ ?_)
        simp [el, List.getD, hil]
      first | refine T_bfree rfl ?_ | refine T_bfree' rfl ?_
      try simp only [RN, reduceIte]
      try refine T_e rfl ?_
      refine T_rseq fun Kr hKr => ?_
      simp (disch := omega) only [RA, ↓reduceIte, Nat.reduceEqDiff, RD, g7, g9]
      refine hKr _ _ ?_
      clear hKr Kr
      try simp only [RN, reduceIte]
      try refine T_e rfl ?_
      by_cases h0 : el xs i < 0
      · refine T_rseq fun Kr hKr => ?_
        simp (disch := omega) only [RA, ↓reduceIte, Nat.reduceEqDiff, RD]
        refine hKr _ _ ?_
        clear hKr Kr
        try simp only [RN, reduceIte]
        try refine T_e rfl ?_
        refine T_cseq (t := true) (by simp (disch := omega) only [RA, ↓reduceIte, Nat.reduceEqDiff, RD]) ?_
        try simp only [RN, reduceIte]
        try refine T_e rfl ?_
        refine T_rseq fun Kr hKr => ?_
        simp (disch := omega) only [RA, ↓reduceIte, Nat.reduceEqDiff, RD]
        refine hKr _ _ ?_
        clear hKr Kr
        try simp only [RN, reduceIte]
        try refine T_e rfl ?_
        refine hR _ _ ?_
        refine bodyQ_ret (by simp (disch := omega) only [RA, ↓reduceIte, Nat.reduceEqDiff, RD, resAll, resOf]; rfl) GhV.refl ?_
        simp only [tup]
        rw [hno (by omega)] at hK
        exact ⟨.bool, hK⟩
      · refine T_rseq fun Kr hKr => ?_
        simp (disch := omega) only [RA, ↓reduceIte, Nat.reduceEqDiff, RD, g2, RDS]
        refine hKr _ _ ?_
        clear hKr Kr
        try simp only [RN, reduceIte]
        try refine T_e rfl ?_
        refine T_csplit (p := n ≤ el xs i) (by simp only [RA, ↓reduceIte, Nat.reduceEqDiff] <;> rfl) (by (try simp only [RB]) <;> first | done | exact Iff.rfl | omega | simp) (fun hc => ?_) (fun hc => ?_) <;> (try simp only [RN, reduceIte]) <;> (try refine T_e rfl ?_)
        · refine T_rseq fun Kr hKr => ?_
          simp (disch := omega) only [RA, ↓reduceIte, Nat.reduceEqDiff, RD]
          refine hKr _ _ ?_
          clear hKr Kr
          try simp only [RN, reduceIte]
          try refine T_e rfl ?_
          refine hR _ _ ?_
          refine bodyQ_ret (by simp (disch := omega) only [RA, ↓reduceIte, Nat.reduceEqDiff, RD, resAll, resOf]; rfl) GhV.refl ?_
          simp only [tup]
          rw [hno (by omega)] at hK
          exact ⟨.bool, hK⟩
        · have hall' : ∀ j, j < i + 1 → 0 ≤ el xs j ∧ el xs j < n := fun j hj => by
            by_cases e : j = i
            · rw [e]; omega
            · exact hall j (by omega)
          refine T_reg_k fun Kr hKr => ?_
          simp (disch := omega) only [RA, ↓reduceIte, Nat.reduceEqDiff, RD, g9]
          refine hKr _ _ ?_
          clear hKr Kr
          refine hN (xs.length - (i + 1)) _ _ _ _ (by omega) Gh.refl ⟨i + 1, by omega, rfl, hall', ?_, ?_, ?_, ?_, rfl⟩
          any_goals (simp (disch := omega) only [RA, ↓reduceIte, Nat.reduceEqDiff, RD, RE, *] <;> rfl)
    · refine hX _ _ ?_
      refine T_rseq fun Kr hKr => ?_
      simp (disch := omega) only [RA, ↓reduceIte, Nat.reduceEqDiff, RD]
      refine hKr _ _ ?_
      clear hKr Kr
      try simp only [RN, reduceIte]
      try refine T_e rfl ?_
      refine bodyQ_ret (by simp (disch := omega) only [RA, ↓reduceIte, Nat.reduceEqDiff, RD, resAll, resOf]; rfl) GhV.refl ?_
      simp only [tup]
      rw [show decide (∀ y ∈ xs, 0 ≤ y ∧ y < n) = true by
        rw [decide_eq_true_eq]
        intro y hy
        obtain ⟨j, hj, rfl⟩ := List.mem_iff_getElem.1 hy
        have := hall j (by omega)
        simpa [el, List.getD, hj] using this] at hK
      exact ⟨.bool, hK⟩
def tcode (n : Int) (b w : List Nat) (xs : List Int) : Int :=
  if ¬ Des n b w then 1 else if ¬ (∀ y ∈ xs, 0 ≤ y ∧ y < n) then 2 else if ¬ Tree n.toNat b w then 5 else 0
theorem treeCode_spec {x : Bool} {n : Int} {b w : List Nat} {xs : List Int} {H : BH} {K : Value → BH → Prop} (hb : By 16 b) (hw : By 16 w) (hl : xs.length ≤ 1000)
    (hK : K (I (tcode n b w xs)) H) : CallX x F_impl_treeCode [DV n b w, FI xs] H K := by
  have hlb := hb.len
  have hlw := hw.len
  refine callP (.cons nn_D (.cons .fz .nil)) ?_
  refine CallX_body Γ_impl_treeCode ?_
  simp only [A_impl_treeCode, T_aiff]
  refine T_rseq fun Kr hKr => ?_
  simp (disch := omega) only [RA, ↓reduceIte, Nat.reduceEqDiff, RD, RDS]
  refine hKr _ _ ?_
  clear hKr Kr
  try simp only [RN, reduceIte]
  try refine T_e rfl ?_
  refine T_seq (T_block ?_)
  try simp only [RN, reduceIte]
  try refine T_e rfl ?_
  refine T_rseq fun Kr hKr => ?_
  simp (disch := omega) only [RA, ↓reduceIte, Nat.reduceEqDiff, RD, RDS, RDD]
  refine IsDessin_spec hb hw ?_
  simp (disch := omega) only [RA, ↓reduceIte, Nat.reduceEqDiff, RD]
  refine hKr _ _ ?_
  clear hKr Kr
  try simp only [blkQ, thenQ, loopQ]
  try simp only [RN, reduceIte]
  try refine T_e rfl ?_
  refine T_csplit1 (p := ¬ Des n b w) (by simp only [RA, ↓reduceIte, Nat.reduceEqDiff] <;> rfl) (by (try simp only [RB]) <;> first | done | exact Iff.rfl | omega | simp) (fun hc => ?_) (fun hc => ?_) <;> (try simp only [RN, reduceIte]) <;> (try refine T_e rfl ?_)
  · refine T_rseq fun Kr hKr => ?_
    simp (disch := omega) only [RA, ↓reduceIte, Nat.reduceEqDiff, RD]
    refine hKr _ _ ?_
    clear hKr Kr
    try simp only [RN, reduceIte]
    try refine T_e rfl ?_
    simp only [blkQ, thenQ, loopQ, if_true]
    refine bodyQ_ret (by simp (disch := omega) only [RA, ↓reduceIte, Nat.reduceEqDiff, RD, resAll, resOf]; rfl) GhV.refl ?_
    simp only [tup]
    rw [tcode, if_pos hc] at hK
    exact ⟨.int, hK⟩
  have hd := Decidable.not_not.1 hc
  rw [tcode, if_neg hc] at hK
  clear hc
  refine T_rseq fun Kr hKr => ?_
  simp (disch := omega) only [RA, ↓reduceIte, Nat.reduceEqDiff, RD, RDS, RDD]
  refine isDart_spec hb hw hl ?_
  simp (disch := omega) only [RA, ↓reduceIte, Nat.reduceEqDiff, RD]
  refine hKr _ _ ?_
  clear hKr Kr
  try simp only [blkQ, thenQ, loopQ]
  try simp only [RN, reduceIte]
  try refine T_e rfl ?_
  refine T_csplit1 (p := ¬ (∀ y ∈ xs, 0 ≤ y ∧ y < n)) (by simp only [RA, ↓reduceIte, Nat.reduceEqDiff] <;> rfl) (by (try simp only [RB]) <;> first | done | exact Iff.rfl | omega | simp) (fun hc => ?_) (fun hc => ?_) <;> (try simp only [RN, reduceIte]) <;> (try refine T_e rfl ?_)
  · refine T_rseq fun Kr hKr => ?_
    simp (disch := omega) only [RA, ↓reduceIte, Nat.reduceEqDiff, RD]
    refine hKr _ _ ?_
    clear hKr Kr
    try simp only [RN, reduceIte]
    try refine T_e rfl ?_
    simp only [blkQ, thenQ, loopQ, if_true]
    refine bodyQ_ret (by simp (disch := omega) only [RA, ↓reduceIte, Nat.reduceEqDiff, RD, resAll, resOf]; rfl) GhV.refl ?_
    simp only [tup]
    rw [if_pos hc] at hK
    exact ⟨.int, hK⟩
  rw [if_neg hc] at hK
  clear hc
  obtain ⟨m, rfl, hm1, hm2⟩ := hd.n0
  rw [Int.toNat_natCast] at hK
  refine T_rseq fun Kr hKr => ?_
  simp (disch := omega) only [RA, ↓reduceIte, Nat.reduceEqDiff, RD, RDS, RDD]
  refine isTree_spec hb hw hd ?_
  simp (disch := omega) only [RA, ↓reduceIte, Nat.reduceEqDiff, RD]
  refine hKr _ _ ?_
  clear hKr Kr
  try simp only [blkQ, thenQ, loopQ]
  try simp only [RN, reduceIte]
  try refine T_e rfl ?_
  refine T_csplit1 (p := ¬ Tree m b w) (by simp only [RA, ↓reduceIte, Nat.reduceEqDiff] <;> rfl) (by (try simp only [RB]) <;> first | done | exact Iff.rfl | omega | simp) (fun hc => ?_) (fun hc => ?_) <;> (try simp only [RN, reduceIte]) <;> (try refine T_e rfl ?_)
  · refine T_rseq fun Kr hKr => ?_
    simp (disch := omega) only [RA, ↓reduceIte, Nat.reduceEqDiff, RD]
    refine hKr _ _ ?_
    clear hKr Kr
    try simp only [RN, reduceIte]
    try refine T_e rfl ?_
    simp only [blkQ, thenQ, loopQ, if_true]
    refine bodyQ_ret (by simp (disch := omega) only [RA, ↓reduceIte, Nat.reduceEqDiff, RD, resAll, resOf]; rfl) GhV.refl ?_
    simp only [tup]
    rw [if_pos hc] at hK
    exact ⟨.int, hK⟩
  rw [if_neg hc] at hK
  simp only [blkQ, thenQ, loopQ, if_true]
  refine T_rseq fun Kr hKr => ?_
  simp (disch := omega) only [RA, ↓reduceIte, Nat.reduceEqDiff, RD]
  refine hKr _ _ ?_
  clear hKr Kr
  try simp only [RN, reduceIte]
  try refine T_e rfl ?_
  refine bodyQ_ret (by simp (disch := omega) only [RA, ↓reduceIte, Nat.reduceEqDiff, RD, resAll, resOf]; rfl) GhV.refl ?_
  simp only [tup]
  exact ⟨.int, hK⟩
theorem l05Code_spec {x : Bool} {n : Int} {b w : List Nat} {H : BH} {K : Value → BH → Prop} (hb : By 16 b) (hw : By 16 w)
    (hK : K (I (tcode n b w [])) H) : CallX x F_spec_l05Code [DV n b w] H K := by
  have hlb := hb.len
  have hlw := hw.len
  refine callP (.cons nn_D .nil) ?_
  refine CallX_body Γ_spec_l05Code ?_
  simp only [A_spec_l05Code, T_aiff]
  refine T_rseq fun Kr hKr => ?_
  simp (disch := omega) only [RA, ↓reduceIte, Nat.reduceEqDiff, RD, RDS]
  refine hKr _ _ ?_
  clear hKr Kr
  try simp only [RN, reduceIte]
  try refine T_e rfl ?_
  refine T_seq (T_block ?_)
  try simp only [RN, reduceIte]
  try refine T_e rfl ?_
  refine T_rseq fun Kr hKr => ?_
  simp (disch := omega) only [RA, ↓reduceIte, Nat.reduceEqDiff, RD, RDS, RDD]
  refine l01Is_spec hb hw ?_
  simp (disch := omega) only [RA, ↓reduceIte, Nat.reduceEqDiff, RD]
  refine hKr _ _ ?_
  clear hKr Kr
  try simp only [blkQ, thenQ, loopQ]
  try simp only [RN, reduceIte]
  try refine T_e rfl ?_
  refine T_csplit1 (p := ¬ Des n b w) (by simp only [RA, ↓reduceIte, Nat.reduceEqDiff] <;> rfl) (by (try simp only [RB]) <;> first | done | exact Iff.rfl | omega | simp) (fun hc => ?_) (fun hc => ?_) <;> (try simp only [RN, reduceIte]) <;> (try refine T_e rfl ?_)
  · refine T_rseq fun Kr hKr => ?_
    simp (disch := omega) only [RA, ↓reduceIte, Nat.reduceEqDiff, RD]
    refine hKr _ _ ?_
    clear hKr Kr
    try simp only [RN, reduceIte]
    try refine T_e rfl ?_
    simp only [blkQ, thenQ, loopQ, if_true]
    refine bodyQ_ret (by simp (disch := omega) only [RA, ↓reduceIte, Nat.reduceEqDiff, RD, resAll, resOf]; rfl) GhV.refl ?_
    simp only [tup]
    rw [tcode, if_pos hc] at hK
    exact ⟨.int, hK⟩
  have hd := Decidable.not_not.1 hc
  rw [tcode, if_neg hc, if_neg (by simp)] at hK
  clear hc
  obtain ⟨m, rfl, hm1, hm2⟩ := hd.n0
  rw [Int.toNat_natCast] at hK
  refine T_rseq fun Kr hKr => ?_
  simp (disch := omega) only [RA, ↓reduceIte, Nat.reduceEqDiff, RD, RDS, RDD]
  refine l05Tree_spec hb hw hd ?_
  simp (disch := omega) only [RA, ↓reduceIte, Nat.reduceEqDiff, RD]
  refine hKr _ _ ?_
  clear hKr Kr
  try simp only [blkQ, thenQ, loopQ]
  try simp only [RN, reduceIte]
  try refine T_e rfl ?_
  refine T_csplit1 (p := ¬ Tree m b w) (by simp only [RA, ↓reduceIte, Nat.reduceEqDiff] <;> rfl) (by (try simp only [RB]) <;> first | done | exact Iff.rfl | omega | simp) (fun hc => ?_) (fun hc => ?_) <;> (try simp only [RN, reduceIte]) <;> (try refine T_e rfl ?_)
  · refine T_rseq fun Kr hKr => ?_
    simp (disch := omega) only [RA, ↓reduceIte, Nat.reduceEqDiff, RD]
    refine hKr _ _ ?_
    clear hKr Kr
    try simp only [RN, reduceIte]
    try refine T_e rfl ?_
    simp only [blkQ, thenQ, loopQ, if_true]
    refine bodyQ_ret (by simp (disch := omega) only [RA, ↓reduceIte, Nat.reduceEqDiff, RD, resAll, resOf]; rfl) GhV.refl ?_
    simp only [tup]
    rw [if_pos hc] at hK
    exact ⟨.int, hK⟩
  rw [if_neg hc] at hK
  simp only [blkQ, thenQ, loopQ, if_true]
  refine T_rseq fun Kr hKr => ?_
  simp (disch := omega) only [RA, ↓reduceIte, Nat.reduceEqDiff, RD]
  refine hKr _ _ ?_
  clear hKr Kr
  try simp only [RN, reduceIte]
  try refine T_e rfl ?_
  refine bodyQ_ret (by simp (disch := omega) only [RA, ↓reduceIte, Nat.reduceEqDiff, RD, resAll, resOf]; rfl) GhV.refl ?_
  simp only [tup]
  exact ⟨.int, hK⟩
end Go.Bm

/- The vertices of a tree in memory. -/
set_option linter.unusedVariables false
set_option linter.unusedSimpArgs false
namespace Go.Bm
open Go Go.Am

section
variable {n : Nat} {b w : List Nat}
/-- The numbers of the two vertices of each edge, one behind the other. -/
def endl (b w : List Nat) (n : Nat) : List Nat := (List.range (n * 2)).map fun k => ends b w n (k % 2 == 1) (k / 2)
theorem endl_len : (endl b w n).length = n * 2 := by simp [endl]
theorem endl_at {k : Nat} (h : k < n * 2) : nl (endl b w n) k = ends b w n (k % 2 == 1) (k / 2) := by simp [endl, nl, List.getD, h]
theorem endl_0 {x : Nat} (h : x < n) : nl (endl b w n) (x * 2) = ends b w n false x := by
  rw [endl_at (by omega), show x * 2 % 2 = 0 by omega, show x * 2 / 2 = x by omega]
  rfl
theorem endl_1 {x : Nat} (h : x < n) : nl (endl b w n) (x * 2 + 1) = ends b w n true x := by
  rw [endl_at (by omega), show (x * 2 + 1) % 2 = 1 by omega, show (x * 2 + 1) / 2 = x by omega]
  rfl
def ct (c : Bool) : Nat := if c then 1 else 0
theorem endl_ext {E : List Nat} (hl : E.length = n * 2) (h : ∀ c x, x < n → nl E (x * 2 + ct c) = ends b w n c x) : E = endl b w n := by
  refine List.ext_getElem (by rw [hl, endl_len]) fun i h1 h2 => ?_
  have e : ∀ (l : List Nat) (hk : i < l.length), l[i] = nl l i := fun l hk => by simp [nl, List.getD, hk]
  rw [e E h1, e _ h2, endl_at (by omega)]
  have := h (i % 2 == 1) (i / 2) (by omega)
  rw [← this]
  congr 1
  rcases Nat.mod_two_eq_zero_or_one i with h3 | h3 <;> simp [ct, h3] <;> omega
def vl (b w : List Nat) (n i : Nat) : List Nat := (verts b w n).getD i []
theorem vl_eq {i : Nat} (h : i < (verts b w n).length) : vl b w n i = (verts b w n)[i] := by simp [vl, List.getD, h]
theorem verts_le (hd : Des n b w) : (verts b w n).length ≤ 32 ∧ 0 < (cyc b n).length ∧ (cyc b n).length ≤ 16 ∧ (cyc w n).length ≤ 16 := by
  obtain ⟨hb, hw, _⟩ := id hd
  have hn := hb.1
  have h1 := (CycOk.all rfl hb (Nat.le_refl n)).num
  have h2 := (CycOk.all rfl hw (Nat.le_refl n)).num
  have h3 : (cycK b 16 n).2 = cyc b n := rfl
  have h4 : (cycK w 16 n).2 = cyc w n := rfl
  rw [h3] at h1
  rw [h4] at h2
  have h5 := vix_lt hb (show 0 < n by omega)
  rw [verts, List.length_append]
  omega
theorem vl_len (hd : Des n b w) {i : Nat} (h : i < (verts b w n).length) : (vl b w n i).length ≤ n ∧ (vl b w n i).Nodup ∧ ∀ x ∈ vl b w n i, x < n := by
  rw [vl_eq h]
  exact ⟨nodup_le (verts_nod hd h) fun x hx => verts_lt hd h hx, verts_nod hd h, fun x hx => verts_lt hd h hx⟩
/-- What has been written of the ends. -/
def EOk (b w : List Nat) (n i j : Nat) (E : List Nat) : Prop :=
  E.length = n * 2 ∧ ∀ c x, x < n → (ends b w n c x < i ∨ (ends b w n c x = i ∧ x ∈ (vl b w n i).take j)) → nl E (x * 2 + ct c) = ends b w n c x
theorem EOk.zero : EOk b w n 0 0 (List.replicate (n * 2) 0) := ⟨by simp, fun c x hx h => by simp at h⟩
theorem EOk.next {i : Nat} {E : List Nat} (h : EOk b w n i (vl b w n i).length E) (hd : Des n b w) (hi : i < (verts b w n).length) : EOk b w n (i + 1) 0 E := by
  refine ⟨h.1, fun c x hx hh => h.2 c x hx ?_⟩
  rcases hh with hh | hh
  · rcases Nat.lt_or_ge (ends b w n c x) i with h1 | h1
    · exact .inl h1
    · have e : ends b w n c x = i := by omega
      refine .inr ⟨e, ?_⟩
      rw [List.take_length, vl_eq hi]
      have := (mem_verts hd (c := c) hx hx).2 rfl
      simp only [e] at this
      exact this
  · simp at hh
theorem EOk.step {i j : Nat} {E : List Nat} (h : EOk b w n i j E) (hd : Des n b w) (hi : i < (verts b w n).length) (hj : j < (vl b w n i).length) :
    EOk b w n i (j + 1) (E.set (nl (vl b w n i) j * 2 + ct (decide ((cyc b n).length ≤ i))) i) := by
  have hx0 := (vl_len hd hi).2.2 _ (nl_mem hj)
  have hct : ∀ c : Bool, ct c ≤ 1 := fun c => by cases c <;> simp [ct]
  refine ⟨by rw [List.length_set]; exact h.1, fun c x hx hh => ?_⟩
  rw [nl_set, h.1]
  by_cases e : x * 2 + ct c = nl (vl b w n i) j * 2 + ct (decide ((cyc b n).length ≤ i))
  · rw [if_pos ⟨e, by have := hct (decide ((cyc b n).length ≤ i)); omega⟩]
    have h1 := hct c
    have h2 := hct (decide ((cyc b n).length ≤ i))
    have e1 : x = nl (vl b w n i) j := by omega
    have hm : x ∈ (verts b w n)[i] := by rw [← vl_eq hi, e1]; exact nl_mem hj
    have e2 : c = decide ((cyc b n).length ≤ i) := by
      have : ct c = ct (decide ((cyc b n).length ≤ i)) := by omega
      revert this
      cases c <;> cases (decide ((cyc b n).length ≤ i)) <;> simp [ct]
    obtain ⟨c', ⟨y, hy, hyv⟩, hall⟩ := verts_at hd hi
    have h3 := (hall x hx).1 hm
    have : c = c' := by
      rw [e2]
      have hb := hd.1
      cases c'
      · simp only [ends, Bool.false_eq_true, if_false] at hyv
        have := vix_lt hb hy
        simp; omega
      · simp only [ends, if_true] at hyv
        simp; omega
    rw [this, h3]
  · rw [if_neg (fun k => e k.1)]
    refine h.2 c x hx ?_
    rcases hh with hh | ⟨h1, h2⟩
    · exact .inl hh
    · refine .inr ⟨h1, ?_⟩
      rw [take_succ_nl' hj] at h2
      rcases List.mem_append.1 h2 with h3 | h3
      · exact h3
      · exfalso
        rw [List.mem_singleton] at h3
        refine e ?_
        rw [h3]
        congr 1
        have hb := hd.1
        cases c
        · simp only [ends, Bool.false_eq_true, if_false] at h1
          have := vix_lt hb hx
          simp [ct]; omega
        · simp only [ends, if_true] at h1
          simp [ct]; omega
theorem EOk.done {E : List Nat} (hd : Des n b w) (h : EOk b w n (verts b w n).length 0 E) : E = endl b w n :=
  endl_ext h.1 fun c x hx => h.2 c x hx (.inl (ends_lt hd hx))
theorem vertices_spec {x : Bool} {H : BH} {K : Value → BH → Prop} (hb : By 16 b) (hw : By 16 w) (hd : Des n b w)
    (hK : K (.tuple ⟨[Fz (verts b w n).length 1 ((verts b w n).map FN), Fz n 2 ((endl b w n).map N64)]⟩) H) : CallX x F_impl_vertices [DV n b w] H K := by
  have hlb := hb.len
  have hlw := hw.len
  have hn := hd.1.1
  obtain ⟨hv1, hv2, hv3, hv4⟩ := verts_le hd
  have hpb := hd.1
  have hpw := hd.2.1
  have hvl : (cyc b n).length + (cyc w n).length = (verts b w n).length := by rw [verts, List.length_append]
  refine callRZ2 (.cons nn_D .nil) ?_
  refine CallX_body Γ_impl_vertices ?_
  simp only [A_impl_vertices, T_aiff]
  refine T_rseq fun Kr hKr => ?_
  simp (disch := omega) only [RA, ↓reduceIte, Nat.reduceEqDiff, Nat.reduceBEq, Nat.reduceSub, Nat.reduceAdd, Nat.reduceMul, Nat.reduceLT, Nat.reduceLeDiff, Int.reduceLE, Int.reduceLT, Int.reduceEq, Int.reduceNeg, Int.reduceToNat, Int.reduceMul, Int.reduceAdd, Int.reduceSub, Int.reduceBEq, Int.reduceBNe, reduceCtorEq, RD, RDS]
  refine hKr _ _ ?_
  clear hKr Kr
  try simp only [RN, reduceIte]
  try refine T_e rfl ?_
  refine T_rseq fun Kr hKr => ?_
  simp (disch := omega) only [RA, ↓reduceIte, Nat.reduceEqDiff, Nat.reduceBEq, Nat.reduceSub, Nat.reduceAdd, Nat.reduceMul, Nat.reduceLT, Nat.reduceLeDiff, Int.reduceLE, Int.reduceLT, Int.reduceEq, Int.reduceNeg, Int.reduceToNat, Int.reduceMul, Int.reduceAdd, Int.reduceSub, Int.reduceBEq, Int.reduceBNe, reduceCtorEq, RD, RDS, RDD]
  refine cycles_spec hb hpb ?_
  simp (disch := omega) only [RA, ↓reduceIte, Nat.reduceEqDiff, Nat.reduceBEq, Nat.reduceSub, Nat.reduceAdd, Nat.reduceMul, Nat.reduceLT, Nat.reduceLeDiff, Int.reduceLE, Int.reduceLT, Int.reduceEq, Int.reduceNeg, Int.reduceToNat, Int.reduceMul, Int.reduceAdd, Int.reduceSub, Int.reduceBEq, Int.reduceBNe, reduceCtorEq, RD]
  refine hKr _ _ ?_
  clear hKr Kr
  try simp only [blkQ, thenQ, loopQ]
  try simp only [RN, reduceIte]
  try refine T_e rfl ?_
  refine T_rseq fun Kr hKr => ?_
  simp (disch := omega) only [RA, ↓reduceIte, Nat.reduceEqDiff, Nat.reduceBEq, Nat.reduceSub, Nat.reduceAdd, Nat.reduceMul, Nat.reduceLT, Nat.reduceLeDiff, Int.reduceLE, Int.reduceLT, Int.reduceEq, Int.reduceNeg, Int.reduceToNat, Int.reduceMul, Int.reduceAdd, Int.reduceSub, Int.reduceBEq, Int.reduceBNe, reduceCtorEq, RD, RDS, RDD]
  refine CloneSS_spec hv2 (by omega) ?_
  simp (disch := omega) only [RA, ↓reduceIte, Nat.reduceEqDiff, Nat.reduceBEq, Nat.reduceSub, Nat.reduceAdd, Nat.reduceMul, Nat.reduceLT, Nat.reduceLeDiff, Int.reduceLE, Int.reduceLT, Int.reduceEq, Int.reduceNeg, Int.reduceToNat, Int.reduceMul, Int.reduceAdd, Int.reduceSub, Int.reduceBEq, Int.reduceBNe, reduceCtorEq, RD, RDS, RDD]
  refine cycles_spec hw hpw ?_
  simp (disch := omega) only [RA, ↓reduceIte, Nat.reduceEqDiff, Nat.reduceBEq, Nat.reduceSub, Nat.reduceAdd, Nat.reduceMul, Nat.reduceLT, Nat.reduceLeDiff, Int.reduceLE, Int.reduceLT, Int.reduceEq, Int.reduceNeg, Int.reduceToNat, Int.reduceMul, Int.reduceAdd, Int.reduceSub, Int.reduceBEq, Int.reduceBNe, reduceCtorEq, RD, bApp_z, appz_FN]
  refine hKr _ _ ?_
  clear hKr Kr
  try simp only [blkQ, thenQ, loopQ]
  try simp only [RN, reduceIte]
  try refine T_e rfl ?_
  have happ : ((cyc b n).length + (cyc w n).length) = (verts b w n).length := hvl
  have happ2 : cyc b n ++ cyc w n = verts b w n := rfl
  rw [happ, happ2]
  refine T_rseq fun Kr hKr => ?_
  simp (disch := omega) only [RA, ↓reduceIte, Nat.reduceEqDiff, Nat.reduceBEq, Nat.reduceSub, Nat.reduceAdd, Nat.reduceMul, Nat.reduceLT, Nat.reduceLeDiff, Int.reduceLE, Int.reduceLT, Int.reduceEq, Int.reduceNeg, Int.reduceToNat, Int.reduceMul, Int.reduceAdd, Int.reduceSub, Int.reduceBEq, Int.reduceBNe, reduceCtorEq, RD, RDS, RDD, repl2_64]
  refine hKr _ _ ?_
  clear hKr Kr
  try simp only [RN, reduceIte]
  try refine T_e rfl ?_
  refine T_rseq fun Kr hKr => ?_
  simp (disch := omega) only [RA, ↓reduceIte, Nat.reduceEqDiff, Nat.reduceBEq, Nat.reduceSub, Nat.reduceAdd, Nat.reduceMul, Nat.reduceLT, Nat.reduceLeDiff, Int.reduceLE, Int.reduceLT, Int.reduceEq, Int.reduceNeg, Int.reduceToNat, Int.reduceMul, Int.reduceAdd, Int.reduceSub, Int.reduceBEq, Int.reduceBNe, reduceCtorEq, RD]
  refine hKr _ _ ?_
  clear hKr Kr
  try simp only [RN, reduceIte]
  try refine T_e rfl ?_
  refine T_wloop (fun m f H' => ∃ i E, i ≤ (verts b w n).length ∧ m = (verts b w n).length - i ∧ EOk b w n i 0 E ∧ f 4 = Fz (cyc b n).length 1 ((cyc b n).map FN) ∧ f 5 = S 0 0 (verts b w n).length 1 ∧ f 6 = S 1 0 n 2 ∧ f 27 = S 0 0 (verts b w n).length 1 ∧ f 28 = I ((verts b w n).length : Nat) ∧ f 29 = I i ∧ H' = [some ((verts b w n).map FN), some (E.map N64)]) ((verts b w n).length) ?_ ?_
  · refine ⟨_, _, (Gh.nrm [2, 3] rfl rfl (by simp only [RH, RV])), 0, List.replicate (n * 2) 0, by omega, by omega, EOk.zero, ?_, ?_, ?_, ?_, ?_, ?_, by simp [blk]⟩
    all_goals (simp (disch := omega) only [RA, ↓reduceIte, Nat.reduceEqDiff, Nat.reduceBEq, Nat.reduceSub, Nat.reduceAdd, Nat.reduceMul, Nat.reduceLT, Nat.reduceLeDiff, Int.reduceLE, Int.reduceLT, Int.reduceEq, Int.reduceNeg, Int.reduceToNat, Int.reduceMul, Int.reduceAdd, Int.reduceSub, Int.reduceBEq, Int.reduceBNe, reduceCtorEq, RD, RE, *] <;> rfl)
  · rintro m f H' R ⟨i, E, hi, rfl, hE0, g4, g5, g6, g27, g28, g29, rfl⟩ hN hX hR hE
    simp only [A_impl_vertices.l1, T_aiff]
    refine T_rseq fun Kr hKr => ?_
    simp (disch := omega) only [RA, ↓reduceIte, Nat.reduceEqDiff, Nat.reduceBEq, Nat.reduceSub, Nat.reduceAdd, Nat.reduceMul, Nat.reduceLT, Nat.reduceLeDiff, Int.reduceLE, Int.reduceLT, Int.reduceEq, Int.reduceNeg, Int.reduceToNat, Int.reduceMul, Int.reduceAdd, Int.reduceSub, Int.reduceBEq, Int.reduceBNe, reduceCtorEq, RD, g28, g29]
    refine hKr _ _ ?_
    clear hKr Kr
    try simp only [RN, reduceIte]
    try refine T_e rfl ?_
    refine T_csplit (p := i < (verts b w n).length) (by simp only [RA, ↓reduceIte, Nat.reduceEqDiff, Nat.reduceBEq, Nat.reduceSub, Nat.reduceAdd, Nat.reduceMul, Nat.reduceLT, Nat.reduceLeDiff, Int.reduceLE, Int.reduceLT, Int.reduceEq, Int.reduceNeg, Int.reduceToNat, Int.reduceMul, Int.reduceAdd, Int.reduceSub, Int.reduceBEq, Int.reduceBNe, reduceCtorEq] <;> rfl) (by (try simp only [RB]) <;> first | done | exact Iff.rfl | omega | simp) (fun hc => ?_) (fun hc => ?_) <;> (try simp only [RN, reduceIte]) <;> (try refine T_e rfl ?_)
    · have hin : i < (verts b w n).length := by assumption
      obtain ⟨hl1, hl2, hl3⟩ := vl_len hd hin
      have hvi : (verts b w n).getD i [] = vl b w n i := rfl
      first | refine T_bfree rfl ?_ | refine T_bfree' rfl ?_
      try simp only [RN, reduceIte]
      try refine T_e rfl ?_
      refine T_rseq fun Kr hKr => ?_
      simp (disch := omega) only [RA, ↓reduceIte, Nat.reduceEqDiff, Nat.reduceBEq, Nat.reduceSub, Nat.reduceAdd, Nat.reduceMul, Nat.reduceLT, Nat.reduceLeDiff, Int.reduceLE, Int.reduceLT, Int.reduceEq, Int.reduceNeg, Int.reduceToNat, Int.reduceMul, Int.reduceAdd, Int.reduceSub, Int.reduceBEq, Int.reduceBNe, reduceCtorEq, RD, g27, g29, getN_FN, hvi]
      refine hKr _ _ ?_
      clear hKr Kr
      try simp only [RN, reduceIte]
      try refine T_e rfl ?_
      refine T_rseq fun Kr hKr => ?_
      simp (disch := omega) only [RA, ↓reduceIte, Nat.reduceEqDiff, Nat.reduceBEq, Nat.reduceSub, Nat.reduceAdd, Nat.reduceMul, Nat.reduceLT, Nat.reduceLeDiff, Int.reduceLE, Int.reduceLT, Int.reduceEq, Int.reduceNeg, Int.reduceToNat, Int.reduceMul, Int.reduceAdd, Int.reduceSub, Int.reduceBEq, Int.reduceBNe, reduceCtorEq, RD]
      refine hKr _ _ ?_
      clear hKr Kr
      try simp only [RN, reduceIte]
      try refine T_e rfl ?_
      refine T_wloop (fun m f H' => ∃ j E, j ≤ (vl b w n i).length ∧ m = (vl b w n i).length - j ∧ EOk b w n i j E ∧ f 4 = Fz (cyc b n).length 1 ((cyc b n).map FN) ∧ f 5 = S 0 0 (verts b w n).length 1 ∧ f 6 = S 1 0 n 2 ∧ f 7 = I i ∧ f 27 = S 0 0 (verts b w n).length 1 ∧ f 28 = I ((verts b w n).length : Nat) ∧ f 29 = I i ∧ f 34 = FN (vl b w n i) ∧ f 35 = I ((vl b w n i).length : Nat) ∧ f 36 = I j ∧ H' = [some ((verts b w n).map FN), some (E.map N64)]) ((vl b w n i).length) ?_ ?_
      · refine ⟨_, _, Gh.refl, 0, E, by omega, by omega, hE0, ?_, ?_, ?_, ?_, ?_, ?_, ?_, ?_, ?_, ?_, rfl⟩
        any_goals (simp (disch := omega) only [RA, ↓reduceIte, Nat.reduceEqDiff, Nat.reduceBEq, Nat.reduceSub, Nat.reduceAdd, Nat.reduceMul, Nat.reduceLT, Nat.reduceLeDiff, Int.reduceLE, Int.reduceLT, Int.reduceEq, Int.reduceNeg, Int.reduceToNat, Int.reduceMul, Int.reduceAdd, Int.reduceSub, Int.reduceBEq, Int.reduceBNe, reduceCtorEq, RD, RE, *] <;> rfl)
      · clear g4 g5 g6 g27 g28 g29 hE0 E
        rintro m f H' R1 ⟨j, E, hj, rfl, hE0, g4, g5, g6, g7, g27, g28, g29, g34, g35, g36, rfl⟩ hN1 hX1 hR1 hE1
        simp only [A_impl_vertices.l0, T_aiff]
        refine T_rseq fun Kr hKr => ?_
        simp (disch := omega) only [RA, ↓reduceIte, Nat.reduceEqDiff, Nat.reduceBEq, Nat.reduceSub, Nat.reduceAdd, Nat.reduceMul, Nat.reduceLT, Nat.reduceLeDiff, Int.reduceLE, Int.reduceLT, Int.reduceEq, Int.reduceNeg, Int.reduceToNat, Int.reduceMul, Int.reduceAdd, Int.reduceSub, Int.reduceBEq, Int.reduceBNe, reduceCtorEq, RD, g35, g36]
        refine hKr _ _ ?_
        clear hKr Kr
        try simp only [RN, reduceIte]
        try refine T_e rfl ?_
        refine T_csplit (p := j < (vl b w n i).length) (by simp only [RA, ↓reduceIte, Nat.reduceEqDiff, Nat.reduceBEq, Nat.reduceSub, Nat.reduceAdd, Nat.reduceMul, Nat.reduceLT, Nat.reduceLeDiff, Int.reduceLE, Int.reduceLT, Int.reduceEq, Int.reduceNeg, Int.reduceToNat, Int.reduceMul, Int.reduceAdd, Int.reduceSub, Int.reduceBEq, Int.reduceBNe, reduceCtorEq] <;> rfl) (by (try simp only [RB]) <;> first | done | exact Iff.rfl | omega | simp) (fun hc => ?_) (fun hc => ?_) <;> (try simp only [RN, reduceIte]) <;> (try refine T_e rfl ?_)
        · have hxn := hl3 _ (nl_mem hc)
          have hstep := hE0.step hd hin hc
          have hEl : E.length = n * 2 := hE0.1
          first | refine T_bfree rfl ?_ | refine T_bfree' rfl ?_
          try simp only [RN, reduceIte]
          try refine T_e rfl ?_
          refine T_rseq fun Kr hKr => ?_
          simp (disch := omega) only [RA, ↓reduceIte, Nat.reduceEqDiff, Nat.reduceBEq, Nat.reduceSub, Nat.reduceAdd, Nat.reduceMul, Nat.reduceLT, Nat.reduceLeDiff, Int.reduceLE, Int.reduceLT, Int.reduceEq, Int.reduceNeg, Int.reduceToNat, Int.reduceMul, Int.reduceAdd, Int.reduceSub, Int.reduceBEq, Int.reduceBNe, reduceCtorEq, RD, g34, g36, getN_64]
          refine hKr _ _ ?_
          clear hKr Kr
          try simp only [RN, reduceIte]
          try refine T_e rfl ?_
          refine T_rseq fun Kr hKr => ?_
          simp (disch := omega) only [RA, ↓reduceIte, Nat.reduceEqDiff, Nat.reduceBEq, Nat.reduceSub, Nat.reduceAdd, Nat.reduceMul, Nat.reduceLT, Nat.reduceLeDiff, Int.reduceLE, Int.reduceLT, Int.reduceEq, Int.reduceNeg, Int.reduceToNat, Int.reduceMul, Int.reduceAdd, Int.reduceSub, Int.reduceBEq, Int.reduceBNe, reduceCtorEq, RD, g4, g7]
          refine hKr _ _ ?_
          clear hKr Kr
          try simp only [RN, reduceIte]
          try refine T_e rfl ?_
          refine T_csplit (p := i < (cyc b n).length) (by simp only [RA, ↓reduceIte, Nat.reduceEqDiff, Nat.reduceBEq, Nat.reduceSub, Nat.reduceAdd, Nat.reduceMul, Nat.reduceLT, Nat.reduceLeDiff, Int.reduceLE, Int.reduceLT, Int.reduceEq, Int.reduceNeg, Int.reduceToNat, Int.reduceMul, Int.reduceAdd, Int.reduceSub, Int.reduceBEq, Int.reduceBNe, reduceCtorEq] <;> rfl) (by (try simp only [RB]) <;> first | done | exact Iff.rfl | omega | simp) (fun hc => ?_) (fun hc => ?_) <;> (try simp only [RN, reduceIte]) <;> (try refine T_e rfl ?_)
          · rw [show decide ((cyc b n).length ≤ i) = false by simp; omega] at hstep
            refine T_rseq fun Kr hKr => ?_
            simp (disch := omega) only [RA, ↓reduceIte, Nat.reduceEqDiff, Nat.reduceBEq, Nat.reduceSub, Nat.reduceAdd, Nat.reduceMul, Nat.reduceLT, Nat.reduceLeDiff, Int.reduceLE, Int.reduceLT, Int.reduceEq, Int.reduceNeg, Int.reduceToNat, Int.reduceMul, Int.reduceAdd, Int.reduceSub, Int.reduceBEq, Int.reduceBNe, reduceCtorEq, RD, g6, g7, st1_64v, hEl]
            refine hKr _ _ ?_
            clear hKr Kr
            try simp only [RN, reduceIte]
            try refine T_e rfl ?_
            refine T_reg_k fun Kr hKr => ?_
            simp (disch := omega) only [RA, ↓reduceIte, Nat.reduceEqDiff, Nat.reduceBEq, Nat.reduceSub, Nat.reduceAdd, Nat.reduceMul, Nat.reduceLT, Nat.reduceLeDiff, Int.reduceLE, Int.reduceLT, Int.reduceEq, Int.reduceNeg, Int.reduceToNat, Int.reduceMul, Int.reduceAdd, Int.reduceSub, Int.reduceBEq, Int.reduceBNe, reduceCtorEq, RD, g36]
            refine hKr _ _ ?_
            clear hKr Kr
            refine hN1 ((vl b w n i).length - (j + 1)) _ _ _ _ (by omega) Gh.refl ⟨j + 1, _, by omega, rfl, hstep, ?_, ?_, ?_, ?_, ?_, ?_, ?_, ?_, ?_, ?_, rfl⟩
            any_goals (simp (disch := omega) only [RA, ↓reduceIte, Nat.reduceEqDiff, Nat.reduceBEq, Nat.reduceSub, Nat.reduceAdd, Nat.reduceMul, Nat.reduceLT, Nat.reduceLeDiff, Int.reduceLE, Int.reduceLT, Int.reduceEq, Int.reduceNeg, Int.reduceToNat, Int.reduceMul, Int.reduceAdd, Int.reduceSub, Int.reduceBEq, Int.reduceBNe, reduceCtorEq, RD, RE, *] <;> rfl)
          · rw [show decide ((cyc b n).length ≤ i) = true by simp; omega] at hstep
            refine T_rseq fun Kr hKr => ?_
            simp (disch := omega) only [RA, ↓reduceIte, Nat.reduceEqDiff, Nat.reduceBEq, Nat.reduceSub, Nat.reduceAdd, Nat.reduceMul, Nat.reduceLT, Nat.reduceLeDiff, Int.reduceLE, Int.reduceLT, Int.reduceEq, Int.reduceNeg, Int.reduceToNat, Int.reduceMul, Int.reduceAdd, Int.reduceSub, Int.reduceBEq, Int.reduceBNe, reduceCtorEq, RD, g6, g7, st1_64v, hEl]
            refine hKr _ _ ?_
            clear hKr Kr
            try simp only [RN, reduceIte]
            try refine T_e rfl ?_
            refine T_reg_k fun Kr hKr => ?_
            simp (disch := omega) only [RA, ↓reduceIte, Nat.reduceEqDiff, Nat.reduceBEq, Nat.reduceSub, Nat.reduceAdd, Nat.reduceMul, Nat.reduceLT, Nat.reduceLeDiff, Int.reduceLE, Int.reduceLT, Int.reduceEq, Int.reduceNeg, Int.reduceToNat, Int.reduceMul, Int.reduceAdd, Int.reduceSub, Int.reduceBEq, Int.reduceBNe, reduceCtorEq, RD, g36]
            refine hKr _ _ ?_
            clear hKr Kr
            refine hN1 ((vl b w n i).length - (j + 1)) _ _ _ _ (by omega) Gh.refl ⟨j + 1, _, by omega, rfl, hstep, ?_, ?_, ?_, ?_, ?_, ?_, ?_, ?_, ?_, ?_, rfl⟩
            any_goals (simp (disch := omega) only [RA, ↓reduceIte, Nat.reduceEqDiff, Nat.reduceBEq, Nat.reduceSub, Nat.reduceAdd, Nat.reduceMul, Nat.reduceLT, Nat.reduceLeDiff, Int.reduceLE, Int.reduceLT, Int.reduceEq, Int.reduceNeg, Int.reduceToNat, Int.reduceMul, Int.reduceAdd, Int.reduceSub, Int.reduceBEq, Int.reduceBNe, reduceCtorEq, RD, RE, *] <;> rfl)
        · refine hX1 _ _ ?_
          obtain rfl : j = (vl b w n i).length := by omega
          refine T_reg_k fun Kr hKr => ?_
          simp (disch := omega) only [RA, ↓reduceIte, Nat.reduceEqDiff, Nat.reduceBEq, Nat.reduceSub, Nat.reduceAdd, Nat.reduceMul, Nat.reduceLT, Nat.reduceLeDiff, Int.reduceLE, Int.reduceLT, Int.reduceEq, Int.reduceNeg, Int.reduceToNat, Int.reduceMul, Int.reduceAdd, Int.reduceSub, Int.reduceBEq, Int.reduceBNe, reduceCtorEq, RD, g29]
          refine hKr _ _ ?_
          clear hKr Kr
          refine hN ((verts b w n).length - (i + 1)) _ _ _ _ (by omega) Gh.refl ⟨i + 1, E, by omega, rfl, hE0.next hd hin, ?_, ?_, ?_, ?_, ?_, ?_, rfl⟩
          any_goals (simp (disch := omega) only [RA, ↓reduceIte, Nat.reduceEqDiff, Nat.reduceBEq, Nat.reduceSub, Nat.reduceAdd, Nat.reduceMul, Nat.reduceLT, Nat.reduceLeDiff, Int.reduceLE, Int.reduceLT, Int.reduceEq, Int.reduceNeg, Int.reduceToNat, Int.reduceMul, Int.reduceAdd, Int.reduceSub, Int.reduceBEq, Int.reduceBNe, reduceCtorEq, RD, RE, *] <;> rfl)
    · refine hX _ _ ?_
      obtain rfl : i = (verts b w n).length := by omega
      obtain rfl := hE0.done hd
      refine T_rseq fun Kr hKr => ?_
      simp (disch := omega) only [RA, ↓reduceIte, Nat.reduceEqDiff, Nat.reduceBEq, Nat.reduceSub, Nat.reduceAdd, Nat.reduceMul, Nat.reduceLT, Nat.reduceLeDiff, Int.reduceLE, Int.reduceLT, Int.reduceEq, Int.reduceNeg, Int.reduceToNat, Int.reduceMul, Int.reduceAdd, Int.reduceSub, Int.reduceBEq, Int.reduceBNe, reduceCtorEq, RD, g5, g6]
      refine hKr _ _ ?_
      clear hKr Kr
      try simp only [RN, reduceIte]
      try refine T_e rfl ?_
      refine bodyQ_ret (by simp (disch := omega) only [RA, ↓reduceIte, Nat.reduceEqDiff, Nat.reduceBEq, Nat.reduceSub, Nat.reduceAdd, Nat.reduceMul, Nat.reduceLT, Nat.reduceLeDiff, Int.reduceLE, Int.reduceLT, Int.reduceEq, Int.reduceNeg, Int.reduceToNat, Int.reduceMul, Int.reduceAdd, Int.reduceSub, Int.reduceBEq, Int.reduceBNe, reduceCtorEq, RD, resAll, resOf]; rfl) GhV.refl ?_
      simp only [tup]
      exact ⟨0, 1, _, _, _, _, _, _, by omega, rfl, rfl, rfl, NNL_FN, NNL_64, by simp, by rw [List.length_map, endl_len], hK⟩
end
end Go.Bm

/- The farthest vertex: the program's walk. -/
set_option linter.unusedVariables false
set_option linter.unusedSimpArgs false
namespace Go.Bm
open Go Go.Am

section
variable {n : Nat} {b w : List Nat}
abbrev VS (b w : List Nat) (n : Nat) : Value := Fz (verts b w n).length 1 ((verts b w n).map FN)
abbrev ES (b w : List Nat) (n : Nat) : Value := Fz n 2 ((endl b w n).map N64)
/-- The best path so far: edges, vertices. -/
def BP (b w : List Nat) (n : Nat) (c : Bool) (cm : Int) (v : Nat) (L e s : List Nat) : Prop :=
  (e = [] ∧ s = [v] ∧ ∀ y ∈ L, (y : Int) = cm) ∨
  (∃ y l, e = y :: l ∧ s = v :: sn b w n (!c) y l ∧ y ∈ L ∧ (y : Int) ≠ cm ∧ Lg b w n (!c) y l ∧ ∀ z ∈ L, (z : Int) ≠ cm → hgt b w n (!c) z ≤ hgt b w n (!c) y)
theorem BP.skip {c : Bool} {cm : Int} {v y : Nat} {L e s : List Nat} (h : BP b w n c cm v L e s) (hy : (y : Int) = cm) : BP b w n c cm v (L ++ [y]) e s := by
  rcases h with ⟨h1, h2, h3⟩ | ⟨y', l, h1, h2, h3, h4, h5, h6⟩
  · refine .inl ⟨h1, h2, fun z hz => ?_⟩
    rcases List.mem_append.1 hz with h | h
    · exact h3 z h
    · rw [List.mem_singleton.1 h]; exact hy
  · refine .inr ⟨y', l, h1, h2, by simp [h3], h4, h5, fun z hz hne => ?_⟩
    rcases List.mem_append.1 hz with h | h
    · exact h6 z h hne
    · rw [List.mem_singleton.1 h] at hne; exact absurd hy hne
theorem BP.len {c : Bool} {cm : Int} {v : Nat} {L e s : List Nat} (h : BP b w n c cm v L e s) : s.length = e.length + 1 ∧ (e = [] ∨ ∃ y ∈ L, e.length = hgt b w n (!c) y + 1) := by
  rcases h with ⟨h1, h2, h3⟩ | ⟨y', l, h1, h2, h3, h4, h5, h6⟩
  · subst h1; subst h2; exact ⟨rfl, .inl rfl⟩
  · subst h1; subst h2
    exact ⟨by rw [List.length_cons, sn_len, List.length_cons], .inr ⟨y', h3, by rw [List.length_cons, h5.len]⟩⟩
theorem BP.worse {c : Bool} {cm : Int} {v y : Nat} {L e s l : List Nat} (h : BP b w n c cm v L e s) (hl : Lg b w n (!c) y l) (hle : ¬ l.length + 1 > e.length) : BP b w n c cm v (L ++ [y]) e s := by
  rcases h with ⟨h1, h2, h3⟩ | ⟨y', l', h1, h2, h3, h4, h5, h6⟩
  · subst h1; simp at hle
  · refine .inr ⟨y', l', h1, h2, by simp [h3], h4, h5, fun z hz hne => ?_⟩
    rcases List.mem_append.1 hz with h | h
    · exact h6 z h hne
    · rw [List.mem_singleton.1 h]
      rw [h1, List.length_cons, hl.len, h5.len] at hle
      omega
theorem BP.better {c : Bool} {cm : Int} {v y : Nat} {L e s l : List Nat} (h : BP b w n c cm v L e s) (hne : (y : Int) ≠ cm) (hl : Lg b w n (!c) y l) (hle : l.length + 1 > e.length) :
    BP b w n c cm v (L ++ [y]) (y :: l) (v :: sn b w n (!c) y l) := by
  refine .inr ⟨y, l, rfl, rfl, by simp, hne, hl, fun z hz hz2 => ?_⟩
  rcases List.mem_append.1 hz with hz | hz
  · rcases h with ⟨h1, h2, h3⟩ | ⟨y', l', h1, h2, h3, h4, h5, h6⟩
    · exact absurd (h3 z hz) hz2
    · have := h6 z hz hz2
      rw [h1, List.length_cons, hl.len, h5.len] at hle
      omega
  · rw [List.mem_singleton.1 hz]; exact Nat.le_refl _
theorem ends_lt32 (hd : Des n b w) {c : Bool} {x : Nat} (hx : x < n) : ends b w n c x < 32 := by
  have := ends_lt hd (c := c) hx
  have := (verts_le hd).1
  omega
theorem farthest_body {x : Bool} {H : BH} {K : Value → BH → Prop} (hd : Des n b w) (ht : Tree n b w) {c : Bool} {v : Nat} {cm : Int} (hv : v < (verts b w n).length)
    (hcv : ∀ y ∈ vl b w n v, ends b w n c y = v)
    (hrec : ∀ y ∈ vl b w n v, (y : Int) ≠ cm → ∀ (x : Bool) (H : BH) (K : Value → BH → Prop), (∀ l, Lg b w n (!c) y l → K (.tuple ⟨[Fz l.length 1 (l.map N64), Fz (l.length + 1) 1 ((sn b w n (!c) y l).map N64)]⟩) H) →
      CallX x F_impl_farthest [VS b w n, ES b w n, I (ends b w n (!c) y : Nat), I y] H K)
    (hK : ∀ e s, BP b w n c cm v (vl b w n v) e s → K (.tuple ⟨[Fz e.length 1 (e.map N64), Fz s.length 1 (s.map N64)]⟩) H) :
    CallX x F_impl_farthest [VS b w n, ES b w n, I v, I cm] H K := by
  have hn := hd.1.1
  obtain ⟨hv1, _, _, _⟩ := verts_le hd
  obtain ⟨hl1, hl2, hl3⟩ := vl_len hd hv
  have hvi : (verts b w n).getD v [] = vl b w n v := rfl
  refine callRZ2 (.cons .fz (.cons .fz (.cons .int (.cons .int .nil)))) ?_
  refine CallX_body Γ_impl_farthest ?_
  simp only [A_impl_farthest, T_aiff]
  refine T_rseq fun Kr hKr => ?_
  simp (disch := omega) only [RA, ↓reduceIte, Nat.reduceEqDiff, Nat.reduceBEq, Nat.reduceSub, Nat.reduceAdd, Nat.reduceMul, Nat.reduceLT, Nat.reduceLeDiff, Int.reduceLE, Int.reduceLT, Int.reduceEq, Int.reduceNeg, Int.reduceToNat, Int.reduceMul, Int.reduceAdd, Int.reduceSub, Int.reduceBEq, Int.reduceBNe, reduceCtorEq, RD]
  refine hKr _ _ ?_
  clear hKr Kr
  try simp only [RN, reduceIte]
  try refine T_e rfl ?_
  refine T_rseq fun Kr hKr => ?_
  simp (disch := omega) only [RA, ↓reduceIte, Nat.reduceEqDiff, Nat.reduceBEq, Nat.reduceSub, Nat.reduceAdd, Nat.reduceMul, Nat.reduceLT, Nat.reduceLeDiff, Int.reduceLE, Int.reduceLT, Int.reduceEq, Int.reduceNeg, Int.reduceToNat, Int.reduceMul, Int.reduceAdd, Int.reduceSub, Int.reduceBEq, Int.reduceBNe, reduceCtorEq, RD]
  refine hKr _ _ ?_
  clear hKr Kr
  try simp only [RN, reduceIte]
  try refine T_e rfl ?_
  refine T_rseq fun Kr hKr => ?_
  simp (disch := omega) only [RA, ↓reduceIte, Nat.reduceEqDiff, Nat.reduceBEq, Nat.reduceSub, Nat.reduceAdd, Nat.reduceMul, Nat.reduceLT, Nat.reduceLeDiff, Int.reduceLE, Int.reduceLT, Int.reduceEq, Int.reduceNeg, Int.reduceToNat, Int.reduceMul, Int.reduceAdd, Int.reduceSub, Int.reduceBEq, Int.reduceBNe, reduceCtorEq, RD, getN_FN, hvi]
  refine hKr _ _ ?_
  clear hKr Kr
  try simp only [RN, reduceIte]
  try refine T_e rfl ?_
  refine T_wloop (fun m f H' => ∃ k e s, k ≤ (vl b w n v).length ∧ m = (vl b w n v).length - k ∧ BP b w n c cm v ((vl b w n v).take k) e s ∧ f 0 = VS b w n ∧ f 1 = ES b w n ∧ f 2 = I v ∧ f 3 = I cm ∧ f 10 = S 0 0 e.length 1 ∧ f 11 = S 1 0 s.length 1 ∧ f 22 = FN (vl b w n v) ∧ f 23 = I ((vl b w n v).length : Nat) ∧ f 24 = I k ∧ H' = [some (e.map N64), some (s.map N64)]) ((vl b w n v).length) ?_ ?_
  · refine ⟨_, _, Gh.refl, 0, [], [v], by omega, by omega, .inl ⟨rfl, rfl, by simp⟩, ?_, ?_, ?_, ?_, ?_, ?_, ?_, ?_, ?_, rfl⟩
    any_goals (simp (disch := omega) only [RA, ↓reduceIte, Nat.reduceEqDiff, Nat.reduceBEq, Nat.reduceSub, Nat.reduceAdd, Nat.reduceMul, Nat.reduceLT, Nat.reduceLeDiff, Int.reduceLE, Int.reduceLT, Int.reduceEq, Int.reduceNeg, Int.reduceToNat, Int.reduceMul, Int.reduceAdd, Int.reduceSub, Int.reduceBEq, Int.reduceBNe, reduceCtorEq, RD, RE, *] <;> rfl)
  · rintro m f H' R ⟨k, e, s, hk, rfl, hbp, g0, g1, g2, g3, g10, g11, g22, g23, g24, rfl⟩ hN hX hR hE
    simp only [A_impl_farthest.l0, T_aiff]
    obtain ⟨hs1, hs2⟩ := hbp.len
    have hel : e.length ≤ 17 := by
      rcases hs2 with h | ⟨y, hy, h⟩
      · rw [h]; simp
      · have := hgt_le hd ht (c := !c) (hl3 y (List.mem_of_mem_take hy))
        omega
    refine T_rseq fun Kr hKr => ?_
    simp (disch := omega) only [RA, ↓reduceIte, Nat.reduceEqDiff, Nat.reduceBEq, Nat.reduceSub, Nat.reduceAdd, Nat.reduceMul, Nat.reduceLT, Nat.reduceLeDiff, Int.reduceLE, Int.reduceLT, Int.reduceEq, Int.reduceNeg, Int.reduceToNat, Int.reduceMul, Int.reduceAdd, Int.reduceSub, Int.reduceBEq, Int.reduceBNe, reduceCtorEq, RD, g23, g24]
    refine hKr _ _ ?_
    clear hKr Kr
    try simp only [RN, reduceIte]
    try refine T_e rfl ?_
    refine T_csplit (p := k < (vl b w n v).length) (by simp only [RA, ↓reduceIte, Nat.reduceEqDiff, Nat.reduceBEq, Nat.reduceSub, Nat.reduceAdd, Nat.reduceMul, Nat.reduceLT, Nat.reduceLeDiff, Int.reduceLE, Int.reduceLT, Int.reduceEq, Int.reduceNeg, Int.reduceToNat, Int.reduceMul, Int.reduceAdd, Int.reduceSub, Int.reduceBEq, Int.reduceBNe, reduceCtorEq] <;> rfl) (by (try simp only [RB]) <;> first | done | exact Iff.rfl | omega | simp) (fun hc => ?_) (fun hc => ?_) <;> (try simp only [RN, reduceIte]) <;> (try refine T_e rfl ?_)
    · have hkk : k < (vl b w n v).length := by assumption
      have hym := nl_mem hkk
      have htk : (vl b w n v).take (k + 1) = (vl b w n v).take k ++ [nl (vl b w n v) k] := take_succ_nl' hkk
      have hnext : ∀ f' e' s', BP b w n c cm v ((vl b w n v).take (k + 1)) e' s' → f' 0 = VS b w n → f' 1 = ES b w n → f' 2 = I v → f' 3 = I cm → f' 10 = S 0 0 e'.length 1 → f' 11 = S 1 0 s'.length 1 → f' 22 = FN (vl b w n v) → f' 23 = I ((vl b w n v).length : Nat) → f' 24 = I k →
          T 0 A_impl_farthest.r10 R f' [some (e'.map N64), some (s'.map N64)] := by
        intro f' e' s' hb' g0 g1 g2 g3 g10 g11 g22 g23 g24
        refine T_reg_k fun Kr hKr => ?_
        simp (disch := omega) only [RA, ↓reduceIte, Nat.reduceEqDiff, Nat.reduceBEq, Nat.reduceSub, Nat.reduceAdd, Nat.reduceMul, Nat.reduceLT, Nat.reduceLeDiff, Int.reduceLE, Int.reduceLT, Int.reduceEq, Int.reduceNeg, Int.reduceToNat, Int.reduceMul, Int.reduceAdd, Int.reduceSub, Int.reduceBEq, Int.reduceBNe, reduceCtorEq, RD, g24]
        refine hKr _ _ ?_
        clear hKr Kr
        refine hN ((vl b w n v).length - (k + 1)) _ _ _ _ (by omega) Gh.refl ⟨k + 1, e', s', by omega, rfl, hb', ?_, ?_, ?_, ?_, ?_, ?_, ?_, ?_, ?_, rfl⟩
        any_goals (simp (disch := omega) only [RA, ↓reduceIte, Nat.reduceEqDiff, Nat.reduceBEq, Nat.reduceSub, Nat.reduceAdd, Nat.reduceMul, Nat.reduceLT, Nat.reduceLeDiff, Int.reduceLE, Int.reduceLT, Int.reduceEq, Int.reduceNeg, Int.reduceToNat, Int.reduceMul, Int.reduceAdd, Int.reduceSub, Int.reduceBEq, Int.reduceBNe, reduceCtorEq, RD, RE, *] <;> rfl)
      generalize hy : nl (vl b w n v) k = y at hym htk
      have hyn := hl3 y hym
      have hcy := hcv y hym
      have h32 := ends_lt32 hd (c := false) hyn
      have h32' := ends_lt32 hd (c := true) hyn
      refine T_seq (T_block ?_)
      try simp only [RN, reduceIte]
      try refine T_e rfl ?_
      refine T_rseq fun Kr hKr => ?_
      simp (disch := omega) only [RA, ↓reduceIte, Nat.reduceEqDiff, Nat.reduceBEq, Nat.reduceSub, Nat.reduceAdd, Nat.reduceMul, Nat.reduceLT, Nat.reduceLeDiff, Int.reduceLE, Int.reduceLT, Int.reduceEq, Int.reduceNeg, Int.reduceToNat, Int.reduceMul, Int.reduceAdd, Int.reduceSub, Int.reduceBEq, Int.reduceBNe, reduceCtorEq, RD, g22, g24, getN_64, hy]
      refine hKr _ _ ?_
      clear hKr Kr
      try simp only [RN, reduceIte]
      try refine T_e rfl ?_
      refine T_rseq fun Kr hKr => ?_
      simp (disch := omega) only [RA, ↓reduceIte, Nat.reduceEqDiff, Nat.reduceBEq, Nat.reduceSub, Nat.reduceAdd, Nat.reduceMul, Nat.reduceLT, Nat.reduceLeDiff, Int.reduceLE, Int.reduceLT, Int.reduceEq, Int.reduceNeg, Int.reduceToNat, Int.reduceMul, Int.reduceAdd, Int.reduceSub, Int.reduceBEq, Int.reduceBNe, reduceCtorEq, RD, g3]
      refine hKr _ _ ?_
      clear hKr Kr
      try simp only [RN, reduceIte]
      try refine T_e rfl ?_
      refine T_csplit (p := (y : Int) = cm) (by simp only [RA, ↓reduceIte, Nat.reduceEqDiff, Nat.reduceBEq, Nat.reduceSub, Nat.reduceAdd, Nat.reduceMul, Nat.reduceLT, Nat.reduceLeDiff, Int.reduceLE, Int.reduceLT, Int.reduceEq, Int.reduceNeg, Int.reduceToNat, Int.reduceMul, Int.reduceAdd, Int.reduceSub, Int.reduceBEq, Int.reduceBNe, reduceCtorEq] <;> rfl) (by (try simp only [RB]) <;> first | done | exact Iff.rfl | omega | simp) (fun hc => ?_) (fun hc => ?_) <;> (try simp only [RN, reduceIte]) <;> (try refine T_e rfl ?_)
      · simp only [blkQ, thenQ, loopQ, if_true]
        refine hnext _ e s (by rw [htk]; exact hbp.skip hc) ?_ ?_ ?_ ?_ ?_ ?_ ?_ ?_ ?_
        any_goals (simp (disch := omega) only [RA, ↓reduceIte, Nat.reduceEqDiff, Nat.reduceBEq, Nat.reduceSub, Nat.reduceAdd, Nat.reduceMul, Nat.reduceLT, Nat.reduceLeDiff, Int.reduceLE, Int.reduceLT, Int.reduceEq, Int.reduceNeg, Int.reduceToNat, Int.reduceMul, Int.reduceAdd, Int.reduceSub, Int.reduceBEq, Int.reduceBNe, reduceCtorEq, RD, RE, *] <;> rfl)
      · have e1 : ((ends b w n false y : Nat) : Int) + (ends b w n true y : Nat) - (v : Nat) = (ends b w n (!c) y : Nat) := by
          rw [← hcy]
          cases c <;> simp <;> omega
        have hel2 := endl_len (b := b) (w := w) (n := n)
        have he0 := endl_0 (b := b) (w := w) hyn
        have he1 := endl_1 (b := b) (w := w) hyn
        refine T_rseq fun Kr hKr => ?_
        simp (disch := omega) only [RA, ↓reduceIte, Nat.reduceEqDiff, Nat.reduceBEq, Nat.reduceSub, Nat.reduceAdd, Nat.reduceMul, Nat.reduceLT, Nat.reduceLeDiff, Int.reduceLE, Int.reduceLT, Int.reduceEq, Int.reduceNeg, Int.reduceToNat, Int.reduceMul, Int.reduceAdd, Int.reduceSub, Int.reduceBEq, Int.reduceBNe, reduceCtorEq, RD, g0, g1, g2, getN_64, he0, he1, e1, hel2]
        have hycm := hc
        refine hrec y hym hc _ _ _ fun l hl => ?_
        have hll : l.length ≤ 16 := by
          have := hgt_le hd ht (c := !c) hyn
          have := hl.len
          omega
        simp (disch := omega) only [RA, ↓reduceIte, Nat.reduceEqDiff, Nat.reduceBEq, Nat.reduceSub, Nat.reduceAdd, Nat.reduceMul, Nat.reduceLT, Nat.reduceLeDiff, Int.reduceLE, Int.reduceLT, Int.reduceEq, Int.reduceNeg, Int.reduceToNat, Int.reduceMul, Int.reduceAdd, Int.reduceSub, Int.reduceBEq, Int.reduceBNe, reduceCtorEq, RD]
        refine hKr _ _ ?_
        clear hKr Kr
        try simp only [blkQ, thenQ, loopQ]
        try simp only [RN, reduceIte]
        try refine T_e rfl ?_
        refine T_rseq fun Kr hKr => ?_
        simp (disch := omega) only [RA, ↓reduceIte, Nat.reduceEqDiff, Nat.reduceBEq, Nat.reduceSub, Nat.reduceAdd, Nat.reduceMul, Nat.reduceLT, Nat.reduceLeDiff, Int.reduceLE, Int.reduceLT, Int.reduceEq, Int.reduceNeg, Int.reduceToNat, Int.reduceMul, Int.reduceAdd, Int.reduceSub, Int.reduceBEq, Int.reduceBNe, reduceCtorEq, RD, g10]
        refine hKr _ _ ?_
        clear hKr Kr
        try simp only [RN, reduceIte]
        try refine T_e rfl ?_
        refine T_csplit1 (p := e.length < l.length + 1) (by simp only [RA, ↓reduceIte, Nat.reduceEqDiff, Nat.reduceBEq, Nat.reduceSub, Nat.reduceAdd, Nat.reduceMul, Nat.reduceLT, Nat.reduceLeDiff, Int.reduceLE, Int.reduceLT, Int.reduceEq, Int.reduceNeg, Int.reduceToNat, Int.reduceMul, Int.reduceAdd, Int.reduceSub, Int.reduceBEq, Int.reduceBNe, reduceCtorEq] <;> rfl) (by (try simp only [RB]) <;> first | done | exact Iff.rfl | omega | simp) (fun hc => ?_) (fun hc => ?_) <;> (try simp only [RN, reduceIte]) <;> (try refine T_e rfl ?_)
        · refine T_rseq fun Kr hKr => ?_
          simp (disch := omega) only [RA, ↓reduceIte, Nat.reduceEqDiff, Nat.reduceBEq, Nat.reduceSub, Nat.reduceAdd, Nat.reduceMul, Nat.reduceLT, Nat.reduceLeDiff, Int.reduceLE, Int.reduceLT, Int.reduceEq, Int.reduceNeg, Int.reduceToNat, Int.reduceMul, Int.reduceAdd, Int.reduceSub, Int.reduceBEq, Int.reduceBNe, reduceCtorEq, RD, bApp_z, appz_64c]
          refine hKr _ _ ?_
          clear hKr Kr
          try simp only [RN, reduceIte]
          try refine T_e rfl ?_
          have hsl := sn_len (b := b) (w := w) (n := n) (c := !c) (x := y) (l := l)
          rw [← hsl]
          refine T_reg_k fun Kr hKr => ?_
          simp (disch := omega) only [RA, ↓reduceIte, Nat.reduceEqDiff, Nat.reduceBEq, Nat.reduceSub, Nat.reduceAdd, Nat.reduceMul, Nat.reduceLT, Nat.reduceLeDiff, Int.reduceLE, Int.reduceLT, Int.reduceEq, Int.reduceNeg, Int.reduceToNat, Int.reduceMul, Int.reduceAdd, Int.reduceSub, Int.reduceBEq, Int.reduceBNe, reduceCtorEq, RD, g2, bApp_z, appz_64c]
          refine hKr _ _ ?_
          clear hKr Kr
          simp only [blkQ, thenQ, loopQ, if_true]
          refine T_gh (Gh.nrm [3, 5] rfl rfl (by simp only [RH, RV])) ?_
          refine hnext _ (y :: l) (v :: sn b w n (!c) y l) (by rw [htk]; exact hbp.better hycm hl (by omega)) ?_ ?_ ?_ ?_ ?_ ?_ ?_ ?_ ?_
          any_goals (simp (disch := omega) only [RA, ↓reduceIte, Nat.reduceEqDiff, Nat.reduceBEq, Nat.reduceSub, Nat.reduceAdd, Nat.reduceMul, Nat.reduceLT, Nat.reduceLeDiff, Int.reduceLE, Int.reduceLT, Int.reduceEq, Int.reduceNeg, Int.reduceToNat, Int.reduceMul, Int.reduceAdd, Int.reduceSub, Int.reduceBEq, Int.reduceBNe, reduceCtorEq, RD, RE, *] <;> rfl)
        · simp only [blkQ, thenQ, loopQ, if_true]
          refine hnext _ e s (by rw [htk]; exact hbp.worse hl (by omega)) ?_ ?_ ?_ ?_ ?_ ?_ ?_ ?_ ?_
          any_goals (simp (disch := omega) only [RA, ↓reduceIte, Nat.reduceEqDiff, Nat.reduceBEq, Nat.reduceSub, Nat.reduceAdd, Nat.reduceMul, Nat.reduceLT, Nat.reduceLeDiff, Int.reduceLE, Int.reduceLT, Int.reduceEq, Int.reduceNeg, Int.reduceToNat, Int.reduceMul, Int.reduceAdd, Int.reduceSub, Int.reduceBEq, Int.reduceBNe, reduceCtorEq, RD, RE, *] <;> rfl)
    · refine hX _ _ ?_
      obtain rfl : k = (vl b w n v).length := by omega
      refine T_rseq fun Kr hKr => ?_
      simp (disch := omega) only [RA, ↓reduceIte, Nat.reduceEqDiff, Nat.reduceBEq, Nat.reduceSub, Nat.reduceAdd, Nat.reduceMul, Nat.reduceLT, Nat.reduceLeDiff, Int.reduceLE, Int.reduceLT, Int.reduceEq, Int.reduceNeg, Int.reduceToNat, Int.reduceMul, Int.reduceAdd, Int.reduceSub, Int.reduceBEq, Int.reduceBNe, reduceCtorEq, RD, g10, g11]
      refine hKr _ _ ?_
      clear hKr Kr
      try simp only [RN, reduceIte]
      try refine T_e rfl ?_
      refine bodyQ_ret (by simp (disch := omega) only [RA, ↓reduceIte, Nat.reduceEqDiff, Nat.reduceBEq, Nat.reduceSub, Nat.reduceAdd, Nat.reduceMul, Nat.reduceLT, Nat.reduceLeDiff, Int.reduceLE, Int.reduceLT, Int.reduceEq, Int.reduceNeg, Int.reduceToNat, Int.reduceMul, Int.reduceAdd, Int.reduceSub, Int.reduceBEq, Int.reduceBNe, reduceCtorEq, RD, resAll, resOf]; rfl) GhV.refl ?_
      simp only [tup]
      rw [List.take_length] at hbp
      exact ⟨0, 1, _, _, _, _, _, _, by omega, rfl, rfl, rfl, NNL_64, NNL_64, by simp, by simp, hK _ _ hbp⟩
theorem vl_ends (hd : Des n b w) {c : Bool} {x : Nat} (hx : x < n) {y : Nat} : y ∈ vl b w n (ends b w n c x) ↔ y < n ∧ ends b w n c y = ends b w n c x := by
  have hv := ends_lt hd (c := c) hx
  rw [vl_eq hv]
  exact ⟨fun h => ⟨verts_lt hd hv h, (mem_verts hd hx (verts_lt hd hv h)).1 h⟩, fun h => (mem_verts hd hx h.1).2 h.2⟩
theorem BP.lg (hd : Des n b w) (ht : Tree n b w) {c : Bool} {x : Nat} (hx : x < n) {e s : List Nat} (h : BP b w n c x (ends b w n c x) (vl b w n (ends b w n c x)) e s) : Lg b w n c x e ∧ s = sn b w n c x e := by
  have hr := hgt_rec hd ht (c := c) hx
  rcases h with ⟨h1, h2, h3⟩ | ⟨y, l, h1, h2, h3, h4, h5, h6⟩
  · subst h1; subst h2
    refine ⟨?_, rfl⟩
    rw [Lg, hr]
    rcases mx_at (f := hgt b w n (!c)) (l := nbs b w n c x) with ⟨_, h⟩ | ⟨y, hy, h⟩
    · exact h
    · obtain ⟨k1, k2, k3⟩ := mem_nbs.1 hy
      have := h3 y ((vl_ends hd hx).2 ⟨k1, k3⟩)
      omega
  · subst h1; subst h2
    obtain ⟨k1, k2⟩ := (vl_ends hd hx).1 h3
    have hnb : Nb b w n c x y := ⟨k1, fun e => h4 (by rw [e]), k2⟩
    refine ⟨?_, rfl⟩
    rw [Lg]
    refine ⟨hnb, ?_, h5⟩
    rw [hr]
    have hge := mx_ge (f := hgt b w n (!c)) (mem_nbs.2 hnb)
    rcases mx_at (f := hgt b w n (!c)) (l := nbs b w n c x) with ⟨_, h⟩ | ⟨z, hz, h⟩
    · omega
    · obtain ⟨j1, j2, j3⟩ := mem_nbs.1 hz
      have := h6 z ((vl_ends hd hx).2 ⟨j1, j3⟩) (fun e => j2 (by omega))
      omega
theorem farthest_spec (hd : Des n b w) (ht : Tree n b w) : ∀ (r : Nat) (c : Bool) (y : Nat), y < n → (behind b w n c y).length ≤ r → ∀ (x : Bool) (H : BH) (K : Value → BH → Prop),
    (∀ l, Lg b w n c y l → K (.tuple ⟨[Fz l.length 1 (l.map N64), Fz (l.length + 1) 1 ((sn b w n c y l).map N64)]⟩) H) → CallX x F_impl_farthest [VS b w n, ES b w n, I (ends b w n c y : Nat), I y] H K := by
  intro r
  induction r with
  | zero =>
    intro c y hy hr x H K hK
    refine farthest_body hd ht (c := c) (ends_lt hd hy) (fun z hz => ((vl_ends hd hy).1 hz).2) (fun z hz hne => ?_) (fun e s h => ?_)
    · obtain ⟨h1, h2⟩ := (vl_ends hd hy).1 hz
      have := behind_less hd ht hy h1 (fun e => hne (by rw [e])) h2
      omega
    · obtain ⟨h1, h2⟩ := h.lg hd ht hy
      rw [h2, sn_len]
      exact hK e h1
  | succ r ih =>
    intro c y hy hr x H K hK
    refine farthest_body hd ht (c := c) (ends_lt hd hy) (fun z hz => ((vl_ends hd hy).1 hz).2) (fun z hz hne => ?_) (fun e s h => ?_)
    · obtain ⟨h1, h2⟩ := (vl_ends hd hy).1 hz
      have := behind_less hd ht hy h1 (fun e => hne (by rw [e])) h2
      exact ih (!c) z h1 (by omega)
    · obtain ⟨h1, h2⟩ := h.lg hd ht hy
      rw [h2, sn_len]
      exact hK e h1
/-- From a vertex, all edges open. -/
theorem farthest_top (hd : Des n b w) (ht : Tree n b w) {c : Bool} {v : Nat} (hv : ∃ y, y < n ∧ ends b w n c y = v) {x : Bool} {H : BH} {K : Value → BH → Prop}
    (hK : ∀ y l, VLg b w n c v (y :: l) → K (.tuple ⟨[Fz (y :: l).length 1 ((y :: l).map N64), Fz (v :: sn b w n (!c) y l).length 1 ((v :: sn b w n (!c) y l).map N64)]⟩) H) :
    CallX x F_impl_farthest [VS b w n, ES b w n, I v, I (-1)] H K := by
  obtain ⟨y0, hy0, rfl⟩ := hv
  refine farthest_body hd ht (c := c) (ends_lt hd hy0) (fun z hz => ((vl_ends hd hy0).1 hz).2) (fun z hz hne => ?_) (fun e s h => ?_)
  · exact farthest_spec hd ht _ (!c) z ((vl_ends hd hy0).1 hz).1 (Nat.le_refl _)
  · rcases h with ⟨h1, h2, h3⟩ | ⟨y, l, h1, h2, h3, h4, h5, h6⟩
    · have := h3 y0 ((vl_ends hd hy0).2 ⟨hy0, rfl⟩)
      omega
    · subst h1; subst h2
      obtain ⟨k1, k2⟩ := (vl_ends hd hy0).1 h3
      exact hK y l ⟨k1, k2, h5, fun z hz hz2 => h6 z ((vl_ends hd hy0).2 ⟨hz, hz2⟩) (by omega)⟩
/-- What a longest path is known to be. -/
def LP (b w : List Nat) (n : Nat) (e s : List Nat) : Prop :=
  ∃ cu pre x l, e = pre ++ x :: l ∧ s.length = e.length + 1 ∧ Mid b w n (!(cu ^^ decide (pre.length % 2 = 1))) x e.length ∧ (l.length = pre.length ∨ l.length = pre.length + 1) ∧
    nl s (pre.length + 1) = ends b w n (!(cu ^^ decide (pre.length % 2 = 1))) x
theorem sn_at : ∀ {l : List Nat} {c : Bool} {x i : Nat}, i ≤ l.length → nl (sn b w n c x l) i = ends b w n (c ^^ decide (i % 2 = 1)) (nl (x :: l) i)
  | [], c, x, i, h => by
    obtain rfl : i = 0 := by simpa using h
    simp [sn, nl]
  | y :: l, c, x, 0, h => by simp [sn, nl]
  | y :: l, c, x, i + 1, h => by
    have ih := sn_at (l := l) (c := !c) (x := y) (i := i) (by simpa using h)
    have e1 : nl (sn b w n c x (y :: l)) (i + 1) = nl (sn b w n (!c) y l) i := by simp [sn, nl]
    have e2 : nl (x :: y :: l) (i + 1) = nl (y :: l) i := by simp [nl]
    rw [e1, e2, ih]
    congr 1
    rcases Nat.mod_two_eq_zero_or_one i with e | e <;> cases c <;> simp [e] <;> omega
theorem Lg.lt : ∀ {c : Bool} {x : Nat} {l : List Nat}, x < n → Lg b w n c x l → ∀ y ∈ x :: l, y < n
  | c, x, [], hx, h, y, hy => by rw [List.mem_singleton.1 hy]; exact hx
  | c, x, z :: l, hx, h, y, hy => by
    rcases List.mem_cons.1 hy with rfl | hy
    · exact hx
    · rw [Lg] at h
      exact Lg.lt h.1.1 h.2.2 y hy
theorem nl_app {a : List Nat} {x : Nat} {l : List Nat} : nl (a ++ x :: l) a.length = x := by simp [nl, List.getD]
theorem longest_spec {x : Bool} {H : BH} {K : Value → BH → Prop} (hb : By 16 b) (hw : By 16 w) (hd : Des n b w) (ht : Tree n b w)
    (hK : ∀ e s, LP b w n e s → e.length ≤ 17 → K (.tuple ⟨[Fz e.length 1 (e.map N64), Fz s.length 1 (s.map N64)]⟩) H) : CallX x F_impl_longest [DV n b w] H K := by
  have hlb := hb.len
  have hlw := hw.len
  have hn := hd.1.1
  have hv2 := (verts_le hd).2.1
  have hv0 : ∃ y, y < n ∧ ends b w n false y = 0 := by
    obtain ⟨y, hy, h⟩ := vix_surj hd.1 hv2
    exact ⟨y, hy, by simpa [ends] using h⟩
  refine callP (.cons nn_D .nil) ?_
  refine CallX_body Γ_impl_longest ?_
  simp only [A_impl_longest, T_aiff]
  refine T_rseq fun Kr hKr => ?_
  simp (disch := omega) only [RA, ↓reduceIte, Nat.reduceEqDiff, Nat.reduceBEq, Nat.reduceSub, Nat.reduceAdd, Nat.reduceMul, Nat.reduceLT, Nat.reduceLeDiff, Int.reduceLE, Int.reduceLT, Int.reduceEq, Int.reduceNeg, Int.reduceToNat, Int.reduceMul, Int.reduceAdd, Int.reduceSub, Int.reduceBEq, Int.reduceBNe, reduceCtorEq, RD, RDS]
  refine hKr _ _ ?_
  clear hKr Kr
  try simp only [RN, reduceIte]
  try refine T_e rfl ?_
  refine T_rseq fun Kr hKr => ?_
  simp (disch := omega) only [RA, ↓reduceIte, Nat.reduceEqDiff, Nat.reduceBEq, Nat.reduceSub, Nat.reduceAdd, Nat.reduceMul, Nat.reduceLT, Nat.reduceLeDiff, Int.reduceLE, Int.reduceLT, Int.reduceEq, Int.reduceNeg, Int.reduceToNat, Int.reduceMul, Int.reduceAdd, Int.reduceSub, Int.reduceBEq, Int.reduceBNe, reduceCtorEq, RD, RDS, RDD]
  refine vertices_spec hb hw hd ?_
  simp (disch := omega) only [RA, ↓reduceIte, Nat.reduceEqDiff, Nat.reduceBEq, Nat.reduceSub, Nat.reduceAdd, Nat.reduceMul, Nat.reduceLT, Nat.reduceLeDiff, Int.reduceLE, Int.reduceLT, Int.reduceEq, Int.reduceNeg, Int.reduceToNat, Int.reduceMul, Int.reduceAdd, Int.reduceSub, Int.reduceBEq, Int.reduceBNe, reduceCtorEq, RD]
  refine hKr _ _ ?_
  clear hKr Kr
  try simp only [blkQ, thenQ, loopQ]
  try simp only [RN, reduceIte]
  try refine T_e rfl ?_
  refine T_rseq fun Kr hKr => ?_
  simp (disch := omega) only [RA, ↓reduceIte, Nat.reduceEqDiff, Nat.reduceBEq, Nat.reduceSub, Nat.reduceAdd, Nat.reduceMul, Nat.reduceLT, Nat.reduceLeDiff, Int.reduceLE, Int.reduceLT, Int.reduceEq, Int.reduceNeg, Int.reduceToNat, Int.reduceMul, Int.reduceAdd, Int.reduceSub, Int.reduceBEq, Int.reduceBNe, reduceCtorEq, RD]
  refine farthest_top hd ht (c := false) (v := 0) hv0 fun f0 f hf => ?_
  have hfl : f.length ≤ 16 := by
    have := hf.2.2.1.len
    have := hgt_le hd ht (c := !false) hf.1
    omega
  have hsl : (0 :: sn b w n (!false) f0 f).length = f.length + 2 := by rw [List.length_cons, sn_len]
  have hu : nl (0 :: sn b w n (!false) f0 f) (f.length + 1) = nl (sn b w n (!false) f0 f) f.length := by simp [nl]
  obtain ⟨y1, hy1, hy2⟩ : ∃ y, y < n ∧ ends b w n ((!false) ^^ decide (f.length % 2 = 1)) y = nl (sn b w n (!false) f0 f) f.length :=
    ⟨nl (f0 :: f) f.length, Lg.lt hf.1 hf.2.2.1 _ (nl_mem (by simp)), (sn_at (Nat.le_refl _)).symm⟩
  generalize hue : nl (sn b w n (!false) f0 f) f.length = u at hu hy2
  generalize h0s : 0 :: sn b w n (!false) f0 f = s0 at hsl hu ⊢
  generalize h0e : f0 :: f = e0
  simp (disch := omega) only [RA, ↓reduceIte, Nat.reduceEqDiff, Nat.reduceBEq, Nat.reduceSub, Nat.reduceAdd, Nat.reduceMul, Nat.reduceLT, Nat.reduceLeDiff, Int.reduceLE, Int.reduceLT, Int.reduceEq, Int.reduceNeg, Int.reduceToNat, Int.reduceMul, Int.reduceAdd, Int.reduceSub, Int.reduceBEq, Int.reduceBNe, reduceCtorEq, RD]
  refine hKr _ _ ?_
  clear hKr Kr
  try simp only [blkQ, thenQ, loopQ]
  try simp only [RN, reduceIte]
  try refine T_e rfl ?_
  have e1 : ((s0.length : Nat) : Int) - 1 = ((f.length + 1 : Nat) : Int) := by omega
  refine T_rseq fun Kr hKr => ?_
  simp (disch := omega) only [RA, ↓reduceIte, Nat.reduceEqDiff, Nat.reduceBEq, Nat.reduceSub, Nat.reduceAdd, Nat.reduceMul, Nat.reduceLT, Nat.reduceLeDiff, Int.reduceLE, Int.reduceLT, Int.reduceEq, Int.reduceNeg, Int.reduceToNat, Int.reduceMul, Int.reduceAdd, Int.reduceSub, Int.reduceBEq, Int.reduceBNe, reduceCtorEq, RD, e1, getN_64, hu]
  refine farthest_top hd ht (c := (!false) ^^ decide (f.length % 2 = 1)) (v := u) ⟨y1, hy1, hy2⟩ fun y l he => ?_
  obtain ⟨pre, x, l', c, k1, k2, k3, k4⟩ := sweep hd ht hf rfl hue.symm he
  have hel : (y :: l).length ≤ 17 := by
    have := he.2.2.1.len
    have := hgt_le hd ht (c := !((!false) ^^ decide (f.length % 2 = 1))) he.1
    rw [List.length_cons]
    omega
  generalize hcu : ((!false) ^^ decide (f.length % 2 = 1)) = cu at he k2 hy2 ⊢
  have hLP : LP b w n (y :: l) (u :: sn b w n (!cu) y l) := by
    refine ⟨cu, pre, x, l', k1, by rw [List.length_cons, sn_len, List.length_cons], by rw [← k2]; exact k3, k4, ?_⟩
    have e2 : nl (u :: sn b w n (!cu) y l) (pre.length + 1) = nl (sn b w n (!cu) y l) pre.length := by simp [nl]
    have hpl : pre.length ≤ l.length := by
      have := congrArg List.length k1
      simp at this
      omega
    rw [e2, sn_at hpl, k1, nl_app]
    cases cu <;> simp
  have hKK := hK _ _ hLP hel
  generalize y :: l = e at hKK ⊢
  generalize u :: sn b w n (!cu) y l = s at hKK ⊢
  simp (disch := omega) only [RA, ↓reduceIte, Nat.reduceEqDiff, Nat.reduceBEq, Nat.reduceSub, Nat.reduceAdd, Nat.reduceMul, Nat.reduceLT, Nat.reduceLeDiff, Int.reduceLE, Int.reduceLT, Int.reduceEq, Int.reduceNeg, Int.reduceToNat, Int.reduceMul, Int.reduceAdd, Int.reduceSub, Int.reduceBEq, Int.reduceBNe, reduceCtorEq, RD]
  refine hKr _ _ ?_
  clear hKr Kr
  try simp only [blkQ, thenQ, loopQ]
  try simp only [RN, reduceIte]
  try refine T_e rfl ?_
  refine bodyQ_ret (by simp (disch := omega) only [RA, ↓reduceIte, Nat.reduceEqDiff, Nat.reduceBEq, Nat.reduceSub, Nat.reduceAdd, Nat.reduceMul, Nat.reduceLT, Nat.reduceLeDiff, Int.reduceLE, Int.reduceLT, Int.reduceEq, Int.reduceNeg, Int.reduceToNat, Int.reduceMul, Int.reduceAdd, Int.reduceSub, Int.reduceBEq, Int.reduceBNe, reduceCtorEq, RD, resAll, resOf]; rfl) GhV.refl ?_
  simp only [tup]
  refine ⟨NN.tuple fun c hc => ?_, hKK⟩
  rcases List.mem_cons.1 hc with rfl | hc
  · exact .fz
  · rw [List.mem_singleton.1 hc]
    exact .fz
end
end Go.Bm

/- Words of trees: the reference's and the program's. -/
set_option linter.unusedVariables false
set_option linter.unusedSimpArgs false
namespace Go.Bm
open Go Go.Am

theorem st_NN {H : BH} {i : Nat} {b w : List Nat} (hb : b.length = 16) (hw : w.length = 16) : stO (some (b.map N8)) H i 0 16 (PL w) = some (undef, H.set i (some (w.map N8))) := by
  rw [st_N (by simpa using hw) (by simp [hb]), splice_full (by simp [hb, hw])]
section
variable {b w : List Nat} {n : Nat}
end
/-! ### The word at an edge -/
end Go.Bm

