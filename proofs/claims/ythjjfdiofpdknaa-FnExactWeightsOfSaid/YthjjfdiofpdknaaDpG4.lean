/- DpW, DpTb, DpTh, DpTi, DpTc, DpTd, DpTm -/
import Derived.Test.YthjjfdiofpdknaaBmP
import Derived.Test.YthjjfdiofpdknaaDpG0
import Derived.Test.YthjjfdiofpdknaaDpG2
import Derived.Test.YthjjfdiofpdknaaDpG3
/- Types of permutations, and what is clean. -/
set_option linter.unusedVariables false
set_option linter.unusedSimpArgs false
namespace Go.Bm
open Go Go.Am

theorem lens_nl {p : List Nat} {n i : Nat} (h : i < (cyc p n).length) : nl (lens p n) i = ((cyc p n).getD i []).length := by
  simp [nl, lens, List.getD, h]
theorem typeOf_run {p : List Nat} {n : Nat} (hb : By 16 p) (hp : Perm p n) :
    CallX false F_impl_typeOf [PL p, I n] [] fun v H1 => ∃ j, v = S j 0 (typ p n).length 1 ∧ blk H1 j = some ((typ p n).map N64) := by
  have hlen := hb.len
  have hnum := cyc_num hp
  have hn := hp.1
  have hll : (lens p n).length = (cyc p n).length := by rw [lens, List.length_map]
  refine CallX_body Γ_impl_typeOf ?_
  simp only [A_impl_typeOf, T_aiff]
  refine T_rseq fun Kr hKr => ?_
  simp (disch := omega) only [RA, ↓reduceIte, Nat.reduceEqDiff, Nat.reduceBEq, Nat.reduceSub, Nat.reduceAdd, Nat.reduceMul, Nat.reduceLT, Nat.reduceLeDiff, Int.reduceLE, Int.reduceLT, Int.reduceEq, Int.reduceNeg, Int.reduceToNat, Int.reduceMul, Int.reduceAdd, Int.reduceSub, Int.reduceBEq, Int.reduceBNe, reduceCtorEq, RD]
  refine hKr _ _ ?_
  clear hKr Kr
  try simp only [RN, reduceIte]
  try refine T_e rfl ?_
  refine T_rseq fun Kr hKr => ?_
  simp (disch := omega) only [RA, ↓reduceIte, Nat.reduceEqDiff, Nat.reduceBEq, Nat.reduceSub, Nat.reduceAdd, Nat.reduceMul, Nat.reduceLT, Nat.reduceLeDiff, Int.reduceLE, Int.reduceLT, Int.reduceEq, Int.reduceNeg, Int.reduceToNat, Int.reduceMul, Int.reduceAdd, Int.reduceSub, Int.reduceBEq, Int.reduceBNe, reduceCtorEq, RD]
  refine hKr _ _ ?_
  clear hKr Kr
  try simp only [RN, reduceIte]
  try refine T_e rfl ?_
  refine T_rseq fun Kr hKr => ?_
  simp (disch := omega) only [RA, ↓reduceIte, Nat.reduceEqDiff, RD]
  refine cycles_spec hb hp ?_
  simp (disch := omega) only [RA, ↓reduceIte, Nat.reduceEqDiff, RD]
  refine hKr _ _ ?_
  clear hKr Kr
  try simp only [blkQ, thenQ, loopQ]
  try simp only [RN, reduceIte]
  try refine T_e rfl ?_
  refine T_wloop (fun m f H' => ∃ i out, i ≤ (cyc p n).length ∧ m = (cyc p n).length - i ∧ out = (lens p n).take i ∧ f 5 = S 1 0 out.length 1 ∧ f 11 = Fz (cyc p n).length 1 ((cyc p n).map FN) ∧ f 12 = I (cyc p n).length ∧ f 13 = I i ∧ H' = [some (p.map N8), some (out.map N64)]) ((cyc p n).length) ?_ ?_
  · refine ⟨_, _, Gh.refl, 0, [], by omega, by omega, by simp, ?_, ?_, ?_, ?_, by simp⟩
    any_goals (simp (disch := omega) only [RA, ↓reduceIte, Nat.reduceEqDiff, RD, RE, *] <;> rfl)
  · rintro m f H' R ⟨i, out, hi, rfl, hout, g5, g11, g12, g13, rfl⟩ hN hX hR hE
    simp only [A_impl_typeOf.l0, T_aiff]
    refine T_rseq fun Kr hKr => ?_
    simp (disch := omega) only [RA, ↓reduceIte, Nat.reduceEqDiff, Nat.reduceAdd, Nat.reduceMul, Int.reduceToNat, Nat.reduceLT, reduceCtorEq, RD, g12, g13]
    refine hKr _ _ ?_
    clear hKr Kr
    try simp only [RN, reduceIte]
    try refine T_e rfl ?_
    refine T_csplit (p := i < (cyc p n).length) (by simp only [RA, ↓reduceIte, Nat.reduceEqDiff, Nat.reduceBEq, Nat.reduceSub, Nat.reduceAdd, Nat.reduceMul, Nat.reduceLT, Nat.reduceLeDiff, Int.reduceLE, Int.reduceLT, Int.reduceEq, Int.reduceNeg, Int.reduceToNat, Int.reduceMul, Int.reduceAdd, Int.reduceSub, Int.reduceBEq, Int.reduceBNe, reduceCtorEq] <;> rfl) (by (try simp only [RB]) <;> first | done | exact Iff.rfl | omega | simp) (fun hc => ?_) (fun hc => ?_) <;> (try simp only [RN, reduceIte]) <;> (try refine T_e rfl ?_)
    · have hol : out.length ≤ 16 := by rw [hout, List.length_take]; omega
      have hci := lens_nl hc
      first | refine T_bfree rfl ?_ | refine T_bfree' rfl ?_
      try simp only [RN, reduceIte]
      try refine T_e rfl ?_
      refine T_rseq fun Kr hKr => ?_
      simp (disch := omega) only [RA, ↓reduceIte, Nat.reduceEqDiff, Nat.reduceBEq, Nat.reduceSub, Nat.reduceAdd, Nat.reduceMul, Nat.reduceLT, Nat.reduceLeDiff, Int.reduceLE, Int.reduceLT, Int.reduceEq, Int.reduceNeg, Int.reduceToNat, Int.reduceMul, Int.reduceAdd, Int.reduceSub, Int.reduceBEq, Int.reduceBNe, reduceCtorEq, RD, g11, g13, getN_FN]
      refine hKr _ _ ?_
      clear hKr Kr
      try simp only [RN, reduceIte]
      try refine T_e rfl ?_
      refine T_rseq fun Kr hKr => ?_
      simp (disch := omega) only [RA, ↓reduceIte, Nat.reduceEqDiff, Nat.reduceBEq, Nat.reduceSub, Nat.reduceAdd, Nat.reduceMul, Nat.reduceLT, Nat.reduceLeDiff, Int.reduceLE, Int.reduceLT, Int.reduceEq, Int.reduceNeg, Int.reduceToNat, Int.reduceMul, Int.reduceAdd, Int.reduceSub, Int.reduceBEq, Int.reduceBNe, reduceCtorEq, RD, g5, ← hci, app1_64]
      refine hKr _ _ ?_
      clear hKr Kr
      try simp only [RN, reduceIte]
      try refine T_e rfl ?_
      refine T_reg_k fun Kr hKr => ?_
      simp (disch := omega) only [RA, ↓reduceIte, Nat.reduceEqDiff, RD, g13]
      refine hKr _ _ ?_
      clear hKr Kr
      refine hN ((cyc p n).length - (i + 1)) _ _ _ _ (by omega) (Gh.nrm [0, 3] rfl rfl (by simp only [RH, RV])) ⟨i + 1, out ++ [nl (lens p n) i], by omega, rfl, by rw [take_succ_nl' (by omega), hout], ?_, ?_, ?_, ?_, rfl⟩
      any_goals (simp (disch := omega) only [RA, ↓reduceIte, Nat.reduceEqDiff, RD, RE, *] <;> rfl)
    · refine hX _ _ ?_
      obtain rfl : i = (cyc p n).length := by omega
      have hout' : out = lens p n := by rw [hout, ← hll, List.take_length]
      subst hout'
      have hpl : (ofN (lens p n)).length = (lens p n).length := ofN_len
      have hpm : (ofN (typ p n)).Perm (ofN (lens p n)) := (typ_perm hp).map _
      have htl : (typ p n).length = (lens p n).length := (typ_perm hp).length_eq
      have hl16 := lens_len hp
      refine T_rseq fun Kr hKr => ?_
      simp (disch := omega) only [RA, ↓reduceIte, Nat.reduceEqDiff, RD, g5]
      refine call1S (i := 1) rfl NNL_64 ?_
      have e : ([S 1 0 (lens p n).length 1] : List Value).map (ren [1]) = [S 0 0 (ofN (lens p n)).length 1] := by rw [hpl]; simp [ren, ren1, nm]
      rw [e, map_N64]
      refine descending_spec (r := ofN (typ p n)) (by omega) typL_dsc hpm ?_
      refine ⟨0, _, _, rfl, HN.cons (NNL.map fun _ => .int) HN.nil, ?_⟩
      rw [hpl]
      simp (disch := omega) only [RA, ↓reduceIte, Nat.reduceEqDiff, RD]
      refine hKr _ _ ?_
      clear hKr Kr
      try simp only [blkQ, thenQ, loopQ]
      try simp only [RN, reduceIte]
      try refine T_e rfl ?_
      refine bodyQ_ret (by simp (disch := omega) only [RA, ↓reduceIte, Nat.reduceEqDiff, RD, resAll, resOf]; rfl) GhV.refl ?_
      simp only [tup]
      exact ⟨1, by rw [htl], by rw [map_N64]; rfl⟩
theorem typeOf_spec {x : Bool} {p : List Nat} {n : Nat} {H : BH} {K : Value → BH → Prop} (hb : By 16 p) (hp : Perm p n) (hK : K (FN (typ p n)) H) : CallX x F_impl_typeOf [PL p, I n] H K :=
  callRZ (by (simp only [RH])) NNL_64 (by simp) (typeOf_run hb hp) hK
theorem st17_0 {H : BH} {b : Nat} : stO (some (List.replicate 17 (.int .i64 0))) H b 0 17 (aggL (List.replicate 17 (.int .i64 0))) = some (undef, H.set b (some ((List.replicate 17 0).map N64))) := by
  rw [st_ri]; rfl
theorem st64 {H : BH} {b o : Nat} {s : List Nat} {c : Nat} (h : o < s.length) : stO (some (s.map N64)) H b o 1 (.int .i64 (c : Int)) = some (undef, H.set b (some ((s.set o c).map N64))) := by
  rw [stO_int (by simpa using h)]
  rw [splice_1 (g := N64) h]
theorem l01Type_run {p : List Nat} {n : Nat} (hb : By 16 p) (hp : Perm p n) :
    CallX false F_spec_l01Type [PL p, I n] [] fun v H1 => ∃ j, v = S j 0 (typ p n).length 1 ∧ blk H1 j = some ((typ p n).map N64) := by
  have hlen := hb.len
  have hnum := cyc_num hp
  have hn := hp.1
  have hll : (lens p n).length = (cyc p n).length := by rw [lens, List.length_map]
  have hlo := lens_ok hp
  have hl16 := lens_len hp
  refine CallX_body Γ_spec_l01Type ?_
  simp only [A_spec_l01Type, T_aiff]
  refine T_rseq fun Kr hKr => ?_
  simp (disch := omega) only [RA, ↓reduceIte, Nat.reduceEqDiff, Nat.reduceBEq, Nat.reduceSub, Nat.reduceAdd, Nat.reduceMul, Nat.reduceLT, Nat.reduceLeDiff, Int.reduceLE, Int.reduceLT, Int.reduceEq, Int.reduceNeg, Int.reduceToNat, Int.reduceMul, Int.reduceAdd, Int.reduceSub, Int.reduceBEq, Int.reduceBNe, reduceCtorEq, RD]
  refine hKr _ _ ?_
  clear hKr Kr
  try simp only [RN, reduceIte]
  try refine T_e rfl ?_
  refine T_rseq fun Kr hKr => ?_
  simp (disch := omega) only [RA, ↓reduceIte, Nat.reduceEqDiff, Nat.reduceBEq, Nat.reduceSub, Nat.reduceAdd, Nat.reduceMul, Nat.reduceLT, Nat.reduceLeDiff, Int.reduceLE, Int.reduceLT, Int.reduceEq, Int.reduceNeg, Int.reduceToNat, Int.reduceMul, Int.reduceAdd, Int.reduceSub, Int.reduceBEq, Int.reduceBNe, reduceCtorEq, RD]
  refine l01Cycles_spec hb hp ?_
  simp (disch := omega) only [RA, ↓reduceIte, Nat.reduceEqDiff, Nat.reduceBEq, Nat.reduceSub, Nat.reduceAdd, Nat.reduceMul, Nat.reduceLT, Nat.reduceLeDiff, Int.reduceLE, Int.reduceLT, Int.reduceEq, Int.reduceNeg, Int.reduceToNat, Int.reduceMul, Int.reduceAdd, Int.reduceSub, Int.reduceBEq, Int.reduceBNe, reduceCtorEq, RD, st17_0]
  refine hKr _ _ ?_
  clear hKr Kr
  try simp only [blkQ, thenQ, loopQ]
  try simp only [RN, reduceIte]
  try refine T_e rfl ?_
  refine T_rseq fun Kr hKr => ?_
  simp (disch := omega) only [RA, ↓reduceIte, Nat.reduceEqDiff, Nat.reduceBEq, Nat.reduceSub, Nat.reduceAdd, Nat.reduceMul, Nat.reduceLT, Nat.reduceLeDiff, Int.reduceLE, Int.reduceLT, Int.reduceEq, Int.reduceNeg, Int.reduceToNat, Int.reduceMul, Int.reduceAdd, Int.reduceSub, Int.reduceBEq, Int.reduceBNe, reduceCtorEq, RD]
  refine hKr _ _ ?_
  clear hKr Kr
  try simp only [RN, reduceIte]
  try refine T_e rfl ?_
  refine T_wloop (fun m f H' => ∃ i cn, i ≤ (cyc p n).length ∧ m = (cyc p n).length - i ∧ cn = cntT (lens p n) i ∧ f 1 = I n ∧ f 5 = P 2 0 ∧ f 6 = Fz (cyc p n).length 1 ((cyc p n).map FN) ∧ f 7 = S 1 0 0 1 ∧ f 8 = I i ∧ H' = [some (p.map N8), some (([] : List Nat).map N64), some (cn.map N64)]) ((cyc p n).length) ?_ ?_
  · refine ⟨_, _, Gh.refl, 0, List.replicate 17 0, by omega, by omega, rfl, ?_, ?_, ?_, ?_, ?_, rfl⟩
    any_goals (simp (disch := omega) only [RA, ↓reduceIte, Nat.reduceEqDiff, RD, RE, *] <;> rfl)
  · rintro m f H' R ⟨i, cn, hi, rfl, hcn, g1, g5, g6, g7, g8, rfl⟩ hN hX hR hE
    simp only [A_spec_l01Type.l0, T_aiff]
    have hcl : cn.length = 17 := by rw [hcn]; exact cntT_len
    refine T_rseq fun Kr hKr => ?_
    simp (disch := omega) only [RA, ↓reduceIte, Nat.reduceEqDiff, RD, g6, g8]
    refine hKr _ _ ?_
    clear hKr Kr
    try simp only [RN, reduceIte]
    try refine T_e rfl ?_
    refine T_csplit (p := i < (cyc p n).length) (by simp only [RA, ↓reduceIte, Nat.reduceEqDiff] <;> rfl) (by (try simp only [RB]) <;> first | done | exact Iff.rfl | omega | simp) (fun hc => ?_) (fun hc => ?_) <;> (try simp only [RN, reduceIte]) <;> (try refine T_e rfl ?_)
    · have hci := lens_nl hc
      have hz := hlo _ (nl_mem (show i < (lens p n).length by omega))
      have hle : nl cn (nl (lens p n) i) ≤ 16 := by
        rw [hcn, cntT_nl (by omega) (by omega)]
        have := List.count_le_length (a := nl (lens p n) i) (l := (lens p n).take i)
        rw [List.length_take] at this
        omega
      have e1 : (nl cn (nl (lens p n) i) : Int) + 1 = ((nl cn (nl (lens p n) i) + 1 : Nat) : Int) := by omega
      first | refine T_bfree rfl ?_ | refine T_bfree' rfl ?_
      try simp only [RN, reduceIte]
      try refine T_e rfl ?_
      refine T_rseq fun Kr hKr => ?_
      simp (disch := omega) only [RA, ↓reduceIte, Nat.reduceEqDiff, RD, g5, g6, g8, getN_FN, ← hci, getN_64, hcl, e1, st64]
      refine hKr _ _ ?_
      clear hKr Kr
      try simp only [RN, reduceIte]
      try refine T_e rfl ?_
      refine T_reg_k fun Kr hKr => ?_
      simp (disch := omega) only [RA, ↓reduceIte, Nat.reduceEqDiff, RD, g8]
      refine hKr _ _ ?_
      clear hKr Kr
      refine hN ((cyc p n).length - (i + 1)) _ _ _ _ (by omega) Gh.refl ⟨i + 1, cn.set (nl (lens p n) i) (nl cn (nl (lens p n) i) + 1), by omega, rfl, by rw [cntT, hcn], ?_, ?_, ?_, ?_, ?_, rfl⟩
      any_goals (simp (disch := omega) only [RA, ↓reduceIte, Nat.reduceEqDiff, RD, RE, *] <;> rfl)
    · refine hX _ _ ?_
      obtain rfl : i = (cyc p n).length := by omega
      rw [← hll] at hcn
      have hd16 : ∀ k, k ≤ n → (typK cn n k).length ≤ 16 := fun k hk => by
        rw [hcn]
        have := typK_le (show n ≤ 16 by omega) hk hlo
        omega
      have hcv : ∀ v, v < 17 → nl cn v ≤ 16 := fun v hv => by
        rw [hcn, cntT_nl (Nat.le_refl _) hv]
        have := List.count_le_length (a := v) (l := (lens p n).take (lens p n).length)
        rw [List.length_take] at this
        omega
      have hdl : typ p n = typK cn n n := by rw [hcn]; rfl
      rw [hdl] at hX
      clear g6 g8 hc hN hX hR hE
      try simp only [RN, reduceIte]
      try refine T_e rfl ?_
      refine T_rseq fun Kr hKr => ?_
      simp (disch := omega) only [RA, ↓reduceIte, Nat.reduceEqDiff, RD, g1]
      refine hKr _ _ ?_
      clear hKr Kr
      try simp only [RN, reduceIte]
      try refine T_e rfl ?_
      rw [hdl]
      refine T_wloop (fun m f H' => ∃ v out, v ≤ n ∧ v = m ∧ out = typK cn n (n - v) ∧ f 5 = P 1 0 ∧ f 7 = S 0 0 out.length 1 ∧ f 9 = I v ∧ H' = [some (out.map N64), some (cn.map N64)]) (n) ?_ ?_
      · refine ⟨_, _, (Gh.nrm [1, 2] rfl rfl (by simp only [RH, RV])), n, [], by omega, by omega, by simp [typK], ?_, ?_, ?_, rfl⟩
        any_goals (simp (disch := omega) only [RA, ↓reduceIte, Nat.reduceEqDiff, RD, RE, *] <;> rfl)
      · clear g1 g5 g7
        rintro m f H' R2 ⟨v, out, hv, rfl, hout, g5, g7, g9, rfl⟩ hN2 hX2 hR2 hE2
        simp only [A_spec_l01Type.l2, T_aiff]
        refine T_rseq fun Kr hKr => ?_
        simp (disch := omega) only [RA, ↓reduceIte, Nat.reduceEqDiff, RD, g9]
        refine hKr _ _ ?_
        clear hKr Kr
        try simp only [RN, reduceIte]
        try refine T_e rfl ?_
        refine T_csplit (p := 0 < v) (by simp only [RA, ↓reduceIte, Nat.reduceEqDiff] <;> rfl) (by (try simp only [RB]) <;> first | done | exact Iff.rfl | omega | simp) (fun hc => ?_) (fun hc => ?_) <;> (try simp only [RN, reduceIte]) <;> (try refine T_e rfl ?_)
        · have hq := hcv v (by omega)
          have hstep : typK cn n (n - (v - 1)) = typK cn n (n - v) ++ List.replicate (nl cn v) v := by
            rw [show n - (v - 1) = (n - v) + 1 by omega, typK, show n - (n - v) = v by omega]
          have hdn := hd16 (n - (v - 1)) (by omega)
          rw [hstep, ← hout, List.length_append, List.length_replicate] at hdn
          rw [← hout] at hstep
          first | refine T_bfree rfl ?_ | refine T_bfree' rfl ?_
          try simp only [RN, reduceIte]
          try refine T_e rfl ?_
          refine T_rseq fun Kr hKr => ?_
          simp (disch := omega) only [RA, ↓reduceIte, Nat.reduceEqDiff, RD, g5, g9, getN_64, hcl]
          refine hKr _ _ ?_
          clear hKr Kr
          try simp only [RN, reduceIte]
          try refine T_e rfl ?_
          obtain ⟨q, hqe⟩ : ∃ q, nl cn v = q := ⟨_, rfl⟩
          rw [hqe] at hq hstep hdn
          simp only [hqe]
          refine T_wloop (fun m f H' => ∃ j o, j ≤ q ∧ j = m ∧ o = out ++ List.replicate (q - j) v ∧ f 5 = P 1 0 ∧ f 7 = S 0 0 o.length 1 ∧ f 9 = I v ∧ f 10 = I j ∧ H' = [some (o.map N64), some (cn.map N64)]) (q) ?_ ?_
          · refine ⟨_, _, Gh.refl, q, out, by omega, by omega, by simp, ?_, ?_, ?_, ?_, rfl⟩
            any_goals (simp (disch := omega) only [RA, ↓reduceIte, Nat.reduceEqDiff, Nat.reduceAdd, Nat.reduceMul, Int.reduceToNat, Nat.reduceLT, reduceCtorEq, RD, RE, *] <;> rfl)
          · clear g5 g7 g9
            rintro m f H' R3 ⟨j, o, hj, rfl, ho, g5, g7, g9, g10, rfl⟩ hN3 hX3 hR3 hE3
            simp only [A_spec_l01Type.l1, T_aiff]
            have hol : o.length ≤ 16 := by rw [ho, List.length_append, List.length_replicate]; omega
            refine T_rseq fun Kr hKr => ?_
            simp (disch := omega) only [RA, ↓reduceIte, Nat.reduceEqDiff, Nat.reduceBEq, Nat.reduceSub, Nat.reduceAdd, Nat.reduceMul, Nat.reduceLT, Nat.reduceLeDiff, Int.reduceLE, Int.reduceLT, Int.reduceEq, Int.reduceNeg, Int.reduceToNat, Int.reduceMul, Int.reduceAdd, Int.reduceSub, Int.reduceBEq, Int.reduceBNe, reduceCtorEq, RD, g10]
            refine hKr _ _ ?_
            clear hKr Kr
            try simp only [RN, reduceIte]
            try refine T_e rfl ?_
            refine T_csplit (p := 0 < j) (by simp only [RA, ↓reduceIte, Nat.reduceEqDiff, Nat.reduceBEq, Nat.reduceSub, Nat.reduceAdd, Nat.reduceMul, Nat.reduceLT, Nat.reduceLeDiff, Int.reduceLE, Int.reduceLT, Int.reduceEq, Int.reduceNeg, Int.reduceToNat, Int.reduceMul, Int.reduceAdd, Int.reduceSub, Int.reduceBEq, Int.reduceBNe, reduceCtorEq] <;> rfl) (by (try simp only [RB]) <;> first | done | exact Iff.rfl | omega | simp) (fun hc => ?_) (fun hc => ?_) <;> (try simp only [RN, reduceIte]) <;> (try refine T_e rfl ?_)
            · have hj1 : (j : Int) - 1 = ((j - 1 : Nat) : Int) := by omega
              first | refine T_bfree rfl ?_ | refine T_bfree' rfl ?_
              try simp only [RN, reduceIte]
              try refine T_e rfl ?_
              refine T_rseq fun Kr hKr => ?_
              simp (disch := omega) only [RA, ↓reduceIte, Nat.reduceEqDiff, Nat.reduceBEq, Nat.reduceSub, Nat.reduceAdd, Nat.reduceMul, Nat.reduceLT, Nat.reduceLeDiff, Int.reduceLE, Int.reduceLT, Int.reduceEq, Int.reduceNeg, Int.reduceToNat, Int.reduceMul, Int.reduceAdd, Int.reduceSub, Int.reduceBEq, Int.reduceBNe, reduceCtorEq, RD, g7, g9, app1_64]
              refine hKr _ _ ?_
              clear hKr Kr
              try simp only [RN, reduceIte]
              try refine T_e rfl ?_
              refine T_reg_k fun Kr hKr => ?_
              simp (disch := omega) only [RA, ↓reduceIte, Nat.reduceEqDiff, RD, g10, hj1]
              refine hKr _ _ ?_
              clear hKr Kr
              refine hN3 (j - 1) _ _ _ _ (by omega) (Gh.nrm [3, 1] rfl rfl (by simp only [RH, RV])) ⟨j - 1, o ++ [v], by omega, rfl, ?_, ?_, ?_, ?_, ?_, rfl⟩
              any_goals (simp (disch := omega) only [RA, ↓reduceIte, Nat.reduceEqDiff, RD, RE, *] <;> rfl)
              rw [ho, List.append_assoc, show q - (j - 1) = (q - j) + 1 by omega, List.replicate_succ']
            · refine hX3 _ _ ?_
              obtain rfl : j = 0 := by omega
              have hv1 : (v : Int) - 1 = ((v - 1 : Nat) : Int) := by omega
              refine T_reg_k fun Kr hKr => ?_
              simp (disch := omega) only [RA, ↓reduceIte, Nat.reduceEqDiff, RD, g9, hv1]
              refine hKr _ _ ?_
              clear hKr Kr
              refine hN2 (v - 1) _ _ _ _ (by omega) Gh.refl ⟨v - 1, o, by omega, rfl, by rw [hstep, ho]; rfl, ?_, ?_, ?_, rfl⟩
              any_goals (simp (disch := omega) only [RA, ↓reduceIte, Nat.reduceEqDiff, RD, RE, *] <;> rfl)
        · refine hX2 _ _ ?_
          obtain rfl : v = 0 := by omega
          refine T_rseq fun Kr hKr => ?_
          simp (disch := omega) only [RA, ↓reduceIte, Nat.reduceEqDiff, RD, g7]
          refine hKr _ _ ?_
          clear hKr Kr
          try simp only [RN, reduceIte]
          try refine T_e rfl ?_
          refine bodyQ_ret (by simp (disch := omega) only [RA, ↓reduceIte, Nat.reduceEqDiff, RD, resAll, resOf, g7]; rfl) GhV.refl ?_
          simp only [tup]
          rw [hout]
          exact ⟨0, rfl, rfl⟩
theorem l01Type_spec {x : Bool} {p : List Nat} {n : Nat} {H : BH} {K : Value → BH → Prop} (hb : By 16 p) (hp : Perm p n) (hK : K (FN (typ p n)) H) : CallX x F_spec_l01Type [PL p, I n] H K :=
  callRZ (by (simp only [RH])) NNL_64 (by simp) (l01Type_run hb hp) hK

/-! ### Clean -/
def Clean (w : List Nat) (n : Nat) : Prop := ∀ x, x < n → nl w x ≠ x ∧ nl w (nl w x) = x
instance (w : List Nat) (n : Nat) : Decidable (Clean w n) := by unfold Clean; infer_instance
end Go.Bm

/- Trees: passports, what is a tree, codes. -/
set_option linter.unusedVariables false
set_option linter.unusedSimpArgs false
namespace Go.Bm
open Go Go.Am

theorem face_by {b w : List Nat} {n : Nat} (hn : n ≤ 16) : By 16 (faceP b w n) := backK_by hn
def pass (b w : List Nat) (n : Nat) : List (List Nat) := [typ b n, typ w n, typ (faceP b w n) n]
abbrev FNN (xs : List (List Nat)) : Value := Fz xs.length 1 (xs.map FN)
theorem passport_spec {x : Bool} {n : Nat} {b w : List Nat} {H : BH} {K : Value → BH → Prop} (hb : By 16 b) (hw : By 16 w) (hd : Des n b w)
    (hK : K (FNN (pass b w n)) H) : CallX x F_impl_passport [DV n b w] H K := by
  have hlb := hb.len
  have hlw := hw.len
  have hn := hd.1.1
  have hb16 := fun i => hd.1.lt16 hlb i
  have hw16 := fun i => hd.2.1.lt16 hlw i
  refine callRZ (l := 3) (e := 1) (cs := (pass b w n).map FN) (.cons nn_D .nil) NNL_FN (by simp [pass]) ?_ hK
  refine CallX_body Γ_impl_passport ?_
  simp only [A_impl_passport, T_aiff]
  refine T_rseq fun Kr hKr => ?_
  simp (disch := omega) only [RA, ↓reduceIte, Nat.reduceEqDiff, RD, RDS]
  refine hKr _ _ ?_
  clear hKr Kr
  try simp only [RN, reduceIte]
  try refine T_e rfl ?_
  refine T_rseq fun Kr hKr => ?_
  simp (disch := omega) only [RA, ↓reduceIte, Nat.reduceEqDiff, RD, RDS, RDD]
  refine typeOf_spec hb hd.1 ?_
  simp (disch := omega) only [RA, ↓reduceIte, Nat.reduceEqDiff, Nat.reduceBEq, Nat.reduceSub, Nat.reduceAdd, Nat.reduceMul, Nat.reduceLT, Nat.reduceLeDiff, Int.reduceLE, Int.reduceLT, Int.reduceEq, Int.reduceNeg, Int.reduceToNat, Int.reduceMul, Int.reduceAdd, Int.reduceSub, Int.reduceBEq, Int.reduceBNe, reduceCtorEq, RD, RDS, RDD]
  refine typeOf_spec hw hd.2.1 ?_
  simp (disch := omega) only [RA, ↓reduceIte, Nat.reduceEqDiff, Nat.reduceBEq, Nat.reduceSub, Nat.reduceAdd, Nat.reduceMul, Nat.reduceLT, Nat.reduceLeDiff, Int.reduceLE, Int.reduceLT, Int.reduceEq, Int.reduceNeg, Int.reduceToNat, Int.reduceMul, Int.reduceAdd, Int.reduceSub, Int.reduceBEq, Int.reduceBNe, reduceCtorEq, RD, RDS, RDD]
  refine face_spec hb hw (by omega) hb16 hw16 ?_
  simp (disch := omega) only [RA, ↓reduceIte, Nat.reduceEqDiff, Nat.reduceBEq, Nat.reduceSub, Nat.reduceAdd, Nat.reduceMul, Nat.reduceLT, Nat.reduceLeDiff, Int.reduceLE, Int.reduceLT, Int.reduceEq, Int.reduceNeg, Int.reduceToNat, Int.reduceMul, Int.reduceAdd, Int.reduceSub, Int.reduceBEq, Int.reduceBNe, reduceCtorEq, RD, RDS, RDD]
  refine typeOf_spec (face_by (by omega)) (face_perm hd.1 hd.2.1) ?_
  simp (disch := omega) only [RA, ↓reduceIte, Nat.reduceEqDiff, Nat.reduceBEq, Nat.reduceSub, Nat.reduceAdd, Nat.reduceMul, Nat.reduceLT, Nat.reduceLeDiff, Int.reduceLE, Int.reduceLT, Int.reduceEq, Int.reduceNeg, Int.reduceToNat, Int.reduceMul, Int.reduceAdd, Int.reduceSub, Int.reduceBEq, Int.reduceBNe, reduceCtorEq, RD]
  refine hKr _ _ ?_
  clear hKr Kr
  try simp only [blkQ, thenQ, loopQ]
  try simp only [RN, reduceIte]
  try refine T_e rfl ?_
  refine bodyQ_ret (by simp (disch := omega) only [RA, ↓reduceIte, Nat.reduceEqDiff, RD, resAll, resOf]; rfl) GhV.refl ?_
  simp only [tup]
  exact ⟨1, rfl, rfl⟩
theorem l01Passport_spec {x : Bool} {n : Nat} {b w : List Nat} {H : BH} {K : Value → BH → Prop} (hb : By 16 b) (hw : By 16 w) (hd : Des n b w)
    (hK : K (FNN (pass b w n)) H) : CallX x F_spec_l01Passport [DV n b w] H K := by
  have hlb := hb.len
  have hlw := hw.len
  have hn := hd.1.1
  have hb16 := fun i => hd.1.lt16 hlb i
  have hw16 := fun i => hd.2.1.lt16 hlw i
  refine callRZ (l := 3) (e := 1) (cs := (pass b w n).map FN) (.cons nn_D .nil) NNL_FN (by simp [pass]) ?_ hK
  refine CallX_body Γ_spec_l01Passport ?_
  simp only [A_spec_l01Passport, T_aiff]
  refine T_rseq fun Kr hKr => ?_
  simp (disch := omega) only [RA, ↓reduceIte, Nat.reduceEqDiff, RD, RDS]
  refine hKr _ _ ?_
  clear hKr Kr
  try simp only [RN, reduceIte]
  try refine T_e rfl ?_
  refine T_rseq fun Kr hKr => ?_
  simp (disch := omega) only [RA, ↓reduceIte, Nat.reduceEqDiff, RD, RDS, RDD]
  refine l01Type_spec hb hd.1 ?_
  simp (disch := omega) only [RA, ↓reduceIte, Nat.reduceEqDiff, Nat.reduceBEq, Nat.reduceSub, Nat.reduceAdd, Nat.reduceMul, Nat.reduceLT, Nat.reduceLeDiff, Int.reduceLE, Int.reduceLT, Int.reduceEq, Int.reduceNeg, Int.reduceToNat, Int.reduceMul, Int.reduceAdd, Int.reduceSub, Int.reduceBEq, Int.reduceBNe, reduceCtorEq, RD, RDS, RDD]
  refine l01Type_spec hw hd.2.1 ?_
  simp (disch := omega) only [RA, ↓reduceIte, Nat.reduceEqDiff, Nat.reduceBEq, Nat.reduceSub, Nat.reduceAdd, Nat.reduceMul, Nat.reduceLT, Nat.reduceLeDiff, Int.reduceLE, Int.reduceLT, Int.reduceEq, Int.reduceNeg, Int.reduceToNat, Int.reduceMul, Int.reduceAdd, Int.reduceSub, Int.reduceBEq, Int.reduceBNe, reduceCtorEq, RD, RDS, RDD]
  refine l01Face_spec hb hw (by omega) hb16 hw16 ?_
  simp (disch := omega) only [RA, ↓reduceIte, Nat.reduceEqDiff, Nat.reduceBEq, Nat.reduceSub, Nat.reduceAdd, Nat.reduceMul, Nat.reduceLT, Nat.reduceLeDiff, Int.reduceLE, Int.reduceLT, Int.reduceEq, Int.reduceNeg, Int.reduceToNat, Int.reduceMul, Int.reduceAdd, Int.reduceSub, Int.reduceBEq, Int.reduceBNe, reduceCtorEq, RD, RDS, RDD]
  refine l01Type_spec (face_by (by omega)) (face_perm hd.1 hd.2.1) ?_
  simp (disch := omega) only [RA, ↓reduceIte, Nat.reduceEqDiff, Nat.reduceBEq, Nat.reduceSub, Nat.reduceAdd, Nat.reduceMul, Nat.reduceLT, Nat.reduceLeDiff, Int.reduceLE, Int.reduceLT, Int.reduceEq, Int.reduceNeg, Int.reduceToNat, Int.reduceMul, Int.reduceAdd, Int.reduceSub, Int.reduceBEq, Int.reduceBNe, reduceCtorEq, RD]
  refine hKr _ _ ?_
  clear hKr Kr
  try simp only [blkQ, thenQ, loopQ]
  try simp only [RN, reduceIte]
  try refine T_e rfl ?_
  refine bodyQ_ret (by simp (disch := omega) only [RA, ↓reduceIte, Nat.reduceEqDiff, RD, resAll, resOf]; rfl) GhV.refl ?_
  simp only [tup]
  exact ⟨1, rfl, rfl⟩
theorem tree_dec {n : Nat} {b w : List Nat} (hd : Des n b w) : Tree n b w ↔ (typ (faceP b w n) n).length = 1 ∧ (typ b n).length + (typ w n).length = n + 1 := by
  rw [Tree, typ_len (face_perm hd.1 hd.2.1), typ_len hd.1, typ_len hd.2.1]
theorem isTree_spec {x : Bool} {n : Nat} {b w : List Nat} {H : BH} {K : Value → BH → Prop} (hb : By 16 b) (hw : By 16 w) (hd : Des n b w)
    (hK : K (.bool (decide (Tree n b w))) H) : CallX x F_impl_isTree [DV n b w] H K := by
  have hlb := hb.len
  have hlw := hw.len
  have hn := hd.1.1
  have htd := tree_dec hd
  have hz : ∀ p : List Nat, Perm p n → (typ p n).length ≤ 16 := fun p hp => by rw [typ_len hp]; have := cyc_num hp; omega
  have hz1 := hz b hd.1
  have hz2 := hz w hd.2.1
  have hz3 := hz _ (face_perm hd.1 hd.2.1)
  refine callP (.cons nn_D .nil) ?_
  refine CallX_body Γ_impl_isTree ?_
  simp only [A_impl_isTree, T_aiff]
  refine T_rseq fun Kr hKr => ?_
  simp (disch := omega) only [RA, ↓reduceIte, Nat.reduceEqDiff, RD, RDS]
  refine hKr _ _ ?_
  clear hKr Kr
  try simp only [RN, reduceIte]
  try refine T_e rfl ?_
  refine T_rseq fun Kr hKr => ?_
  simp (disch := omega) only [RA, ↓reduceIte, Nat.reduceEqDiff, Nat.reduceAdd, Nat.reduceMul, Int.reduceToNat, Nat.reduceLT, reduceCtorEq, RD, RDS, RDD]
  refine passport_spec hb hw hd ?_
  have hg0 : getN none ((pass b w n).map FN) 0 = some (FN (typ b n)) := rfl
  have hg1 : getN none ((pass b w n).map FN) 1 = some (FN (typ w n)) := rfl
  have hg2 : getN none ((pass b w n).map FN) 2 = some (FN (typ (faceP b w n) n)) := rfl
  have hp3 : (pass b w n).length = 3 := rfl
  generalize (pass b w n) = ps at hg0 hg1 hg2 hp3 ⊢
  generalize typ b n = t1 at hg0 htd hz1
  generalize typ w n = t2 at hg1 htd hz2
  generalize typ (faceP b w n) n = t3 at hg2 htd hz3
  simp (disch := omega) only [RA, ↓reduceIte, Nat.reduceEqDiff, Nat.reduceAdd, Nat.reduceMul, Int.reduceToNat, Nat.reduceLT, reduceCtorEq, RD]
  refine hKr _ _ ?_
  clear hKr Kr
  try simp only [blkQ, thenQ, loopQ]
  try simp only [RN, reduceIte]
  try refine T_e rfl ?_
  by_cases h3 : t3.length = 1
  · by_cases h12 : t1.length + t2.length = n + 1
    · rw [decide_eq_true (htd.2 ⟨h3, h12⟩)] at hK
      refine T_rseq fun Kr hKr => ?_
      simp (disch := omega) only [RA, ↓reduceIte, Nat.reduceEqDiff, Nat.reduceAdd, Nat.reduceMul, Int.reduceToNat, Nat.reduceLT, reduceCtorEq, RD, RDS, hg0, hg1, hg2]
      refine hKr _ _ ?_
      clear hKr Kr
      try simp only [RN, reduceIte]
      try refine T_e rfl ?_
      refine bodyQ_ret (by simp (disch := omega) only [RA, ↓reduceIte, Nat.reduceEqDiff, Nat.reduceAdd, Nat.reduceMul, Int.reduceToNat, Nat.reduceLT, reduceCtorEq, RD, resAll, resOf]; rfl) GhV.refl ?_
      simp only [tup]
      exact ⟨.bool, hK⟩
    · rw [decide_eq_false (fun h => h12 (htd.1 h).2)] at hK
      refine T_rseq fun Kr hKr => ?_
      simp (disch := omega) only [RA, ↓reduceIte, Nat.reduceEqDiff, Nat.reduceAdd, Nat.reduceMul, Int.reduceToNat, Nat.reduceLT, reduceCtorEq, RD, RDS, hg0, hg1, hg2]
      refine hKr _ _ ?_
      clear hKr Kr
      try simp only [RN, reduceIte]
      try refine T_e rfl ?_
      refine bodyQ_ret (by simp (disch := omega) only [RA, ↓reduceIte, Nat.reduceEqDiff, Nat.reduceAdd, Nat.reduceMul, Int.reduceToNat, Nat.reduceLT, reduceCtorEq, RD, resAll, resOf]; rfl) GhV.refl ?_
      simp only [tup]
      exact ⟨.bool, hK⟩
  · rw [decide_eq_false (fun h => h3 (htd.1 h).1)] at hK
    refine T_rseq fun Kr hKr => ?_
    simp (disch := omega) only [RA, ↓reduceIte, Nat.reduceEqDiff, Nat.reduceAdd, Nat.reduceMul, Int.reduceToNat, Nat.reduceLT, reduceCtorEq, RD, RDS, hg2]
    refine hKr _ _ ?_
    clear hKr Kr
    try simp only [RN, reduceIte]
    try refine T_e rfl ?_
    refine bodyQ_ret (by simp (disch := omega) only [RA, ↓reduceIte, Nat.reduceEqDiff, Nat.reduceAdd, Nat.reduceMul, Int.reduceToNat, Nat.reduceLT, reduceCtorEq, RD, resAll, resOf]; rfl) GhV.refl ?_
    simp only [tup]
    exact ⟨.bool, hK⟩
theorem l05Tree_spec {x : Bool} {n : Nat} {b w : List Nat} {H : BH} {K : Value → BH → Prop} (hb : By 16 b) (hw : By 16 w) (hd : Des n b w)
    (hK : K (.bool (decide (Tree n b w))) H) : CallX x F_spec_l05Tree [DV n b w] H K := by
  have hlb := hb.len
  have hlw := hw.len
  have hn := hd.1.1
  have htd := tree_dec hd
  have hz : ∀ p : List Nat, Perm p n → (typ p n).length ≤ 16 := fun p hp => by rw [typ_len hp]; have := cyc_num hp; omega
  have hz1 := hz b hd.1
  have hz2 := hz w hd.2.1
  have hz3 := hz _ (face_perm hd.1 hd.2.1)
  refine callP (.cons nn_D .nil) ?_
  refine CallX_body Γ_spec_l05Tree ?_
  simp only [A_spec_l05Tree, T_aiff]
  refine T_rseq fun Kr hKr => ?_
  simp (disch := omega) only [RA, ↓reduceIte, Nat.reduceEqDiff, RD, RDS]
  refine hKr _ _ ?_
  clear hKr Kr
  try simp only [RN, reduceIte]
  try refine T_e rfl ?_
  refine T_rseq fun Kr hKr => ?_
  simp (disch := omega) only [RA, ↓reduceIte, Nat.reduceEqDiff, Nat.reduceAdd, Nat.reduceMul, Int.reduceToNat, Nat.reduceLT, reduceCtorEq, RD, RDS, RDD]
  refine l01Passport_spec hb hw hd ?_
  have hg0 : getN none ((pass b w n).map FN) 0 = some (FN (typ b n)) := rfl
  have hg1 : getN none ((pass b w n).map FN) 1 = some (FN (typ w n)) := rfl
  have hg2 : getN none ((pass b w n).map FN) 2 = some (FN (typ (faceP b w n) n)) := rfl
  have hp3 : (pass b w n).length = 3 := rfl
  generalize (pass b w n) = ps at hg0 hg1 hg2 hp3 ⊢
  generalize typ b n = t1 at hg0 htd hz1
  generalize typ w n = t2 at hg1 htd hz2
  generalize typ (faceP b w n) n = t3 at hg2 htd hz3
  simp (disch := omega) only [RA, ↓reduceIte, Nat.reduceEqDiff, Nat.reduceAdd, Nat.reduceMul, Int.reduceToNat, Nat.reduceLT, reduceCtorEq, RD]
  refine hKr _ _ ?_
  clear hKr Kr
  try simp only [blkQ, thenQ, loopQ]
  try simp only [RN, reduceIte]
  try refine T_e rfl ?_
  by_cases h3 : t3.length = 1
  · by_cases h12 : t1.length + t2.length = n + 1
    · rw [decide_eq_true (htd.2 ⟨h3, h12⟩)] at hK
      refine T_rseq fun Kr hKr => ?_
      simp (disch := omega) only [RA, ↓reduceIte, Nat.reduceEqDiff, Nat.reduceAdd, Nat.reduceMul, Int.reduceToNat, Nat.reduceLT, reduceCtorEq, RD, RDS, hg0, hg1, hg2]
      refine hKr _ _ ?_
      clear hKr Kr
      try simp only [RN, reduceIte]
      try refine T_e rfl ?_
      refine bodyQ_ret (by simp (disch := omega) only [RA, ↓reduceIte, Nat.reduceEqDiff, Nat.reduceAdd, Nat.reduceMul, Int.reduceToNat, Nat.reduceLT, reduceCtorEq, RD, resAll, resOf]; rfl) GhV.refl ?_
      simp only [tup]
      exact ⟨.bool, hK⟩
    · rw [decide_eq_false (fun h => h12 (htd.1 h).2)] at hK
      refine T_rseq fun Kr hKr => ?_
      simp (disch := omega) only [RA, ↓reduceIte, Nat.reduceEqDiff, Nat.reduceAdd, Nat.reduceMul, Int.reduceToNat, Nat.reduceLT, reduceCtorEq, RD, RDS, hg0, hg1, hg2]
      refine hKr _ _ ?_
      clear hKr Kr
      try simp only [RN, reduceIte]
      try refine T_e rfl ?_
      refine bodyQ_ret (by simp (disch := omega) only [RA, ↓reduceIte, Nat.reduceEqDiff, Nat.reduceAdd, Nat.reduceMul, Int.reduceToNat, Nat.reduceLT, reduceCtorEq, RD, resAll, resOf]; rfl) GhV.refl ?_
      simp only [tup]
      exact ⟨.bool, hK⟩
  · rw [decide_eq_false (fun h => h3 (htd.1 h).1)] at hK
    refine T_rseq fun Kr hKr => ?_
    simp (disch := omega) only [RA, ↓reduceIte, Nat.reduceEqDiff, Nat.reduceAdd, Nat.reduceMul, Int.reduceToNat, Nat.reduceLT, reduceCtorEq, RD, RDS, hg2]
    refine hKr _ _ ?_
    clear hKr Kr
    try simp only [RN, reduceIte]
    try refine T_e rfl ?_
    refine bodyQ_ret (by simp (disch := omega) only [RA, ↓reduceIte, Nat.reduceEqDiff, Nat.reduceAdd, Nat.reduceMul, Int.reduceToNat, Nat.reduceLT, reduceCtorEq, RD, resAll, resOf]; rfl) GhV.refl ?_
    simp only [tup]
    exact ⟨.bool, hK⟩
/-! ### Codes -/
end Go.Bm

/- The vertices of a tree in memory. -/
set_option linter.unusedVariables false
set_option linter.unusedSimpArgs false
namespace Go.Bm
open Go Go.Am

section
variable {n : Nat} {b w : List Nat}
/-- The numbers of the two vertices of each edge, one behind the other. -/
def endl (b w : List Nat) (n : Nat) : List Nat := (List.range (n * 2)).map fun k => ends b w n (k % 2 == 1) (k / 2)
theorem endl_len : (endl b w n).length = n * 2 := by simp [endl]
theorem endl_at {k : Nat} (h : k < n * 2) : nl (endl b w n) k = ends b w n (k % 2 == 1) (k / 2) := by simp [endl, nl, List.getD, h]
theorem endl_0 {x : Nat} (h : x < n) : nl (endl b w n) (x * 2) = ends b w n false x := by
  rw [endl_at (by omega), show x * 2 % 2 = 0 by omega, show x * 2 / 2 = x by omega]
  rfl
theorem endl_1 {x : Nat} (h : x < n) : nl (endl b w n) (x * 2 + 1) = ends b w n true x := by
  rw [endl_at (by omega), show (x * 2 + 1) % 2 = 1 by omega, show (x * 2 + 1) / 2 = x by omega]
  rfl
def ct (c : Bool) : Nat := if c then 1 else 0
theorem endl_ext {E : List Nat} (hl : E.length = n * 2) (h : ∀ c x, x < n → nl E (x * 2 + ct c) = ends b w n c x) : E = endl b w n := by
  refine List.ext_getElem (by rw [hl, endl_len]) fun i h1 h2 => ?_
  have e : ∀ (l : List Nat) (hk : i < l.length), l[i] = nl l i := fun l hk => by simp [nl, List.getD, hk]
  rw [e E h1, e _ h2, endl_at (by omega)]
  have := h (i % 2 == 1) (i / 2) (by omega)
  rw [← this]
  congr 1
  rcases Nat.mod_two_eq_zero_or_one i with h3 | h3 <;> simp [ct, h3] <;> omega
def vl (b w : List Nat) (n i : Nat) : List Nat := (verts b w n).getD i []
theorem vl_eq {i : Nat} (h : i < (verts b w n).length) : vl b w n i = (verts b w n)[i] := by simp [vl, List.getD, h]
theorem verts_le (hd : Des n b w) : (verts b w n).length ≤ 32 ∧ 0 < (cyc b n).length ∧ (cyc b n).length ≤ 16 ∧ (cyc w n).length ≤ 16 := by
  obtain ⟨hb, hw, _⟩ := id hd
  have hn := hb.1
  have h1 := (CycOk.all rfl hb (Nat.le_refl n)).num
  have h2 := (CycOk.all rfl hw (Nat.le_refl n)).num
  have h3 : (cycK b 16 n).2 = cyc b n := rfl
  have h4 : (cycK w 16 n).2 = cyc w n := rfl
  rw [h3] at h1
  rw [h4] at h2
  have h5 := vix_lt hb (show 0 < n by omega)
  rw [verts, List.length_append]
  omega
theorem vl_len (hd : Des n b w) {i : Nat} (h : i < (verts b w n).length) : (vl b w n i).length ≤ n ∧ (vl b w n i).Nodup ∧ ∀ x ∈ vl b w n i, x < n := by
  rw [vl_eq h]
  exact ⟨nodup_le (verts_nod hd h) fun x hx => verts_lt hd h hx, verts_nod hd h, fun x hx => verts_lt hd h hx⟩
/-- What has been written of the ends. -/
def EOk (b w : List Nat) (n i j : Nat) (E : List Nat) : Prop :=
  E.length = n * 2 ∧ ∀ c x, x < n → (ends b w n c x < i ∨ (ends b w n c x = i ∧ x ∈ (vl b w n i).take j)) → nl E (x * 2 + ct c) = ends b w n c x
theorem EOk.zero : EOk b w n 0 0 (List.replicate (n * 2) 0) := ⟨by simp, fun c x hx h => by simp at h⟩
theorem EOk.next {i : Nat} {E : List Nat} (h : EOk b w n i (vl b w n i).length E) (hd : Des n b w) (hi : i < (verts b w n).length) : EOk b w n (i + 1) 0 E := by
  refine ⟨h.1, fun c x hx hh => h.2 c x hx ?_⟩
  rcases hh with hh | hh
  · rcases Nat.lt_or_ge (ends b w n c x) i with h1 | h1
    · exact .inl h1
    · have e : ends b w n c x = i := by omega
      refine .inr ⟨e, ?_⟩
      rw [List.take_length, vl_eq hi]
      have := (mem_verts hd (c := c) hx hx).2 rfl
      simp only [e] at this
      exact this
  · simp at hh
theorem EOk.step {i j : Nat} {E : List Nat} (h : EOk b w n i j E) (hd : Des n b w) (hi : i < (verts b w n).length) (hj : j < (vl b w n i).length) :
    EOk b w n i (j + 1) (E.set (nl (vl b w n i) j * 2 + ct (decide ((cyc b n).length ≤ i))) i) := by
  have hx0 := (vl_len hd hi).2.2 _ (nl_mem hj)
  have hct : ∀ c : Bool, ct c ≤ 1 := fun c => by cases c <;> simp [ct]
  refine ⟨by rw [List.length_set]; exact h.1, fun c x hx hh => ?_⟩
  rw [nl_set, h.1]
  by_cases e : x * 2 + ct c = nl (vl b w n i) j * 2 + ct (decide ((cyc b n).length ≤ i))
  · rw [if_pos ⟨e, by have := hct (decide ((cyc b n).length ≤ i)); omega⟩]
    have h1 := hct c
    have h2 := hct (decide ((cyc b n).length ≤ i))
    have e1 : x = nl (vl b w n i) j := by omega
    have hm : x ∈ (verts b w n)[i] := by rw [← vl_eq hi, e1]; exact nl_mem hj
    have e2 : c = decide ((cyc b n).length ≤ i) := by
      have : ct c = ct (decide ((cyc b n).length ≤ i)) := by omega
      revert this
      cases c <;> cases (decide ((cyc b n).length ≤ i)) <;> simp [ct]
    obtain ⟨c', ⟨y, hy, hyv⟩, hall⟩ := verts_at hd hi
    have h3 := (hall x hx).1 hm
    have : c = c' := by
      rw [e2]
      have hb := hd.1
      cases c'
      · simp only [ends, Bool.false_eq_true, if_false] at hyv
        have := vix_lt hb hy
        simp; omega
      · simp only [ends, if_true] at hyv
        simp; omega
    rw [this, h3]
  · rw [if_neg (fun k => e k.1)]
    refine h.2 c x hx ?_
    rcases hh with hh | ⟨h1, h2⟩
    · exact .inl hh
    · refine .inr ⟨h1, ?_⟩
      rw [take_succ_nl' hj] at h2
      rcases List.mem_append.1 h2 with h3 | h3
      · exact h3
      · exfalso
        rw [List.mem_singleton] at h3
        refine e ?_
        rw [h3]
        congr 1
        have hb := hd.1
        cases c
        · simp only [ends, Bool.false_eq_true, if_false] at h1
          have := vix_lt hb hx
          simp [ct]; omega
        · simp only [ends, if_true] at h1
          simp [ct]; omega
theorem EOk.done {E : List Nat} (hd : Des n b w) (h : EOk b w n (verts b w n).length 0 E) : E = endl b w n :=
  endl_ext h.1 fun c x hx => h.2 c x hx (.inl (ends_lt hd hx))
theorem vertices_spec {x : Bool} {H : BH} {K : Value → BH → Prop} (hb : By 16 b) (hw : By 16 w) (hd : Des n b w)
    (hK : K (.tuple ⟨[Fz (verts b w n).length 1 ((verts b w n).map FN), Fz n 2 ((endl b w n).map N64)]⟩) H) : CallX x F_impl_vertices [DV n b w] H K := by
  have hlb := hb.len
  have hlw := hw.len
  have hn := hd.1.1
  obtain ⟨hv1, hv2, hv3, hv4⟩ := verts_le hd
  have hpb := hd.1
  have hpw := hd.2.1
  have hvl : (cyc b n).length + (cyc w n).length = (verts b w n).length := by rw [verts, List.length_append]
  refine callRZ2 (.cons nn_D .nil) ?_
  refine CallX_body Γ_impl_vertices ?_
  simp only [A_impl_vertices, T_aiff]
  refine T_rseq fun Kr hKr => ?_
  simp (disch := omega) only [RA, ↓reduceIte, Nat.reduceEqDiff, Nat.reduceBEq, Nat.reduceSub, Nat.reduceAdd, Nat.reduceMul, Nat.reduceLT, Nat.reduceLeDiff, Int.reduceLE, Int.reduceLT, Int.reduceEq, Int.reduceNeg, Int.reduceToNat, Int.reduceMul, Int.reduceAdd, Int.reduceSub, Int.reduceBEq, Int.reduceBNe, reduceCtorEq, RD, RDS]
  refine hKr _ _ ?_
  clear hKr Kr
  try simp only [RN, reduceIte]
  try refine T_e rfl ?_
  refine T_rseq fun Kr hKr => ?_
  simp (disch := omega) only [RA, ↓reduceIte, Nat.reduceEqDiff, Nat.reduceBEq, Nat.reduceSub, Nat.reduceAdd, Nat.reduceMul, Nat.reduceLT, Nat.reduceLeDiff, Int.reduceLE, Int.reduceLT, Int.reduceEq, Int.reduceNeg, Int.reduceToNat, Int.reduceMul, Int.reduceAdd, Int.reduceSub, Int.reduceBEq, Int.reduceBNe, reduceCtorEq, RD, RDS, RDD]
  refine cycles_spec hb hpb ?_
  simp (disch := omega) only [RA, ↓reduceIte, Nat.reduceEqDiff, Nat.reduceBEq, Nat.reduceSub, Nat.reduceAdd, Nat.reduceMul, Nat.reduceLT, Nat.reduceLeDiff, Int.reduceLE, Int.reduceLT, Int.reduceEq, Int.reduceNeg, Int.reduceToNat, Int.reduceMul, Int.reduceAdd, Int.reduceSub, Int.reduceBEq, Int.reduceBNe, reduceCtorEq, RD]
  refine hKr _ _ ?_
  clear hKr Kr
  try simp only [blkQ, thenQ, loopQ]
  try simp only [RN, reduceIte]
  try refine T_e rfl ?_
  refine T_rseq fun Kr hKr => ?_
  simp (disch := omega) only [RA, ↓reduceIte, Nat.reduceEqDiff, Nat.reduceBEq, Nat.reduceSub, Nat.reduceAdd, Nat.reduceMul, Nat.reduceLT, Nat.reduceLeDiff, Int.reduceLE, Int.reduceLT, Int.reduceEq, Int.reduceNeg, Int.reduceToNat, Int.reduceMul, Int.reduceAdd, Int.reduceSub, Int.reduceBEq, Int.reduceBNe, reduceCtorEq, RD, RDS, RDD]
  refine CloneSS_spec hv2 (by omega) ?_
  simp (disch := omega) only [RA, ↓reduceIte, Nat.reduceEqDiff, Nat.reduceBEq, Nat.reduceSub, Nat.reduceAdd, Nat.reduceMul, Nat.reduceLT, Nat.reduceLeDiff, Int.reduceLE, Int.reduceLT, Int.reduceEq, Int.reduceNeg, Int.reduceToNat, Int.reduceMul, Int.reduceAdd, Int.reduceSub, Int.reduceBEq, Int.reduceBNe, reduceCtorEq, RD, RDS, RDD]
  refine cycles_spec hw hpw ?_
  simp (disch := omega) only [RA, ↓reduceIte, Nat.reduceEqDiff, Nat.reduceBEq, Nat.reduceSub, Nat.reduceAdd, Nat.reduceMul, Nat.reduceLT, Nat.reduceLeDiff, Int.reduceLE, Int.reduceLT, Int.reduceEq, Int.reduceNeg, Int.reduceToNat, Int.reduceMul, Int.reduceAdd, Int.reduceSub, Int.reduceBEq, Int.reduceBNe, reduceCtorEq, RD, bApp_z, appz_FN]
  refine hKr _ _ ?_
  clear hKr Kr
  try simp only [blkQ, thenQ, loopQ]
  try simp only [RN, reduceIte]
  try refine T_e rfl ?_
  have happ : ((cyc b n).length + (cyc w n).length) = (verts b w n).length := hvl
  have happ2 : cyc b n ++ cyc w n = verts b w n := rfl
  rw [happ, happ2]
  refine T_rseq fun Kr hKr => ?_
  simp (disch := omega) only [RA, ↓reduceIte, Nat.reduceEqDiff, Nat.reduceBEq, Nat.reduceSub, Nat.reduceAdd, Nat.reduceMul, Nat.reduceLT, Nat.reduceLeDiff, Int.reduceLE, Int.reduceLT, Int.reduceEq, Int.reduceNeg, Int.reduceToNat, Int.reduceMul, Int.reduceAdd, Int.reduceSub, Int.reduceBEq, Int.reduceBNe, reduceCtorEq, RD, RDS, RDD, repl2_64]
  refine hKr _ _ ?_
  clear hKr Kr
  try simp only [RN, reduceIte]
  try refine T_e rfl ?_
  refine T_rseq fun Kr hKr => ?_
  simp (disch := omega) only [RA, ↓reduceIte, Nat.reduceEqDiff, Nat.reduceBEq, Nat.reduceSub, Nat.reduceAdd, Nat.reduceMul, Nat.reduceLT, Nat.reduceLeDiff, Int.reduceLE, Int.reduceLT, Int.reduceEq, Int.reduceNeg, Int.reduceToNat, Int.reduceMul, Int.reduceAdd, Int.reduceSub, Int.reduceBEq, Int.reduceBNe, reduceCtorEq, RD]
  refine hKr _ _ ?_
  clear hKr Kr
  try simp only [RN, reduceIte]
  try refine T_e rfl ?_
  refine T_wloop (fun m f H' => ∃ i E, i ≤ (verts b w n).length ∧ m = (verts b w n).length - i ∧ EOk b w n i 0 E ∧ f 4 = Fz (cyc b n).length 1 ((cyc b n).map FN) ∧ f 5 = S 0 0 (verts b w n).length 1 ∧ f 6 = S 1 0 n 2 ∧ f 27 = S 0 0 (verts b w n).length 1 ∧ f 28 = I ((verts b w n).length : Nat) ∧ f 29 = I i ∧ H' = [some ((verts b w n).map FN), some (E.map N64)]) ((verts b w n).length) ?_ ?_
  · refine ⟨_, _, (Gh.nrm [2, 3] rfl rfl (by simp only [RH, RV])), 0, List.replicate (n * 2) 0, by omega, by omega, EOk.zero, ?_, ?_, ?_, ?_, ?_, ?_, by simp [blk]⟩
    all_goals (simp (disch := omega) only [RA, ↓reduceIte, Nat.reduceEqDiff, Nat.reduceBEq, Nat.reduceSub, Nat.reduceAdd, Nat.reduceMul, Nat.reduceLT, Nat.reduceLeDiff, Int.reduceLE, Int.reduceLT, Int.reduceEq, Int.reduceNeg, Int.reduceToNat, Int.reduceMul, Int.reduceAdd, Int.reduceSub, Int.reduceBEq, Int.reduceBNe, reduceCtorEq, RD, RE, *] <;> rfl)
  · rintro m f H' R ⟨i, E, hi, rfl, hE0, g4, g5, g6, g27, g28, g29, rfl⟩ hN hX hR hE
    simp only [A_impl_vertices.l1, T_aiff]
    refine T_rseq fun Kr hKr => ?_
    simp (disch := omega) only [RA, ↓reduceIte, Nat.reduceEqDiff, Nat.reduceBEq, Nat.reduceSub, Nat.reduceAdd, Nat.reduceMul, Nat.reduceLT, Nat.reduceLeDiff, Int.reduceLE, Int.reduceLT, Int.reduceEq, Int.reduceNeg, Int.reduceToNat, Int.reduceMul, Int.reduceAdd, Int.reduceSub, Int.reduceBEq, Int.reduceBNe, reduceCtorEq, RD, g28, g29]
    refine hKr _ _ ?_
    clear hKr Kr
    try simp only [RN, reduceIte]
    try refine T_e rfl ?_
    refine T_csplit (p := i < (verts b w n).length) (by simp only [RA, ↓reduceIte, Nat.reduceEqDiff, Nat.reduceBEq, Nat.reduceSub, Nat.reduceAdd, Nat.reduceMul, Nat.reduceLT, Nat.reduceLeDiff, Int.reduceLE, Int.reduceLT, Int.reduceEq, Int.reduceNeg, Int.reduceToNat, Int.reduceMul, Int.reduceAdd, Int.reduceSub, Int.reduceBEq, Int.reduceBNe, reduceCtorEq] <;> rfl) (by (try simp only [RB]) <;> first | done | exact Iff.rfl | omega | simp) (fun hc => ?_) (fun hc => ?_) <;> (try simp only [RN, reduceIte]) <;> (try refine T_e rfl ?_)
    · have hin : i < (verts b w n).length := by assumption
      obtain ⟨hl1, hl2, hl3⟩ := vl_len hd hin
      have hvi : (verts b w n).getD i [] = vl b w n i := rfl
      first | refine T_bfree rfl ?_ | refine T_bfree' rfl ?_
      try simp only [RN, reduceIte]
      try refine T_e rfl ?_
      refine T_rseq fun Kr hKr => ?_
      simp (disch := omega) only [RA, ↓reduceIte, Nat.reduceEqDiff, Nat.reduceBEq, Nat.reduceSub, Nat.reduceAdd, Nat.reduceMul, Nat.reduceLT, Nat.reduceLeDiff, Int.reduceLE, Int.reduceLT, Int.reduceEq, Int.reduceNeg, Int.reduceToNat, Int.reduceMul, Int.reduceAdd, Int.reduceSub, Int.reduceBEq, Int.reduceBNe, reduceCtorEq, RD, g27, g29, getN_FN, hvi]
      refine hKr _ _ ?_
      clear hKr Kr
      try simp only [RN, reduceIte]
      try refine T_e rfl ?_
      refine T_rseq fun Kr hKr => ?_
      simp (disch := omega) only [RA, ↓reduceIte, Nat.reduceEqDiff, Nat.reduceBEq, Nat.reduceSub, Nat.reduceAdd, Nat.reduceMul, Nat.reduceLT, Nat.reduceLeDiff, Int.reduceLE, Int.reduceLT, Int.reduceEq, Int.reduceNeg, Int.reduceToNat, Int.reduceMul, Int.reduceAdd, Int.reduceSub, Int.reduceBEq, Int.reduceBNe, reduceCtorEq, RD]
      refine hKr _ _ ?_
      clear hKr Kr
      try simp only [RN, reduceIte]
      try refine T_e rfl ?_
      refine T_wloop (fun m f H' => ∃ j E, j ≤ (vl b w n i).length ∧ m = (vl b w n i).length - j ∧ EOk b w n i j E ∧ f 4 = Fz (cyc b n).length 1 ((cyc b n).map FN) ∧ f 5 = S 0 0 (verts b w n).length 1 ∧ f 6 = S 1 0 n 2 ∧ f 7 = I i ∧ f 27 = S 0 0 (verts b w n).length 1 ∧ f 28 = I ((verts b w n).length : Nat) ∧ f 29 = I i ∧ f 34 = FN (vl b w n i) ∧ f 35 = I ((vl b w n i).length : Nat) ∧ f 36 = I j ∧ H' = [some ((verts b w n).map FN), some (E.map N64)]) ((vl b w n i).length) ?_ ?_
      · refine ⟨_, _, Gh.refl, 0, E, by omega, by omega, hE0, ?_, ?_, ?_, ?_, ?_, ?_, ?_, ?_, ?_, ?_, rfl⟩
        any_goals (simp (disch := omega) only [RA, ↓reduceIte, Nat.reduceEqDiff, Nat.reduceBEq, Nat.reduceSub, Nat.reduceAdd, Nat.reduceMul, Nat.reduceLT, Nat.reduceLeDiff, Int.reduceLE, Int.reduceLT, Int.reduceEq, Int.reduceNeg, Int.reduceToNat, Int.reduceMul, Int.reduceAdd, Int.reduceSub, Int.reduceBEq, Int.reduceBNe, reduceCtorEq, RD, RE, *] <;> rfl)
      · clear g4 g5 g6 g27 g28 g29 hE0 E
        rintro m f H' R1 ⟨j, E, hj, rfl, hE0, g4, g5, g6, g7, g27, g28, g29, g34, g35, g36, rfl⟩ hN1 hX1 hR1 hE1
        simp only [A_impl_vertices.l0, T_aiff]
        refine T_rseq fun Kr hKr => ?_
        simp (disch := omega) only [RA, ↓reduceIte, Nat.reduceEqDiff, Nat.reduceBEq, Nat.reduceSub, Nat.reduceAdd, Nat.reduceMul, Nat.reduceLT, Nat.reduceLeDiff, Int.reduceLE, Int.reduceLT, Int.reduceEq, Int.reduceNeg, Int.reduceToNat, Int.reduceMul, Int.reduceAdd, Int.reduceSub, Int.reduceBEq, Int.reduceBNe, reduceCtorEq, RD, g35, g36]
        refine hKr _ _ ?_
        clear hKr Kr
        try simp only [RN, reduceIte]
        try refine T_e rfl ?_
        refine T_csplit (p := j < (vl b w n i).length) (by simp only [RA, ↓reduceIte, Nat.reduceEqDiff, Nat.reduceBEq, Nat.reduceSub, Nat.reduceAdd, Nat.reduceMul, Nat.reduceLT, Nat.reduceLeDiff, Int.reduceLE, Int.reduceLT, Int.reduceEq, Int.reduceNeg, Int.reduceToNat, Int.reduceMul, Int.reduceAdd, Int.reduceSub, Int.reduceBEq, Int.reduceBNe, reduceCtorEq] <;> rfl) (by (try simp only [RB]) <;> first | done | exact Iff.rfl | omega | simp) (fun hc => ?_) (fun hc => ?_) <;> (try simp only [RN, reduceIte]) <;> (try refine T_e rfl ?_)
        · have hxn := hl3 _ (nl_mem hc)
          have hstep := hE0.step hd hin hc
          have hEl : E.length = n * 2 := hE0.1
          first | refine T_bfree rfl ?_ | refine T_bfree' rfl ?_
          try simp only [RN, reduceIte]
          try refine T_e rfl ?_
          refine T_rseq fun Kr hKr => ?_
          simp (disch := omega) only [RA, ↓reduceIte, Nat.reduceEqDiff, Nat.reduceBEq, Nat.reduceSub, Nat.reduceAdd, Nat.reduceMul, Nat.reduceLT, Nat.reduceLeDiff, Int.reduceLE, Int.reduceLT, Int.reduceEq, Int.reduceNeg, Int.reduceToNat, Int.reduceMul, Int.reduceAdd, Int.reduceSub, Int.reduceBEq, Int.reduceBNe, reduceCtorEq, RD, g34, g36, getN_64]
          refine hKr _ _ ?_
          clear hKr Kr
          try simp only [RN, reduceIte]
          try refine T_e rfl ?_
          refine T_rseq fun Kr hKr => ?_
          simp (disch := omega) only [RA, ↓reduceIte, Nat.reduceEqDiff, Nat.reduceBEq, Nat.reduceSub, Nat.reduceAdd, Nat.reduceMul, Nat.reduceLT, Nat.reduceLeDiff, Int.reduceLE, Int.reduceLT, Int.reduceEq, Int.reduceNeg, Int.reduceToNat, Int.reduceMul, Int.reduceAdd, Int.reduceSub, Int.reduceBEq, Int.reduceBNe, reduceCtorEq, RD, g4, g7]
          refine hKr _ _ ?_
          clear hKr Kr
          try simp only [RN, reduceIte]
          try refine T_e rfl ?_
          refine T_csplit (p := i < (cyc b n).length) (by simp only [RA, ↓reduceIte, Nat.reduceEqDiff, Nat.reduceBEq, Nat.reduceSub, Nat.reduceAdd, Nat.reduceMul, Nat.reduceLT, Nat.reduceLeDiff, Int.reduceLE, Int.reduceLT, Int.reduceEq, Int.reduceNeg, Int.reduceToNat, Int.reduceMul, Int.reduceAdd, Int.reduceSub, Int.reduceBEq, Int.reduceBNe, reduceCtorEq] <;> rfl) (by (try simp only [RB]) <;> first | done | exact Iff.rfl | omega | simp) (fun hc => ?_) (fun hc => ?_) <;> (try simp only [RN, reduceIte]) <;> (try refine T_e rfl ?_)
          · rw [show decide ((cyc b n).length ≤ i) = false by simp; omega] at hstep
            refine T_rseq fun Kr hKr => ?_
            simp (disch := omega) only [RA, ↓reduceIte, Nat.reduceEqDiff, Nat.reduceBEq, Nat.reduceSub, Nat.reduceAdd, Nat.reduceMul, Nat.reduceLT, Nat.reduceLeDiff, Int.reduceLE, Int.reduceLT, Int.reduceEq, Int.reduceNeg, Int.reduceToNat, Int.reduceMul, Int.reduceAdd, Int.reduceSub, Int.reduceBEq, Int.reduceBNe, reduceCtorEq, RD, g6, g7, st1_64v, hEl]
            refine hKr _ _ ?_
            clear hKr Kr
            try simp only [RN, reduceIte]
            try refine T_e rfl ?_
            refine T_reg_k fun Kr hKr => ?_
            simp (disch := omega) only [RA, ↓reduceIte, Nat.reduceEqDiff, Nat.reduceBEq, Nat.reduceSub, Nat.reduceAdd, Nat.reduceMul, Nat.reduceLT, Nat.reduceLeDiff, Int.reduceLE, Int.reduceLT, Int.reduceEq, Int.reduceNeg, Int.reduceToNat, Int.reduceMul, Int.reduceAdd, Int.reduceSub, Int.reduceBEq, Int.reduceBNe, reduceCtorEq, RD, g36]
            refine hKr _ _ ?_
            clear hKr Kr
            refine hN1 ((vl b w n i).length - (j + 1)) _ _ _ _ (by omega) Gh.refl ⟨j + 1, _, by omega, rfl, hstep, ?_, ?_, ?_, ?_, ?_, ?_, ?_, ?_, ?_, ?_, rfl⟩
            any_goals (simp (disch := omega) only [RA, ↓reduceIte, Nat.reduceEqDiff, Nat.reduceBEq, Nat.reduceSub, Nat.reduceAdd, Nat.reduceMul, Nat.reduceLT, Nat.reduceLeDiff, Int.reduceLE, Int.reduceLT, Int.reduceEq, Int.reduceNeg, Int.reduceToNat, Int.reduceMul, Int.reduceAdd, Int.reduceSub, Int.reduceBEq, Int.reduceBNe, reduceCtorEq, RD, RE, *] <;> rfl)
          · rw [show decide ((cyc b n).length ≤ i) = true by simp; omega] at hstep
            refine T_rseq fun Kr hKr => ?_
            simp (disch := omega) only [RA, ↓reduceIte, Nat.reduceEqDiff, Nat.reduceBEq, Nat.reduceSub, Nat.reduceAdd, Nat.reduceMul, Nat.reduceLT, Nat.reduceLeDiff, Int.reduceLE, Int.reduceLT, Int.reduceEq, Int.reduceNeg, Int.reduceToNat, Int.reduceMul, Int.reduceAdd, Int.reduceSub, Int.reduceBEq, Int.reduceBNe, reduceCtorEq, RD, g6, g7, st1_64v, hEl]
            refine hKr _ _ ?_
            clear hKr Kr
            try simp only [RN, reduceIte]
            try refine T_e rfl ?_
            refine T_reg_k fun Kr hKr => ?_
            simp (disch := omega) only [RA, ↓reduceIte, Nat.reduceEqDiff, Nat.reduceBEq, Nat.reduceSub, Nat.reduceAdd, Nat.reduceMul, Nat.reduceLT, Nat.reduceLeDiff, Int.reduceLE, Int.reduceLT, Int.reduceEq, Int.reduceNeg, Int.reduceToNat, Int.reduceMul, Int.reduceAdd, Int.reduceSub, Int.reduceBEq, Int.reduceBNe, reduceCtorEq, RD, g36]
            refine hKr _ _ ?_
            clear hKr Kr
            refine hN1 ((vl b w n i).length - (j + 1)) _ _ _ _ (by omega) Gh.refl ⟨j + 1, _, by omega, rfl, hstep, ?_, ?_, ?_, ?_, ?_, ?_, ?_, ?_, ?_, ?_, rfl⟩
            any_goals (simp (disch := omega) only [RA, ↓reduceIte, Nat.reduceEqDiff, Nat.reduceBEq, Nat.reduceSub, Nat.reduceAdd, Nat.reduceMul, Nat.reduceLT, Nat.reduceLeDiff, Int.reduceLE, Int.reduceLT, Int.reduceEq, Int.reduceNeg, Int.reduceToNat, Int.reduceMul, Int.reduceAdd, Int.reduceSub, Int.reduceBEq, Int.reduceBNe, reduceCtorEq, RD, RE, *] <;> rfl)
        · refine hX1 _ _ ?_
          obtain rfl : j = (vl b w n i).length := by omega
          refine T_reg_k fun Kr hKr => ?_
          simp (disch := omega) only [RA, ↓reduceIte, Nat.reduceEqDiff, Nat.reduceBEq, Nat.reduceSub, Nat.reduceAdd, Nat.reduceMul, Nat.reduceLT, Nat.reduceLeDiff, Int.reduceLE, Int.reduceLT, Int.reduceEq, Int.reduceNeg, Int.reduceToNat, Int.reduceMul, Int.reduceAdd, Int.reduceSub, Int.reduceBEq, Int.reduceBNe, reduceCtorEq, RD, g29]
          refine hKr _ _ ?_
          clear hKr Kr
          refine hN ((verts b w n).length - (i + 1)) _ _ _ _ (by omega) Gh.refl ⟨i + 1, E, by omega, rfl, hE0.next hd hin, ?_, ?_, ?_, ?_, ?_, ?_, rfl⟩
          any_goals (simp (disch := omega) only [RA, ↓reduceIte, Nat.reduceEqDiff, Nat.reduceBEq, Nat.reduceSub, Nat.reduceAdd, Nat.reduceMul, Nat.reduceLT, Nat.reduceLeDiff, Int.reduceLE, Int.reduceLT, Int.reduceEq, Int.reduceNeg, Int.reduceToNat, Int.reduceMul, Int.reduceAdd, Int.reduceSub, Int.reduceBEq, Int.reduceBNe, reduceCtorEq, RD, RE, *] <;> rfl)
    · refine hX _ _ ?_
      obtain rfl : i = (verts b w n).length := by omega
      obtain rfl := hE0.done hd
      refine T_rseq fun Kr hKr => ?_
      simp (disch := omega) only [RA, ↓reduceIte, Nat.reduceEqDiff, Nat.reduceBEq, Nat.reduceSub, Nat.reduceAdd, Nat.reduceMul, Nat.reduceLT, Nat.reduceLeDiff, Int.reduceLE, Int.reduceLT, Int.reduceEq, Int.reduceNeg, Int.reduceToNat, Int.reduceMul, Int.reduceAdd, Int.reduceSub, Int.reduceBEq, Int.reduceBNe, reduceCtorEq, RD, g5, g6]
      refine hKr _ _ ?_
      clear hKr Kr
      try simp only [RN, reduceIte]
      try refine T_e rfl ?_
      refine bodyQ_ret (by simp (disch := omega) only [RA, ↓reduceIte, Nat.reduceEqDiff, Nat.reduceBEq, Nat.reduceSub, Nat.reduceAdd, Nat.reduceMul, Nat.reduceLT, Nat.reduceLeDiff, Int.reduceLE, Int.reduceLT, Int.reduceEq, Int.reduceNeg, Int.reduceToNat, Int.reduceMul, Int.reduceAdd, Int.reduceSub, Int.reduceBEq, Int.reduceBNe, reduceCtorEq, RD, resAll, resOf]; rfl) GhV.refl ?_
      simp only [tup]
      exact ⟨0, 1, _, _, _, _, _, _, by omega, rfl, rfl, rfl, NNL_FN, NNL_64, by simp, by rw [List.length_map, endl_len], hK⟩
end
end Go.Bm

/- The farthest vertex: the program's walk. -/
set_option linter.unusedVariables false
set_option linter.unusedSimpArgs false
namespace Go.Bm
open Go Go.Am

section
variable {n : Nat} {b w : List Nat}
abbrev VS (b w : List Nat) (n : Nat) : Value := Fz (verts b w n).length 1 ((verts b w n).map FN)
abbrev ES (b w : List Nat) (n : Nat) : Value := Fz n 2 ((endl b w n).map N64)
/-- The best path so far: edges, vertices. -/
def BP (b w : List Nat) (n : Nat) (c : Bool) (cm : Int) (v : Nat) (L e s : List Nat) : Prop :=
  (e = [] ∧ s = [v] ∧ ∀ y ∈ L, (y : Int) = cm) ∨
  (∃ y l, e = y :: l ∧ s = v :: sn b w n (!c) y l ∧ y ∈ L ∧ (y : Int) ≠ cm ∧ Lg b w n (!c) y l ∧ ∀ z ∈ L, (z : Int) ≠ cm → hgt b w n (!c) z ≤ hgt b w n (!c) y)
theorem BP.skip {c : Bool} {cm : Int} {v y : Nat} {L e s : List Nat} (h : BP b w n c cm v L e s) (hy : (y : Int) = cm) : BP b w n c cm v (L ++ [y]) e s := by
  rcases h with ⟨h1, h2, h3⟩ | ⟨y', l, h1, h2, h3, h4, h5, h6⟩
  · refine .inl ⟨h1, h2, fun z hz => ?_⟩
    rcases List.mem_append.1 hz with h | h
    · exact h3 z h
    · rw [List.mem_singleton.1 h]; exact hy
  · refine .inr ⟨y', l, h1, h2, by simp [h3], h4, h5, fun z hz hne => ?_⟩
    rcases List.mem_append.1 hz with h | h
    · exact h6 z h hne
    · rw [List.mem_singleton.1 h] at hne; exact absurd hy hne
theorem BP.len {c : Bool} {cm : Int} {v : Nat} {L e s : List Nat} (h : BP b w n c cm v L e s) : s.length = e.length + 1 ∧ (e = [] ∨ ∃ y ∈ L, e.length = hgt b w n (!c) y + 1) := by
  rcases h with ⟨h1, h2, h3⟩ | ⟨y', l, h1, h2, h3, h4, h5, h6⟩
  · subst h1; subst h2; exact ⟨rfl, .inl rfl⟩
  · subst h1; subst h2
    exact ⟨by rw [List.length_cons, sn_len, List.length_cons], .inr ⟨y', h3, by rw [List.length_cons, h5.len]⟩⟩
theorem vl_ends (hd : Des n b w) {c : Bool} {x : Nat} (hx : x < n) {y : Nat} : y ∈ vl b w n (ends b w n c x) ↔ y < n ∧ ends b w n c y = ends b w n c x := by
  have hv := ends_lt hd (c := c) hx
  rw [vl_eq hv]
  exact ⟨fun h => ⟨verts_lt hd hv h, (mem_verts hd hx (verts_lt hd hv h)).1 h⟩, fun h => (mem_verts hd hx h.1).2 h.2⟩
theorem Lg.lt : ∀ {c : Bool} {x : Nat} {l : List Nat}, x < n → Lg b w n c x l → ∀ y ∈ x :: l, y < n
  | c, x, [], hx, h, y, hy => by rw [List.mem_singleton.1 hy]; exact hx
  | c, x, z :: l, hx, h, y, hy => by
    rcases List.mem_cons.1 hy with rfl | hy
    · exact hx
    · rw [Lg] at h
      exact Lg.lt h.1.1 h.2.2 y hy
end
end Go.Bm

/- Words of trees: the reference's and the program's. -/
set_option linter.unusedVariables false
set_option linter.unusedSimpArgs false
namespace Go.Bm
open Go Go.Am

section
variable {b w : List Nat} {n : Nat}
end
/-! ### The word at an edge -/
end Go.Bm

/- The least word, the symmetry, the leaves. -/
set_option linter.unusedVariables false
set_option linter.unusedSimpArgs false
namespace Go.Bm
open Go Go.Am

end Go.Bm

/- Weights of trees: what both functions return; the sums that are left. -/
set_option linter.unusedVariables false
set_option linter.unusedSimpArgs false
namespace Go.Bm
open Go Go.Am

theorem T_end {k : Nat} {c : ACode} {Q : Ex → Fr → BH → Prop} {f : Fr} {H : BH} (h : T k (.seq c .skip) Q f H) : T k c Q f H :=
  T_big (fun f H ex f' H' hb => by
    cases hb with
    | seqN h1 h2 => cases h2; exact h1
    | seqX h1 _ => exact h1) h
section
variable {n : Nat} {b w : List Nat}
def WOk (n : Nat) (b w : List Nat) (bl wh : List Int) : Prop :=
  (bl.length = (cyc b n).length ∧ wh.length = (cyc w n).length) ∧ (∀ i, i < bl.length → 1 ≤ el bl i ∧ el bl i ≤ 1000000000) ∧ (∀ i, i < wh.length → 1 ≤ el wh i ∧ el wh i ≤ 1000000000)
open Classical in
noncomputable def resW (n : Int) (b w : List Nat) (bl wh : List Int) : Option (List Int) × Int :=
  if ¬ Des n b w then (none, 1) else if ¬ WOk n.toNat b w bl wh then (none, 2) else if ¬ Tree n.toNat b w then (none, 5)
  else if h : ∃ W, Good b w n.toNat (bl ++ wh) W then (some h.choose, 0) else (none, 4)
def WRes (r : Option (List Int) × Int) (v : Value) (H : BH) : Prop :=
  match r with
  | (some W, c) => ∃ j, v = .tuple ⟨[S j 0 W.length 1, I c]⟩ ∧ blk H j = some (W.map I)
  | (none, c) => v = .tuple ⟨[.slice none 0 0, I c]⟩
theorem resW_1 {n : Int} {bl wh : List Int} (h : ¬ Des n b w) : resW n b w bl wh = (none, 1) := by rw [resW, if_pos h]
theorem resW_2 {n : Int} {bl wh : List Int} (h : Des n b w) (h2 : ¬ WOk n.toNat b w bl wh) : resW n b w bl wh = (none, 2) := by rw [resW, if_neg (by simpa using h), if_pos h2]
theorem resW_5 {n : Int} {bl wh : List Int} (h : Des n b w) (h2 : WOk n.toNat b w bl wh) (h3 : ¬ Tree n.toNat b w) : resW n b w bl wh = (none, 5) := by
  rw [resW, if_neg (by simpa using h), if_neg (by simpa using h2), if_pos h3]
theorem resW_0 {bl wh W : List Int} (h : Des n b w) (h2 : WOk n b w bl wh) (h3 : Tree n b w) (h4 : Good b w n (bl ++ wh) W) : resW n b w bl wh = (some W, 0) := by
  have hex : ∃ W, Good b w (n : Int).toNat (bl ++ wh) W := ⟨W, h4⟩
  have h5 : Good b w n (bl ++ wh) hex.choose := hex.choose_spec
  rw [resW, if_neg (by simpa using h), if_neg (by simpa using h2), if_neg (by simpa using h3), dif_pos hex, h5.uniq h h3 h4]
theorem resW_4 {bl wh : List Int} (h : Des n b w) (h2 : WOk n b w bl wh) (h3 : Tree n b w) (h4 : ∀ W, ¬ Good b w n (bl ++ wh) W) : resW n b w bl wh = (none, 4) := by
  have hex : ¬ ∃ W, Good b w (n : Int).toNat (bl ++ wh) W := fun ⟨W, h⟩ => h4 W h
  rw [resW, if_neg (by simpa using h), if_neg (by simpa using h2), if_neg (by simpa using h3), dif_neg hex]
theorem at_app {a c : List Int} {i : Nat} : el (a ++ c) i = if i < a.length then el a i else el c (i - a.length) := by
  simp only [el, List.getD]
  split
  · rename_i h; rw [List.getElem?_append_left h]
  · rename_i h; rw [List.getElem?_append_right (by omega)]
theorem WOk.all {bl wh : List Int} (h : WOk n b w bl wh) : (bl ++ wh).length = (verts b w n).length ∧ ∀ v, v < (verts b w n).length → 1 ≤ el (bl ++ wh) v ∧ el (bl ++ wh) v ≤ 1000000000 := by
  obtain ⟨⟨h1, h2⟩, h3, h4⟩ := h
  have hl : (bl ++ wh).length = (verts b w n).length := by rw [verts, List.length_append, List.length_append, h1, h2]
  refine ⟨hl, fun v hv => ?_⟩
  rw [at_app]
  rw [List.length_append] at hl
  split
  · exact h3 v (by assumption)
  · exact h4 _ (by omega)
/-- What is left of the sums. -/
def lf (b w : List Nat) (n : Nat) (s o : List Int) : List Int := (List.range (verts b w n).length).map fun v => el s v - vsum o (vl b w n v)
theorem lf_len {s o : List Int} : (lf b w n s o).length = (verts b w n).length := by simp [lf]
theorem lf_at {s o : List Int} {v : Nat} (hv : v < (verts b w n).length) : el (lf b w n s o) v = el s v - vsum o (vl b w n v) := by
  simp [lf, el, List.getD, hv]
theorem vsum_set (hd : Des n b w) {o : List Int} (hl : o.length = n) {x : Nat} (hx : x < n) (h0 : el o x = 0) {r : Int} {v : Nat} (hv : v < (verts b w n).length) :
    vsum (o.set x r) (vl b w n v) = vsum o (vl b w n v) + if v = ends b w n false x ∨ v = ends b w n true x then r else 0 := by
  obtain ⟨h1, h2, h3⟩ := vl_len hd hv
  by_cases hm : x ∈ vl b w n v
  · have := vsum_one (o := o.set x r) (o' := o) h2 hm fun y hy hne => by rw [at_set (by omega), if_neg hne]
    rw [at_set (by omega), if_pos rfl, h0] at this
    obtain ⟨c, _, hall⟩ := verts_at hd hv
    rw [vl_eq hv] at hm
    have hc := (hall x hx).1 hm
    rw [if_pos (by cases c <;> simp [hc])]
    omega
  · have e : vsum (o.set x r) (vl b w n v) = vsum o (vl b w n v) := vsum_congr fun y hy => by
      have hne : y ≠ x := fun e => hm (by rw [← e]; exact hy)
      rw [at_set (by omega), if_neg hne]
    rw [e, if_neg]
    · omega
    · rintro (rfl | rfl)
      · exact hm ((vl_ends hd hx).2 ⟨hx, rfl⟩)
      · exact hm ((vl_ends hd hx).2 ⟨hx, rfl⟩)
theorem ends_ne (hd : Des n b w) {x : Nat} (hx : x < n) : ends b w n false x ≠ ends b w n true x := by
  have := vix_lt hd.1 hx
  simp only [ends, Bool.false_eq_true, if_false, if_true]
  omega
theorem lf_set (hd : Des n b w) {s o : List Int} (hl : o.length = n) {x : Nat} (hx : x < n) (h0 : el o x = 0) {r : Int} :
    ((lf b w n s o).set (ends b w n false x) (el (lf b w n s o) (ends b w n false x) - r)).set (ends b w n true x) (el (lf b w n s o) (ends b w n true x) - r) = lf b w n s (o.set x r) := by
  have h1 := ends_lt hd (c := false) hx
  have h2 := ends_lt hd (c := true) hx
  have h3 := ends_ne hd hx
  refine at_ext (by rw [List.length_set, List.length_set, lf_len, lf_len]) fun v hv => ?_
  rw [List.length_set, List.length_set, lf_len] at hv
  rw [at_set (by rw [List.length_set, lf_len]; exact h2), at_set (by rw [lf_len]; exact h1), lf_at (o := o.set x r) hv, vsum_set hd hl hx h0 hv]
  by_cases e1 : v = ends b w n true x
  · rw [if_pos e1, if_pos (.inr e1), lf_at h2, e1]
    omega
  · rw [if_neg e1]
    by_cases e2 : v = ends b w n false x
    · rw [if_pos e2, if_pos (.inl e2), lf_at h1, e2]
      omega
    · rw [if_neg e2, if_neg (by rintro (h | h); exact e2 h; exact e1 h), lf_at hv]
      omega
theorem el_rep {k i : Nat} : el (List.replicate k (0 : Int)) i = 0 := by
  simp only [el, List.getD, List.getElem?_replicate]
  split <;> rfl
theorem vsum_zero {k : Nat} : ∀ {l : List Nat}, vsum (List.replicate k (0 : Int)) l = 0
  | [] => rfl
  | a :: l => by
    have := @vsum_zero k l
    simp only [vsum, List.map_cons, List.sum_cons] at this ⊢
    rw [el_rep]
    omega
theorem lf_zero {s : List Int} {k : Nat} (hs : s.length = (verts b w n).length) : lf b w n s (List.replicate k 0) = s := by
  refine at_ext (by rw [lf_len, hs]) fun v hv => ?_
  rw [lf_len] at hv
  rw [lf_at hv, vsum_zero]
  omega
theorem opens_snoc {o : List Int} {l : List Nat} {x : Nat} : opens o (l ++ [x]) = if el o x = 0 then opens o l ++ [x] else opens o l := by
  simp only [opens, List.filter_append, List.filter_cons, List.filter_nil]
  split <;> split <;> simp_all
theorem vsum_hi (hd : Des n b w) {s o : List Int} (hp : Part b w n s o) (M : Int) (hM : ∀ x, x < n → el o x ≤ M) {l : List Nat} (hl : ∀ x ∈ l, x < n) : vsum o l ≤ M * l.length := by
  induction l with
  | nil => simp [vsum]
  | cons a l ih =>
    have h1 := hM a (hl a (by simp))
    have h2 := ih fun x hx => hl x (by simp [hx])
    simp only [vsum, List.map_cons, List.sum_cons, List.length_cons] at h2 ⊢
    have e : M * ((l.length + 1 : Nat) : Int) = M * (l.length : Int) + M := by
      rw [Int.natCast_add, Int.mul_add]; simp
    rw [e]
    omega
/-- What one pass has done, up to vertex v. -/
def Pass (b w : List Nat) (n : Nat) (o0 o : List Int) (again : Bool) (v : Nat) : Prop :=
  (again = false → o = o0 ∧ ∀ u, u < v → (opens o0 (vl b w n u)).length ≠ 1) ∧ (again = true → left o n < left o0 n)
theorem vsum_le (hd : Des n b w) {s o : List Int} (hp : Part b w n s o) {l : List Nat} (hl : ∀ x ∈ l, x < n) : 0 ≤ vsum o l := by
  induction l with
  | nil => simp [vsum]
  | cons a l ih =>
    have h1 := hp.nn a (hl a (by simp))
    have h2 := ih fun x hx => hl x (by simp [hx])
    simp only [vsum, List.map_cons, List.sum_cons] at h2 ⊢
    omega
/-- .. and none is too large. -/
def PM (b w : List Nat) (n : Nat) (s o : List Int) : Prop := Part b w n s o ∧ ∀ x, x < n → el o x ≤ 1000000000
theorem PM.zero {s : List Int} : PM b w n s (List.replicate n 0) := ⟨Part.zero, fun x _ => by rw [el_rep]; decide⟩
theorem PM.bd (hd : Des n b w) {s o : List Int} (h : PM b w n s o) (hs : ∀ v, v < (verts b w n).length → 1 ≤ el s v ∧ el s v ≤ 1000000000) {v : Nat} (hv : v < (verts b w n).length) :
    -16000000000 ≤ el (lf b w n s o) v ∧ el (lf b w n s o) v ≤ 1000000000 := by
  obtain ⟨h1, h2, h3⟩ := vl_len hd hv
  have hn := hd.1.1
  have h4 := vsum_le hd h.1 h3
  have h5 := vsum_hi hd h.1 1000000000 h.2 h3
  have h6 := hs v hv
  rw [lf_at hv]
  have : (1000000000 : Int) * ((vl b w n v).length : Int) ≤ 1000000000 * 16 := Int.mul_le_mul_of_nonneg_left (by omega) (by decide)
  omega
theorem PM.set (hd : Des n b w) {s o : List Int} (h : PM b w n s o) (hs : ∀ v, v < (verts b w n).length → 1 ≤ el s v ∧ el s v ≤ 1000000000) {v x : Nat} (hv : v < (verts b w n).length) (hx : opens o (vl b w n v) = [x])
    (hr : 1 ≤ el (lf b w n s o) v) : PM b w n s (o.set x (el (lf b w n s o) v)) ∧ left (o.set x (el (lf b w n s o) v)) n < left o n := by
  have hb := (h.bd hd hs hv).2
  have hxo := mem_opens.1 (show x ∈ opens o (vl b w n v) by rw [hx]; simp)
  have hxn := (vl_len hd hv).2.2 x hxo.1
  rw [lf_at hv] at hr hb ⊢
  rw [vl_eq hv] at hx hr hb ⊢
  refine ⟨⟨h.1.set hd hv hx hr, fun y hy => ?_⟩, ?_⟩
  · rw [at_set (by rw [h.1.len]; exact hxn)]
    split
    · exact hb
    · exact h.2 y hy
  · have := left_set (r := el s v - vsum o (verts b w n)[v]) h.1.len hxn hxo.2 (by omega)
    omega
end
end Go.Bm

