/- Names from a dart, and the least dessin: the program's. -/
import Derived.Test.YtbbgifoamnjhoaaDpCc
import Derived.Test.YtbbgifoamnjhoaaDp4
import Derived.Test.YtbbgifoamnjhoaaBmX
set_option linter.unusedVariables false
set_option linter.unusedSimpArgs false
namespace Go.Bm
open Go Go.Am

theorem fill2_N {a b : Nat} : fillL (List.replicate 2 (.int .u8 0)) [(0, 1, .int .u8 (a : Int)), (1, 1, .int .u8 (b : Int))] = some ([a, b].map N8) := rfl
theorem pair_nl {b w : List Nat} {z j : Nat} (h : j < 2) : nl [nl b z, nl w z] j = nl ([b, w].getD j []) z := by
  have : j = 0 ∨ j = 1 := by omega
  rcases this with rfl | rfl <;> rfl
theorem stA_bi {x : Nat} (hx : x < 16) : Bi 16 (stA x) := ⟨by simp [stA, none16_len], fun i hi => by
  rw [show (stA x).2 = [x] from rfl, nl_single (by simpa [stA] using hi)]; exact hx, by
  show 1 ≤ (none16.set x true).count true
  rw [count_set_true (by rw [none16_len]; exact hx) none16_bl]
  omega⟩
theorem named_run {n x : Nat} {b w : List Nat} (hb : By 16 b) (hw : By 16 w) (hd : Des n b w) (hx : x < n) :
    CallX false F_impl_named [DV n b w, I x] [] fun v H1 => ∃ j, v = S j 0 (ord b w x).length 1 ∧ blk H1 j = some ((ord b w x).map N8) := by
  have hlb := hb.len
  have hlw := hw.len
  have hn := hd.1.1
  have hb16 := fun i => hd.1.lt16 hlb i
  have hw16 := fun i => hd.2.1.lt16 hlw i
  have hl16 : ∀ p ∈ [b, w], ∀ i, nl p i < 16 := by simp; exact ⟨hb16, hw16⟩
  have hx16 : x < 16 := by omega
  have hr16 : (List.replicate 16 false).length = 16 := List.length_replicate
  refine CallX_body Γ_impl_named ?_
  simp only [A_impl_named, T_aiff]
  refine T_rseq fun Kr hKr => ?_
  simp (disch := omega) only [RA, ↓reduceIte, Nat.reduceEqDiff, RD, RDS]
  refine hKr _ _ ?_
  clear hKr Kr
  try simp only [RN, reduceIte]
  try refine T_e rfl ?_
  refine T_rseq fun Kr hKr => ?_
  simp (disch := omega) only [RA, ↓reduceIte, Nat.reduceEqDiff, Nat.reduceBEq, Nat.reduceSub, Nat.reduceAdd, Nat.reduceMul, Nat.reduceLT, Nat.reduceLeDiff, Int.reduceLE, Int.reduceLT, Int.reduceEq, Int.reduceNeg, Int.reduceToNat, Int.reduceMul, Int.reduceAdd, Int.reduceSub, Int.reduceBEq, Int.reduceBNe, reduceCtorEq, RD]
  refine hKr _ _ ?_
  clear hKr Kr
  try simp only [RN, reduceIte]
  try refine T_e rfl ?_
  refine T_rseq fun Kr hKr => ?_
  simp (disch := omega) only [RA, ↓reduceIte, Nat.reduceEqDiff, Nat.reduceBEq, Nat.reduceSub, Nat.reduceAdd, Nat.reduceMul, Nat.reduceLT, Nat.reduceLeDiff, Int.reduceLE, Int.reduceLT, Int.reduceEq, Int.reduceNeg, Int.reduceToNat, Int.reduceMul, Int.reduceAdd, Int.reduceSub, Int.reduceBEq, Int.reduceBNe, reduceCtorEq, RD, repB]
  refine hKr _ _ ?_
  clear hKr Kr
  try simp only [RN, reduceIte]
  try refine T_e rfl ?_
  refine T_rseq fun Kr hKr => ?_
  simp (disch := omega) only [RA, ↓reduceIte, Nat.reduceEqDiff, Nat.reduceBEq, Nat.reduceSub, Nat.reduceAdd, Nat.reduceMul, Nat.reduceLT, Nat.reduceLeDiff, Int.reduceLE, Int.reduceLT, Int.reduceEq, Int.reduceNeg, Int.reduceToNat, Int.reduceMul, Int.reduceAdd, Int.reduceSub, Int.reduceBEq, Int.reduceBNe, reduceCtorEq, RD]
  refine hKr _ _ ?_
  clear hKr Kr
  try simp only [RN, reduceIte]
  try refine T_e rfl ?_
  refine T_rseq fun Kr hKr => ?_
  simp (disch := omega) only [RA, ↓reduceIte, Nat.reduceEqDiff, Nat.reduceBEq, Nat.reduceSub, Nat.reduceAdd, Nat.reduceMul, Nat.reduceLT, Nat.reduceLeDiff, Int.reduceLE, Int.reduceLT, Int.reduceEq, Int.reduceNeg, Int.reduceToNat, Int.reduceMul, Int.reduceAdd, Int.reduceSub, Int.reduceBEq, Int.reduceBNe, reduceCtorEq, RD]
  refine hKr _ _ ?_
  clear hKr Kr
  try simp only [RN, reduceIte]
  try refine T_e rfl ?_
  refine T_wloop (fun m f H' => ∃ k st, k ≤ 16 ∧ m = 16 - k ∧ st = bfs [b, w] (stA x) k ∧ k ≤ st.2.length ∧ f 2 = P 0 0 ∧ f 5 = P 1 0 ∧ f 6 = S 2 0 st.2.length 1 ∧ f 7 = I k ∧ H' = [some (DC n b w), some (st.1.map B), some (st.2.map N8)]) (16) ?_ ?_
  · refine ⟨_, _, Gh.refl, 0, stA x, by omega, by omega, rfl, Nat.zero_le _, ?_, ?_, ?_, ?_, by simp [stA, none16]⟩
    any_goals (simp (disch := omega) only [RA, ↓reduceIte, Nat.reduceEqDiff, Nat.reduceAdd, Nat.reduceMul, Int.reduceToNat, Nat.reduceLT, reduceCtorEq, RD, RE, *] <;> rfl)
  · rintro m f H' R ⟨k, st, hk, rfl, hst, hkl, g2, g5, g6, g7, rfl⟩ hN hX hR hE
    simp only [A_impl_named.l1, T_aiff]
    have hB := (stA_bi hx16).bfs hl16 k
    rw [← hst] at hB
    replace hst := hst.symm
    have hle := hB.le
    have hsl := hB.len
    refine T_rseq fun Kr hKr => ?_
    simp (disch := omega) only [RA, ↓reduceIte, Nat.reduceEqDiff, Nat.reduceBEq, Nat.reduceSub, Nat.reduceAdd, Nat.reduceMul, Nat.reduceLT, Nat.reduceLeDiff, Int.reduceLE, Int.reduceLT, Int.reduceEq, Int.reduceNeg, Int.reduceToNat, Int.reduceMul, Int.reduceAdd, Int.reduceSub, Int.reduceBEq, Int.reduceBNe, reduceCtorEq, RD, g6, g7]
    refine hKr _ _ ?_
    clear hKr Kr
    try simp only [RN, reduceIte]
    try refine T_e rfl ?_
    refine T_csplit (p := k < st.2.length) (by simp only [RA, ↓reduceIte, Nat.reduceEqDiff, Nat.reduceBEq, Nat.reduceSub, Nat.reduceAdd, Nat.reduceMul, Nat.reduceLT, Nat.reduceLeDiff, Int.reduceLE, Int.reduceLT, Int.reduceEq, Int.reduceNeg, Int.reduceToNat, Int.reduceMul, Int.reduceAdd, Int.reduceSub, Int.reduceBEq, Int.reduceBNe, reduceCtorEq] <;> rfl) (by (try simp only [RB]) <;> first | done | exact Iff.rfl | omega | simp) (fun hc => ?_) (fun hc => ?_) <;> (try simp only [RN, reduceIte]) <;> (try refine T_e rfl ?_)
    · have hxk := hB.lt k hc
      have hkst : k < st.2.length := by assumption
      have h1 := hb16 (nl st.2 k)
      have h2 := hw16 (nl st.2 k)
      obtain ⟨pr, hpr⟩ : ∃ pr, pr = [nl b (nl st.2 k), nl w (nl st.2 k)] := ⟨_, rfl⟩
      have hpl : pr.length = 2 := by rw [hpr]; rfl
      have hpj : ∀ j, j < 2 → nl pr j = nl ([b, w].getD j []) (nl st.2 k) := fun j hj => by rw [hpr]; exact pair_nl hj
      first | refine T_bfree rfl ?_ | refine T_bfree' rfl ?_
      try simp only [RN, reduceIte]
      try refine T_e rfl ?_
      refine T_rseq fun Kr hKr => ?_
      simp (disch := omega) only [RA, ↓reduceIte, Nat.reduceEqDiff, Nat.reduceBEq, Nat.reduceSub, Nat.reduceAdd, Nat.reduceMul, Nat.reduceLT, Nat.reduceLeDiff, Int.reduceLE, Int.reduceLT, Int.reduceEq, Int.reduceNeg, Int.reduceToNat, Int.reduceMul, Int.reduceAdd, Int.reduceSub, Int.reduceBEq, Int.reduceBNe, reduceCtorEq, RD, g2, g6, g7, RDS, RDD, fill2_N]
      refine hKr _ _ ?_
      clear hKr Kr
      try simp only [RN, reduceIte]
      try refine T_e rfl ?_
      refine T_wloop (fun m f H' => ∃ j st', j ≤ 2 ∧ m = 2 - j ∧ st' = roundX ([b, w].take j) (nl st.2 k) st ∧ f 2 = P 0 0 ∧ f 5 = P 1 0 ∧ f 6 = S 2 0 st'.2.length 1 ∧ f 7 = I k ∧ f 36 = S 3 0 2 1 ∧ f 37 = I 2 ∧ f 38 = I j ∧ H' = [some (DC n b w), some (st'.1.map B), some (st'.2.map N8), some (pr.map N8)]) (2) ?_ ?_
      · refine ⟨_, _, Gh.refl, 0, st, by omega, by omega, rfl, ?_, ?_, ?_, ?_, ?_, ?_, ?_, by rw [hpr]; rfl⟩
        any_goals (simp (disch := omega) only [RA, ↓reduceIte, Nat.reduceEqDiff, RD, RE, *] <;> rfl)
      · clear g2 g5 g6 g7 hpr
        rintro m f H' R2 ⟨j, st', hj, rfl, hst', g2, g5, g6, g7, g36, g37, g38, rfl⟩ hN2 hX2 hR2 hE2
        simp only [A_impl_named.l0, T_aiff]
        refine T_rseq fun Kr hKr => ?_
        simp (disch := omega) only [RA, ↓reduceIte, Nat.reduceEqDiff, RD, g37, g38]
        refine hKr _ _ ?_
        clear hKr Kr
        try simp only [RN, reduceIte]
        try refine T_e rfl ?_
        have hB' : Bi 16 st' := by rw [hst']; exact hB.round fun p hp => hl16 p (List.mem_of_mem_take hp) _
        have hle' := hB'.le
        have hsl' := hB'.len
        refine T_csplit (p := j < 2) (by simp only [RA, ↓reduceIte, Nat.reduceEqDiff] <;> rfl) (by (try simp only [RB]) <;> first | done | exact Iff.rfl | omega | simp) (fun hc => ?_) (fun hc => ?_) <;> (try simp only [RN, reduceIte]) <;> (try refine T_e rfl ?_)
        · have hnx := round_take (ls := [b, w]) (x := nl st.2 k) (st := st) hc
          rw [← hst', ← hpj j hc] at hnx
          have hyl : nl pr j < 16 := by
            rw [hpj j hc]
            exact hl16 _ (getD_mem hc) _
          obtain ⟨y, hyd⟩ : ∃ y, nl pr j = y := ⟨_, rfl⟩
          rw [hyd] at hyl hnx
          have hxi : y < 16 := hyl
          have hnext : ∀ f' st2, f' 2 = P 0 0 → f' 5 = P 1 0 → f' 6 = S 2 0 st2.2.length 1 → f' 7 = I k → f' 36 = S 3 0 2 1 → f' 37 = I 2 → f' 38 = I j → st2 = visit st' y → T 0 A_impl_named.r13 R2 f' [some (DC n b w), some (st2.1.map B), some (st2.2.map N8), some (pr.map N8)] := by
            intro f' st2 g2 g5 g6 g7 g36 g37 g38 hs2
            refine T_reg_k fun Kr hKr => ?_
            simp (disch := omega) only [RA, ↓reduceIte, Nat.reduceEqDiff, RD, g38]
            refine hKr _ _ ?_
            clear hKr Kr
            refine hN2 (2 - (j + 1)) _ _ _ _ (by omega) Gh.refl ⟨j + 1, st2, by omega, rfl, by rw [hnx, hs2], ?_, ?_, ?_, ?_, ?_, ?_, ?_, rfl⟩
            any_goals (simp (disch := omega) only [RA, ↓reduceIte, Nat.reduceEqDiff, RD, RE, *] <;> rfl)
          first | refine T_bfree rfl ?_ | refine T_bfree' rfl ?_
          try simp only [RN, reduceIte]
          try refine T_e rfl ?_
          refine T_rseq fun Kr hKr => ?_
          simp (disch := omega) only [RA, ↓reduceIte, Nat.reduceEqDiff, RD, g36, g38, hpl, hyd]
          refine hKr _ _ ?_
          clear hKr Kr
          try simp only [RN, reduceIte]
          try refine T_e rfl ?_
          refine T_rseq fun Kr hKr => ?_
          simp (disch := omega) only [RA, ↓reduceIte, Nat.reduceEqDiff, Nat.reduceBEq, Nat.reduceSub, Nat.reduceAdd, Nat.reduceMul, Nat.reduceLT, Nat.reduceLeDiff, Int.reduceLE, Int.reduceLT, Int.reduceEq, Int.reduceNeg, Int.reduceToNat, Int.reduceMul, Int.reduceAdd, Int.reduceSub, Int.reduceBEq, Int.reduceBNe, reduceCtorEq, RD, g5, hsl']
          refine hKr _ _ ?_
          clear hKr Kr
          try simp only [RN, reduceIte]
          try refine T_e rfl ?_
          refine T_csplit (p := ¬ bl st'.1 y = true) (by simp only [RA, ↓reduceIte, Nat.reduceEqDiff, Nat.reduceBEq, Nat.reduceSub, Nat.reduceAdd, Nat.reduceMul, Nat.reduceLT, Nat.reduceLeDiff, Int.reduceLE, Int.reduceLT, Int.reduceEq, Int.reduceNeg, Int.reduceToNat, Int.reduceMul, Int.reduceAdd, Int.reduceSub, Int.reduceBEq, Int.reduceBNe, reduceCtorEq] <;> rfl) (by (try simp only [RB]) <;> first | done | exact Iff.rfl | omega | simp) (fun hc => ?_) (fun hc => ?_) <;> (try simp only [RN, reduceIte]) <;> (try refine T_e rfl ?_)
          · refine T_rseq fun Kr hKr => ?_
            simp (disch := omega) only [RA, ↓reduceIte, Nat.reduceEqDiff, Nat.reduceBEq, Nat.reduceSub, Nat.reduceAdd, Nat.reduceMul, Nat.reduceLT, Nat.reduceLeDiff, Int.reduceLE, Int.reduceLT, Int.reduceEq, Int.reduceNeg, Int.reduceToNat, Int.reduceMul, Int.reduceAdd, Int.reduceSub, Int.reduceBEq, Int.reduceBNe, reduceCtorEq, RD, g5, hsl']
            refine hKr _ _ ?_
            clear hKr Kr
            try simp only [RN, reduceIte]
            try refine T_e rfl ?_
            refine T_rseq fun Kr hKr => ?_
            simp (disch := omega) only [RA, ↓reduceIte, Nat.reduceEqDiff, Nat.reduceBEq, Nat.reduceSub, Nat.reduceAdd, Nat.reduceMul, Nat.reduceLT, Nat.reduceLeDiff, Int.reduceLE, Int.reduceLT, Int.reduceEq, Int.reduceNeg, Int.reduceToNat, Int.reduceMul, Int.reduceAdd, Int.reduceSub, Int.reduceBEq, Int.reduceBNe, reduceCtorEq, RD, g6]
            refine hKr _ _ ?_
            clear hKr Kr
            try simp only [RN, reduceIte]
            try refine T_e rfl ?_
            refine T_gh (Gh.nrm [0, 1, 5, 3] rfl rfl (by simp only [RH, NN_D])) ?_
            refine hnext _ (st'.1.set y true, st'.2 ++ [y]) ?_ ?_ ?_ ?_ ?_ ?_ ?_ ?_
            any_goals (simp (disch := omega) only [RA, ↓reduceIte, Nat.reduceEqDiff, RD, RE, *] <;> rfl)
            rw [visit, if_neg hc]
          · try simp only [RN, reduceIte]
            try refine T_e rfl ?_
            refine hnext _ st' ?_ ?_ ?_ ?_ ?_ ?_ ?_ ?_
            any_goals (simp (disch := omega) only [RA, ↓reduceIte, Nat.reduceEqDiff, RD, RE, *] <;> rfl)
            rw [visit, if_pos (by simpa using hc)]
        · refine hX2 _ _ ?_
          obtain rfl : j = 2 := by omega
          have hst2 : st' = bfs [b, w] (stA x) (k + 1) := by
            rw [hst', bfs, hst, if_pos hkst]; rfl
          obtain ⟨q, hq⟩ := @round_pre (nl st.2 k) ([b, w].take 2) st
          have hlq : k + 1 ≤ st'.2.length := by rw [hst', hq]; simp; omega
          refine T_reg_k fun Kr hKr => ?_
          simp (disch := omega) only [RA, ↓reduceIte, Nat.reduceEqDiff, RD, g7]
          refine hKr _ _ ?_
          clear hKr Kr
          refine hN (16 - (k + 1)) _ _ _ _ (by omega) (Gh.nrm [0, 1, 2] rfl rfl (by simp only [RH, NN_D])) ⟨k + 1, st', by omega, rfl, hst2, hlq, ?_, ?_, ?_, ?_, rfl⟩
          any_goals (simp (disch := omega) only [RA, ↓reduceIte, Nat.reduceEqDiff, RD, RE, *] <;> rfl)
    · refine hX _ _ ?_
      have hfin : bfs [b, w] (stA x) 16 = st := by rw [bfs_stop (i := k) (by rw [hst]; omega) 16 hk, hst]
      refine T_rseq fun Kr hKr => ?_
      simp (disch := omega) only [RA, ↓reduceIte, Nat.reduceEqDiff, Nat.reduceBEq, Nat.reduceSub, Nat.reduceAdd, Nat.reduceMul, Nat.reduceLT, Nat.reduceLeDiff, Int.reduceLE, Int.reduceLT, Int.reduceEq, Int.reduceNeg, Int.reduceToNat, Int.reduceMul, Int.reduceAdd, Int.reduceSub, Int.reduceBEq, Int.reduceBNe, reduceCtorEq, RD, g6]
      refine hKr _ _ ?_
      clear hKr Kr
      try simp only [RN, reduceIte]
      try refine T_e rfl ?_
      refine bodyQ_ret (by simp (disch := omega) only [RA, ↓reduceIte, Nat.reduceEqDiff, RD, resAll, resOf, g6]; rfl) GhV.refl ?_
      simp only [tup]
      rw [ord, hfin]
      exact ⟨2, rfl, rfl⟩
theorem NNL_F8 {l : List Nat} : NNL (l.map N8) := NNL.map fun _ => .int
theorem named_spec {x0 : Bool} {n x : Nat} {b w : List Nat} {H : BH} {K : Value → BH → Prop} (hb : By 16 b) (hw : By 16 w) (hd : Des n b w) (hx : x < n)
    (hK : K (Fz (ord b w x).length 1 ((ord b w x).map N8)) H) : CallX x0 F_impl_named [DV n b w, I x] H K :=
  callRZ (.cons nn_D (.cons .int .nil)) NNL_F8 (by simp) (named_run hb hw hd hx) hK
theorem nmK_by {l : List Nat} {k : Nat} (hk : k ≤ 16) : By 16 (nmK l k) := ⟨nmK_len, fun i => by have := @nmK_lt l k i; omega⟩
theorem naming_spec {x0 : Bool} {n x : Nat} {b w : List Nat} {H : BH} {K : Value → BH → Prop} (hb : By 16 b) (hw : By 16 w) (hd : Des n b w) (hx : x < n)
    (hK : K (PL (nam b w x)) H) : CallX x0 F_impl_naming [DV n b w, I x] H K := by
  have hlb := hb.len
  have hlw := hw.len
  have hn := hd.1.1
  have hol := ord_len hd hx
  have hlt : ∀ j, j < (ord b w x).length → nl (ord b w x) j < 16 := fun j hj => by
    have := ord_lt hd hx (j := j) (by omega)
    omega
  rw [nam] at hK
  refine callP (by exact .cons nn_D (.cons .int .nil)) ?_
  refine CallX_body Γ_impl_naming ?_
  simp only [A_impl_naming, T_aiff]
  refine T_rseq fun Kr hKr => ?_
  simp (disch := omega) only [RA, ↓reduceIte, Nat.reduceEqDiff, RD, RDS]
  refine hKr _ _ ?_
  clear hKr Kr
  try simp only [RN, reduceIte]
  try refine T_e rfl ?_
  refine T_rseq fun Kr hKr => ?_
  simp (disch := omega) only [RA, ↓reduceIte, Nat.reduceEqDiff, RD]
  refine hKr _ _ ?_
  clear hKr Kr
  try simp only [RN, reduceIte]
  try refine T_e rfl ?_
  refine T_rseq fun Kr hKr => ?_
  simp (disch := omega) only [RA, ↓reduceIte, Nat.reduceEqDiff, RD, RDS, RDD]
  refine named_spec hb hw hd hx ?_
  generalize ord b w x = l at hol hlt hK
  have hl16 : l.length ≤ 16 := by omega
  simp (disch := omega) only [RA, ↓reduceIte, Nat.reduceEqDiff, RD]
  refine hKr _ _ ?_
  clear hKr Kr
  try simp only [blkQ, thenQ, loopQ]
  try simp only [RN, reduceIte]
  try refine T_e rfl ?_
  refine T_wloop (fun m f H' => ∃ k, k ≤ l.length ∧ m = l.length - k ∧ f 4 = P 1 0 ∧ f 5 = P 2 0 ∧ f 11 = Fz l.length 1 (l.map N8) ∧ f 12 = I l.length ∧ f 13 = I k ∧ H' = [some (DC n b w), some (List.replicate 16 (.int .u8 0)), some ((nmK l k).map N8)]) (l.length) ?_ ?_
  · refine ⟨_, _, Gh.refl, 0, by omega, by omega, ?_, ?_, ?_, ?_, ?_, by simp [nmK]⟩
    any_goals (simp (disch := omega) only [RA, ↓reduceIte, Nat.reduceEqDiff, RD, RE, *] <;> rfl)
  · clear hol
    rintro m f H' R ⟨k, hk, rfl, g4, g5, g11, g12, g13, rfl⟩ hN hX hR hE
    simp only [A_impl_naming.l0, T_aiff]
    have hnl := @nmK_len l k
    refine T_rseq fun Kr hKr => ?_
    simp (disch := omega) only [RA, ↓reduceIte, Nat.reduceEqDiff, RD, g12, g13]
    refine hKr _ _ ?_
    clear hKr Kr
    try simp only [RN, reduceIte]
    try refine T_e rfl ?_
    refine T_csplit (p := k < l.length) (by simp only [RA, ↓reduceIte, Nat.reduceEqDiff] <;> rfl) (by (try simp only [RB]) <;> first | done | exact Iff.rfl | omega | simp) (fun hc => ?_) (fun hc => ?_) <;> (try simp only [RN, reduceIte]) <;> (try refine T_e rfl ?_)
    · have h16 := hlt k hc
      first | refine T_bfree rfl ?_ | refine T_bfree' rfl ?_
      try simp only [RN, reduceIte]
      try refine T_e rfl ?_
      refine T_rseq fun Kr hKr => ?_
      simp (disch := omega) only [RA, ↓reduceIte, Nat.reduceEqDiff, RD, g11, g13]
      refine hKr _ _ ?_
      clear hKr Kr
      try simp only [RN, reduceIte]
      try refine T_e rfl ?_
      refine T_rseq fun Kr hKr => ?_
      simp (disch := omega) only [RA, ↓reduceIte, Nat.reduceEqDiff, RD, g5, hnl]
      refine hKr _ _ ?_
      clear hKr Kr
      try simp only [RN, reduceIte]
      try refine T_e rfl ?_
      refine T_reg_k fun Kr hKr => ?_
      simp (disch := omega) only [RA, ↓reduceIte, Nat.reduceEqDiff, RD, g13]
      refine hKr _ _ ?_
      clear hKr Kr
      refine hN (l.length - (k + 1)) _ _ _ _ (by omega) Gh.refl ⟨k + 1, by omega, rfl, ?_, ?_, ?_, ?_, ?_, rfl⟩
      any_goals (simp (disch := omega) only [RA, ↓reduceIte, Nat.reduceEqDiff, RD, RE, *] <;> rfl)
    · refine hX _ _ ?_
      obtain rfl : k = l.length := by omega
      refine T_rseq fun Kr hKr => ?_
      simp (disch := omega) only [RA, ↓reduceIte, Nat.reduceEqDiff, RD, g4, g5, hnl]
      refine hKr _ _ ?_
      clear hKr Kr
      try simp only [RN, reduceIte]
      try refine T_e rfl ?_
      refine bodyQ_ret (by simp (disch := omega) only [RA, ↓reduceIte, Nat.reduceEqDiff, RD, resAll, resOf, g4, hnl]; rfl) GhV.refl ?_
      simp only [tup]
      exact ⟨NN_agg NNL_F8, hK⟩
theorem rnK_by {p nm : List Nat} (hl : ∀ i, nl nm i < 256) : ∀ {k : Nat}, By 16 (rnK p nm k)
  | 0 => By.rep
  | k + 1 => (rnK_by hl).set (hl _)
theorem rename_spec {x0 : Bool} {n : Nat} {b w nm : List Nat} {H : BH} {K : Value → BH → Prop} (hb : By 16 b) (hw : By 16 w) (hd : Des n b w) (hm : By 16 nm) (hm16 : ∀ i, nl nm i < 16)
    (hK : K (DV n (rnK b nm n) (rnK w nm n)) H) : CallX x0 F_impl_rename [DV n b w, PL nm] H K := by
  have hlb := hb.len
  have hlw := hw.len
  have hlm := hm.len
  have hz := z16_len
  have hn := hd.1.1
  have hb16 := fun i => hd.1.lt16 hlb i
  have hw16 := fun i => hd.2.1.lt16 hlw i
  refine callP (by exact .cons nn_D (.cons (NN_agg NNL_F8) .nil)) ?_
  refine CallX_body Γ_impl_rename ?_
  simp only [A_impl_rename, T_aiff]
  refine T_rseq fun Kr hKr => ?_
  simp (disch := omega) only [RA, ↓reduceIte, Nat.reduceEqDiff, RD, RDS]
  refine hKr _ _ ?_
  clear hKr Kr
  try simp only [RN, reduceIte]
  try refine T_e rfl ?_
  refine T_rseq fun Kr hKr => ?_
  simp (disch := omega) only [RA, ↓reduceIte, Nat.reduceEqDiff, RD, RDS, RDD]
  refine hKr _ _ ?_
  clear hKr Kr
  try simp only [RN, reduceIte]
  try refine T_e rfl ?_
  refine T_rseq fun Kr hKr => ?_
  simp (disch := omega) only [RA, ↓reduceIte, Nat.reduceEqDiff, RD, RDS]
  refine hKr _ _ ?_
  clear hKr Kr
  try simp only [RN, reduceIte]
  try refine T_e rfl ?_
  refine T_wloop (fun m f H' => ∃ k, k ≤ n ∧ m = n - k ∧ f 2 = P 0 0 ∧ f 3 = P 1 0 ∧ f 4 = P 2 0 ∧ f 5 = P 3 0 ∧ f 11 = I n ∧ f 12 = I k ∧ H' = [some (DC n b w), some (nm.map N8), some (DC 0 z16 z16), some (DC n (rnK b nm k) (rnK w nm k))]) (n) ?_ ?_
  · refine ⟨_, _, Gh.refl, 0, by omega, by omega, ?_, ?_, ?_, ?_, ?_, ?_, rfl⟩
    any_goals (simp (disch := omega) only [RA, ↓reduceIte, Nat.reduceEqDiff, RD, RE, *] <;> rfl)
  · rintro m f H' R ⟨k, hk, rfl, g2, g3, g4, g5, g11, g12, rfl⟩ hN hX hR hE
    simp only [A_impl_rename.l0, T_aiff]
    have hl1 := @rnK_len b nm k
    have hl2 := @rnK_len w nm k
    refine T_rseq fun Kr hKr => ?_
    simp (disch := omega) only [RA, ↓reduceIte, Nat.reduceEqDiff, RD, g11, g12]
    refine hKr _ _ ?_
    clear hKr Kr
    try simp only [RN, reduceIte]
    try refine T_e rfl ?_
    refine T_csplit (p := k < n) (by simp only [RA, ↓reduceIte, Nat.reduceEqDiff] <;> rfl) (by (try simp only [RB]) <;> first | done | exact Iff.rfl | omega | simp) (fun hc => ?_) (fun hc => ?_) <;> (try simp only [RN, reduceIte]) <;> (try refine T_e rfl ?_)
    · have h1 := hb16 k
      have h2 := hw16 k
      have h3 := hm16 k
      have hl3 : ((rnK b nm k).set (nl nm k) (nl nm (nl b k))).length = 16 := by rw [List.length_set]; exact hl1
      first | refine T_bfree rfl ?_ | refine T_bfree' rfl ?_
      try simp only [RN, reduceIte]
      try refine T_e rfl ?_
      refine T_rseq fun Kr hKr => ?_
      simp (disch := omega) only [RA, ↓reduceIte, Nat.reduceEqDiff, RD, g12]
      refine hKr _ _ ?_
      clear hKr Kr
      try simp only [RN, reduceIte]
      try refine T_e rfl ?_
      refine T_rseq fun Kr hKr => ?_
      simp (disch := omega) only [RA, ↓reduceIte, Nat.reduceEqDiff, RD, g2, g3, g5, RDS, RDD]
      refine hKr _ _ ?_
      clear hKr Kr
      try simp only [RN, reduceIte]
      try refine T_e rfl ?_
      refine T_rseq fun Kr hKr => ?_
      simp (disch := omega) only [RA, ↓reduceIte, Nat.reduceEqDiff, RD, g2, g3, g5, RDS, RDD]
      refine hKr _ _ ?_
      clear hKr Kr
      try simp only [RN, reduceIte]
      try refine T_e rfl ?_
      refine T_reg_k fun Kr hKr => ?_
      simp (disch := omega) only [RA, ↓reduceIte, Nat.reduceEqDiff, RD, g12]
      refine hKr _ _ ?_
      clear hKr Kr
      refine hN (n - (k + 1)) _ _ _ _ (by omega) Gh.refl ⟨k + 1, by omega, rfl, ?_, ?_, ?_, ?_, ?_, ?_, rfl⟩
      any_goals (simp (disch := omega) only [RA, ↓reduceIte, Nat.reduceEqDiff, RD, RE, *] <;> rfl)
    · refine hX _ _ ?_
      obtain rfl : k = n := by omega
      refine T_rseq fun Kr hKr => ?_
      simp (disch := omega) only [RA, ↓reduceIte, Nat.reduceEqDiff, RD, g4, g5, RDS, RDD]
      refine hKr _ _ ?_
      clear hKr Kr
      try simp only [RN, reduceIte]
      try refine T_e rfl ?_
      refine bodyQ_ret (by simp (disch := omega) only [RA, ↓reduceIte, Nat.reduceEqDiff, RD, resAll, resOf, g4, RDS, RDD]; rfl) GhV.refl ?_
      simp only [tup]
      exact ⟨nn_D, hK⟩
def slO (c : Option (List Value)) (len e b o : Nat) (lo hi : Option Value) : Option Value :=
  match c with
  | some cs => if o + len * e ≤ cs.length then (cutC len lo hi).map fun (l, h) => S b (o + l * e) (h - l) e else none
  | none => none
theorem sliceArrW_p {len e b o : Nat} {H : BH} {lo hi : Option Value} : sliceArrW len e H (P b o) lo hi = slO (blk H b) len e b o lo hi := rfl
theorem slO_no {cs : List Value} {len e b o : Nat} (h : o + len * e ≤ cs.length) : slO (some cs) len e b o none none = some (S b o len e) := by
  simp [slO, h, cutC_no]
theorem comparePlaces_spec {x0 : Bool} {p q : List Nat} {H : BH} {K : Value → BH → Prop} (hp : By 16 p) (hq : By 16 q) (hK : K (I (cmpB p q)) H) : CallX x0 F_impl_comparePlaces [PL p, PL q] H K := by
  have hlp := hp.len
  have hlq := hq.len
  have h1 : (p.map N8).length = 16 := by simpa using hlp
  have h2 : (q.map N8).length = 16 := by simpa using hlq
  refine callP (by exact .cons (NN_agg NNL_F8) (.cons (NN_agg NNL_F8) .nil)) ?_
  refine CallX_body Γ_impl_comparePlaces ?_
  simp only [A_impl_comparePlaces, T_aiff]
  refine T_rseq fun Kr hKr => ?_
  simp (disch := omega) only [RA, ↓reduceIte, Nat.reduceEqDiff, RD]
  refine hKr _ _ ?_
  clear hKr Kr
  try simp only [RN, reduceIte]
  try refine T_e rfl ?_
  refine T_rseq fun Kr hKr => ?_
  simp (disch := omega) only [RA, ↓reduceIte, Nat.reduceEqDiff, RD, sliceArrW_p, slO_no]
  refine cast (congrArg (fun n : Nat × Nat => CallX true F_bytes_Compare [S 0 0 n.1 1, S 1 0 n.2 1] [some (p.map N8), some (q.map N8)] _) (Prod.ext hlp hlq : (p.length, q.length) = (16, 16))) ?_
  refine Compare_own rfl rfl (by omega) (by omega) ?_
  simp (disch := omega) only [RA, ↓reduceIte, Nat.reduceEqDiff, RD]
  refine hKr _ _ ?_
  clear hKr Kr
  try simp only [blkQ, thenQ, loopQ]
  try simp only [RN, reduceIte]
  try refine T_e rfl ?_
  refine bodyQ_ret (by simp (disch := omega) only [RA, ↓reduceIte, Nat.reduceEqDiff, RD, resAll, resOf]; rfl) GhV.refl ?_
  simp only [tup]
  exact ⟨.int, hK⟩
def cmpD (x y : L2) : Int := if cmpB x.1 y.1 = 0 then cmpB x.2 y.2 else cmpB x.1 y.1
theorem cmpD_lt {x y : L2} (h1 : By 16 x.1) (h2 : By 16 x.2) (h3 : By 16 y.1) (h4 : By 16 y.2) : cmpD x y < 0 ↔ lt2 x y := by
  have a := cmpB_lt (by rw [h1.len, h3.len]) h1.mem h3.mem
  have b := cmpB_lt (by rw [h2.len, h4.len]) h2.mem h4.mem
  unfold cmpD lt2
  by_cases e : x.1 = y.1
  · rw [if_pos (a.2.2 e), b.1]
    constructor
    · intro h; exact .inr ⟨e, h⟩
    · rintro (h | h)
      · rw [e] at h; exact absurd h (List.lt_irrefl _)
      · exact h.2
  · rw [if_neg (fun h => e (a.2.1 h)), a.1]
    constructor
    · intro h; exact .inl h
    · rintro (h | h)
      · exact h
      · exact absurd h.1 e
theorem compareDessins_spec {x0 : Bool} {n m : Int} {b w b' w' : List Nat} {H : BH} {K : Value → BH → Prop} (hb : By 16 b) (hw : By 16 w) (hb' : By 16 b') (hw' : By 16 w')
    (hK : K (I (cmpD (b, w) (b', w'))) H) : CallX x0 F_impl_compareDessins [DV n b w, DV m b' w'] H K := by
  have hlb := hb.len
  have hlw := hw.len
  have hlb' := hb'.len
  have hlw' := hw'.len
  refine callP (by exact .cons nn_D (.cons nn_D .nil)) ?_
  refine CallX_body Γ_impl_compareDessins ?_
  simp only [A_impl_compareDessins, T_aiff]
  refine T_rseq fun Kr hKr => ?_
  simp (disch := omega) only [RA, ↓reduceIte, Nat.reduceEqDiff, RD, RDS]
  refine hKr _ _ ?_
  clear hKr Kr
  try simp only [RN, reduceIte]
  try refine T_e rfl ?_
  refine T_rseq fun Kr hKr => ?_
  simp (disch := omega) only [RA, ↓reduceIte, Nat.reduceEqDiff, RD, RDS, RDD]
  refine comparePlaces_spec hb hb' ?_
  simp (disch := omega) only [RA, ↓reduceIte, Nat.reduceEqDiff, RD]
  refine hKr _ _ ?_
  clear hKr Kr
  try simp only [blkQ, thenQ, loopQ]
  try simp only [RN, reduceIte]
  try refine T_e rfl ?_
  refine T_rseq fun Kr hKr => ?_
  simp (disch := omega) only [RA, ↓reduceIte, Nat.reduceEqDiff, RD]
  refine hKr _ _ ?_
  clear hKr Kr
  try simp only [RN, reduceIte]
  try refine T_e rfl ?_
  refine T_csplit (p := ¬ cmpB b b' = 0) (by simp only [RA, ↓reduceIte, Nat.reduceEqDiff] <;> rfl) (by (try simp only [RB]) <;> first | done | exact Iff.rfl | omega | simp) (fun hc => ?_) (fun hc => ?_) <;> (try simp only [RN, reduceIte]) <;> (try refine T_e rfl ?_)
  · refine T_rseq fun Kr hKr => ?_
    simp (disch := omega) only [RA, ↓reduceIte, Nat.reduceEqDiff, RD]
    refine hKr _ _ ?_
    clear hKr Kr
    try simp only [RN, reduceIte]
    try refine T_e rfl ?_
    refine bodyQ_ret (by simp (disch := omega) only [RA, ↓reduceIte, Nat.reduceEqDiff, RD, resAll, resOf]; rfl) GhV.refl ?_
    simp only [tup]
    rw [cmpD, if_neg hc] at hK
    exact ⟨.int, hK⟩
  · rw [cmpD, if_pos (Decidable.not_not.1 hc)] at hK
    refine T_rseq fun Kr hKr => ?_
    simp (disch := omega) only [RA, ↓reduceIte, Nat.reduceEqDiff, RD, RDS, RDD]
    refine comparePlaces_spec hw hw' ?_
    simp (disch := omega) only [RA, ↓reduceIte, Nat.reduceEqDiff, RD]
    refine hKr _ _ ?_
    clear hKr Kr
    try simp only [blkQ, thenQ, loopQ]
    try simp only [RN, reduceIte]
    try refine T_e rfl ?_
    refine bodyQ_ret (by simp (disch := omega) only [RA, ↓reduceIte, Nat.reduceEqDiff, RD, resAll, resOf]; rfl) GhV.refl ?_
    simp only [tup]
    exact ⟨.int, hK⟩
theorem nam_by {b w : List Nat} {n x : Nat} (hd : Des n b w) (hx : x < n) : By 16 (nam b w x) := nmK_by (by rw [ord_len hd hx]; have := hd.1.1; omega)
theorem nam_16 {b w : List Nat} {n x : Nat} (hd : Des n b w) (hx : x < n) (i : Nat) : nl (nam b w x) i < 16 := by
  rcases Nat.lt_or_ge i n with h | h
  · have := (ord_nam hd hx h).2
    have := hd.1.1
    omega
  · have hl := ord_len hd hx
    have : ∀ k, k ≤ (ord b w x).length → nl (nmK (ord b w x) k) i = 0 := by
      intro k
      induction k with
      | zero => intro _; simp only [nmK, nl_rep]; split <;> rfl
      | succ k ih =>
        intro hk
        rw [nmK, nl_set, if_neg (fun e => by have := ord_lt hd hx (j := k) (by omega); omega), ih (by omega)]
    rw [nam, this _ (Nat.le_refl _)]
    omega
theorem ren2_by {b w : List Nat} {n x : Nat} (hd : Des n b w) (hx : x < n) : By 16 (ren2 b w n x).1 ∧ By 16 (ren2 b w n x).2 := by
  have h := fun i => Nat.lt_trans (nam_16 hd hx i) (show 16 < 256 by omega)
  exact ⟨rnK_by h, rnK_by h⟩
theorem canK_by {b w : List Nat} {n k : Nat} (hd : Des n b w) (hk : k < n) : By 16 (canK b w n k).1 ∧ By 16 (canK b w n k).2 := by
  obtain ⟨x, hx, e⟩ := @canK_mem b w n k
  rw [e]
  exact ren2_by hd (by omega)
theorem canonical_spec {x0 : Bool} {n : Nat} {b w : List Nat} {H : BH} {K : Value → BH → Prop} (hb : By 16 b) (hw : By 16 w) (hd : Des n b w)
    (hK : K (DV n (canD b w n).1 (canD b w n).2) H) : CallX x0 F_impl_canonical [DV n b w] H K := by
  have hlb := hb.len
  have hlw := hw.len
  have hz := z16_len
  have hn := hd.1.1
  refine callP (by exact .cons nn_D .nil) ?_
  refine CallX_body Γ_impl_canonical ?_
  simp only [A_impl_canonical, T_aiff]
  refine T_rseq fun Kr hKr => ?_
  simp (disch := omega) only [RA, ↓reduceIte, Nat.reduceEqDiff, RD, RDS]
  refine hKr _ _ ?_
  clear hKr Kr
  try simp only [RN, reduceIte]
  try refine T_e rfl ?_
  refine T_rseq fun Kr hKr => ?_
  simp (disch := omega) only [RA, ↓reduceIte, Nat.reduceEqDiff, Nat.reduceAdd, Nat.reduceMul, Int.reduceToNat, Nat.reduceLT, reduceCtorEq, RD, RDS, RDD]
  have hq0 := ren2_by (x := 0) hd (by omega)
  have l1 := hq0.1.len
  have l2 := hq0.2.len
  simp only [ren2] at l1 l2
  refine naming_spec (x := 0) hb hw hd (by omega) ?_
  simp (disch := omega) only [RA, ↓reduceIte, Nat.reduceEqDiff, Nat.reduceAdd, Nat.reduceMul, Int.reduceToNat, Nat.reduceLT, reduceCtorEq, RD, RDS, RDD]
  refine rename_spec hb hw hd (nam_by hd (by omega)) (nam_16 hd (by omega)) ?_
  simp (disch := omega) only [RA, ↓reduceIte, Nat.reduceEqDiff, Nat.reduceAdd, Nat.reduceMul, Int.reduceToNat, Nat.reduceLT, reduceCtorEq, RD, RDS, RDD]
  refine hKr _ _ ?_
  clear hKr Kr
  try simp only [blkQ, thenQ, loopQ]
  try simp only [RN, reduceIte]
  try refine T_e rfl ?_
  refine T_rseq fun Kr hKr => ?_
  simp (disch := omega) only [RA, ↓reduceIte, Nat.reduceEqDiff, RD]
  refine hKr _ _ ?_
  clear hKr Kr
  try simp only [RN, reduceIte]
  try refine T_e rfl ?_
  clear l1 l2
  refine T_wloop (fun m f H' => ∃ k r, k + 1 ≤ n ∧ m = n - (k + 1) ∧ r = canK b w n k ∧ f 1 = P 0 0 ∧ f 2 = P 1 0 ∧ f 3 = P 2 0 ∧ f 4 = I ((k + 1 : Nat) : Int) ∧ H' = [some (DC n b w), some (DC 0 z16 z16), some (DC n r.1 r.2)]) (n - 1) ?_ ?_
  · refine ⟨_, _, Gh.refl, 0, ren2 b w n 0, by omega, by omega, rfl, ?_, ?_, ?_, ?_, rfl⟩
    any_goals (simp (disch := omega) only [RA, ↓reduceIte, Nat.reduceEqDiff, RD, RE, *] <;> rfl)
  · rintro m f H' R ⟨k, r, hk, rfl, hr, g1, g2, g3, g4, rfl⟩ hN hX hR hE
    simp only [A_impl_canonical.l0, T_aiff]
    have hrb := canK_by (k := k) hd (by omega)
    rw [← hr] at hrb
    have l1 := hrb.1.len
    have l2 := hrb.2.len
    refine T_rseq fun Kr hKr => ?_
    simp (disch := omega) only [RA, ↓reduceIte, Nat.reduceEqDiff, RD, g1, g4, RDS]
    refine hKr _ _ ?_
    clear hKr Kr
    try simp only [RN, reduceIte]
    try refine T_e rfl ?_
    refine T_csplit (p := k + 1 < n) (by simp only [RA, ↓reduceIte, Nat.reduceEqDiff] <;> rfl) (by (try simp only [RB]) <;> first | done | exact Iff.rfl | omega | simp) (fun hc => ?_) (fun hc => ?_) <;> (try simp only [RN, reduceIte]) <;> (try refine T_e rfl ?_)
    · have hq := ren2_by hd hc
      have l3 := hq.1.len
      have l4 := hq.2.len
      simp only [ren2] at l3 l4
      have e1 : ((k + 1 : Nat) : Int) + 1 = ((k + 1 + 1 : Nat) : Int) := by omega
      first | refine T_bfree rfl ?_ | refine T_bfree' rfl ?_
      try simp only [RN, reduceIte]
      try refine T_e rfl ?_
      refine T_rseq fun Kr hKr => ?_
      simp (disch := omega) only [RA, ↓reduceIte, Nat.reduceEqDiff, Nat.reduceAdd, Nat.reduceMul, Int.reduceToNat, Nat.reduceLT, reduceCtorEq, RD, g1, g4, RDS, RDD]
      refine naming_spec hb hw hd hc ?_
      simp (disch := omega) only [RA, ↓reduceIte, Nat.reduceEqDiff, Nat.reduceAdd, Nat.reduceMul, Int.reduceToNat, Nat.reduceLT, reduceCtorEq, RD, g1, g4, RDS, RDD]
      refine rename_spec hb hw hd (nam_by hd hc) (nam_16 hd hc) ?_
      simp (disch := omega) only [RA, ↓reduceIte, Nat.reduceEqDiff, Nat.reduceAdd, Nat.reduceMul, Int.reduceToNat, Nat.reduceLT, reduceCtorEq, RD, g1, g4, RDS, RDD]
      refine hKr _ _ ?_
      clear hKr Kr
      try simp only [blkQ, thenQ, loopQ]
      try simp only [RN, reduceIte]
      try refine T_e rfl ?_
      refine T_rseq fun Kr hKr => ?_
      simp (disch := omega) only [RA, ↓reduceIte, Nat.reduceEqDiff, RD, g3, RDS, RDD]
      refine compareDessins_spec hq.1 hq.2 hrb.1 hrb.2 ?_
      simp (disch := omega) only [RA, ↓reduceIte, Nat.reduceEqDiff, RD]
      refine hKr _ _ ?_
      clear hKr Kr
      try simp only [blkQ, thenQ, loopQ]
      try simp only [RN, reduceIte]
      try refine T_e rfl ?_
      have hlt := cmpD_lt (x := ren2 b w n (k + 1)) (y := r) hq.1 hq.2 hrb.1 hrb.2
      have hlt' : cmpD (rnK b (nam b w (k + 1)) n, rnK w (nam b w (k + 1)) n) (r.1, r.2) < 0 ↔ lt2 (ren2 b w n (k + 1)) r := hlt
      refine T_csplit (p := cmpD (rnK b (nam b w (k + 1)) n, rnK w (nam b w (k + 1)) n) (r.1, r.2) < 0) (by simp only [RA, ↓reduceIte, Nat.reduceEqDiff] <;> rfl) (by (try simp only [RB]) <;> first | done | exact Iff.rfl | omega | simp) (fun hc => ?_) (fun hc => ?_) <;> (try simp only [RN, reduceIte]) <;> (try refine T_e rfl ?_)
      · refine T_rseq fun Kr hKr => ?_
        simp (disch := omega) only [RA, ↓reduceIte, Nat.reduceEqDiff, RD, g3, RDS, RDD]
        refine hKr _ _ ?_
        clear hKr Kr
        try simp only [RN, reduceIte]
        try refine T_e rfl ?_
        refine T_reg_k fun Kr hKr => ?_
        simp (disch := omega) only [RA, ↓reduceIte, Nat.reduceEqDiff, RD, g4, e1]
        refine hKr _ _ ?_
        clear hKr Kr
        refine hN (n - (k + 1 + 1)) _ _ _ _ (by omega) (Gh.nrm [0, 1, 2] rfl rfl (by simp only [RH, NN_D])) ⟨k + 1, ren2 b w n (k + 1), by omega, rfl, ?_, ?_, ?_, ?_, ?_, rfl⟩
        any_goals (simp (disch := omega) only [RA, ↓reduceIte, Nat.reduceEqDiff, RD, RE, *] <;> rfl)
        rw [canK, ← hr, if_pos (hlt'.1 hc)]
      · try simp only [RN, reduceIte]
        try refine T_e rfl ?_
        refine T_reg_k fun Kr hKr => ?_
        simp (disch := omega) only [RA, ↓reduceIte, Nat.reduceEqDiff, RD, g4, e1]
        refine hKr _ _ ?_
        clear hKr Kr
        refine hN (n - (k + 1 + 1)) _ _ _ _ (by omega) (Gh.nrm [0, 1, 2] rfl rfl (by simp only [RH, NN_D])) ⟨k + 1, r, by omega, rfl, ?_, ?_, ?_, ?_, ?_, rfl⟩
        any_goals (simp (disch := omega) only [RA, ↓reduceIte, Nat.reduceEqDiff, RD, RE, *] <;> rfl)
        rw [canK, ← hr, if_neg (fun h => hc (hlt'.2 h))]
    · refine hX _ _ ?_
      obtain rfl : k = n - 1 := by omega
      rw [canD, ← hr] at hK
      refine T_rseq fun Kr hKr => ?_
      simp (disch := omega) only [RA, ↓reduceIte, Nat.reduceEqDiff, RD, g2, g3, RDS, RDD]
      refine hKr _ _ ?_
      clear hKr Kr
      try simp only [RN, reduceIte]
      try refine T_e rfl ?_
      refine bodyQ_ret (by simp (disch := omega) only [RA, ↓reduceIte, Nat.reduceEqDiff, RD, resAll, resOf, g2, RDS, RDD]; rfl) GhV.refl ?_
      simp only [tup]
      exact ⟨nn_D, hK⟩
end Go.Bm
