/- DpMe, DpMf -/
import Derived.Test.YteklchkdgpoedaaDpG5
/- Draws of polynomials: l06Draw. -/
set_option linter.unusedVariables false
set_option linter.unusedSimpArgs false
set_option linter.unusedSectionVars false
namespace Go.Bm
open Go Go.Am
theorem bApp_nil {H : BH} {c bytes : Nat} {v : Value} (h : blk H c = some [v]) (h1 : one2 v = true) (hb : bytes ≤ 140737488355328) : bAppend 1 bytes (.slice none 0 0) (S c 0 1 1) H = some (S H.length 0 1 1, H ++ [some [v]]) := by
  simp [bAppend, newC, h, hb]
theorem app1_J {H : BH} {b bytes cn : Nat} {xs : List Int} {y : Int} {r : List Value} (h : (xs.length + 1) * bytes ≤ 140737488355328) : app1 (some [.int .i64 y]) (some (xs.map I ++ r)) H b xs.length bytes cn = some (S H.length 0 (xs.length + 1) 1, (H.set b none) ++ [some ((xs ++ [y]).map I)]) := by
  simp only [app1]
  rw [if_pos ⟨by simp, h, rfl⟩]
  simp
/-- A result that is one's own is only read from now on; of the memory the source is kept. -/
theorem ret_own {M : BH} {j m : Nat} {ys : List Int} {c0 : List Value} (h0 : blk M 0 = some c0) (hj : blk M j = some (ys.map I ++ List.replicate m .nilIface)) (hj0 : j ≠ 0) (hn : HN M) : GhV 1 (S j 0 ys.length 1) M (FI ys) [some c0] := by
  have hjl := blk_lt hj
  have hN : NNL (ys.map I ++ List.replicate m .nilIface) := hn j _ hj
  have s1 := GhV.fz (k := 1) (v := S j 0 ys.length 1) hj hN
  have e1 : frzT j (ys.map I ++ List.replicate m .nilIface) (S j 0 ys.length 1) = FI ys := by
    simp [frzT, frz]
  rw [e1] at s1
  have hn2 : HN (M.set j none) := fun i cs hc => by
    rw [blk_setN hjl] at hc
    split at hc
    · cases hc
    · exact hn i cs hc
  have s2 := GhV.norm (k := 1) (v := FI ys) [0] (by simp) (fun i hi => by rw [show i = 0 by omega]; rfl) hn2 NN.fz
  have e2 : ([0] : List Nat).map (blk (M.set j none)) = [some c0] := by
    simp only [List.map_cons, List.map_nil]
    rw [blk_setN hjl, if_neg (Ne.symm hj0), h0]
  rw [e2] at s2
  exact s1.trans s2
section
variable {code : List Nat} {a : Nat} {h : Int} {H : BH}
theorem l06Draw_one {most : Nat} {K : Value → BH → Prop} (ha : a ≤ code.length) (hl : code.length ≤ 1048576) (hcd : ∀ i, nl code i < 256) (hm : most ≤ 17)
    (hK : ∀ xs a' h', a' ≤ code.length → xs.length ≤ 20 → (∀ y ∈ xs, -1 ≤ y ∧ y ≤ 10007) → K (FI xs) [some (SC code a' h')]) : CallX false F_spec_l06Draw [P 0 0, I most] [some (SC code a h)] K := by
  refine CallX_body Γ_spec_l06Draw ?_
  simp only [A_spec_l06Draw, T_aiff]
  refine T_rseq fun Kr hKr => ?_
  simp (disch := omega) only [RA, ↓reduceIte, Nat.reduceEqDiff, Nat.reduceBEq, Nat.reduceSub, Nat.reduceAdd, Nat.reduceMul, Nat.reduceLT, Nat.reduceLeDiff, Int.reduceLE, Int.reduceLT, Int.reduceEq, Int.reduceNeg, Int.reduceToNat, Int.reduceMul, Int.reduceAdd, Int.reduceSub, Int.reduceBEq, Int.reduceBNe, reduceCtorEq, RD]
  refine hKr _ _ ?_
  clear hKr Kr
  try simp only [RN, reduceIte]
  try refine T_e rfl ?_
  refine T_rseq fun Kr hKr => ?_
  simp (disch := omega) only [RA, ↓reduceIte, Nat.reduceEqDiff, Nat.reduceBEq, Nat.reduceSub, Nat.reduceAdd, Nat.reduceMul, Nat.reduceLT, Nat.reduceLeDiff, Int.reduceLE, Int.reduceLT, Int.reduceEq, Int.reduceNeg, Int.reduceToNat, Int.reduceMul, Int.reduceAdd, Int.reduceSub, Int.reduceBEq, Int.reduceBNe, reduceCtorEq, RD]
  refine hKr _ _ ?_
  clear hKr Kr
  try simp only [RN, reduceIte]
  try refine T_e rfl ?_
  refine T_rseq fun Kr hKr => ?_
  simp (disch := omega) only [RA, ↓reduceIte, Nat.reduceEqDiff, RD]
  refine l01Next_spec (i := 0) rfl ha hl hcd (by omega) fun v a1 h1 k1 k2 k3 k4 k5 => ?_
  have hv := k4 (by omega)
  obtain ⟨c, rfl⟩ : ∃ c : Nat, v = c := ⟨v.toNat, by omega⟩
  simp (disch := omega) only [RA, ↓reduceIte, Nat.reduceEqDiff, Nat.reduceBEq, Nat.reduceSub, Nat.reduceAdd, Nat.reduceMul, Nat.reduceLT, Nat.reduceLeDiff, Int.reduceLE, Int.reduceLT, Int.reduceEq, Int.reduceNeg, Int.reduceToNat, Int.reduceMul, Int.reduceAdd, Int.reduceSub, Int.reduceBEq, Int.reduceBNe, reduceCtorEq, RD]
  refine hKr _ _ ?_
  clear hKr Kr
  try simp only [blkQ, thenQ, loopQ]
  try simp only [RN, reduceIte]
  try refine T_e rfl ?_
  refine T_wloop (fun mm f H' => ∃ (xs : List Int) (a : Nat) (h : Int), mm + xs.length ≤ 18 ∧ a ≤ code.length ∧ (∀ y ∈ xs, (-1 : Int) ≤ y ∧ y ≤ 10007) ∧ f 0 = P 0 0 ∧ f 5 = S 1 0 xs.length 1 ∧ f 6 = I (mm : Nat) ∧ H' = [some (SC code a h), some (xs.map I)]) (c) ?_ ?_
  · refine ⟨_, _, Gh.refl, [], a1, h1, by simp; omega, k1, by simp, ?_, ?_, ?_, rfl⟩
    any_goals (simp (disch := omega) only [RA, ↓reduceIte, Nat.reduceEqDiff, RD, RE, *] <;> rfl)
  · rintro mm f H' R ⟨xs, a, h, hmx, ha, hxs, g0, g5, g6, rfl⟩ hN hX hR hE
    simp only [A_spec_l06Draw.l0, T_aiff]
    refine T_rseq fun Kr hKr => ?_
    simp (disch := omega) only [RA, ↓reduceIte, Nat.reduceEqDiff, RD, g6]
    refine hKr _ _ ?_
    clear hKr Kr
    try simp only [RN, reduceIte]
    try refine T_e rfl ?_
    refine T_csplit (p := 0 < mm) (by simp only [RA, ↓reduceIte, Nat.reduceEqDiff] <;> rfl) (by (try simp only [RB]) <;> first | done | exact Iff.rfl | omega | simp) (fun hc => ?_) (fun hc => ?_) <;> (try simp only [RN, reduceIte]) <;> (try refine T_e rfl ?_)
    · have hmm : 0 < mm := by assumption
      obtain ⟨q, rfl⟩ : ∃ q, mm = q + 1 := ⟨mm - 1, by omega⟩
      have hnext : ∀ f' (y : Int) a' h', -1 ≤ y ∧ y ≤ 10007 → a' ≤ code.length → f' 0 = P 0 0 → f' 5 = S 1 0 (xs.length + 1) 1 → f' 6 = I ((q + 1 : Nat) : Int) → T 1 A_spec_l06Draw.r4 R f' [some (SC code a' h'), some ((xs ++ [y]).map I)] := by
        clear g0 g5 g6
        intro f' y a' h' hy hA g0 g5 g6
        have e1 : ((q + 1 : Nat) : Int) - 1 = (q : Nat) := by omega
        refine T_reg_k fun Kr hKr => ?_
        simp (disch := omega) only [RA, ↓reduceIte, Nat.reduceEqDiff, RD, g6, e1]
        refine hKr _ _ ?_
        clear hKr Kr
        refine hN q _ _ _ _ (by omega) Gh.refl ⟨xs ++ [y], a', h', by simp; omega, hA, fun z hz => ?_, ?_, ?_, ?_, rfl⟩
        any_goals (simp (disch := omega) only [RA, ↓reduceIte, Nat.reduceEqDiff, RD, RE, *] <;> rfl)
        all_goals first
          | (rcases List.mem_append.1 hz with hz | hz
             · exact hxs z hz
             · rw [List.mem_singleton] at hz; rw [hz]; exact hy)
          | (rw [List.length_append, List.length_singleton]; exact (by simp (disch := omega) only [RA, ↓reduceIte, Nat.reduceEqDiff, Nat.reduceAdd, Nat.reduceMul, Int.reduceToNat, Nat.reduceLT, reduceCtorEq, RD, RE, *] <;> rfl))
      first | refine T_bfree rfl ?_ | refine T_bfree' rfl ?_
      try simp only [RN, reduceIte]
      try refine T_e rfl ?_
      refine T_rseq fun Kr hKr => ?_
      simp (disch := omega) only [RA, ↓reduceIte, Nat.reduceEqDiff, Nat.reduceBEq, Nat.reduceSub, Nat.reduceAdd, Nat.reduceMul, Nat.reduceLT, Nat.reduceLeDiff, Int.reduceLE, Int.reduceLT, Int.reduceEq, Int.reduceNeg, Int.reduceToNat, Int.reduceMul, Int.reduceAdd, Int.reduceSub, Int.reduceBEq, Int.reduceBNe, reduceCtorEq, RD, g0, g5]
      refine l01Next_spec (i := 0) rfl ha hl hcd (by omega) fun v a1 h1 k1 k2 k3 k4 k5 => ?_
      have hv := k4 (by omega)
      simp (disch := omega) only [RA, ↓reduceIte, Nat.reduceEqDiff, Nat.reduceBEq, Nat.reduceSub, Nat.reduceAdd, Nat.reduceMul, Nat.reduceLT, Nat.reduceLeDiff, Int.reduceLE, Int.reduceLT, Int.reduceEq, Int.reduceNeg, Int.reduceToNat, Int.reduceMul, Int.reduceAdd, Int.reduceSub, Int.reduceBEq, Int.reduceBNe, reduceCtorEq, RD, g0]
      refine l01Next_spec (i := 0) rfl k1 hl hcd (by omega) fun w a2 h2 m1 m2 m3 m4 m5 => ?_
      have hw := m4 (by omega)
      simp (disch := omega) only [RA, ↓reduceIte, Nat.reduceEqDiff, Nat.reduceBEq, Nat.reduceSub, Nat.reduceAdd, Nat.reduceMul, Nat.reduceLT, Nat.reduceLeDiff, Int.reduceLE, Int.reduceLT, Int.reduceEq, Int.reduceNeg, Int.reduceToNat, Int.reduceMul, Int.reduceAdd, Int.reduceSub, Int.reduceBEq, Int.reduceBNe, reduceCtorEq, RD]
      refine callFz 2 rfl (by simp only [RH]) ?_
      simp only [RZ, frz_all ]
      refine l01Pick_spec (xs := [0, 0, 1, v, w]) (i := 0) rfl m1 hl hcd (by simp) (by simp) fun j a3 h3 hj hA => ?_
      have hm := el_mem hj
      generalize el [0, 0, 1, v, w] j = y at hm ⊢
      have hy : -1 ≤ y ∧ y ≤ 10007 := by simp at hm; omega
      simp (disch := omega) only [RA, ↓reduceIte, Nat.reduceEqDiff, Nat.reduceBEq, Nat.reduceSub, Nat.reduceAdd, Nat.reduceMul, Nat.reduceLT, Nat.reduceLeDiff, Int.reduceLE, Int.reduceLT, Int.reduceEq, Int.reduceNeg, Int.reduceToNat, Int.reduceMul, Int.reduceAdd, Int.reduceSub, Int.reduceBEq, Int.reduceBNe, reduceCtorEq, RD]
      refine hKr _ _ ?_
      clear hKr Kr
      try simp only [blkQ, thenQ, loopQ]
      try simp only [RN, reduceIte]
      try refine T_e rfl ?_
      refine T_gh (Gh.nrm [0, 4] rfl rfl (by simp only [RH, NNL_SC])) ?_
      refine hnext _ y a3 h3 hy hA ?_ ?_ ?_
      any_goals (simp (disch := omega) only [RA, ↓reduceIte, Nat.reduceEqDiff, RD, RE, *] <;> rfl)
    · refine hX _ _ ?_
      have hmem : ∀ z ∈ trim xs, -1 ≤ z ∧ z ≤ 10007 := fun z hz => hxs z (List.mem_of_mem_take hz)
      have htl : (trim xs).length ≤ 18 := by have := trim_le xs; omega
      have hend : ∀ f' M j (ys : List Int) m a h, a ≤ code.length → ys.length ≤ 20 → (∀ y ∈ ys, (-1 : Int) ≤ y ∧ y ≤ 10007) → blk M 0 = some (SC code a h) → blk M j = some (ys.map I ++ List.replicate m .nilIface) → j ≠ 0 → HN M → f' 5 = S j 0 ys.length 1 → T 1 (.seq A_spec_l06Draw.r12 .ret) (bodyQ 1 [.tmp 4] K) f' M := by
        clear g0 g5 g6
        intro f' M j ys m a h hA hy1 hy2 h0 hj hj0 hn g5
        refine T_rseq fun Kr hKr => ?_
        simp (disch := omega) only [RA, ↓reduceIte, Nat.reduceEqDiff, RD, g5]
        refine hKr _ _ ?_
        clear hKr Kr
        try simp only [RN, reduceIte]
        try refine T_e rfl ?_
        refine bodyQ_ret (vs := [S j 0 ys.length 1]) ?_ (ret_own h0 hj hj0 hn) ?_
        · simp (disch := omega) only [RA, ↓reduceIte, Nat.reduceEqDiff, resAll, resOf]
        · exact hK ys a h hA hy1 hy2
      have hfl : xs.length * 1 = (xs.map I).length := by simp
      refine T_rseq fun Kr hKr => ?_
      simp (disch := omega) only [RA, ↓reduceIte, Nat.reduceEqDiff, RD, g5]
      refine callFz 1 rfl (by simp only [RH]) ?_
      simp only [RZ, frz_all hfl]
      refine l06Trim_L (xs := xs) (by omega) (fun h0 => ?_) fun m => ?_
      · simp (disch := omega) only [RA, ↓reduceIte, Nat.reduceEqDiff, RD]
        refine hKr _ _ ?_
        clear hKr Kr
        try simp only [blkQ, thenQ, loopQ]
        try simp only [RN, reduceIte]
        try refine T_e rfl ?_
        refine T_rseq fun Kr hKr => ?_
        simp (disch := omega) only [RA, ↓reduceIte, Nat.reduceEqDiff, RD, g0]
        refine l01Next_spec (i := 0) rfl ha hl hcd (by omega) fun v a1 h1 k1 k2 k3 k4 k5 => ?_
        have hv := k4 (by omega)
        simp (disch := omega) only [RA, ↓reduceIte, Nat.reduceEqDiff, Nat.reduceBEq, Nat.reduceSub, Nat.reduceAdd, Nat.reduceMul, Nat.reduceLT, Nat.reduceLeDiff, Int.reduceLE, Int.reduceLT, Int.reduceEq, Int.reduceNeg, Int.reduceToNat, Int.reduceMul, Int.reduceAdd, Int.reduceSub, Int.reduceBEq, Int.reduceBNe, reduceCtorEq, RD]
        refine hKr _ _ ?_
        clear hKr Kr
        try simp only [blkQ, thenQ, loopQ]
        try simp only [RN, reduceIte]
        try refine T_e rfl ?_
        have hb0 : ∀ z : Int, bAppend 1 8 (.slice none 0 0) (S 2 0 1 1) [some (SC code a1 h1), none, some [I z]] = some (S 3 0 1 1, [some (SC code a1 h1), none, some [I z], some [I z]]) := fun z => bApp_nil rfl rfl (by omega)
        first | refine T_bfree rfl ?_ | refine T_bfree' rfl ?_
        try simp only [RN, reduceIte]
        try refine T_e rfl ?_
        refine T_rseq fun Kr hKr => ?_
        simp (disch := omega) only [RA, ↓reduceIte, Nat.reduceEqDiff, Nat.reduceBEq, Nat.reduceSub, Nat.reduceAdd, Nat.reduceMul, Nat.reduceLT, Nat.reduceLeDiff, Int.reduceLE, Int.reduceLT, Int.reduceEq, Int.reduceNeg, Int.reduceToNat, Int.reduceMul, Int.reduceAdd, Int.reduceSub, Int.reduceBEq, Int.reduceBNe, reduceCtorEq, RD]
        refine hKr _ _ ?_
        clear hKr Kr
        try simp only [RN, reduceIte]
        try refine T_e rfl ?_
        refine T_csplit (p := v = 0) (by simp only [RA, ↓reduceIte, Nat.reduceEqDiff, Nat.reduceBEq, Nat.reduceSub, Nat.reduceAdd, Nat.reduceMul, Nat.reduceLT, Nat.reduceLeDiff, Int.reduceLE, Int.reduceLT, Int.reduceEq, Int.reduceNeg, Int.reduceToNat, Int.reduceMul, Int.reduceAdd, Int.reduceSub, Int.reduceBEq, Int.reduceBNe, reduceCtorEq] <;> rfl) (by (try simp only [RB]) <;> first | done | exact Iff.rfl | omega | simp) (fun hc => ?_) (fun hc => ?_) <;> (try simp only [RN, reduceIte]) <;> (try refine T_e rfl ?_)
        · refine T_rseq fun Kr hKr => ?_
          simp (disch := omega) only [RA, ↓reduceIte, Nat.reduceEqDiff, Nat.reduceBEq, Nat.reduceSub, Nat.reduceAdd, Nat.reduceMul, Nat.reduceLT, Nat.reduceLeDiff, Int.reduceLE, Int.reduceLT, Int.reduceEq, Int.reduceNeg, Int.reduceToNat, Int.reduceMul, Int.reduceAdd, Int.reduceSub, Int.reduceBEq, Int.reduceBNe, reduceCtorEq, RD, hb0]
          refine hKr _ _ ?_
          clear hKr Kr
          try simp only [RN, reduceIte]
          try refine T_e rfl ?_
          exact hend _ _ 3 [0] 0 a1 h1 k1 (by simp) (fun y hy => by rw [List.mem_singleton] at hy; omega) rfl rfl (by omega) (by simp only [RH, NNL_SC]) (by simp (disch := omega) only [RA, ↓reduceIte, Nat.reduceEqDiff, Nat.reduceAdd, Nat.reduceMul, Int.reduceToNat, Nat.reduceLT, reduceCtorEq, RD, RE, *] <;> rfl)
        · refine T_rseq fun Kr hKr => ?_
          simp (disch := omega) only [RA, ↓reduceIte, Nat.reduceEqDiff, Nat.reduceBEq, Nat.reduceSub, Nat.reduceAdd, Nat.reduceMul, Nat.reduceLT, Nat.reduceLeDiff, Int.reduceLE, Int.reduceLT, Int.reduceEq, Int.reduceNeg, Int.reduceToNat, Int.reduceMul, Int.reduceAdd, Int.reduceSub, Int.reduceBEq, Int.reduceBNe, reduceCtorEq, RD]
          refine hKr _ _ ?_
          clear hKr Kr
          try simp only [RN, reduceIte]
          try refine T_e rfl ?_
          refine T_csplit (p := v = 1) (by simp only [RA, ↓reduceIte, Nat.reduceEqDiff, Nat.reduceBEq, Nat.reduceSub, Nat.reduceAdd, Nat.reduceMul, Nat.reduceLT, Nat.reduceLeDiff, Int.reduceLE, Int.reduceLT, Int.reduceEq, Int.reduceNeg, Int.reduceToNat, Int.reduceMul, Int.reduceAdd, Int.reduceSub, Int.reduceBEq, Int.reduceBNe, reduceCtorEq] <;> rfl) (by (try simp only [RB]) <;> first | done | exact Iff.rfl | omega | simp) (fun hc => ?_) (fun hc => ?_) <;> (try simp only [RN, reduceIte]) <;> (try refine T_e rfl ?_)
          · refine T_rseq fun Kr hKr => ?_
            simp (disch := omega) only [RA, ↓reduceIte, Nat.reduceEqDiff, Nat.reduceBEq, Nat.reduceSub, Nat.reduceAdd, Nat.reduceMul, Nat.reduceLT, Nat.reduceLeDiff, Int.reduceLE, Int.reduceLT, Int.reduceEq, Int.reduceNeg, Int.reduceToNat, Int.reduceMul, Int.reduceAdd, Int.reduceSub, Int.reduceBEq, Int.reduceBNe, reduceCtorEq, RD, g0]
            refine callFz 2 rfl (by simp only [RH]) ?_
            simp only [RZ, frz_all ]
            refine l01Pick_spec (H := [some (SC code a1 h1), none, none]) (h := h1) (xs := [10007, -1]) (i := 0) rfl k1 hl hcd (by simp) (by simp) fun j a3 h3 hj hA => ?_
            have hm2 := el_mem hj
            generalize el [10007, -1] j = y at hm2 ⊢
            have hy : -1 ≤ y ∧ y ≤ 10007 := by simp at hm2; omega
            have hb1 : bAppend 1 8 (.slice none 0 0) (S 3 0 1 1) [some (SC code a3 h3), none, none, some [I y]] = some (S 4 0 1 1, [some (SC code a3 h3), none, none, some [I y], some [I y]]) := bApp_nil rfl rfl (by omega)
            simp (disch := omega) only [RA, ↓reduceIte, Nat.reduceEqDiff, Nat.reduceBEq, Nat.reduceSub, Nat.reduceAdd, Nat.reduceMul, Nat.reduceLT, Nat.reduceLeDiff, Int.reduceLE, Int.reduceLT, Int.reduceEq, Int.reduceNeg, Int.reduceToNat, Int.reduceMul, Int.reduceAdd, Int.reduceSub, Int.reduceBEq, Int.reduceBNe, reduceCtorEq, RD, hb1]
            refine hKr _ _ ?_
            clear hKr Kr
            try simp only [blkQ, thenQ, loopQ]
            try simp only [RN, reduceIte]
            try refine T_e rfl ?_
            exact hend _ _ 4 [y] 0 a3 h3 hA (by simp) (fun z hz => by rw [List.mem_singleton] at hz; rw [hz]; exact hy) rfl rfl (by omega) (by simp only [RH, NNL_SC]) (by simp (disch := omega) only [RA, ↓reduceIte, Nat.reduceEqDiff, RD, RE, *] <;> rfl)
          · refine T_rseq fun Kr hKr => ?_
            simp (disch := omega) only [RA, ↓reduceIte, Nat.reduceEqDiff, Nat.reduceBEq, Nat.reduceSub, Nat.reduceAdd, Nat.reduceMul, Nat.reduceLT, Nat.reduceLeDiff, Int.reduceLE, Int.reduceLT, Int.reduceEq, Int.reduceNeg, Int.reduceToNat, Int.reduceMul, Int.reduceAdd, Int.reduceSub, Int.reduceBEq, Int.reduceBNe, reduceCtorEq, RD]
            refine hKr _ _ ?_
            clear hKr Kr
            try simp only [RN, reduceIte]
            try refine T_e rfl ?_
            refine bodyQ_ret (vs := [.slice none 0 0]) ?_ (GhV.trans (GhV.nil (k := 1) 1) (GhV.norm (k := 1) [0] (by simp) (fun i hi => by rw [show i = 0 by omega]; rfl) (HN.cons NN_SC (HN.none HN.nil)) NN.fz)) ?_
            · simp (disch := omega) only [RA, ↓reduceIte, Nat.reduceEqDiff, resAll, resOf]
            · exact hK [] a1 h1 k1 (by simp) (by simp)
      · simp (disch := omega) only [RA, ↓reduceIte, Nat.reduceEqDiff, RD]
        refine hKr _ _ ?_
        clear hKr Kr
        try simp only [blkQ, thenQ, loopQ]
        try simp only [RN, reduceIte]
        try refine T_e rfl ?_
        refine T_rseq fun Kr hKr => ?_
        simp (disch := omega) only [RA, ↓reduceIte, Nat.reduceEqDiff, RD, g0]
        refine l01Next_spec (i := 0) rfl ha hl hcd (by omega) fun v a1 h1 k1 k2 k3 k4 k5 => ?_
        have hv := k4 (by omega)
        simp (disch := omega) only [RA, ↓reduceIte, Nat.reduceEqDiff, Nat.reduceBEq, Nat.reduceSub, Nat.reduceAdd, Nat.reduceMul, Nat.reduceLT, Nat.reduceLeDiff, Int.reduceLE, Int.reduceLT, Int.reduceEq, Int.reduceNeg, Int.reduceToNat, Int.reduceMul, Int.reduceAdd, Int.reduceSub, Int.reduceBEq, Int.reduceBNe, reduceCtorEq, RD]
        refine hKr _ _ ?_
        clear hKr Kr
        try simp only [blkQ, thenQ, loopQ]
        try simp only [RN, reduceIte]
        try refine T_e rfl ?_
        first | refine T_bfree rfl ?_ | refine T_bfree' rfl ?_
        try simp only [RN, reduceIte]
        try refine T_e rfl ?_
        refine T_rseq fun Kr hKr => ?_
        simp (disch := omega) only [RA, ↓reduceIte, Nat.reduceEqDiff, Nat.reduceBEq, Nat.reduceSub, Nat.reduceAdd, Nat.reduceMul, Nat.reduceLT, Nat.reduceLeDiff, Int.reduceLE, Int.reduceLT, Int.reduceEq, Int.reduceNeg, Int.reduceToNat, Int.reduceMul, Int.reduceAdd, Int.reduceSub, Int.reduceBEq, Int.reduceBNe, reduceCtorEq, RD]
        refine hKr _ _ ?_
        clear hKr Kr
        try simp only [RN, reduceIte]
        try refine T_e rfl ?_
        refine T_csplit (p := v = 0) (by simp only [RA, ↓reduceIte, Nat.reduceEqDiff, Nat.reduceBEq, Nat.reduceSub, Nat.reduceAdd, Nat.reduceMul, Nat.reduceLT, Nat.reduceLeDiff, Int.reduceLE, Int.reduceLT, Int.reduceEq, Int.reduceNeg, Int.reduceToNat, Int.reduceMul, Int.reduceAdd, Int.reduceSub, Int.reduceBEq, Int.reduceBNe, reduceCtorEq] <;> rfl) (by (try simp only [RB]) <;> first | done | exact Iff.rfl | omega | simp) (fun hc => ?_) (fun hc => ?_) <;> (try simp only [RN, reduceIte]) <;> (try refine T_e rfl ?_)
        · refine T_rseq fun Kr hKr => ?_
          simp (disch := omega) only [RA, ↓reduceIte, Nat.reduceEqDiff, Nat.reduceBEq, Nat.reduceSub, Nat.reduceAdd, Nat.reduceMul, Nat.reduceLT, Nat.reduceLeDiff, Int.reduceLE, Int.reduceLT, Int.reduceEq, Int.reduceNeg, Int.reduceToNat, Int.reduceMul, Int.reduceAdd, Int.reduceSub, Int.reduceBEq, Int.reduceBNe, reduceCtorEq, RD, app1_J]
          refine hKr _ _ ?_
          clear hKr Kr
          try simp only [RN, reduceIte]
          try refine T_e rfl ?_
          exact hend _ _ 4 (trim xs ++ [0]) 0 a1 h1 k1 (by simp; omega) (fun y hy => by
            rcases List.mem_append.1 hy with hy | hy
            · exact hmem y hy
            · rw [List.mem_singleton] at hy; omega) rfl (by simp; rfl) (by omega) (by simp only [RH, NNL_SC]) (by simp (disch := omega) only [RA, ↓reduceIte, Nat.reduceEqDiff, Nat.reduceAdd, Nat.reduceMul, Int.reduceToNat, Nat.reduceLT, reduceCtorEq, RD, RE, *] <;> rfl)
        · refine T_rseq fun Kr hKr => ?_
          simp (disch := omega) only [RA, ↓reduceIte, Nat.reduceEqDiff, Nat.reduceBEq, Nat.reduceSub, Nat.reduceAdd, Nat.reduceMul, Nat.reduceLT, Nat.reduceLeDiff, Int.reduceLE, Int.reduceLT, Int.reduceEq, Int.reduceNeg, Int.reduceToNat, Int.reduceMul, Int.reduceAdd, Int.reduceSub, Int.reduceBEq, Int.reduceBNe, reduceCtorEq, RD]
          refine hKr _ _ ?_
          clear hKr Kr
          try simp only [RN, reduceIte]
          try refine T_e rfl ?_
          refine T_csplit (p := v = 1) (by simp only [RA, ↓reduceIte, Nat.reduceEqDiff, Nat.reduceBEq, Nat.reduceSub, Nat.reduceAdd, Nat.reduceMul, Nat.reduceLT, Nat.reduceLeDiff, Int.reduceLE, Int.reduceLT, Int.reduceEq, Int.reduceNeg, Int.reduceToNat, Int.reduceMul, Int.reduceAdd, Int.reduceSub, Int.reduceBEq, Int.reduceBNe, reduceCtorEq] <;> rfl) (by (try simp only [RB]) <;> first | done | exact Iff.rfl | omega | simp) (fun hc => ?_) (fun hc => ?_) <;> (try simp only [RN, reduceIte]) <;> (try refine T_e rfl ?_)
          · refine T_rseq fun Kr hKr => ?_
            simp (disch := omega) only [RA, ↓reduceIte, Nat.reduceEqDiff, Nat.reduceBEq, Nat.reduceSub, Nat.reduceAdd, Nat.reduceMul, Nat.reduceLT, Nat.reduceLeDiff, Int.reduceLE, Int.reduceLT, Int.reduceEq, Int.reduceNeg, Int.reduceToNat, Int.reduceMul, Int.reduceAdd, Int.reduceSub, Int.reduceBEq, Int.reduceBNe, reduceCtorEq, RD, g0]
            refine callFz 3 rfl (by simp only [RH]) ?_
            simp only [RZ, frz_all ]
            refine l01Pick_spec (H := [some (SC code a1 h1), none, some ((trim xs).map I ++ List.replicate m .nilIface), none]) (h := h1) (xs := [10007, -1]) (i := 0) rfl k1 hl hcd (by simp) (by simp) fun j a3 h3 hj hA => ?_
            have hm2 := el_mem hj
            generalize el [10007, -1] j = y at hm2 ⊢
            have hy : -1 ≤ y ∧ y ≤ 10007 := by simp at hm2; omega
            simp (disch := omega) only [RA, ↓reduceIte, Nat.reduceEqDiff, Nat.reduceBEq, Nat.reduceSub, Nat.reduceAdd, Nat.reduceMul, Nat.reduceLT, Nat.reduceLeDiff, Int.reduceLE, Int.reduceLT, Int.reduceEq, Int.reduceNeg, Int.reduceToNat, Int.reduceMul, Int.reduceAdd, Int.reduceSub, Int.reduceBEq, Int.reduceBNe, reduceCtorEq, RD, app1_J]
            refine hKr _ _ ?_
            clear hKr Kr
            try simp only [blkQ, thenQ, loopQ]
            try simp only [RN, reduceIte]
            try refine T_e rfl ?_
            exact hend _ _ 5 (trim xs ++ [y]) 0 a3 h3 hA (by simp; omega) (fun z hz => by
              rcases List.mem_append.1 hz with hz | hz
              · exact hmem z hz
              · rw [List.mem_singleton] at hz; rw [hz]; exact hy) rfl (by simp; rfl) (by omega) (by simp only [RH, NNL_SC]) (by simp (disch := omega) only [RA, ↓reduceIte, Nat.reduceEqDiff, RD, RE, *] <;> rfl)
          · exact hend _ _ 2 (trim xs) m a1 h1 k1 (by omega) hmem rfl rfl (by omega) (HN.cons NN_SC (HN.none (HN.cons (.append (.map fun _ => .int) fun c hc => by rw [List.eq_of_mem_replicate hc]; exact NN.junk) HN.nil))) (by simp (disch := omega) only [RA, ↓reduceIte, Nat.reduceEqDiff, RD, RE, *] <;> rfl)
theorem l06Draw_spec {most i : Nat} {K : Value → BH → Prop} (hb : blk H i = some (SC code a h)) (ha : a ≤ code.length) (hl : code.length ≤ 1048576) (hcd : ∀ i, nl code i < 256) (hm : most ≤ 17)
    (hK : ∀ xs a' h', a' ≤ code.length → xs.length ≤ 20 → (∀ y ∈ xs, -1 ≤ y ∧ y ≤ 10007) → K (FI xs) (H.set i (some (SC code a' h')))) : CallX false F_spec_l06Draw [P i 0, I most] H K := by
  refine call1 hb NN_SC ?_
  have e : ([P i 0, I most] : List Value).map (ren [i]) = [P 0 0, I most] := by simp [ren, ren1, nm]
  rw [e]
  exact l06Draw_one ha hl hcd hm fun xs a' h' k1 k2 k3 => ⟨.fz, HN.cons NN_SC HN.nil, hK xs a' h' k1 k2 k3⟩
theorem l06DrawValue_spec {i : Nat} {K : Value → BH → Prop} (hb : blk H i = some (SC code a h)) (ha : a ≤ code.length) (hl : code.length ≤ 1048576) (hcd : ∀ i, nl code i < 256)
    (hK : ∀ v a' h', a' ≤ code.length → 0 ≤ v → v ≤ 10007 → K (I v) (H.set i (some (SC code a' h')))) : CallX false F_spec_l06DrawValue [P i 0] H K := by
  refine call1 hb NN_SC ?_
  have e : ([P i 0] : List Value).map (ren [i]) = [P 0 0] := by simp [ren, ren1, nm]
  rw [e]
  exact l06DrawValue_one ha hl hcd fun v a' h' k1 k2 k3 => ⟨.int, HN.cons NN_SC HN.nil, hK v a' h' k1 k2 k3⟩
end
end Go.Bm

/- Draws of polynomials: l06Pair, l06Some, and what the laws draw. -/
set_option linter.unusedVariables false
set_option linter.unusedSimpArgs false
set_option linter.unusedSectionVars false
namespace Go.Bm
open Go Go.Am
section
variable {code : List Nat} {a : Nat} {h : Int} {H : BH} {x : Bool}
theorem NN_2I {xs ys : List Int} : NN (.tuple ⟨[FI xs, FI ys]⟩) := NN.tuple (NNL.cons .fz (NNL.cons .fz NNL.nil))
theorem NN_II {xs : List Int} {c : Int} : NN (.tuple ⟨[FI xs, I c]⟩) := NN.tuple (NNL.cons .fz (NNL.cons .int NNL.nil))
theorem ptimes_short {xs ys : List Int} (hx : xs.length ≤ 40) (hy : ys.length ≤ 40) : (ptimes xs ys).length ≤ 100 := by have := ptimes_len xs ys; omega
theorem l06Pair_spec {K : Value → BH → Prop} (hl : code.length ≤ 1048576) (hcd : ∀ i, nl code i < 256)
    (hK : ∀ xs ys, xs.length ≤ 100 → ys.length ≤ 100 → K (.tuple ⟨[FI xs, FI ys]⟩) H) : CallX x F_spec_l06Pair [FB code] H K := by
  refine callP (.cons .fz .nil) ?_
  refine CallX_body Γ_spec_l06Pair ?_
  simp only [A_spec_l06Pair, T_aiff]
  refine T_rseq fun Kr hKr => ?_
  simp (disch := omega) only [RA, ↓reduceIte, Nat.reduceEqDiff, RD]
  refine hKr _ _ ?_
  clear hKr Kr
  try simp only [RN, reduceIte]
  try refine T_e rfl ?_
  refine T_rseq fun Kr hKr => ?_
  simp (disch := omega) only [RA, ↓reduceIte, Nat.reduceEqDiff, RD]
  refine l01From_spec hl hcd fun h => ?_
  simp (disch := omega) only [RA, ↓reduceIte, Nat.reduceEqDiff, RD]
  refine hKr _ _ ?_
  clear hKr Kr
  try simp only [blkQ, thenQ, loopQ]
  try simp only [RN, reduceIte]
  try refine T_e rfl ?_
  refine T_rseq fun Kr hKr => ?_
  simp (disch := omega) only [RA, ↓reduceIte, Nat.reduceEqDiff, RD]
  refine l06Draw_spec (most := 8) (i := 0) rfl (Nat.zero_le _) hl hcd (by omega) fun xs a h hA hx _ => ?_
  simp (disch := omega) only [RA, ↓reduceIte, Nat.reduceEqDiff, RD]
  refine l06Draw_spec (most := 8) (i := 0) rfl hA hl hcd (by omega) fun ys a h hA hy _ => ?_
  simp (disch := omega) only [RA, ↓reduceIte, Nat.reduceEqDiff, RD]
  refine hKr _ _ ?_
  clear hKr Kr
  try simp only [blkQ, thenQ, loopQ]
  try simp only [RN, reduceIte]
  try refine T_e rfl ?_
  have hend : ∀ f' H', f' 5 = FI xs → f' 6 = FI ys → T 0 (.seq A_spec_l06Pair.r7 .ret) (bodyQ 0 [.tmp 2, .tmp 3] fun v _ => NN v ∧ K v H) f' H' := by
    intro f' H' g5 g6
    refine T_rseq fun Kr hKr => ?_
    simp (disch := omega) only [RA, ↓reduceIte, Nat.reduceEqDiff, RD, g5, g6]
    refine hKr _ _ ?_
    clear hKr Kr
    try simp only [RN, reduceIte]
    try refine T_e rfl ?_
    refine bodyQ_ret (by simp (disch := omega) only [RA, ↓reduceIte, Nat.reduceEqDiff, RD, resAll, resOf]; rfl) GhV.refl ?_
    simp only [tup]
    exact ⟨NN_2I, hK xs ys (by omega) (by omega)⟩
  refine T_rseq fun Kr hKr => ?_
  simp (disch := omega) only [RA, ↓reduceIte, Nat.reduceEqDiff, RD]
  refine l01Next_spec (i := 0) rfl hA hl hcd (by omega) fun v a h hA _ _ _ _ => ?_
  by_cases hv : v = 0
  · subst hv
    simp (disch := omega) only [RA, ↓reduceIte, Nat.reduceEqDiff, RD]
    refine l06Is_L (by omega) ?_
    by_cases h1 : Poly xs
    · rw [decide_eq_true h1]
      simp (disch := omega) only [RA, ↓reduceIte, Nat.reduceEqDiff, RD]
      refine l06Is_L (by omega) ?_
      by_cases h2 : Poly ys
      · rw [decide_eq_true h2]
        by_cases h3 : 0 < xs.length
        · by_cases h4 : 0 < ys.length
          · simp (disch := omega) only [RA, ↓reduceIte, Nat.reduceEqDiff, RD, h3, h4]
            refine hKr _ _ ?_
            clear hKr Kr
            try simp only [blkQ, thenQ, loopQ]
            try simp only [RN, reduceIte]
            try refine T_e rfl ?_
            refine T_cseq (t := true) (by simp (disch := omega) only [RA, ↓reduceIte, Nat.reduceEqDiff, RD]) ?_
            try simp only [RN, reduceIte]
            try refine T_e rfl ?_
            refine T_rseq fun Kr hKr => ?_
            simp (disch := omega) only [RA, ↓reduceIte, Nat.reduceEqDiff, RD]
            refine l06Draw_spec (most := 3) (i := 0) rfl hA hl hcd (by omega) fun zs a h hA hz _ => ?_
            simp (disch := omega) only [RA, ↓reduceIte, Nat.reduceEqDiff, RD]
            refine hKr _ _ ?_
            clear hKr Kr
            try simp only [blkQ, thenQ, loopQ]
            try simp only [RN, reduceIte]
            try refine T_e rfl ?_
            refine T_rseq fun Kr hKr => ?_
            simp (disch := omega) only [RA, ↓reduceIte, Nat.reduceEqDiff, RD]
            refine l06Is_L (by omega) ?_
            by_cases h5 : Poly zs
            · rw [decide_eq_true h5]
              by_cases h6 : 0 < zs.length
              · simp (disch := omega) only [RA, ↓reduceIte, Nat.reduceEqDiff, RD, h6]
                refine hKr _ _ ?_
                clear hKr Kr
                try simp only [blkQ, thenQ, loopQ]
                try simp only [RN, reduceIte]
                try refine T_e rfl ?_
                refine T_cseq (t := true) (by simp (disch := omega) only [RA, ↓reduceIte, Nat.reduceEqDiff, RD]) ?_
                try simp only [RN, reduceIte]
                try refine T_e rfl ?_
                refine T_rseq fun Kr hKr => ?_
                simp (disch := omega) only [RA, ↓reduceIte, Nat.reduceEqDiff, RD]
                refine l06Times_L h1.fit (by omega) h5.fit (by omega) ?_
                simp (disch := omega) only [RA, ↓reduceIte, Nat.reduceEqDiff, RD]
                refine l06Times_L h2.fit (by omega) h5.fit (by omega) ?_
                simp (disch := omega) only [RA, ↓reduceIte, Nat.reduceEqDiff, RD]
                refine hKr _ _ ?_
                clear hKr Kr
                try simp only [blkQ, thenQ, loopQ]
                try simp only [RN, reduceIte]
                try refine T_e rfl ?_
                refine bodyQ_ret (by simp (disch := omega) only [RA, ↓reduceIte, Nat.reduceEqDiff, RD, resAll, resOf]; rfl) GhV.refl ?_
                simp only [tup]
                exact ⟨NN_2I, hK _ _ (ptimes_short (by omega) (by omega)) (ptimes_short (by omega) (by omega))⟩
              · simp (disch := omega) only [RA, ↓reduceIte, Nat.reduceEqDiff, RD, h6]
                refine hKr _ _ ?_
                clear hKr Kr
                try simp only [blkQ, thenQ, loopQ]
                try simp only [RN, reduceIte]
                try refine T_e rfl ?_
                refine T_cseq (t := false) (by simp (disch := omega) only [RA, ↓reduceIte, Nat.reduceEqDiff, RD]) ?_
                try simp only [RN, reduceIte]
                try refine T_e rfl ?_
                refine hend _ _ ?_ ?_
                any_goals (simp (disch := omega) only [RA, ↓reduceIte, Nat.reduceEqDiff, RD, RE, *] <;> rfl)
            · rw [decide_eq_false h5]
              simp (disch := omega) only [RA, ↓reduceIte, Nat.reduceEqDiff, RD]
              refine hKr _ _ ?_
              clear hKr Kr
              try simp only [blkQ, thenQ, loopQ]
              try simp only [RN, reduceIte]
              try refine T_e rfl ?_
              refine T_cseq (t := false) (by simp (disch := omega) only [RA, ↓reduceIte, Nat.reduceEqDiff, RD]) ?_
              try simp only [RN, reduceIte]
              try refine T_e rfl ?_
              refine hend _ _ ?_ ?_
              any_goals (simp (disch := omega) only [RA, ↓reduceIte, Nat.reduceEqDiff, RD, RE, *] <;> rfl)
          · simp (disch := omega) only [RA, ↓reduceIte, Nat.reduceEqDiff, RD, h3, h4]
            refine hKr _ _ ?_
            clear hKr Kr
            try simp only [blkQ, thenQ, loopQ]
            try simp only [RN, reduceIte]
            try refine T_e rfl ?_
            refine T_cseq (t := false) (by simp (disch := omega) only [RA, ↓reduceIte, Nat.reduceEqDiff, RD]) ?_
            try simp only [RN, reduceIte]
            try refine T_e rfl ?_
            refine hend _ _ ?_ ?_
            any_goals (simp (disch := omega) only [RA, ↓reduceIte, Nat.reduceEqDiff, RD, RE, *] <;> rfl)
        · simp (disch := omega) only [RA, ↓reduceIte, Nat.reduceEqDiff, RD, h3]
          refine hKr _ _ ?_
          clear hKr Kr
          try simp only [blkQ, thenQ, loopQ]
          try simp only [RN, reduceIte]
          try refine T_e rfl ?_
          refine T_cseq (t := false) (by simp (disch := omega) only [RA, ↓reduceIte, Nat.reduceEqDiff, RD]) ?_
          try simp only [RN, reduceIte]
          try refine T_e rfl ?_
          refine hend _ _ ?_ ?_
          any_goals (simp (disch := omega) only [RA, ↓reduceIte, Nat.reduceEqDiff, RD, RE, *] <;> rfl)
      · rw [decide_eq_false h2]
        simp (disch := omega) only [RA, ↓reduceIte, Nat.reduceEqDiff, RD]
        refine hKr _ _ ?_
        clear hKr Kr
        try simp only [blkQ, thenQ, loopQ]
        try simp only [RN, reduceIte]
        try refine T_e rfl ?_
        refine T_cseq (t := false) (by simp (disch := omega) only [RA, ↓reduceIte, Nat.reduceEqDiff, RD]) ?_
        try simp only [RN, reduceIte]
        try refine T_e rfl ?_
        refine hend _ _ ?_ ?_
        any_goals (simp (disch := omega) only [RA, ↓reduceIte, Nat.reduceEqDiff, RD, RE, *] <;> rfl)
    · rw [decide_eq_false h1]
      simp (disch := omega) only [RA, ↓reduceIte, Nat.reduceEqDiff, RD]
      refine hKr _ _ ?_
      clear hKr Kr
      try simp only [blkQ, thenQ, loopQ]
      try simp only [RN, reduceIte]
      try refine T_e rfl ?_
      refine T_cseq (t := false) (by simp (disch := omega) only [RA, ↓reduceIte, Nat.reduceEqDiff, RD]) ?_
      try simp only [RN, reduceIte]
      try refine T_e rfl ?_
      refine hend _ _ ?_ ?_
      any_goals (simp (disch := omega) only [RA, ↓reduceIte, Nat.reduceEqDiff, RD, RE, *] <;> rfl)
  · simp (disch := omega) only [RA, ↓reduceIte, Nat.reduceEqDiff, RD, hv]
    refine hKr _ _ ?_
    clear hKr Kr
    try simp only [blkQ, thenQ, loopQ]
    try simp only [RN, reduceIte]
    try refine T_e rfl ?_
    refine T_cseq (t := false) (by simp (disch := omega) only [RA, ↓reduceIte, Nat.reduceEqDiff, RD]) ?_
    try simp only [RN, reduceIte]
    try refine T_e rfl ?_
    refine hend _ _ ?_ ?_
    any_goals (simp (disch := omega) only [RA, ↓reduceIte, Nat.reduceEqDiff, RD, RE, *] <;> rfl)
theorem l06Some_one {K : Value → BH → Prop} (ha : a ≤ code.length) (hl : code.length ≤ 1048576) (hcd : ∀ i, nl code i < 256)
    (hK : ∀ xs a' h', a' ≤ code.length → xs.length ≤ 1000 → K (FI xs) [some (SC code a' h')]) : CallX false F_spec_l06Some [P 0 0] [some (SC code a h)] K := by
  refine CallX_body Γ_spec_l06Some ?_
  simp only [A_spec_l06Some, T_aiff]
  refine T_rseq fun Kr hKr => ?_
  simp (disch := omega) only [RA, ↓reduceIte, Nat.reduceEqDiff, RD]
  refine hKr _ _ ?_
  clear hKr Kr
  try simp only [RN, reduceIte]
  try refine T_e rfl ?_
  refine T_rseq fun Kr hKr => ?_
  simp (disch := omega) only [RA, ↓reduceIte, Nat.reduceEqDiff, RD]
  refine l01Next_spec (i := 0) rfl ha hl hcd (by omega) fun v a h hA k2 k3 k4 k5 => ?_
  have hv := k4 (by omega)
  clear k3 k4 k5 ha
  simp (disch := omega) only [RA, ↓reduceIte, Nat.reduceEqDiff, Nat.reduceBEq, Nat.reduceSub, Nat.reduceAdd, Nat.reduceMul, Nat.reduceLT, Nat.reduceLeDiff, Int.reduceLE, Int.reduceLT, Int.reduceEq, Int.reduceNeg, Int.reduceToNat, Int.reduceMul, Int.reduceAdd, Int.reduceSub, Int.reduceBEq, Int.reduceBNe, reduceCtorEq, RD]
  refine hKr _ _ ?_
  clear hKr Kr
  try simp only [blkQ, thenQ, loopQ]
  try simp only [RN, reduceIte]
  try refine T_e rfl ?_
  first | refine T_bfree rfl ?_ | refine T_bfree' rfl ?_
  try simp only [RN, reduceIte]
  try refine T_e rfl ?_
  refine T_rseq fun Kr hKr => ?_
  simp (disch := omega) only [RA, ↓reduceIte, Nat.reduceEqDiff, RD]
  refine hKr _ _ ?_
  clear hKr Kr
  try simp only [RN, reduceIte]
  try refine T_e rfl ?_
  refine T_csplit (p := v = 0) (by simp only [RA, ↓reduceIte, Nat.reduceEqDiff] <;> rfl) (by (try simp only [RB]) <;> first | done | exact Iff.rfl | omega | simp) (fun hc => ?_) (fun hc => ?_) <;> (try simp only [RN, reduceIte]) <;> (try refine T_e rfl ?_)
  · refine T_rseq fun Kr hKr => ?_
    simp (disch := omega) only [RA, ↓reduceIte, Nat.reduceEqDiff, Nat.reduceBEq, Nat.reduceSub, Nat.reduceAdd, Nat.reduceMul, Nat.reduceLT, Nat.reduceLeDiff, Int.reduceLE, Int.reduceLT, Int.reduceEq, Int.reduceNeg, Int.reduceToNat, Int.reduceMul, Int.reduceAdd, Int.reduceSub, Int.reduceBEq, Int.reduceBNe, reduceCtorEq, RD]
    refine l01Next_spec (i := 0) rfl hA hl hcd (by omega) fun p a h hA _ _ _ _ => ?_
    simp (disch := omega) only [RA, ↓reduceIte, Nat.reduceEqDiff, Nat.reduceBEq, Nat.reduceSub, Nat.reduceAdd, Nat.reduceMul, Nat.reduceLT, Nat.reduceLeDiff, Int.reduceLE, Int.reduceLT, Int.reduceEq, Int.reduceNeg, Int.reduceToNat, Int.reduceMul, Int.reduceAdd, Int.reduceSub, Int.reduceBEq, Int.reduceBNe, reduceCtorEq, RD]
    refine l01Next_spec (i := 0) rfl hA hl hcd (by omega) fun n a h hA m2 _ m4 _ => ?_
    have hn := m4 (by omega)
    obtain ⟨c, rfl⟩ : ∃ c : Nat, n = c := ⟨n.toNat, by omega⟩
    have e1 : (1 : Int) + c = ((c + 1 : Nat) : Int) := by omega
    simp (disch := omega) only [RA, ↓reduceIte, Nat.reduceEqDiff, RD, e1]
    refine l06Monomial_L (by omega) ?_
    simp (disch := omega) only [RA, ↓reduceIte, Nat.reduceEqDiff, Nat.reduceBEq, Nat.reduceSub, Nat.reduceAdd, Nat.reduceMul, Nat.reduceLT, Nat.reduceLeDiff, Int.reduceLE, Int.reduceLT, Int.reduceEq, Int.reduceNeg, Int.reduceToNat, Int.reduceMul, Int.reduceAdd, Int.reduceSub, Int.reduceBEq, Int.reduceBNe, reduceCtorEq, RD]
    refine hKr _ _ ?_
    clear hKr Kr
    try simp only [blkQ, thenQ, loopQ]
    try simp only [RN, reduceIte]
    try refine T_e rfl ?_
    refine bodyQ_ret (by simp (disch := omega) only [RA, ↓reduceIte, Nat.reduceEqDiff, RD, resAll, resOf]; rfl) GhV.refl ?_
    simp only [tup]
    exact hK _ a h hA (by simp [monom]; omega)
  refine T_rseq fun Kr hKr => ?_
  simp (disch := omega) only [RA, ↓reduceIte, Nat.reduceEqDiff, RD]
  refine hKr _ _ ?_
  clear hKr Kr
  try simp only [RN, reduceIte]
  try refine T_e rfl ?_
  refine T_csplit (p := v = 1) (by simp only [RA, ↓reduceIte, Nat.reduceEqDiff] <;> rfl) (by (try simp only [RB]) <;> first | done | exact Iff.rfl | omega | simp) (fun hc => ?_) (fun hc => ?_) <;> (try simp only [RN, reduceIte]) <;> (try refine T_e rfl ?_)
  · refine T_rseq fun Kr hKr => ?_
    simp (disch := omega) only [RA, ↓reduceIte, Nat.reduceEqDiff, Nat.reduceBEq, Nat.reduceSub, Nat.reduceAdd, Nat.reduceMul, Nat.reduceLT, Nat.reduceLeDiff, Int.reduceLE, Int.reduceLT, Int.reduceEq, Int.reduceNeg, Int.reduceToNat, Int.reduceMul, Int.reduceAdd, Int.reduceSub, Int.reduceBEq, Int.reduceBNe, reduceCtorEq, RD]
    refine l01Next_spec (i := 0) rfl hA hl hcd (by omega) fun n a h hA m2 _ m4 _ => ?_
    have hn := m4 (by omega)
    obtain ⟨c, rfl⟩ : ∃ c : Nat, n = c := ⟨n.toNat, by omega⟩
    have e1 : (1 : Int) + c = ((c + 1 : Nat) : Int) := by omega
    simp (disch := omega) only [RA, ↓reduceIte, Nat.reduceEqDiff, RD, e1]
    refine l06Chain_L (by omega) ?_
    simp (disch := omega) only [RA, ↓reduceIte, Nat.reduceEqDiff, Nat.reduceBEq, Nat.reduceSub, Nat.reduceAdd, Nat.reduceMul, Nat.reduceLT, Nat.reduceLeDiff, Int.reduceLE, Int.reduceLT, Int.reduceEq, Int.reduceNeg, Int.reduceToNat, Int.reduceMul, Int.reduceAdd, Int.reduceSub, Int.reduceBEq, Int.reduceBNe, reduceCtorEq, RD]
    refine hKr _ _ ?_
    clear hKr Kr
    try simp only [blkQ, thenQ, loopQ]
    try simp only [RN, reduceIte]
    try refine T_e rfl ?_
    refine bodyQ_ret (by simp (disch := omega) only [RA, ↓reduceIte, Nat.reduceEqDiff, RD, resAll, resOf]; rfl) GhV.refl ?_
    simp only [tup]
    exact hK _ a h hA (by have := (chain_len c).2; omega)
  refine T_rseq fun Kr hKr => ?_
  simp (disch := omega) only [RA, ↓reduceIte, Nat.reduceEqDiff, RD]
  refine hKr _ _ ?_
  clear hKr Kr
  try simp only [RN, reduceIte]
  try refine T_e rfl ?_
  refine T_csplit (p := v = 2) (by simp only [RA, ↓reduceIte, Nat.reduceEqDiff] <;> rfl) (by (try simp only [RB]) <;> first | done | exact Iff.rfl | omega | simp) (fun hc => ?_) (fun hc => ?_) <;> (try simp only [RN, reduceIte]) <;> (try refine T_e rfl ?_)
  · refine T_rseq fun Kr hKr => ?_
    simp (disch := omega) only [RA, ↓reduceIte, Nat.reduceEqDiff, Nat.reduceBEq, Nat.reduceSub, Nat.reduceAdd, Nat.reduceMul, Nat.reduceLT, Nat.reduceLeDiff, Int.reduceLE, Int.reduceLT, Int.reduceEq, Int.reduceNeg, Int.reduceToNat, Int.reduceMul, Int.reduceAdd, Int.reduceSub, Int.reduceBEq, Int.reduceBNe, reduceCtorEq, RD]
    refine l01Next_spec (i := 0) rfl hA hl hcd (by omega) fun n a h hA m2 _ m4 _ => ?_
    have hn := m4 (by omega)
    obtain ⟨c, rfl⟩ : ∃ c : Nat, n = c := ⟨n.toNat, by omega⟩
    have e1 : (1 : Int) + c = ((c + 1 : Nat) : Int) := by omega
    clear m2 m4
    simp (disch := omega) only [RA, ↓reduceIte, Nat.reduceEqDiff, Nat.reduceBEq, Nat.reduceSub, Nat.reduceAdd, Nat.reduceMul, Nat.reduceLT, Nat.reduceLeDiff, Int.reduceLE, Int.reduceLT, Int.reduceEq, Int.reduceNeg, Int.reduceToNat, Int.reduceMul, Int.reduceAdd, Int.reduceSub, Int.reduceBEq, Int.reduceBNe, reduceCtorEq, RD]
    refine l01Next_spec (i := 0) rfl hA hl hcd (by omega) fun n a h hA m2 _ m4 _ => ?_
    have hn2 := m4 (by omega)
    obtain ⟨d, rfl⟩ : ∃ d : Nat, n = d := ⟨n.toNat, by omega⟩
    have e2 : (1 : Int) + d = ((d + 1 : Nat) : Int) := by omega
    simp (disch := omega) only [RA, ↓reduceIte, Nat.reduceEqDiff, RD, e1, e2]
    refine l06Fork_L (by omega) (by omega) (by omega) ?_
    simp (disch := omega) only [RA, ↓reduceIte, Nat.reduceEqDiff, Nat.reduceBEq, Nat.reduceSub, Nat.reduceAdd, Nat.reduceMul, Nat.reduceLT, Nat.reduceLeDiff, Int.reduceLE, Int.reduceLT, Int.reduceEq, Int.reduceNeg, Int.reduceToNat, Int.reduceMul, Int.reduceAdd, Int.reduceSub, Int.reduceBEq, Int.reduceBNe, reduceCtorEq, RD]
    refine hKr _ _ ?_
    clear hKr Kr
    try simp only [blkQ, thenQ, loopQ]
    try simp only [RN, reduceIte]
    try refine T_e rfl ?_
    refine bodyQ_ret (by simp (disch := omega) only [RA, ↓reduceIte, Nat.reduceEqDiff, RD, resAll, resOf]; rfl) GhV.refl ?_
    simp only [tup]
    exact hK _ a h hA (by have := fork_len (m := c + 1) (n := d + 1); omega)
  refine T_rseq fun Kr hKr => ?_
  simp (disch := omega) only [RA, ↓reduceIte, Nat.reduceEqDiff, RD]
  refine hKr _ _ ?_
  clear hKr Kr
  try simp only [RN, reduceIte]
  try refine T_e rfl ?_
  refine T_csplit (p := v = 3) (by simp only [RA, ↓reduceIte, Nat.reduceEqDiff] <;> rfl) (by (try simp only [RB]) <;> first | done | exact Iff.rfl | omega | simp) (fun hc => ?_) (fun hc => ?_) <;> (try simp only [RN, reduceIte]) <;> (try refine T_e rfl ?_)
  · refine T_rseq fun Kr hKr => ?_
    simp (disch := omega) only [RA, ↓reduceIte, Nat.reduceEqDiff, Nat.reduceBEq, Nat.reduceSub, Nat.reduceAdd, Nat.reduceMul, Nat.reduceLT, Nat.reduceLeDiff, Int.reduceLE, Int.reduceLT, Int.reduceEq, Int.reduceNeg, Int.reduceToNat, Int.reduceMul, Int.reduceAdd, Int.reduceSub, Int.reduceBEq, Int.reduceBNe, reduceCtorEq, RD]
    refine l01Next_spec (i := 0) rfl hA hl hcd (by omega) fun n a h hA m2 _ m4 _ => ?_
    have hn := m4 (by omega)
    obtain ⟨c, rfl⟩ : ∃ c : Nat, n = c := ⟨n.toNat, by omega⟩
    have e1 : (1 : Int) + c = ((c + 1 : Nat) : Int) := by omega
    clear m2 m4
    simp (disch := omega) only [RA, ↓reduceIte, Nat.reduceEqDiff, Nat.reduceBEq, Nat.reduceSub, Nat.reduceAdd, Nat.reduceMul, Nat.reduceLT, Nat.reduceLeDiff, Int.reduceLE, Int.reduceLT, Int.reduceEq, Int.reduceNeg, Int.reduceToNat, Int.reduceMul, Int.reduceAdd, Int.reduceSub, Int.reduceBEq, Int.reduceBNe, reduceCtorEq, RD]
    refine l01Next_spec (i := 0) rfl hA hl hcd (by omega) fun n a h hA m2 _ m4 _ => ?_
    have hn2 := m4 (by omega)
    obtain ⟨d, rfl⟩ : ∃ d : Nat, n = d := ⟨n.toNat, by omega⟩
    have e2 : (1 : Int) + d = ((d + 1 : Nat) : Int) := by omega
    clear m2 m4
    simp (disch := omega) only [RA, ↓reduceIte, Nat.reduceEqDiff, RD, e1, e2]
    refine l06Fork_L (by omega) (by omega) (by omega) ?_
    simp (disch := omega) only [RA, ↓reduceIte, Nat.reduceEqDiff, Nat.reduceBEq, Nat.reduceSub, Nat.reduceAdd, Nat.reduceMul, Nat.reduceLT, Nat.reduceLeDiff, Int.reduceLE, Int.reduceLT, Int.reduceEq, Int.reduceNeg, Int.reduceToNat, Int.reduceMul, Int.reduceAdd, Int.reduceSub, Int.reduceBEq, Int.reduceBNe, reduceCtorEq, RD]
    refine l01Next_spec (i := 0) rfl hA hl hcd (by omega) fun n a h hA m2 _ m4 _ => ?_
    have hn3 := m4 (by omega)
    obtain ⟨c2, rfl⟩ : ∃ c : Nat, n = c := ⟨n.toNat, by omega⟩
    have e3 : (1 : Int) + c2 = ((c2 + 1 : Nat) : Int) := by omega
    clear m2 m4
    simp (disch := omega) only [RA, ↓reduceIte, Nat.reduceEqDiff, Nat.reduceBEq, Nat.reduceSub, Nat.reduceAdd, Nat.reduceMul, Nat.reduceLT, Nat.reduceLeDiff, Int.reduceLE, Int.reduceLT, Int.reduceEq, Int.reduceNeg, Int.reduceToNat, Int.reduceMul, Int.reduceAdd, Int.reduceSub, Int.reduceBEq, Int.reduceBNe, reduceCtorEq, RD]
    refine l01Next_spec (i := 0) rfl hA hl hcd (by omega) fun n a h hA m2 _ m4 _ => ?_
    have hn4 := m4 (by omega)
    obtain ⟨d2, rfl⟩ : ∃ d : Nat, n = d := ⟨n.toNat, by omega⟩
    have e4 : (1 : Int) + d2 = ((d2 + 1 : Nat) : Int) := by omega
    simp (disch := omega) only [RA, ↓reduceIte, Nat.reduceEqDiff, RD, e3, e4]
    refine l06Fork_L (by omega) (by omega) (by omega) ?_
    simp (disch := omega) only [RA, ↓reduceIte, Nat.reduceEqDiff, Nat.reduceBEq, Nat.reduceSub, Nat.reduceAdd, Nat.reduceMul, Nat.reduceLT, Nat.reduceLeDiff, Int.reduceLE, Int.reduceLT, Int.reduceEq, Int.reduceNeg, Int.reduceToNat, Int.reduceMul, Int.reduceAdd, Int.reduceSub, Int.reduceBEq, Int.reduceBNe, reduceCtorEq, RD]
    have l1 := fork_len (m := c + 1) (n := d + 1)
    have l2 := fork_len (m := c2 + 1) (n := d2 + 1)
    have p1 : Poly (fork (c + 1) (d + 1)) := Red.poly (xs := fork (c + 1) (d + 1)) (red_ptimes _ _) (by omega)
    have p2 : Poly (fork (c2 + 1) (d2 + 1)) := Red.poly (xs := fork (c2 + 1) (d2 + 1)) (red_ptimes _ _) (by omega)
    refine l06Compose_L p1 p2 ?_
    have l3 := comp_len (g := fork (c2 + 1) (d2 + 1)) (by omega) (fork (c + 1) (d + 1))
    simp (disch := omega) only [RA, ↓reduceIte, Nat.reduceEqDiff, Nat.reduceBEq, Nat.reduceSub, Nat.reduceAdd, Nat.reduceMul, Nat.reduceLT, Nat.reduceLeDiff, Int.reduceLE, Int.reduceLT, Int.reduceEq, Int.reduceNeg, Int.reduceToNat, Int.reduceMul, Int.reduceAdd, Int.reduceSub, Int.reduceBEq, Int.reduceBNe, reduceCtorEq, RD]
    refine hKr _ _ ?_
    clear hKr Kr
    try simp only [blkQ, thenQ, loopQ]
    try simp only [RN, reduceIte]
    try refine T_e rfl ?_
    refine bodyQ_ret (by simp (disch := omega) only [RA, ↓reduceIte, Nat.reduceEqDiff, RD, resAll, resOf]; rfl) GhV.refl ?_
    simp only [tup]
    exact hK _ a h hA (by omega)
  refine T_rseq fun Kr hKr => ?_
  simp (disch := omega) only [RA, ↓reduceIte, Nat.reduceEqDiff, RD]
  refine hKr _ _ ?_
  clear hKr Kr
  try simp only [RN, reduceIte]
  try refine T_e rfl ?_
  refine T_csplit (p := v = 4) (by simp only [RA, ↓reduceIte, Nat.reduceEqDiff, Nat.reduceBEq, Nat.reduceSub, Nat.reduceAdd, Nat.reduceMul, Nat.reduceLT, Nat.reduceLeDiff, Int.reduceLE, Int.reduceLT, Int.reduceEq, Int.reduceNeg, Int.reduceToNat, Int.reduceMul, Int.reduceAdd, Int.reduceSub, Int.reduceBEq, Int.reduceBNe, reduceCtorEq] <;> rfl) (by (try simp only [RB]) <;> first | done | exact Iff.rfl | omega | simp) (fun hc => ?_) (fun hc => ?_) <;> (try simp only [RN, reduceIte]) <;> (try refine T_e rfl ?_)
  · refine T_rseq fun Kr hKr => ?_
    simp (disch := omega) only [RA, ↓reduceIte, Nat.reduceEqDiff, Nat.reduceBEq, Nat.reduceSub, Nat.reduceAdd, Nat.reduceMul, Nat.reduceLT, Nat.reduceLeDiff, Int.reduceLE, Int.reduceLT, Int.reduceEq, Int.reduceNeg, Int.reduceToNat, Int.reduceMul, Int.reduceAdd, Int.reduceSub, Int.reduceBEq, Int.reduceBNe, reduceCtorEq, RD]
    refine l06Draw_spec (most := 3) (i := 0) rfl hA hl hcd (by omega) fun xs a h hA hx _ => ?_
    simp (disch := omega) only [RA, ↓reduceIte, Nat.reduceEqDiff, Nat.reduceBEq, Nat.reduceSub, Nat.reduceAdd, Nat.reduceMul, Nat.reduceLT, Nat.reduceLeDiff, Int.reduceLE, Int.reduceLT, Int.reduceEq, Int.reduceNeg, Int.reduceToNat, Int.reduceMul, Int.reduceAdd, Int.reduceSub, Int.reduceBEq, Int.reduceBNe, reduceCtorEq, RD]
    refine hKr _ _ ?_
    clear hKr Kr
    try simp only [blkQ, thenQ, loopQ]
    try simp only [RN, reduceIte]
    try refine T_e rfl ?_
    refine T_rseq fun Kr hKr => ?_
    simp (disch := omega) only [RA, ↓reduceIte, Nat.reduceEqDiff, RD]
    refine l06Is_L (by omega) ?_
    by_cases h1 : Poly xs
    · rw [decide_eq_true h1]
      simp (disch := omega) only [RA, ↓reduceIte, Nat.reduceEqDiff, Nat.reduceBEq, Nat.reduceSub, Nat.reduceAdd, Nat.reduceMul, Nat.reduceLT, Nat.reduceLeDiff, Int.reduceLE, Int.reduceLT, Int.reduceEq, Int.reduceNeg, Int.reduceToNat, Int.reduceMul, Int.reduceAdd, Int.reduceSub, Int.reduceBEq, Int.reduceBNe, reduceCtorEq, RD]
      refine hKr _ _ ?_
      clear hKr Kr
      try simp only [blkQ, thenQ, loopQ]
      try simp only [RN, reduceIte]
      try refine T_e rfl ?_
      refine T_cseq (t := false) (by simp (disch := omega) only [RA, ↓reduceIte, Nat.reduceEqDiff, RD]) ?_
      try simp only [RN, reduceIte]
      try refine T_e rfl ?_
      refine T_rseq fun Kr hKr => ?_
      simp (disch := omega) only [RA, ↓reduceIte, Nat.reduceEqDiff, RD]
      refine l01Next_spec (i := 0) rfl hA hl hcd (by omega) fun n a h hA m2 _ m4 _ => ?_
      have hn := m4 (by omega)
      obtain ⟨c, rfl⟩ : ∃ c : Nat, n = c := ⟨n.toNat, by omega⟩
      have e1 : (1 : Int) + c = ((c + 1 : Nat) : Int) := by omega
      simp (disch := omega) only [RA, ↓reduceIte, Nat.reduceEqDiff, RD, e1]
      refine hKr _ _ ?_
      clear hKr Kr
      try simp only [blkQ, thenQ, loopQ]
      try simp only [RN, reduceIte]
      try refine T_e rfl ?_
      refine T_wloop (fun mm f H' => ∃ zs, Red zs ∧ zs.length + 16 * mm ≤ 60 ∧ f 3 = FI xs ∧ f 4 = FI zs ∧ f 5 = I (mm : Nat) ∧ H' = [some (SC code a h)]) (c + 1) ?_ ?_
      · exact ⟨_, _, (Gh.fz (i := 1) rfl (.cons .int .nil)).trans (Gh.nrm [0] rfl rfl (by simp only [RH, List.set_cons_succ, List.set_cons_zero, NNL_SC])), [1], red_1, by simp; omega, (by simp (disch := omega) only [RA, ↓reduceIte, Nat.reduceEqDiff, RD, RE, RZ, frz_ne, frz_all, *] <;> rfl), (by simp (disch := omega) only [RA, ↓reduceIte, Nat.reduceEqDiff, RD, RE, RZ, frz_ne, frz_all, *] <;> rfl), (by simp (disch := omega) only [RA, ↓reduceIte, Nat.reduceEqDiff, RD, RE, RZ, frz_ne, frz_all, *] <;> rfl), rfl⟩
      · rintro mm f H' R ⟨zs, hz, hzl, g3, g4, g5, rfl⟩ hN hX hR hE
        simp only [A_spec_l06Some.l0, T_aiff]
        refine T_rseq fun Kr hKr => ?_
        simp (disch := omega) only [RA, ↓reduceIte, Nat.reduceEqDiff, RD, g5]
        refine hKr _ _ ?_
        clear hKr Kr
        try simp only [RN, reduceIte]
        try refine T_e rfl ?_
        refine T_csplit (p := 0 < mm) (by simp only [RA, ↓reduceIte, Nat.reduceEqDiff] <;> rfl) (by (try simp only [RB]) <;> first | done | exact Iff.rfl | omega | simp) (fun hc => ?_) (fun hc => ?_) <;> (try simp only [RN, reduceIte]) <;> (try refine T_e rfl ?_)
        · obtain ⟨q, rfl⟩ : ∃ q, mm = q + 1 := ⟨mm - 1, by omega⟩
          have e2 : ((q + 1 : Nat) : Int) - 1 = (q : Nat) := by omega
          first | refine T_bfree rfl ?_ | refine T_bfree' rfl ?_
          try simp only [RN, reduceIte]
          try refine T_e rfl ?_
          refine T_rseq fun Kr hKr => ?_
          simp (disch := omega) only [RA, ↓reduceIte, Nat.reduceEqDiff, RD, g3, g4]
          refine l06Times_L hz.fit (by omega) h1.fit (by omega) ?_
          simp (disch := omega) only [RA, ↓reduceIte, Nat.reduceEqDiff, Nat.reduceBEq, Nat.reduceSub, Nat.reduceAdd, Nat.reduceMul, Nat.reduceLT, Nat.reduceLeDiff, Int.reduceLE, Int.reduceLT, Int.reduceEq, Int.reduceNeg, Int.reduceToNat, Int.reduceMul, Int.reduceAdd, Int.reduceSub, Int.reduceBEq, Int.reduceBNe, reduceCtorEq, RD]
          refine hKr _ _ ?_
          clear hKr Kr
          try simp only [blkQ, thenQ, loopQ]
          try simp only [RN, reduceIte]
          try refine T_e rfl ?_
          refine T_reg_k fun Kr hKr => ?_
          simp (disch := omega) only [RA, ↓reduceIte, Nat.reduceEqDiff, RD, g5, e2]
          refine hKr _ _ ?_
          clear hKr Kr
          have := ptimes_len zs xs
          have := h1.2.1
          refine hN q _ _ _ _ (by omega) Gh.refl ⟨ptimes zs xs, red_ptimes _ _, by omega, ?_, ?_, ?_, rfl⟩
          any_goals (simp (disch := omega) only [RA, ↓reduceIte, Nat.reduceEqDiff, RD, RE, *] <;> rfl)
        · refine hX _ _ ?_
          try simp only [RN, reduceIte]
          try refine T_e rfl ?_
          refine T_rseq fun Kr hKr => ?_
          simp (disch := omega) only [RA, ↓reduceIte, Nat.reduceEqDiff, RD, g4]
          refine hKr _ _ ?_
          clear hKr Kr
          try simp only [RN, reduceIte]
          try refine T_e rfl ?_
          refine bodyQ_ret (by simp (disch := omega) only [RA, ↓reduceIte, Nat.reduceEqDiff, RD, resAll, resOf]; rfl) GhV.refl ?_
          simp only [tup]
          exact hK zs a h hA (by omega)
    · rw [decide_eq_false h1]
      simp (disch := omega) only [RA, ↓reduceIte, Nat.reduceEqDiff, Nat.reduceBEq, Nat.reduceSub, Nat.reduceAdd, Nat.reduceMul, Nat.reduceLT, Nat.reduceLeDiff, Int.reduceLE, Int.reduceLT, Int.reduceEq, Int.reduceNeg, Int.reduceToNat, Int.reduceMul, Int.reduceAdd, Int.reduceSub, Int.reduceBEq, Int.reduceBNe, reduceCtorEq, RD]
      refine hKr _ _ ?_
      clear hKr Kr
      try simp only [blkQ, thenQ, loopQ]
      try simp only [RN, reduceIte]
      try refine T_e rfl ?_
      refine T_cseq (t := true) (by simp (disch := omega) only [RA, ↓reduceIte, Nat.reduceEqDiff, RD]) ?_
      try simp only [RN, reduceIte]
      try refine T_e rfl ?_
      refine T_rseq fun Kr hKr => ?_
      simp (disch := omega) only [RA, ↓reduceIte, Nat.reduceEqDiff, RD]
      refine hKr _ _ ?_
      clear hKr Kr
      try simp only [RN, reduceIte]
      try refine T_e rfl ?_
      refine bodyQ_ret (by simp (disch := omega) only [RA, ↓reduceIte, Nat.reduceEqDiff, RD, resAll, resOf, hl]; rfl) (GhV.nrm [0] rfl rfl (by simp only [RH, NNL_SC]) (by simp only [tup, RH])) ?_
      simp only [tup]
      exact hK xs a h hA (by omega)
  · refine T_rseq fun Kr hKr => ?_
    simp (disch := omega) only [RA, ↓reduceIte, Nat.reduceEqDiff, Nat.reduceBEq, Nat.reduceSub, Nat.reduceAdd, Nat.reduceMul, Nat.reduceLT, Nat.reduceLeDiff, Int.reduceLE, Int.reduceLT, Int.reduceEq, Int.reduceNeg, Int.reduceToNat, Int.reduceMul, Int.reduceAdd, Int.reduceSub, Int.reduceBEq, Int.reduceBNe, reduceCtorEq, RD]
    refine l06Draw_spec (most := 8) (i := 0) rfl hA hl hcd (by omega) fun xs a h hA hx _ => ?_
    simp (disch := omega) only [RA, ↓reduceIte, Nat.reduceEqDiff, Nat.reduceBEq, Nat.reduceSub, Nat.reduceAdd, Nat.reduceMul, Nat.reduceLT, Nat.reduceLeDiff, Int.reduceLE, Int.reduceLT, Int.reduceEq, Int.reduceNeg, Int.reduceToNat, Int.reduceMul, Int.reduceAdd, Int.reduceSub, Int.reduceBEq, Int.reduceBNe, reduceCtorEq, RD]
    refine hKr _ _ ?_
    clear hKr Kr
    try simp only [blkQ, thenQ, loopQ]
    try simp only [RN, reduceIte]
    try refine T_e rfl ?_
    refine bodyQ_ret (by simp (disch := omega) only [RA, ↓reduceIte, Nat.reduceEqDiff, RD, resAll, resOf]; rfl) GhV.refl ?_
    simp only [tup]
    exact hK xs a h hA (by omega)
theorem l06Some_spec {i : Nat} {K : Value → BH → Prop} (hb : blk H i = some (SC code a h)) (ha : a ≤ code.length) (hl : code.length ≤ 1048576) (hcd : ∀ i, nl code i < 256)
    (hK : ∀ xs a' h', a' ≤ code.length → xs.length ≤ 1000 → K (FI xs) (H.set i (some (SC code a' h')))) : CallX false F_spec_l06Some [P i 0] H K := by
  refine call1 hb NN_SC ?_
  have e : ([P i 0] : List Value).map (ren [i]) = [P 0 0] := by simp [ren, ren1, nm]
  rw [e]
  exact l06Some_one ha hl hcd fun xs a' h' k1 k2 => ⟨.fz, HN.cons NN_SC HN.nil, hK xs a' h' k1 k2⟩
theorem spec_DrawMultiplyPolynomials_spec {K : Value → BH → Prop} (hl : code.length ≤ 1048576) (hcd : ∀ i, nl code i < 256)
    (hK : ∀ xs ys, xs.length ≤ 100 → ys.length ≤ 100 → K (.tuple ⟨[FI xs, FI ys]⟩) H) : CallX x F_spec_DrawMultiplyPolynomials [FB code] H K := by
  refine callP (.cons .fz .nil) ?_
  refine CallX_body Γ_spec_DrawMultiplyPolynomials ?_
  simp only [A_spec_DrawMultiplyPolynomials, T_aiff]
  refine T_rseq fun Kr hKr => ?_
  simp (disch := omega) only [RA, ↓reduceIte, Nat.reduceEqDiff, RD]
  refine hKr _ _ ?_
  clear hKr Kr
  try simp only [RN, reduceIte]
  try refine T_e rfl ?_
  refine T_rseq fun Kr hKr => ?_
  simp (disch := omega) only [RA, ↓reduceIte, Nat.reduceEqDiff, RD]
  refine l06Pair_spec hl hcd fun xs ys hx hy => ?_
  simp (disch := omega) only [RA, ↓reduceIte, Nat.reduceEqDiff, RD]
  refine hKr _ _ ?_
  clear hKr Kr
  try simp only [blkQ, thenQ, loopQ]
  try simp only [RN, reduceIte]
  try refine T_e rfl ?_
  refine T_rseq fun Kr hKr => ?_
  simp (disch := omega) only [RA, ↓reduceIte, Nat.reduceEqDiff, RD]
  refine hKr _ _ ?_
  clear hKr Kr
  try simp only [RN, reduceIte]
  try refine T_e rfl ?_
  refine bodyQ_ret (by simp (disch := omega) only [RA, ↓reduceIte, Nat.reduceEqDiff, RD, resAll, resOf]; rfl) GhV.refl ?_
  simp only [tup]
  exact ⟨NN_2I, hK xs ys hx hy⟩
theorem spec_DrawComposePolynomials_spec {K : Value → BH → Prop} (hl : code.length ≤ 1048576) (hcd : ∀ i, nl code i < 256)
    (hK : ∀ xs ys, xs.length ≤ 100 → ys.length ≤ 100 → K (.tuple ⟨[FI xs, FI ys]⟩) H) : CallX x F_spec_DrawComposePolynomials [FB code] H K := by
  refine callP (.cons .fz .nil) ?_
  refine CallX_body Γ_spec_DrawComposePolynomials ?_
  simp only [A_spec_DrawComposePolynomials, T_aiff]
  refine T_rseq fun Kr hKr => ?_
  simp (disch := omega) only [RA, ↓reduceIte, Nat.reduceEqDiff, RD]
  refine hKr _ _ ?_
  clear hKr Kr
  try simp only [RN, reduceIte]
  try refine T_e rfl ?_
  refine T_rseq fun Kr hKr => ?_
  simp (disch := omega) only [RA, ↓reduceIte, Nat.reduceEqDiff, Nat.reduceBEq, Nat.reduceSub, Nat.reduceAdd, Nat.reduceMul, Nat.reduceLT, Nat.reduceLeDiff, Int.reduceLE, Int.reduceLT, Int.reduceEq, Int.reduceNeg, Int.reduceToNat, Int.reduceMul, Int.reduceAdd, Int.reduceSub, Int.reduceBEq, Int.reduceBNe, reduceCtorEq, RD]
  refine l01From_spec hl hcd fun h => ?_
  simp (disch := omega) only [RA, ↓reduceIte, Nat.reduceEqDiff, Nat.reduceBEq, Nat.reduceSub, Nat.reduceAdd, Nat.reduceMul, Nat.reduceLT, Nat.reduceLeDiff, Int.reduceLE, Int.reduceLT, Int.reduceEq, Int.reduceNeg, Int.reduceToNat, Int.reduceMul, Int.reduceAdd, Int.reduceSub, Int.reduceBEq, Int.reduceBNe, reduceCtorEq, RD]
  refine hKr _ _ ?_
  clear hKr Kr
  try simp only [blkQ, thenQ, loopQ]
  try simp only [RN, reduceIte]
  try refine T_e rfl ?_
  refine T_rseq fun Kr hKr => ?_
  simp (disch := omega) only [RA, ↓reduceIte, Nat.reduceEqDiff, Nat.reduceBEq, Nat.reduceSub, Nat.reduceAdd, Nat.reduceMul, Nat.reduceLT, Nat.reduceLeDiff, Int.reduceLE, Int.reduceLT, Int.reduceEq, Int.reduceNeg, Int.reduceToNat, Int.reduceMul, Int.reduceAdd, Int.reduceSub, Int.reduceBEq, Int.reduceBNe, reduceCtorEq, RD]
  refine callFz 1 rfl (by simp only [RH]) ?_
  simp only [RZ, frz_all ]
  refine l01Pick_spec (xs := [2, 4, 8]) (i := 0) rfl (Nat.zero_le _) hl hcd (by simp) (by simp) fun j a h hj hA => ?_
  have hm := el_mem hj
  generalize el [2, 4, 8] j = most at hm ⊢
  obtain ⟨mo, rfl⟩ : ∃ mo : Nat, most = mo := ⟨most.toNat, by simp at hm; omega⟩
  simp (disch := omega) only [RA, ↓reduceIte, Nat.reduceEqDiff, Nat.reduceBEq, Nat.reduceSub, Nat.reduceAdd, Nat.reduceMul, Nat.reduceLT, Nat.reduceLeDiff, Int.reduceLE, Int.reduceLT, Int.reduceEq, Int.reduceNeg, Int.reduceToNat, Int.reduceMul, Int.reduceAdd, Int.reduceSub, Int.reduceBEq, Int.reduceBNe, reduceCtorEq, RD]
  refine l06Draw_spec (i := 0) rfl hA hl hcd (by simp at hm; omega) fun xs a h hA hx _ => ?_
  clear hm hj
  simp (disch := omega) only [RA, ↓reduceIte, Nat.reduceEqDiff, Nat.reduceBEq, Nat.reduceSub, Nat.reduceAdd, Nat.reduceMul, Nat.reduceLT, Nat.reduceLeDiff, Int.reduceLE, Int.reduceLT, Int.reduceEq, Int.reduceNeg, Int.reduceToNat, Int.reduceMul, Int.reduceAdd, Int.reduceSub, Int.reduceBEq, Int.reduceBNe, reduceCtorEq, RD]
  refine callFz 2 rfl (by simp only [RH]) ?_
  simp only [RZ, frz_all ]
  refine l01Pick_spec (xs := [2, 4]) (i := 0) rfl hA hl hcd (by simp) (by simp) fun j a h hj hA => ?_
  have hm := el_mem hj
  generalize el [2, 4] j = most at hm ⊢
  obtain ⟨mo, rfl⟩ : ∃ mo : Nat, most = mo := ⟨most.toNat, by simp at hm; omega⟩
  simp (disch := omega) only [RA, ↓reduceIte, Nat.reduceEqDiff, Nat.reduceBEq, Nat.reduceSub, Nat.reduceAdd, Nat.reduceMul, Nat.reduceLT, Nat.reduceLeDiff, Int.reduceLE, Int.reduceLT, Int.reduceEq, Int.reduceNeg, Int.reduceToNat, Int.reduceMul, Int.reduceAdd, Int.reduceSub, Int.reduceBEq, Int.reduceBNe, reduceCtorEq, RD]
  refine l06Draw_spec (i := 0) rfl hA hl hcd (by simp at hm; omega) fun ys a h hA hy _ => ?_
  simp (disch := omega) only [RA, ↓reduceIte, Nat.reduceEqDiff, Nat.reduceBEq, Nat.reduceSub, Nat.reduceAdd, Nat.reduceMul, Nat.reduceLT, Nat.reduceLeDiff, Int.reduceLE, Int.reduceLT, Int.reduceEq, Int.reduceNeg, Int.reduceToNat, Int.reduceMul, Int.reduceAdd, Int.reduceSub, Int.reduceBEq, Int.reduceBNe, reduceCtorEq, RD]
  refine hKr _ _ ?_
  clear hKr Kr
  try simp only [blkQ, thenQ, loopQ]
  try simp only [RN, reduceIte]
  try refine T_e rfl ?_
  refine bodyQ_ret (by simp (disch := omega) only [RA, ↓reduceIte, Nat.reduceEqDiff, RD, resAll, resOf]; rfl) GhV.refl ?_
  simp only [tup]
  exact ⟨NN_2I, hK xs ys (by omega) (by omega)⟩
theorem spec_DrawDerivativeOf_spec {K : Value → BH → Prop} (hl : code.length ≤ 1048576) (hcd : ∀ i, nl code i < 256)
    (hK : ∀ xs, xs.length ≤ 1000 → K (FI xs) H) : CallX x F_spec_DrawDerivativeOf [FB code] H K := by
  refine callP (.cons .fz .nil) ?_
  refine CallX_body Γ_spec_DrawDerivativeOf ?_
  simp only [A_spec_DrawDerivativeOf, T_aiff]
  refine T_rseq fun Kr hKr => ?_
  simp (disch := omega) only [RA, ↓reduceIte, Nat.reduceEqDiff, RD]
  refine hKr _ _ ?_
  clear hKr Kr
  try simp only [RN, reduceIte]
  try refine T_e rfl ?_
  refine T_rseq fun Kr hKr => ?_
  simp (disch := omega) only [RA, ↓reduceIte, Nat.reduceEqDiff, RD]
  refine l01From_spec hl hcd fun h => ?_
  simp (disch := omega) only [RA, ↓reduceIte, Nat.reduceEqDiff, RD]
  refine l06Some_spec (i := 0) rfl (Nat.zero_le _) hl hcd fun xs a h hA hx => ?_
  simp (disch := omega) only [RA, ↓reduceIte, Nat.reduceEqDiff, RD]
  refine hKr _ _ ?_
  clear hKr Kr
  try simp only [blkQ, thenQ, loopQ]
  try simp only [RN, reduceIte]
  try refine T_e rfl ?_
  refine bodyQ_ret (by simp (disch := omega) only [RA, ↓reduceIte, Nat.reduceEqDiff, RD, resAll, resOf]; rfl) GhV.refl ?_
  simp only [tup]
  exact ⟨.fz, hK xs hx⟩
theorem spec_DrawValueOf_spec {K : Value → BH → Prop} (hl : code.length ≤ 1048576) (hcd : ∀ i, nl code i < 256)
    (hK : ∀ xs v, xs.length ≤ 1000 → 0 ≤ v → v ≤ 10007 → K (.tuple ⟨[FI xs, I v]⟩) H) : CallX x F_spec_DrawValueOf [FB code] H K := by
  refine callP (.cons .fz .nil) ?_
  refine CallX_body Γ_spec_DrawValueOf ?_
  simp only [A_spec_DrawValueOf, T_aiff]
  refine T_rseq fun Kr hKr => ?_
  simp (disch := omega) only [RA, ↓reduceIte, Nat.reduceEqDiff, RD]
  refine hKr _ _ ?_
  clear hKr Kr
  try simp only [RN, reduceIte]
  try refine T_e rfl ?_
  refine T_rseq fun Kr hKr => ?_
  simp (disch := omega) only [RA, ↓reduceIte, Nat.reduceEqDiff, RD]
  refine l01From_spec hl hcd fun h => ?_
  simp (disch := omega) only [RA, ↓reduceIte, Nat.reduceEqDiff, RD]
  refine hKr _ _ ?_
  clear hKr Kr
  try simp only [blkQ, thenQ, loopQ]
  try simp only [RN, reduceIte]
  try refine T_e rfl ?_
  refine T_rseq fun Kr hKr => ?_
  simp (disch := omega) only [RA, ↓reduceIte, Nat.reduceEqDiff, RD]
  refine l06Some_spec (i := 0) rfl (Nat.zero_le _) hl hcd fun xs a h hA hx => ?_
  simp (disch := omega) only [RA, ↓reduceIte, Nat.reduceEqDiff, RD]
  refine l06DrawValue_spec (i := 0) rfl hA hl hcd fun v a h hA h1 h2 => ?_
  simp (disch := omega) only [RA, ↓reduceIte, Nat.reduceEqDiff, RD]
  refine hKr _ _ ?_
  clear hKr Kr
  try simp only [blkQ, thenQ, loopQ]
  try simp only [RN, reduceIte]
  try refine T_e rfl ?_
  refine bodyQ_ret (by simp (disch := omega) only [RA, ↓reduceIte, Nat.reduceEqDiff, RD, resAll, resOf]; rfl) GhV.refl ?_
  simp only [tup]
  exact ⟨NN_II, hK xs v hx h1 h2⟩
end
end Go.Bm

