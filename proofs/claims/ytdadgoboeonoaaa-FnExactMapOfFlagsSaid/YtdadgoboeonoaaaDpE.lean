/- Classes of flags, the program's; whether flags are orientable. -/
import Derived.Test.YtdadgoboeonoaaaDpD
set_option linter.unusedVariables false
set_option linter.unusedSimpArgs false
namespace Go.Bm
open Go Go.Am

theorem classesOf_spec {x : Bool} {n : Int} {c t s : List Nat} {H : BH} {K : Value → BH → Prop} (hcc : By 32 c) (ht : By 32 t) (hs : By 32 s) (hl32 : ∀ p ∈ [c, t, s], ∀ i, nl p i < 32)
    (hK : K (.tuple ⟨[PL (clsR c t s).1, .bool (clsR c t s).2.2]⟩) H) : CallX x F_impl_classesOf [FV n c t s] H K := by
  have hlc := hcc.len
  have hlt := ht.len
  have hls := hs.len
  have hc32 := hl32 c (by simp)
  have ht32 := hl32 t (by simp)
  have hs32 := hl32 s (by simp)
  have hall : ∀ p ∈ [c, t, s], p.length = 32 := by simp [hlc, hlt, hls]
  obtain ⟨ls, hlse⟩ : ∃ ls, [c, t, s] = ls := ⟨_, rfl⟩
  have hl3 : ls.length = 3 := by rw [← hlse]; rfl
  have hR0 : clsR c t s = cls ls c0 32 := by rw [clsR, hlse]
  rw [hlse] at hall hl32
  rw [hR0] at hK
  refine callP (by exact .cons nn_F .nil) ?_
  refine CallX_body Γ_impl_classesOf ?_
  simp only [A_impl_classesOf, T_aiff]
  refine T_rseq fun Kr hKr => ?_
  simp (disch := omega) only [RF, RO, RC, ↓reduceIte, Nat.reduceEqDiff, Nat.reduceBEq, Nat.reduceSub, Nat.reduceAdd, Nat.reduceMul, Nat.reduceLT, Nat.reduceLeDiff, Int.reduceLE, Int.reduceLT, Int.reduceEq, Int.reduceNeg, Int.reduceToNat, Int.reduceMul, Int.reduceAdd, Int.reduceSub, Int.reduceBEq, Int.reduceBNe, reduceCtorEq, RD, RFS]
  refine hKr _ _ ?_
  clear hKr Kr
  try simp only [RN, if_true, if_false, Bool.false_eq_true, if_pos, reduceIte]
  try first | refine T_exit ?_ | refine T_ret ?_ | refine T_skip ?_
  refine T_rseq fun Kr hKr => ?_
  simp (disch := omega) only [RF, RO, RC, ↓reduceIte, Nat.reduceEqDiff, Nat.reduceBEq, Nat.reduceSub, Nat.reduceAdd, Nat.reduceMul, Nat.reduceLT, Nat.reduceLeDiff, Int.reduceLE, Int.reduceLT, Int.reduceEq, Int.reduceNeg, Int.reduceToNat, Int.reduceMul, Int.reduceAdd, Int.reduceSub, Int.reduceBEq, Int.reduceBNe, reduceCtorEq, RD, RFS, RFD]
  refine hKr _ _ ?_
  clear hKr Kr
  try simp only [RN, if_true, if_false, Bool.false_eq_true, if_pos, reduceIte]
  try first | refine T_exit ?_ | refine T_ret ?_ | refine T_skip ?_
  refine T_rseq fun Kr hKr => ?_
  simp (disch := omega) only [RF, RO, RC, ↓reduceIte, Nat.reduceEqDiff, Nat.reduceBEq, Nat.reduceSub, Nat.reduceAdd, Nat.reduceMul, Nat.reduceLT, Nat.reduceLeDiff, Int.reduceLE, Int.reduceLT, Int.reduceEq, Int.reduceNeg, Int.reduceToNat, Int.reduceMul, Int.reduceAdd, Int.reduceSub, Int.reduceBEq, Int.reduceBNe, reduceCtorEq, RD]
  refine hKr _ _ ?_
  clear hKr Kr
  try simp only [RN, if_true, if_false, Bool.false_eq_true, if_pos, reduceIte]
  try first | refine T_exit ?_ | refine T_ret ?_ | refine T_skip ?_
  refine T_rseq fun Kr hKr => ?_
  simp (disch := omega) only [RF, RO, RC, ↓reduceIte, Nat.reduceEqDiff, Nat.reduceBEq, Nat.reduceSub, Nat.reduceAdd, Nat.reduceMul, Nat.reduceLT, Nat.reduceLeDiff, Int.reduceLE, Int.reduceLT, Int.reduceEq, Int.reduceNeg, Int.reduceToNat, Int.reduceMul, Int.reduceAdd, Int.reduceSub, Int.reduceBEq, Int.reduceBNe, reduceCtorEq, RD]
  refine hKr _ _ ?_
  clear hKr Kr
  try simp only [RN, if_true, if_false, Bool.false_eq_true, if_pos, reduceIte]
  try first | refine T_exit ?_ | refine T_ret ?_ | refine T_skip ?_
  refine T_wloop (fun m f H' => ∃ k st, k ≤ 32 ∧ m = 32 - k ∧ st = cls ls c0 k ∧ st.2.2 = true ∧ k ≤ st.2.1.length ∧ f 1 = P 0 0 ∧ f 2 = P 1 0 ∧ f 4 = P 2 0 ∧ f 5 = S 3 0 st.2.1.length 1 ∧ f 6 = I k ∧ H' = [some (FC n c t s), some (List.replicate 32 (.int .u8 0)), some (st.1.map N8), some (st.2.1.map N8)]) (32) ?_ ?_
  · refine ⟨_, _, Gh.refl, 0, c0, by omega, by omega, rfl, rfl, Nat.zero_le _, ?_, ?_, ?_, ?_, ?_, rfl⟩
    any_goals (simp (disch := omega) only [RF, RO, RC, ↓reduceIte, Nat.reduceEqDiff, Nat.reduceBEq, Nat.reduceSub, Nat.reduceAdd, Nat.reduceMul, Nat.reduceLT, Nat.reduceLeDiff, Int.reduceLE, Int.reduceLT, Int.reduceEq, Int.reduceNeg, Int.reduceToNat, Int.reduceMul, Int.reduceAdd, Int.reduceSub, Int.reduceBEq, Int.reduceBNe, reduceCtorEq, RD, ren_PL, ren_AB, ren_AI, *] <;> rfl)
  · rintro m f H' R ⟨k, st, hk, rfl, hst, hok, hkl, g1, g2, g4, g5, g6, rfl⟩ hN hX hR hE
    simp only [A_impl_classesOf.l1, T_aiff]
    have hB := Ci.c0.cls hl32 k
    rw [← hst] at hB
    have hle := hB.le
    have hsl := hB.len
    refine T_rseq fun Kr hKr => ?_
    simp (disch := omega) only [RF, RO, RC, ↓reduceIte, Nat.reduceEqDiff, Nat.reduceBEq, Nat.reduceSub, Nat.reduceAdd, Nat.reduceMul, Nat.reduceLT, Nat.reduceLeDiff, Int.reduceLE, Int.reduceLT, Int.reduceEq, Int.reduceNeg, Int.reduceToNat, Int.reduceMul, Int.reduceAdd, Int.reduceSub, Int.reduceBEq, Int.reduceBNe, reduceCtorEq, RD, g5, g6]
    refine hKr _ _ ?_
    clear hKr Kr
    try simp only [RN, if_true, if_false, Bool.false_eq_true, if_pos, reduceIte]
    try first | refine T_exit ?_ | refine T_ret ?_ | refine T_skip ?_
    refine T_csplit (p := k < st.2.1.length) (by simp only [RF, RO, RC, ↓reduceIte, Nat.reduceEqDiff, Nat.reduceBEq, Nat.reduceSub, Nat.reduceAdd, Nat.reduceMul, Nat.reduceLT, Nat.reduceLeDiff, Int.reduceLE, Int.reduceLT, Int.reduceEq, Int.reduceNeg, Int.reduceToNat, Int.reduceMul, Int.reduceAdd, Int.reduceSub, Int.reduceBEq, Int.reduceBNe, reduceCtorEq] <;> rfl) (by (try simp only [decide_eq_true_eq, Bool.or_eq_true, Bool.and_eq_true, Bool.not_eq_true', decide_eq_false_iff_not, Bool.not_eq_eq_eq_not, Bool.not_true, Bool.not_false, beq_iff_eq, Bool.false_eq_true]) <;> (first | done | exact Iff.rfl | omega | simp)) (fun hc => ?_) (fun hc => ?_) <;> (try simp only [RN, if_true, if_false, Bool.false_eq_true, if_pos, reduceIte]) <;> (try first | refine T_exit ?_ | refine T_ret ?_ | refine T_skip ?_)
    · obtain ⟨hxk, hxc⟩ := hB.lt k hc
      obtain ⟨xk, hxd⟩ : ∃ xk, nl st.2.1 k = xk := ⟨_, rfl⟩
      have hxk' := hxk
      rw [hxd] at hxk'
      have hcx := hc32 xk
      have htx := ht32 xk
      have hsx := hs32 xk
      first | refine T_bfree rfl ?_ | refine T_bfree' rfl ?_
      try simp only [RN, if_true, if_false, Bool.false_eq_true, if_pos, reduceIte]
      try first | refine T_exit ?_ | refine T_ret ?_ | refine T_skip ?_
      refine T_rseq fun Kr hKr => ?_
      simp (disch := omega) only [RF, RO, RC, ↓reduceIte, Nat.reduceEqDiff, Nat.reduceBEq, Nat.reduceSub, Nat.reduceAdd, Nat.reduceMul, Nat.reduceLT, Nat.reduceLeDiff, Int.reduceLE, Int.reduceLT, Int.reduceEq, Int.reduceNeg, Int.reduceToNat, Int.reduceMul, Int.reduceAdd, Int.reduceSub, Int.reduceBEq, Int.reduceBNe, reduceCtorEq, RD, g5, g6, hxd]
      refine hKr _ _ ?_
      clear hKr Kr
      try simp only [RN, if_true, if_false, Bool.false_eq_true, if_pos, reduceIte]
      try first | refine T_exit ?_ | refine T_ret ?_ | refine T_skip ?_
      refine T_rseq fun Kr hKr => ?_
      simp (disch := omega) only [RF, RO, RC, ↓reduceIte, Nat.reduceEqDiff, Nat.reduceBEq, Nat.reduceSub, Nat.reduceAdd, Nat.reduceMul, Nat.reduceLT, Nat.reduceLeDiff, Int.reduceLE, Int.reduceLT, Int.reduceEq, Int.reduceNeg, Int.reduceToNat, Int.reduceMul, Int.reduceAdd, Int.reduceSub, Int.reduceBEq, Int.reduceBNe, reduceCtorEq, RD, g1, RFS, RFD]
      refine hKr _ _ ?_
      clear hKr Kr
      try simp only [RN, if_true, if_false, Bool.false_eq_true, if_pos, reduceIte]
      try first | refine T_exit ?_ | refine T_ret ?_ | refine T_skip ?_
      obtain ⟨nx, hnxe⟩ : ∃ nx, nx = [nl c xk, nl t xk, nl s xk] := ⟨_, rfl⟩
      have hnxl : nx.length = 3 := by rw [hnxe]; rfl
      have hnxj : ∀ j, j < 3 → nl nx j = nl (ls.getD j []) xk := by
        intro j hj
        rw [hnxe, ← hlse]
        have : j = 0 ∨ j = 1 ∨ j = 2 := by omega
        rcases this with rfl | rfl | rfl <;> rfl
      refine T_wloop (fun m f H' => ∃ j st', j ≤ 3 ∧ m = 3 - j ∧ st' = rnd2 (ls.take j) xk st ∧ st'.2.2 = true ∧ f 1 = P 0 0 ∧ f 2 = P 1 0 ∧ f 4 = P 2 0 ∧ f 5 = S 3 0 st'.2.1.length 1 ∧ f 6 = I k ∧ f 7 = .int .u8 (xk : Int) ∧ f 34 = S 4 0 3 1 ∧ f 35 = I 3 ∧ f 36 = I j ∧ H' = [some (FC n c t s), some (List.replicate 32 (.int .u8 0)), some (st'.1.map N8), some (st'.2.1.map N8), some (nx.map N8)]) (3) ?_ ?_
      · refine ⟨_, _, Gh.refl, 0, st, by omega, by omega, rfl, hok, ?_, ?_, ?_, ?_, ?_, ?_, ?_, ?_, ?_, by rw [hnxe]; rfl⟩
        any_goals (simp (disch := omega) only [RF, RO, RC, ↓reduceIte, Nat.reduceEqDiff, Nat.reduceBEq, Nat.reduceSub, Nat.reduceAdd, Nat.reduceMul, Nat.reduceLT, Nat.reduceLeDiff, Int.reduceLE, Int.reduceLT, Int.reduceEq, Int.reduceNeg, Int.reduceToNat, Int.reduceMul, Int.reduceAdd, Int.reduceSub, Int.reduceBEq, Int.reduceBNe, reduceCtorEq, RD, ren_PL, ren_AB, ren_AI, *] <;> rfl)
      · clear g1 g2 g4 g5 g6
        rintro m f H' R2 ⟨j, st', hj, rfl, hst', hok', g1, g2, g4, g5, g6, g7, g34, g35, g36, rfl⟩ hN2 hX2 hR2 hE2
        simp only [A_impl_classesOf.l0, T_aiff]
        refine T_rseq fun Kr hKr => ?_
        simp (disch := omega) only [RF, RO, RC, ↓reduceIte, Nat.reduceEqDiff, Nat.reduceBEq, Nat.reduceSub, Nat.reduceAdd, Nat.reduceMul, Nat.reduceLT, Nat.reduceLeDiff, Int.reduceLE, Int.reduceLT, Int.reduceEq, Int.reduceNeg, Int.reduceToNat, Int.reduceMul, Int.reduceAdd, Int.reduceSub, Int.reduceBEq, Int.reduceBNe, reduceCtorEq, RD, g35, g36]
        refine hKr _ _ ?_
        clear hKr Kr
        try simp only [RN, if_true, if_false, Bool.false_eq_true, if_pos, reduceIte]
        try first | refine T_exit ?_ | refine T_ret ?_ | refine T_skip ?_
        obtain ⟨hB', hxc'⟩ := hB.rnd (ls := ls.take j) (by exact hxc) fun p hp => hl32 p (List.mem_of_mem_take hp) _
        rw [hxd, ← hst'] at hB' hxc'
        have hle' := hB'.le
        have hsl' := hB'.len
        refine T_csplit (p := j < 3) (by simp only [RF, RO, RC, ↓reduceIte, Nat.reduceEqDiff, Nat.reduceBEq, Nat.reduceSub, Nat.reduceAdd, Nat.reduceMul, Nat.reduceLT, Nat.reduceLeDiff, Int.reduceLE, Int.reduceLT, Int.reduceEq, Int.reduceNeg, Int.reduceToNat, Int.reduceMul, Int.reduceAdd, Int.reduceSub, Int.reduceBEq, Int.reduceBNe, reduceCtorEq] <;> rfl) (by (try simp only [decide_eq_true_eq, Bool.or_eq_true, Bool.and_eq_true, Bool.not_eq_true', decide_eq_false_iff_not, Bool.not_eq_eq_eq_not, Bool.not_true, Bool.not_false, beq_iff_eq, Bool.false_eq_true]) <;> (first | done | exact Iff.rfl | omega | simp)) (fun hc => ?_) (fun hc => ?_) <;> (try simp only [RN, if_true, if_false, Bool.false_eq_true, if_pos, reduceIte]) <;> (try first | refine T_exit ?_ | refine T_ret ?_ | refine T_skip ?_)
        · have hjl : j < ls.length := by omega
          have hnx := rnd2_take (ls := ls) (x := xk) (st := st) hjl
          rw [← hst', ← hnxj j hc] at hnx
          have hyl : nl nx j < 32 := by rw [hnxj j hc]; exact hl32 _ (getD_mem (d := []) hjl) _
          obtain ⟨y, hyd⟩ : ∃ y, nl nx j = y := ⟨_, rfl⟩
          rw [hyd] at hyl hnx
          have hx2 := hB'.le2 xk
          have hnext : ∀ f' st2, f' 1 = P 0 0 → f' 2 = P 1 0 → f' 4 = P 2 0 → f' 5 = S 3 0 st2.2.1.length 1 → f' 6 = I k → f' 7 = .int .u8 (xk : Int) → f' 34 = S 4 0 3 1 → f' 35 = I 3 → f' 36 = I j → st2 = vis2 xk y st' → st2.2.2 = true →
              T 0 A_impl_classesOf.r16 R2 f' [some (FC n c t s), some (List.replicate 32 (.int .u8 0)), some (st2.1.map N8), some (st2.2.1.map N8), some (nx.map N8)] := by
            intro f' st2 g1 g2 g4 g5 g6 g7 g34 g35 g36 hs2 hok2
            refine T_reg_k fun Kr hKr => ?_
            simp (disch := omega) only [RF, RO, RC, ↓reduceIte, Nat.reduceEqDiff, Nat.reduceBEq, Nat.reduceSub, Nat.reduceAdd, Nat.reduceMul, Nat.reduceLT, Nat.reduceLeDiff, Int.reduceLE, Int.reduceLT, Int.reduceEq, Int.reduceNeg, Int.reduceToNat, Int.reduceMul, Int.reduceAdd, Int.reduceSub, Int.reduceBEq, Int.reduceBNe, reduceCtorEq, RD, g36]
            refine hKr _ _ ?_
            clear hKr Kr
            refine hN2 (3 - (j + 1)) _ _ _ _ (by omega) Gh.refl ⟨j + 1, st2, by omega, rfl, by rw [hnx, hs2], hok2, ?_, ?_, ?_, ?_, ?_, ?_, ?_, ?_, ?_, rfl⟩
            any_goals (simp (disch := omega) only [RF, RO, RC, ↓reduceIte, Nat.reduceEqDiff, Nat.reduceBEq, Nat.reduceSub, Nat.reduceAdd, Nat.reduceMul, Nat.reduceLT, Nat.reduceLeDiff, Int.reduceLE, Int.reduceLT, Int.reduceEq, Int.reduceNeg, Int.reduceToNat, Int.reduceMul, Int.reduceAdd, Int.reduceSub, Int.reduceBEq, Int.reduceBNe, reduceCtorEq, RD, ren_PL, ren_AB, ren_AI, *] <;> rfl)
          first | refine T_bfree rfl ?_ | refine T_bfree' rfl ?_
          try simp only [RN, if_true, if_false, Bool.false_eq_true, if_pos, reduceIte]
          try first | refine T_exit ?_ | refine T_ret ?_ | refine T_skip ?_
          refine T_rseq fun Kr hKr => ?_
          simp (disch := omega) only [RF, RO, RC, ↓reduceIte, Nat.reduceEqDiff, Nat.reduceBEq, Nat.reduceSub, Nat.reduceAdd, Nat.reduceMul, Nat.reduceLT, Nat.reduceLeDiff, Int.reduceLE, Int.reduceLT, Int.reduceEq, Int.reduceNeg, Int.reduceToNat, Int.reduceMul, Int.reduceAdd, Int.reduceSub, Int.reduceBEq, Int.reduceBNe, reduceCtorEq, RD, g34, g36, hnxl, hyd]
          refine hKr _ _ ?_
          clear hKr Kr
          try simp only [RN, if_true, if_false, Bool.false_eq_true, if_pos, reduceIte]
          try first | refine T_exit ?_ | refine T_ret ?_ | refine T_skip ?_
          refine T_rseq fun Kr hKr => ?_
          simp (disch := omega) only [RF, RO, RC, ↓reduceIte, Nat.reduceEqDiff, Nat.reduceBEq, Nat.reduceSub, Nat.reduceAdd, Nat.reduceMul, Nat.reduceLT, Nat.reduceLeDiff, Int.reduceLE, Int.reduceLT, Int.reduceEq, Int.reduceNeg, Int.reduceToNat, Int.reduceMul, Int.reduceAdd, Int.reduceSub, Int.reduceBEq, Int.reduceBNe, reduceCtorEq, RD, g4, hsl']
          refine hKr _ _ ?_
          clear hKr Kr
          try simp only [RN, if_true, if_false, Bool.false_eq_true, if_pos, reduceIte]
          try first | refine T_exit ?_ | refine T_ret ?_ | refine T_skip ?_
          first | refine T_bfree rfl ?_ | refine T_bfree' rfl ?_
          try simp only [RN, if_true, if_false, Bool.false_eq_true, if_pos, reduceIte]
          try first | refine T_exit ?_ | refine T_ret ?_ | refine T_skip ?_
          refine T_rseq fun Kr hKr => ?_
          simp (disch := omega) only [RF, RO, RC, ↓reduceIte, Nat.reduceEqDiff, Nat.reduceBEq, Nat.reduceSub, Nat.reduceAdd, Nat.reduceMul, Nat.reduceLT, Nat.reduceLeDiff, Int.reduceLE, Int.reduceLT, Int.reduceEq, Int.reduceNeg, Int.reduceToNat, Int.reduceMul, Int.reduceAdd, Int.reduceSub, Int.reduceBEq, Int.reduceBNe, reduceCtorEq, RD]
          refine hKr _ _ ?_
          clear hKr Kr
          try simp only [RN, if_true, if_false, Bool.false_eq_true, if_pos, reduceIte]
          try first | refine T_exit ?_ | refine T_ret ?_ | refine T_skip ?_
          refine T_csplit (p := nl st'.1 y = 0) (by simp only [RF, RO, RC, ↓reduceIte, Nat.reduceEqDiff, Nat.reduceBEq, Nat.reduceSub, Nat.reduceAdd, Nat.reduceMul, Nat.reduceLT, Nat.reduceLeDiff, Int.reduceLE, Int.reduceLT, Int.reduceEq, Int.reduceNeg, Int.reduceToNat, Int.reduceMul, Int.reduceAdd, Int.reduceSub, Int.reduceBEq, Int.reduceBNe, reduceCtorEq] <;> rfl) (by (try simp only [decide_eq_true_eq, Bool.or_eq_true, Bool.and_eq_true, Bool.not_eq_true', decide_eq_false_iff_not, Bool.not_eq_eq_eq_not, Bool.not_true, Bool.not_false, beq_iff_eq, Bool.false_eq_true]) <;> (first | done | exact Iff.rfl | omega | simp)) (fun hc => ?_) (fun hc => ?_) <;> (try simp only [RN, if_true, if_false, Bool.false_eq_true, if_pos, reduceIte]) <;> (try first | refine T_exit ?_ | refine T_ret ?_ | refine T_skip ?_)
          · have hsub : (3 : Int) - (nl st'.1 xk : Int) = ((3 - nl st'.1 xk : Nat) : Int) := by omega
            refine T_rseq fun Kr hKr => ?_
            simp (disch := omega) only [RF, RO, RC, ↓reduceIte, Nat.reduceEqDiff, Nat.reduceBEq, Nat.reduceSub, Nat.reduceAdd, Nat.reduceMul, Nat.reduceLT, Nat.reduceLeDiff, Int.reduceLE, Int.reduceLT, Int.reduceEq, Int.reduceNeg, Int.reduceToNat, Int.reduceMul, Int.reduceAdd, Int.reduceSub, Int.reduceBEq, Int.reduceBNe, reduceCtorEq, RD, g4, g7, hsl', hsub]
            refine hKr _ _ ?_
            clear hKr Kr
            try simp only [RN, if_true, if_false, Bool.false_eq_true, if_pos, reduceIte]
            try first | refine T_exit ?_ | refine T_ret ?_ | refine T_skip ?_
            refine T_rseq fun Kr hKr => ?_
            simp (disch := omega) only [RF, RO, RC, ↓reduceIte, Nat.reduceEqDiff, Nat.reduceBEq, Nat.reduceSub, Nat.reduceAdd, Nat.reduceMul, Nat.reduceLT, Nat.reduceLeDiff, Int.reduceLE, Int.reduceLT, Int.reduceEq, Int.reduceNeg, Int.reduceToNat, Int.reduceMul, Int.reduceAdd, Int.reduceSub, Int.reduceBEq, Int.reduceBNe, reduceCtorEq, RD, g5]
            refine hKr _ _ ?_
            clear hKr Kr
            try simp only [RN, if_true, if_false, Bool.false_eq_true, if_pos, reduceIte]
            try first | refine T_exit ?_ | refine T_ret ?_ | refine T_skip ?_
            refine T_gh (Gh.norm [0, 1, 2, 6, 4] (by decide) (by intro j hj; first | exact absurd hj (by simp) | (revert j; decide)) (by (repeat' first | exact HN.nil | (refine HN.none ?_) | (refine HN.cons ?_ ?_)) <;> (repeat' first | exact NNL.nil | exact NN.int | exact NN.bool | exact NN.fz | exact NN.nil | exact NN.string | exact NN.undef | (refine NNL.cons ?_ ?_) | (refine NN.tuple ?_) | (refine NN.agg ?_) | (refine NN.func ?_) | (refine NNL.append ?_ ?_) | exact NNL.map (fun _ => NN.int) | exact NNL.map (fun _ => NN.bool) | exact NNL.map (fun _ => NN.fz) | exact NNL.map (fun _ => NN.string) | exact NNL.replicate NN.int | exact NNL.replicate NN.bool | assumption))) ?_
            refine hnext _ (st'.1.set y (3 - nl st'.1 xk), st'.2.1 ++ [y], true) ?_ ?_ ?_ ?_ ?_ ?_ ?_ ?_ ?_ ?_ rfl
            any_goals (simp (disch := omega) only [RF, RO, RC, ↓reduceIte, Nat.reduceEqDiff, Nat.reduceBEq, Nat.reduceSub, Nat.reduceAdd, Nat.reduceMul, Nat.reduceLT, Nat.reduceLeDiff, Int.reduceLE, Int.reduceLT, Int.reduceEq, Int.reduceNeg, Int.reduceToNat, Int.reduceMul, Int.reduceAdd, Int.reduceSub, Int.reduceBEq, Int.reduceBNe, reduceCtorEq, RD, ren_PL, ren_AB, ren_AI, *] <;> rfl)
            rw [vis2, if_neg (by simp [hok']), if_neg (by omega), if_pos (by assumption)]
          · refine T_rseq fun Kr hKr => ?_
            simp (disch := omega) only [RF, RO, RC, ↓reduceIte, Nat.reduceEqDiff, Nat.reduceBEq, Nat.reduceSub, Nat.reduceAdd, Nat.reduceMul, Nat.reduceLT, Nat.reduceLeDiff, Int.reduceLE, Int.reduceLT, Int.reduceEq, Int.reduceNeg, Int.reduceToNat, Int.reduceMul, Int.reduceAdd, Int.reduceSub, Int.reduceBEq, Int.reduceBNe, reduceCtorEq, RD, g4, g7, hsl']
            refine hKr _ _ ?_
            clear hKr Kr
            try simp only [RN, if_true, if_false, Bool.false_eq_true, if_pos, reduceIte]
            try first | refine T_exit ?_ | refine T_ret ?_ | refine T_skip ?_
            refine T_csplit (p := nl st'.1 y = nl st'.1 xk) (by simp only [RF, RO, RC, ↓reduceIte, Nat.reduceEqDiff, Nat.reduceBEq, Nat.reduceSub, Nat.reduceAdd, Nat.reduceMul, Nat.reduceLT, Nat.reduceLeDiff, Int.reduceLE, Int.reduceLT, Int.reduceEq, Int.reduceNeg, Int.reduceToNat, Int.reduceMul, Int.reduceAdd, Int.reduceSub, Int.reduceBEq, Int.reduceBNe, reduceCtorEq] <;> rfl) (by (try simp only [decide_eq_true_eq, Bool.or_eq_true, Bool.and_eq_true, Bool.not_eq_true', decide_eq_false_iff_not, Bool.not_eq_eq_eq_not, Bool.not_true, Bool.not_false, beq_iff_eq, Bool.false_eq_true]) <;> (first | done | exact Iff.rfl | omega | simp)) (fun hc => ?_) (fun hc => ?_) <;> (try simp only [RN, if_true, if_false, Bool.false_eq_true, if_pos, reduceIte]) <;> (try first | refine T_exit ?_ | refine T_ret ?_ | refine T_skip ?_)
            · refine T_rseq fun Kr hKr => ?_
              simp (disch := omega) only [RF, RO, RC, ↓reduceIte, Nat.reduceEqDiff, Nat.reduceBEq, Nat.reduceSub, Nat.reduceAdd, Nat.reduceMul, Nat.reduceLT, Nat.reduceLeDiff, Int.reduceLE, Int.reduceLT, Int.reduceEq, Int.reduceNeg, Int.reduceToNat, Int.reduceMul, Int.reduceAdd, Int.reduceSub, Int.reduceBEq, Int.reduceBNe, reduceCtorEq, RD, g2, g4, hsl']
              refine hKr _ _ ?_
              clear hKr Kr
              try simp only [RN, if_true, if_false, Bool.false_eq_true, if_pos, reduceIte]
              try first | refine T_exit ?_ | refine T_ret ?_ | refine T_skip ?_
              refine hR2 _ _ (hR _ _ ?_)
              refine bodyQ_ret (by simp (disch := omega) only [RF, RO, RC, ↓reduceIte, Nat.reduceEqDiff, Nat.reduceBEq, Nat.reduceSub, Nat.reduceAdd, Nat.reduceMul, Nat.reduceLT, Nat.reduceLeDiff, Int.reduceLE, Int.reduceLT, Int.reduceEq, Int.reduceNeg, Int.reduceToNat, Int.reduceMul, Int.reduceAdd, Int.reduceSub, Int.reduceBEq, Int.reduceBNe, reduceCtorEq, RD, resAll, resOf, g2, hsl']; rfl) GhV.refl ?_
              simp only [tup]
              refine ⟨nn_8B, ?_⟩
              have hv : vis2 xk y st' = (st'.1, st'.2.1, false) := by rw [vis2, if_neg (by simp [hok']), if_pos (by assumption)]
              rw [cls_fail (i := k) (j := j + 1) (s' := (st'.1, st'.2.1, false)) (by rw [← hst]; exact hok) (by rw [← hst]; assumption) (by rw [← hst, hxd, hnx, hv]) rfl (by omega)] at hK
              exact hK
            · try simp only [RN, if_true, if_false, Bool.false_eq_true, if_pos, reduceIte]
              try first | refine T_exit ?_ | refine T_ret ?_ | refine T_skip ?_
              refine hnext _ st' ?_ ?_ ?_ ?_ ?_ ?_ ?_ ?_ ?_ ?_ hok'
              any_goals (simp (disch := omega) only [RF, RO, RC, ↓reduceIte, Nat.reduceEqDiff, Nat.reduceBEq, Nat.reduceSub, Nat.reduceAdd, Nat.reduceMul, Nat.reduceLT, Nat.reduceLeDiff, Int.reduceLE, Int.reduceLT, Int.reduceEq, Int.reduceNeg, Int.reduceToNat, Int.reduceMul, Int.reduceAdd, Int.reduceSub, Int.reduceBEq, Int.reduceBNe, reduceCtorEq, RD, ren_PL, ren_AB, ren_AI, *] <;> rfl)
              rw [vis2, if_neg (by simp [hok']), if_neg (by assumption), if_neg (by assumption)]
        · refine hX2 _ _ ?_
          obtain rfl : j = 3 := by omega
          have hst2 : st' = cls ls c0 (k + 1) := by
            rw [hst', cls, ← hst, if_pos ⟨hok, by assumption⟩, List.take_of_length_le (by omega), hxd]
          obtain ⟨q, hq⟩ := @rnd2_pre xk (ls.take 3) st
          have hlq : k + 1 ≤ st'.2.1.length := by rw [hst', hq]; simp; omega
          refine T_reg_k fun Kr hKr => ?_
          simp (disch := omega) only [RF, RO, RC, ↓reduceIte, Nat.reduceEqDiff, Nat.reduceBEq, Nat.reduceSub, Nat.reduceAdd, Nat.reduceMul, Nat.reduceLT, Nat.reduceLeDiff, Int.reduceLE, Int.reduceLT, Int.reduceEq, Int.reduceNeg, Int.reduceToNat, Int.reduceMul, Int.reduceAdd, Int.reduceSub, Int.reduceBEq, Int.reduceBNe, reduceCtorEq, RD, g6]
          refine hKr _ _ ?_
          clear hKr Kr
          refine hN (32 - (k + 1)) _ _ _ _ (by omega) (Gh.norm [0, 1, 2, 3] (by decide) (by intro j hj; first | exact absurd hj (by simp) | (revert j; decide)) (by (repeat' first | exact HN.nil | (refine HN.none ?_) | (refine HN.cons ?_ ?_)) <;> (repeat' first | exact NNL.nil | exact NN.int | exact NN.bool | exact NN.fz | exact NN.nil | exact NN.string | exact NN.undef | (refine NNL.cons ?_ ?_) | (refine NN.tuple ?_) | (refine NN.agg ?_) | (refine NN.func ?_) | (refine NNL.append ?_ ?_) | exact NNL.map (fun _ => NN.int) | exact NNL.map (fun _ => NN.bool) | exact NNL.map (fun _ => NN.fz) | exact NNL.map (fun _ => NN.string) | exact NNL.replicate NN.int | exact NNL.replicate NN.bool | assumption))) ⟨k + 1, st', by omega, rfl, hst2, hok', hlq, ?_, ?_, ?_, ?_, ?_, rfl⟩
          any_goals (simp (disch := omega) only [RF, RO, RC, ↓reduceIte, Nat.reduceEqDiff, Nat.reduceBEq, Nat.reduceSub, Nat.reduceAdd, Nat.reduceMul, Nat.reduceLT, Nat.reduceLeDiff, Int.reduceLE, Int.reduceLT, Int.reduceEq, Int.reduceNeg, Int.reduceToNat, Int.reduceMul, Int.reduceAdd, Int.reduceSub, Int.reduceBEq, Int.reduceBNe, reduceCtorEq, RD, ren_PL, ren_AB, ren_AI, *] <;> rfl)
    · refine hX _ _ ?_
      refine T_rseq fun Kr hKr => ?_
      simp (disch := omega) only [RF, RO, RC, ↓reduceIte, Nat.reduceEqDiff, Nat.reduceBEq, Nat.reduceSub, Nat.reduceAdd, Nat.reduceMul, Nat.reduceLT, Nat.reduceLeDiff, Int.reduceLE, Int.reduceLT, Int.reduceEq, Int.reduceNeg, Int.reduceToNat, Int.reduceMul, Int.reduceAdd, Int.reduceSub, Int.reduceBEq, Int.reduceBNe, reduceCtorEq, RD, g2, g4, hsl]
      refine hKr _ _ ?_
      clear hKr Kr
      try simp only [RN, if_true, if_false, Bool.false_eq_true, if_pos, reduceIte]
      try first | refine T_exit ?_ | refine T_ret ?_ | refine T_skip ?_
      refine bodyQ_ret (by simp (disch := omega) only [RF, RO, RC, ↓reduceIte, Nat.reduceEqDiff, Nat.reduceBEq, Nat.reduceSub, Nat.reduceAdd, Nat.reduceMul, Nat.reduceLT, Nat.reduceLeDiff, Int.reduceLE, Int.reduceLT, Int.reduceEq, Int.reduceNeg, Int.reduceToNat, Int.reduceMul, Int.reduceAdd, Int.reduceSub, Int.reduceBEq, Int.reduceBNe, reduceCtorEq, RD, resAll, resOf, g2, hsl]; rfl) GhV.refl ?_
      simp only [tup]
      refine ⟨nn_8B, ?_⟩
      have hs : cls ls c0 32 = st := by rw [cls_stop (i := k) (by rw [← hst]; exact .inr (by omega)) 32 hk, hst]
      rw [hs, hok] at hK
      exact hK

theorem Fl.all32 {n : Int} {c t s : List Nat} (h : Fl n c t s) (hc : By 32 c) (ht : By 32 t) (hs : By 32 s) : ∀ p ∈ [c, t, s], ∀ i, nl p i < 32 := by
  have h1 := h.1
  have hc' := h.2.2.1.lt h1.2 hc (by omega)
  have ht' := h.2.2.2.1.lt h1.2 ht (by omega)
  have hs' := h.2.2.2.2.1.lt h1.2 hs (by omega)
  simp
  exact ⟨hc', ht', hs'⟩
def resOr (n : Int) (c t s : List Nat) : Bool × Int := if ¬ Fl n c t s then (false, 1) else ((clsR c t s).2.2, 0)
theorem nn_BI {b : Bool} {k : IntKind} {a : Int} : NN (.tuple ⟨[.bool b, .int k a]⟩) := NN.tuple (NNL.cons NN.bool (NNL.cons NN.int NNL.nil))
theorem spec_IsOrientable_spec {x : Bool} {n : Int} {c t s : List Nat} {H : BH} {K : Value → BH → Prop} (hcc : By 32 c) (ht : By 32 t) (hs : By 32 s)
    (hK : K (.tuple ⟨[.bool (resOr n c t s).1, I (resOr n c t s).2]⟩) H) : CallX x F_spec_IsOrientable [FV n c t s] H K := by
  have hlc := hcc.len
  have hlt := ht.len
  have hls := hs.len
  refine callP (by exact .cons nn_F .nil) ?_
  refine CallX_body Γ_spec_IsOrientable ?_
  simp only [A_spec_IsOrientable, T_aiff]
  refine T_rseq fun Kr hKr => ?_
  simp (disch := omega) only [RF, RO, RC, ↓reduceIte, Nat.reduceEqDiff, Nat.reduceBEq, Nat.reduceSub, Nat.reduceAdd, Nat.reduceMul, Nat.reduceLT, Nat.reduceLeDiff, Int.reduceLE, Int.reduceLT, Int.reduceEq, Int.reduceNeg, Int.reduceToNat, Int.reduceMul, Int.reduceAdd, Int.reduceSub, Int.reduceBEq, Int.reduceBNe, reduceCtorEq, RD, RFS]
  refine hKr _ _ ?_
  clear hKr Kr
  try simp only [RN, if_true, if_false, Bool.false_eq_true, if_pos, reduceIte]
  try first | refine T_exit ?_ | refine T_ret ?_ | refine T_skip ?_
  refine T_rseq fun Kr hKr => ?_
  simp (disch := omega) only [RF, RO, RC, ↓reduceIte, Nat.reduceEqDiff, Nat.reduceBEq, Nat.reduceSub, Nat.reduceAdd, Nat.reduceMul, Nat.reduceLT, Nat.reduceLeDiff, Int.reduceLE, Int.reduceLT, Int.reduceEq, Int.reduceNeg, Int.reduceToNat, Int.reduceMul, Int.reduceAdd, Int.reduceSub, Int.reduceBEq, Int.reduceBNe, reduceCtorEq, RD, RFS, RFD]
  refine l07Are_spec hcc ht hs ?_
  simp (disch := omega) only [RF, RO, RC, ↓reduceIte, Nat.reduceEqDiff, Nat.reduceBEq, Nat.reduceSub, Nat.reduceAdd, Nat.reduceMul, Nat.reduceLT, Nat.reduceLeDiff, Int.reduceLE, Int.reduceLT, Int.reduceEq, Int.reduceNeg, Int.reduceToNat, Int.reduceMul, Int.reduceAdd, Int.reduceSub, Int.reduceBEq, Int.reduceBNe, reduceCtorEq, RD]
  refine hKr _ _ ?_
  clear hKr Kr
  try simp only [blkQ, thenQ, loopQ]
  try simp only [RN, if_true, if_false, Bool.false_eq_true, if_pos, reduceIte]
  try first | refine T_exit ?_ | refine T_ret ?_ | refine T_skip ?_
  refine T_csplit (p := ¬ Fl n c t s) (by simp only [RF, RO, RC, ↓reduceIte, Nat.reduceEqDiff, Nat.reduceBEq, Nat.reduceSub, Nat.reduceAdd, Nat.reduceMul, Nat.reduceLT, Nat.reduceLeDiff, Int.reduceLE, Int.reduceLT, Int.reduceEq, Int.reduceNeg, Int.reduceToNat, Int.reduceMul, Int.reduceAdd, Int.reduceSub, Int.reduceBEq, Int.reduceBNe, reduceCtorEq] <;> rfl) (by (try simp only [decide_eq_true_eq, Bool.or_eq_true, Bool.and_eq_true, Bool.not_eq_true', decide_eq_false_iff_not, Bool.not_eq_eq_eq_not, Bool.not_true, Bool.not_false, beq_iff_eq, Bool.false_eq_true]) <;> (first | done | exact Iff.rfl | omega | simp)) (fun hc => ?_) (fun hc => ?_) <;> (try simp only [RN, if_true, if_false, Bool.false_eq_true, if_pos, reduceIte]) <;> (try first | refine T_exit ?_ | refine T_ret ?_ | refine T_skip ?_)
  · refine T_rseq fun Kr hKr => ?_
    simp (disch := omega) only [RF, RO, RC, ↓reduceIte, Nat.reduceEqDiff, Nat.reduceBEq, Nat.reduceSub, Nat.reduceAdd, Nat.reduceMul, Nat.reduceLT, Nat.reduceLeDiff, Int.reduceLE, Int.reduceLT, Int.reduceEq, Int.reduceNeg, Int.reduceToNat, Int.reduceMul, Int.reduceAdd, Int.reduceSub, Int.reduceBEq, Int.reduceBNe, reduceCtorEq, RD]
    refine hKr _ _ ?_
    clear hKr Kr
    try simp only [RN, if_true, if_false, Bool.false_eq_true, if_pos, reduceIte]
    try first | refine T_exit ?_ | refine T_ret ?_ | refine T_skip ?_
    refine bodyQ_ret (by simp (disch := omega) only [RF, RO, RC, ↓reduceIte, Nat.reduceEqDiff, Nat.reduceBEq, Nat.reduceSub, Nat.reduceAdd, Nat.reduceMul, Nat.reduceLT, Nat.reduceLeDiff, Int.reduceLE, Int.reduceLT, Int.reduceEq, Int.reduceNeg, Int.reduceToNat, Int.reduceMul, Int.reduceAdd, Int.reduceSub, Int.reduceBEq, Int.reduceBNe, reduceCtorEq, RD, resAll, resOf]; rfl) GhV.refl ?_
    simp only [tup]
    rw [resOr, if_pos hc] at hK
    exact ⟨nn_BI, hK⟩
  have hd := Decidable.not_not.1 hc
  have hl32 := hd.all32 hcc ht hs
  have hlr := clsR_len hl32
  rw [resOr, if_neg (by simpa using hd)] at hK
  refine T_rseq fun Kr hKr => ?_
  simp (disch := omega) only [RF, RO, RC, ↓reduceIte, Nat.reduceEqDiff, Nat.reduceBEq, Nat.reduceSub, Nat.reduceAdd, Nat.reduceMul, Nat.reduceLT, Nat.reduceLeDiff, Int.reduceLE, Int.reduceLT, Int.reduceEq, Int.reduceNeg, Int.reduceToNat, Int.reduceMul, Int.reduceAdd, Int.reduceSub, Int.reduceBEq, Int.reduceBNe, reduceCtorEq, RD, RFS, RFD]
  refine l07Class_spec hcc ht hs hl32 ?_
  generalize clsR c t s = r at hlr hK
  simp (disch := omega) only [RF, RO, RC, ↓reduceIte, Nat.reduceEqDiff, Nat.reduceBEq, Nat.reduceSub, Nat.reduceAdd, Nat.reduceMul, Nat.reduceLT, Nat.reduceLeDiff, Int.reduceLE, Int.reduceLT, Int.reduceEq, Int.reduceNeg, Int.reduceToNat, Int.reduceMul, Int.reduceAdd, Int.reduceSub, Int.reduceBEq, Int.reduceBNe, reduceCtorEq, RD, st_r64]
  refine hKr _ _ ?_
  clear hKr Kr
  try simp only [blkQ, thenQ, loopQ]
  try simp only [RN, if_true, if_false, Bool.false_eq_true, if_pos, reduceIte]
  try first | refine T_exit ?_ | refine T_ret ?_ | refine T_skip ?_
  refine T_rseq fun Kr hKr => ?_
  simp (disch := omega) only [RF, RO, RC, ↓reduceIte, Nat.reduceEqDiff, Nat.reduceBEq, Nat.reduceSub, Nat.reduceAdd, Nat.reduceMul, Nat.reduceLT, Nat.reduceLeDiff, Int.reduceLE, Int.reduceLT, Int.reduceEq, Int.reduceNeg, Int.reduceToNat, Int.reduceMul, Int.reduceAdd, Int.reduceSub, Int.reduceBEq, Int.reduceBNe, reduceCtorEq, RD]
  refine hKr _ _ ?_
  clear hKr Kr
  try simp only [RN, if_true, if_false, Bool.false_eq_true, if_pos, reduceIte]
  try first | refine T_exit ?_ | refine T_ret ?_ | refine T_skip ?_
  refine bodyQ_ret (by simp (disch := omega) only [RF, RO, RC, ↓reduceIte, Nat.reduceEqDiff, Nat.reduceBEq, Nat.reduceSub, Nat.reduceAdd, Nat.reduceMul, Nat.reduceLT, Nat.reduceLeDiff, Int.reduceLE, Int.reduceLT, Int.reduceEq, Int.reduceNeg, Int.reduceToNat, Int.reduceMul, Int.reduceAdd, Int.reduceSub, Int.reduceBEq, Int.reduceBNe, reduceCtorEq, RD, resAll, resOf]; rfl) GhV.refl ?_
  simp only [tup]
  exact ⟨nn_BI, hK⟩
theorem impl_IsOrientable_spec {x : Bool} {n : Int} {c t s : List Nat} {H : BH} {K : Value → BH → Prop} (hcc : By 32 c) (ht : By 32 t) (hs : By 32 s)
    (hK : K (.tuple ⟨[.bool (resOr n c t s).1, I (resOr n c t s).2]⟩) H) : CallX x F_impl_IsOrientable [FV n c t s] H K := by
  have hlc := hcc.len
  have hlt := ht.len
  have hls := hs.len
  refine callP (by exact .cons nn_F .nil) ?_
  refine CallX_body Γ_impl_IsOrientable ?_
  simp only [A_impl_IsOrientable, T_aiff]
  refine T_rseq fun Kr hKr => ?_
  simp (disch := omega) only [RF, RO, RC, ↓reduceIte, Nat.reduceEqDiff, Nat.reduceBEq, Nat.reduceSub, Nat.reduceAdd, Nat.reduceMul, Nat.reduceLT, Nat.reduceLeDiff, Int.reduceLE, Int.reduceLT, Int.reduceEq, Int.reduceNeg, Int.reduceToNat, Int.reduceMul, Int.reduceAdd, Int.reduceSub, Int.reduceBEq, Int.reduceBNe, reduceCtorEq, RD, RFS]
  refine hKr _ _ ?_
  clear hKr Kr
  try simp only [RN, if_true, if_false, Bool.false_eq_true, if_pos, reduceIte]
  try first | refine T_exit ?_ | refine T_ret ?_ | refine T_skip ?_
  refine T_rseq fun Kr hKr => ?_
  simp (disch := omega) only [RF, RO, RC, ↓reduceIte, Nat.reduceEqDiff, Nat.reduceBEq, Nat.reduceSub, Nat.reduceAdd, Nat.reduceMul, Nat.reduceLT, Nat.reduceLeDiff, Int.reduceLE, Int.reduceLT, Int.reduceEq, Int.reduceNeg, Int.reduceToNat, Int.reduceMul, Int.reduceAdd, Int.reduceSub, Int.reduceBEq, Int.reduceBNe, reduceCtorEq, RD, RFS, RFD]
  refine impl_AreFlags_spec hcc ht hs ?_
  simp (disch := omega) only [RF, RO, RC, ↓reduceIte, Nat.reduceEqDiff, Nat.reduceBEq, Nat.reduceSub, Nat.reduceAdd, Nat.reduceMul, Nat.reduceLT, Nat.reduceLeDiff, Int.reduceLE, Int.reduceLT, Int.reduceEq, Int.reduceNeg, Int.reduceToNat, Int.reduceMul, Int.reduceAdd, Int.reduceSub, Int.reduceBEq, Int.reduceBNe, reduceCtorEq, RD]
  refine hKr _ _ ?_
  clear hKr Kr
  try simp only [blkQ, thenQ, loopQ]
  try simp only [RN, if_true, if_false, Bool.false_eq_true, if_pos, reduceIte]
  try first | refine T_exit ?_ | refine T_ret ?_ | refine T_skip ?_
  refine T_csplit (p := ¬ Fl n c t s) (by simp only [RF, RO, RC, ↓reduceIte, Nat.reduceEqDiff, Nat.reduceBEq, Nat.reduceSub, Nat.reduceAdd, Nat.reduceMul, Nat.reduceLT, Nat.reduceLeDiff, Int.reduceLE, Int.reduceLT, Int.reduceEq, Int.reduceNeg, Int.reduceToNat, Int.reduceMul, Int.reduceAdd, Int.reduceSub, Int.reduceBEq, Int.reduceBNe, reduceCtorEq] <;> rfl) (by (try simp only [decide_eq_true_eq, Bool.or_eq_true, Bool.and_eq_true, Bool.not_eq_true', decide_eq_false_iff_not, Bool.not_eq_eq_eq_not, Bool.not_true, Bool.not_false, beq_iff_eq, Bool.false_eq_true]) <;> (first | done | exact Iff.rfl | omega | simp)) (fun hc => ?_) (fun hc => ?_) <;> (try simp only [RN, if_true, if_false, Bool.false_eq_true, if_pos, reduceIte]) <;> (try first | refine T_exit ?_ | refine T_ret ?_ | refine T_skip ?_)
  · refine T_rseq fun Kr hKr => ?_
    simp (disch := omega) only [RF, RO, RC, ↓reduceIte, Nat.reduceEqDiff, Nat.reduceBEq, Nat.reduceSub, Nat.reduceAdd, Nat.reduceMul, Nat.reduceLT, Nat.reduceLeDiff, Int.reduceLE, Int.reduceLT, Int.reduceEq, Int.reduceNeg, Int.reduceToNat, Int.reduceMul, Int.reduceAdd, Int.reduceSub, Int.reduceBEq, Int.reduceBNe, reduceCtorEq, RD]
    refine hKr _ _ ?_
    clear hKr Kr
    try simp only [RN, if_true, if_false, Bool.false_eq_true, if_pos, reduceIte]
    try first | refine T_exit ?_ | refine T_ret ?_ | refine T_skip ?_
    refine bodyQ_ret (by simp (disch := omega) only [RF, RO, RC, ↓reduceIte, Nat.reduceEqDiff, Nat.reduceBEq, Nat.reduceSub, Nat.reduceAdd, Nat.reduceMul, Nat.reduceLT, Nat.reduceLeDiff, Int.reduceLE, Int.reduceLT, Int.reduceEq, Int.reduceNeg, Int.reduceToNat, Int.reduceMul, Int.reduceAdd, Int.reduceSub, Int.reduceBEq, Int.reduceBNe, reduceCtorEq, RD, resAll, resOf]; rfl) GhV.refl ?_
    simp only [tup]
    rw [resOr, if_pos hc] at hK
    exact ⟨nn_BI, hK⟩
  have hd := Decidable.not_not.1 hc
  have hl32 := hd.all32 hcc ht hs
  have hlr := clsR_len hl32
  rw [resOr, if_neg (by simpa using hd)] at hK
  refine T_rseq fun Kr hKr => ?_
  simp (disch := omega) only [RF, RO, RC, ↓reduceIte, Nat.reduceEqDiff, Nat.reduceBEq, Nat.reduceSub, Nat.reduceAdd, Nat.reduceMul, Nat.reduceLT, Nat.reduceLeDiff, Int.reduceLE, Int.reduceLT, Int.reduceEq, Int.reduceNeg, Int.reduceToNat, Int.reduceMul, Int.reduceAdd, Int.reduceSub, Int.reduceBEq, Int.reduceBNe, reduceCtorEq, RD, RFS, RFD]
  refine classesOf_spec hcc ht hs hl32 ?_
  generalize clsR c t s = r at hlr hK
  simp (disch := omega) only [RF, RO, RC, ↓reduceIte, Nat.reduceEqDiff, Nat.reduceBEq, Nat.reduceSub, Nat.reduceAdd, Nat.reduceMul, Nat.reduceLT, Nat.reduceLeDiff, Int.reduceLE, Int.reduceLT, Int.reduceEq, Int.reduceNeg, Int.reduceToNat, Int.reduceMul, Int.reduceAdd, Int.reduceSub, Int.reduceBEq, Int.reduceBNe, reduceCtorEq, RD]
  refine hKr _ _ ?_
  clear hKr Kr
  try simp only [blkQ, thenQ, loopQ]
  try simp only [RN, if_true, if_false, Bool.false_eq_true, if_pos, reduceIte]
  try first | refine T_exit ?_ | refine T_ret ?_ | refine T_skip ?_
  refine T_rseq fun Kr hKr => ?_
  simp (disch := omega) only [RF, RO, RC, ↓reduceIte, Nat.reduceEqDiff, Nat.reduceBEq, Nat.reduceSub, Nat.reduceAdd, Nat.reduceMul, Nat.reduceLT, Nat.reduceLeDiff, Int.reduceLE, Int.reduceLT, Int.reduceEq, Int.reduceNeg, Int.reduceToNat, Int.reduceMul, Int.reduceAdd, Int.reduceSub, Int.reduceBEq, Int.reduceBNe, reduceCtorEq, RD]
  refine hKr _ _ ?_
  clear hKr Kr
  try simp only [RN, if_true, if_false, Bool.false_eq_true, if_pos, reduceIte]
  try first | refine T_exit ?_ | refine T_ret ?_ | refine T_skip ?_
  refine bodyQ_ret (by simp (disch := omega) only [RF, RO, RC, ↓reduceIte, Nat.reduceEqDiff, Nat.reduceBEq, Nat.reduceSub, Nat.reduceAdd, Nat.reduceMul, Nat.reduceLT, Nat.reduceLeDiff, Int.reduceLE, Int.reduceLT, Int.reduceEq, Int.reduceNeg, Int.reduceToNat, Int.reduceMul, Int.reduceAdd, Int.reduceSub, Int.reduceBEq, Int.reduceBNe, reduceCtorEq, RD, resAll, resOf]; rfl) GhV.refl ?_
  simp only [tup]
  exact ⟨nn_BI, hK⟩
end Go.Bm
