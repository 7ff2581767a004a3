/- DpLb, DpLc, DpVa, DpDa, DpDg, DpKa, DpDb, DpDc, DpDh, DpDd, DpEa, DpEb, DpDi, DpDj, DpDe, DpDk, DpDl, DpKb, DpKc, DpKd -/
import Derived.Test.YtbfhlajbjfahiaaBmQ
import Derived.Test.YtbfhlajbjfahiaaBmR
import Derived.Test.YtbfhlajbjfahiaaBmU
import Derived.Test.YtbfhlajbjfahiaaBmV
import Derived.Test.YtbfhlajbjfahiaaDpG0
/- Words of brackets. -/
set_option linter.unusedVariables false
set_option linter.unusedSimpArgs false
set_option linter.unusedSectionVars false
namespace Go.Bm
open Go Go.Am
abbrev U8 (c : UInt8) : Value := .int .u8 (c.toNat : Int)
theorem ixS_bs {l : List UInt8} {i : Nat} (h : i < l.length) : ixS (.string (bs l)) (I i) = some (U8 l[i]) := by
  have : (bs l)[i]? = some l[i] := by
    have h2 : i < (bs l).size := by rw [bs_size]; exact h
    rw [getElem?_pos (bs l) i h2]
    rfl
  show (if 0 ≤ (i : Int) then ((bs l)[((i : Int)).toNat]?).map fun b => Value.int .u8 b.toNat else none) = _
  rw [if_pos (by omega), Int.toNat_natCast, this]
  rfl
section
variable {x : Bool} {s : List UInt8} {H : BH} {K : Value → BH → Prop}
theorem dep_ge {i : Nat} (hi : i ≤ s.length) : -(i : Int) ≤ dep (s.take i) ∧ dep (s.take i) ≤ i := by
  have h1 := List.countP_le_length (p := fun c : UInt8 => c.toNat == 40) (l := s.take i)
  have h2 := List.countP_le_length (p := fun c : UInt8 => c.toNat == 41) (l := s.take i)
  rw [List.length_take] at h1 h2
  unfold dep
  omega
theorem isBrackets_spec (hK : K (.bool (decide (WdP s))) H) : CallX x F_impl_isBrackets [.string (bs s)] H K := by
  refine callP (.cons NNs .nil) ?_
  have hsz := bs_size (l := s)
  refine CallX_body Γ_impl_isBrackets ?_
  simp only [A_impl_isBrackets, T_aiff]
  refine T_rseq fun Kr hKr => ?_
  simp (disch := omega) only [RA, ↓reduceIte, Nat.reduceEqDiff, Nat.reduceBEq, Nat.reduceSub, Nat.reduceAdd, Nat.reduceMul, Nat.reduceLT, Nat.reduceLeDiff, Int.reduceLE, Int.reduceLT, Int.reduceEq, Int.reduceNeg, Int.reduceToNat, Int.reduceMul, Int.reduceAdd, Int.reduceSub, Int.reduceBEq, Int.reduceBNe, reduceCtorEq, RD]
  refine hKr _ _ ?_
  clear hKr Kr
  try simp only [RN, reduceIte]
  try refine T_e rfl ?_
  have hshort : ¬ (2 ≤ s.length ∧ s.length ≤ 32) → ∀ f' rest, T 0 (.seq A_impl_isBrackets.r2 (.seq .ret rest)) (bodyQ 0 [.tmp 2] fun v _ => NN v ∧ K v H) f' [] := fun h f' rest => by
    rw [decide_eq_false fun q : WdP s => h q.1] at hK
    refine T_rseq fun Kr hKr => ?_
    simp (disch := omega) only [RA, ↓reduceIte, Nat.reduceEqDiff, Nat.reduceBEq, Nat.reduceSub, Nat.reduceAdd, Nat.reduceMul, Nat.reduceLT, Nat.reduceLeDiff, Int.reduceLE, Int.reduceLT, Int.reduceEq, Int.reduceNeg, Int.reduceToNat, Int.reduceMul, Int.reduceAdd, Int.reduceSub, Int.reduceBEq, Int.reduceBNe, reduceCtorEq, RD]
    refine hKr _ _ ?_
    clear hKr Kr
    try simp only [RN, reduceIte]
    try refine T_e rfl ?_
    refine bodyQ_ret (by simp (disch := omega) only [RA, ↓reduceIte, Nat.reduceEqDiff, Nat.reduceBEq, Nat.reduceSub, Nat.reduceAdd, Nat.reduceMul, Nat.reduceLT, Nat.reduceLeDiff, Int.reduceLE, Int.reduceLT, Int.reduceEq, Int.reduceNeg, Int.reduceToNat, Int.reduceMul, Int.reduceAdd, Int.reduceSub, Int.reduceBEq, Int.reduceBNe, reduceCtorEq, RD, resAll, resOf]; rfl) GhV.refl ?_
    simp only [tup]
    exact ⟨.bool, hK⟩
  by_cases h1 : (s.length : Int) < 2
  · have e1 := decide_eq_true h1
    refine T_rseq fun Kr hKr => ?_
    simp (disch := omega) only [RA, ↓reduceIte, Nat.reduceEqDiff, Nat.reduceBEq, Nat.reduceSub, Nat.reduceAdd, Nat.reduceMul, Nat.reduceLT, Nat.reduceLeDiff, Int.reduceLE, Int.reduceLT, Int.reduceEq, Int.reduceNeg, Int.reduceToNat, Int.reduceMul, Int.reduceAdd, Int.reduceSub, Int.reduceBEq, Int.reduceBNe, reduceCtorEq, RD, hsz, e1]
    refine hKr _ _ ?_
    clear hKr Kr
    try simp only [RN, reduceIte]
    try refine T_e rfl ?_
    refine T_cseq (t := true) (by simp (disch := omega) only [RA, ↓reduceIte, Nat.reduceEqDiff, Nat.reduceBEq, Nat.reduceSub, Nat.reduceAdd, Nat.reduceMul, Nat.reduceLT, Nat.reduceLeDiff, Int.reduceLE, Int.reduceLT, Int.reduceEq, Int.reduceNeg, Int.reduceToNat, Int.reduceMul, Int.reduceAdd, Int.reduceSub, Int.reduceBEq, Int.reduceBNe, reduceCtorEq, RD]) ?_
    try simp only [RN, reduceIte]
    try refine T_e rfl ?_
    exact hshort (by omega) _ _
  have e1 := decide_eq_false h1
  by_cases h2 : (32 : Int) < s.length
  · have e2 := decide_eq_true h2
    refine T_rseq fun Kr hKr => ?_
    simp (disch := omega) only [RA, ↓reduceIte, Nat.reduceEqDiff, Nat.reduceBEq, Nat.reduceSub, Nat.reduceAdd, Nat.reduceMul, Nat.reduceLT, Nat.reduceLeDiff, Int.reduceLE, Int.reduceLT, Int.reduceEq, Int.reduceNeg, Int.reduceToNat, Int.reduceMul, Int.reduceAdd, Int.reduceSub, Int.reduceBEq, Int.reduceBNe, reduceCtorEq, RD, hsz, e1, e2]
    refine hKr _ _ ?_
    clear hKr Kr
    try simp only [RN, reduceIte]
    try refine T_e rfl ?_
    refine T_cseq (t := true) (by simp (disch := omega) only [RA, ↓reduceIte, Nat.reduceEqDiff, Nat.reduceBEq, Nat.reduceSub, Nat.reduceAdd, Nat.reduceMul, Nat.reduceLT, Nat.reduceLeDiff, Int.reduceLE, Int.reduceLT, Int.reduceEq, Int.reduceNeg, Int.reduceToNat, Int.reduceMul, Int.reduceAdd, Int.reduceSub, Int.reduceBEq, Int.reduceBNe, reduceCtorEq, RD]) ?_
    try simp only [RN, reduceIte]
    try refine T_e rfl ?_
    exact hshort (by omega) _ _
  have e2 := decide_eq_false h2
  refine T_rseq fun Kr hKr => ?_
  simp (disch := omega) only [RA, ↓reduceIte, Nat.reduceEqDiff, Nat.reduceBEq, Nat.reduceSub, Nat.reduceAdd, Nat.reduceMul, Nat.reduceLT, Nat.reduceLeDiff, Int.reduceLE, Int.reduceLT, Int.reduceEq, Int.reduceNeg, Int.reduceToNat, Int.reduceMul, Int.reduceAdd, Int.reduceSub, Int.reduceBEq, Int.reduceBNe, reduceCtorEq, RD, hsz, e1, e2]
  refine hKr _ _ ?_
  clear hKr Kr
  try simp only [RN, reduceIte]
  try refine T_e rfl ?_
  refine T_cseq (t := false) (by simp (disch := omega) only [RA, ↓reduceIte, Nat.reduceEqDiff, Nat.reduceBEq, Nat.reduceSub, Nat.reduceAdd, Nat.reduceMul, Nat.reduceLT, Nat.reduceLeDiff, Int.reduceLE, Int.reduceLT, Int.reduceEq, Int.reduceNeg, Int.reduceToNat, Int.reduceMul, Int.reduceAdd, Int.reduceSub, Int.reduceBEq, Int.reduceBNe, reduceCtorEq, RD]) ?_
  try simp only [RN, reduceIte]
  try refine T_e rfl ?_
  refine T_rseq fun Kr hKr => ?_
  simp (disch := omega) only [RA, ↓reduceIte, Nat.reduceEqDiff, Nat.reduceBEq, Nat.reduceSub, Nat.reduceAdd, Nat.reduceMul, Nat.reduceLT, Nat.reduceLeDiff, Int.reduceLE, Int.reduceLT, Int.reduceEq, Int.reduceNeg, Int.reduceToNat, Int.reduceMul, Int.reduceAdd, Int.reduceSub, Int.reduceBEq, Int.reduceBNe, reduceCtorEq, RD]
  refine hKr _ _ ?_
  clear hKr Kr
  try simp only [RN, reduceIte]
  try refine T_e rfl ?_
  refine T_rseq fun Kr hKr => ?_
  simp (disch := omega) only [RA, ↓reduceIte, Nat.reduceEqDiff, Nat.reduceBEq, Nat.reduceSub, Nat.reduceAdd, Nat.reduceMul, Nat.reduceLT, Nat.reduceLeDiff, Int.reduceLE, Int.reduceLT, Int.reduceEq, Int.reduceNeg, Int.reduceToNat, Int.reduceMul, Int.reduceAdd, Int.reduceSub, Int.reduceBEq, Int.reduceBNe, reduceCtorEq, RD, hsz]
  refine hKr _ _ ?_
  clear hKr Kr
  try simp only [RN, reduceIte]
  try refine T_e rfl ?_
  refine T_wloop (fun mm f H' => ∃ i, i ≤ s.length ∧ mm = s.length - i ∧ (∀ c ∈ s.take i, c.toNat = 40 ∨ c.toNat = 41) ∧ (∀ j, j ≤ i → 0 ≤ dep (s.take j)) ∧ f 0 = .string (bs s) ∧ f 3 = I (dep (s.take i)) ∧ f 14 = I s.length ∧ f 15 = I i ∧ H' = []) (s.length) ?_ ?_
  · refine ⟨_, _, Gh.refl, 0, by omega, by omega, by simp, (fun j hj => by rw [show j = 0 by omega]; exact Int.le_refl _), ?_, ?_, ?_, ?_, rfl⟩
    any_goals (simp (disch := omega) only [RA, ↓reduceIte, Nat.reduceEqDiff, Nat.reduceBEq, Nat.reduceSub, Nat.reduceAdd, Nat.reduceMul, Nat.reduceLT, Nat.reduceLeDiff, Int.reduceLE, Int.reduceLT, Int.reduceEq, Int.reduceNeg, Int.reduceToNat, Int.reduceMul, Int.reduceAdd, Int.reduceSub, Int.reduceBEq, Int.reduceBNe, reduceCtorEq, RD, RE, *] <;> rfl)
  · rintro mm f H' R ⟨i, hi, rfl, hc1, hd1, g0, g3, g14, g15, rfl⟩ hN hX hR hE
    simp only [A_impl_isBrackets.l0, T_aiff]
    refine T_rseq fun Kr hKr => ?_
    simp (disch := omega) only [RA, ↓reduceIte, Nat.reduceEqDiff, Nat.reduceBEq, Nat.reduceSub, Nat.reduceAdd, Nat.reduceMul, Nat.reduceLT, Nat.reduceLeDiff, Int.reduceLE, Int.reduceLT, Int.reduceEq, Int.reduceNeg, Int.reduceToNat, Int.reduceMul, Int.reduceAdd, Int.reduceSub, Int.reduceBEq, Int.reduceBNe, reduceCtorEq, RD, g14, g15]
    refine hKr _ _ ?_
    clear hKr Kr
    try simp only [RN, reduceIte]
    try refine T_e rfl ?_
    refine T_csplit (p := i < s.length) (by simp only [RA, ↓reduceIte, Nat.reduceEqDiff, Nat.reduceBEq, Nat.reduceSub, Nat.reduceAdd, Nat.reduceMul, Nat.reduceLT, Nat.reduceLeDiff, Int.reduceLE, Int.reduceLT, Int.reduceEq, Int.reduceNeg, Int.reduceToNat, Int.reduceMul, Int.reduceAdd, Int.reduceSub, Int.reduceBEq, Int.reduceBNe, reduceCtorEq] <;> rfl) (by (try simp only [RB]) <;> first | done | exact Iff.rfl | omega | simp) (fun hc => ?_) (fun hc => ?_) <;> (try simp only [RN, reduceIte]) <;> (try refine T_e rfl ?_)
    · have hin : i < s.length := by assumption
      obtain ⟨c, hc⟩ : ∃ c, s[i] = c := ⟨_, rfl⟩
      have hix := ixS_bs hin
      rw [hc] at hix
      have hdt := dep_take hin
      rw [hc] at hdt
      have hdg := dep_ge (s := s) (i := i) (by omega)
      have hbad : (¬ (c.toNat = 40 ∨ c.toNat = 41) ∨ dep (s.take (i + 1)) < 0) → ∀ f', R .ret (upd f' 2 (.bool false)) [] := fun h f' => by
        refine hR _ _ ?_
        refine bodyQ_ret (by simp (disch := omega) only [RA, ↓reduceIte, Nat.reduceEqDiff, Nat.reduceBEq, Nat.reduceSub, Nat.reduceAdd, Nat.reduceMul, Nat.reduceLT, Nat.reduceLeDiff, Int.reduceLE, Int.reduceLT, Int.reduceEq, Int.reduceNeg, Int.reduceToNat, Int.reduceMul, Int.reduceAdd, Int.reduceSub, Int.reduceBEq, Int.reduceBNe, reduceCtorEq, RD, resAll, resOf]; rfl) GhV.refl ?_
        simp only [tup]
        rw [decide_eq_false fun q : WdP s => ?_] at hK
        · exact ⟨.bool, hK⟩
        · rcases h with h | h
          · exact h (hc ▸ q.2.1 _ (List.getElem_mem _))
          · have := q.2.2.1 (i + 1) (by omega)
            omega
      have hnext : ∀ f', (c.toNat = 40 ∨ c.toNat = 41) → f' 0 = .string (bs s) → f' 3 = I (dep (s.take (i + 1))) → f' 14 = I s.length → f' 15 = I i → T 0 (.seq A_impl_isBrackets.r13 (.seq (.cond (.t 30) (.seq A_impl_isBrackets.r14 .ret) .skip) A_impl_isBrackets.r15)) R f' [] := by
        clear g0 g3 g14 g15
        intro f' hcc g0 g3 g14 g15
        refine T_rseq fun Kr hKr => ?_
        simp (disch := omega) only [RA, ↓reduceIte, Nat.reduceEqDiff, Nat.reduceBEq, Nat.reduceSub, Nat.reduceAdd, Nat.reduceMul, Nat.reduceLT, Nat.reduceLeDiff, Int.reduceLE, Int.reduceLT, Int.reduceEq, Int.reduceNeg, Int.reduceToNat, Int.reduceMul, Int.reduceAdd, Int.reduceSub, Int.reduceBEq, Int.reduceBNe, reduceCtorEq, RD, g3]
        refine hKr _ _ ?_
        clear hKr Kr
        try simp only [RN, reduceIte]
        try refine T_e rfl ?_
        by_cases h0 : dep (s.take (i + 1)) < 0
        · refine T_cseq (t := true) (by simp (disch := omega) only [RA, ↓reduceIte, Nat.reduceEqDiff, Nat.reduceBEq, Nat.reduceSub, Nat.reduceAdd, Nat.reduceMul, Nat.reduceLT, Nat.reduceLeDiff, Int.reduceLE, Int.reduceLT, Int.reduceEq, Int.reduceNeg, Int.reduceToNat, Int.reduceMul, Int.reduceAdd, Int.reduceSub, Int.reduceBEq, Int.reduceBNe, reduceCtorEq, RD, decide_eq_true h0]) ?_
          try simp only [RN, reduceIte]
          try refine T_e rfl ?_
          refine T_rseq fun Kr hKr => ?_
          simp (disch := omega) only [RA, ↓reduceIte, Nat.reduceEqDiff, Nat.reduceBEq, Nat.reduceSub, Nat.reduceAdd, Nat.reduceMul, Nat.reduceLT, Nat.reduceLeDiff, Int.reduceLE, Int.reduceLT, Int.reduceEq, Int.reduceNeg, Int.reduceToNat, Int.reduceMul, Int.reduceAdd, Int.reduceSub, Int.reduceBEq, Int.reduceBNe, reduceCtorEq, RD]
          refine hKr _ _ ?_
          clear hKr Kr
          try simp only [RN, reduceIte]
          try refine T_e rfl ?_
          exact hbad (.inr h0) _
        · refine T_cseq (t := false) (by simp (disch := omega) only [RA, ↓reduceIte, Nat.reduceEqDiff, Nat.reduceBEq, Nat.reduceSub, Nat.reduceAdd, Nat.reduceMul, Nat.reduceLT, Nat.reduceLeDiff, Int.reduceLE, Int.reduceLT, Int.reduceEq, Int.reduceNeg, Int.reduceToNat, Int.reduceMul, Int.reduceAdd, Int.reduceSub, Int.reduceBEq, Int.reduceBNe, reduceCtorEq, RD, decide_eq_false h0]) ?_
          try simp only [RN, reduceIte]
          try refine T_e rfl ?_
          refine T_reg_k fun Kr hKr => ?_
          simp (disch := omega) only [RA, ↓reduceIte, Nat.reduceEqDiff, Nat.reduceBEq, Nat.reduceSub, Nat.reduceAdd, Nat.reduceMul, Nat.reduceLT, Nat.reduceLeDiff, Int.reduceLE, Int.reduceLT, Int.reduceEq, Int.reduceNeg, Int.reduceToNat, Int.reduceMul, Int.reduceAdd, Int.reduceSub, Int.reduceBEq, Int.reduceBNe, reduceCtorEq, RD, g15]
          refine hKr _ _ ?_
          clear hKr Kr
          refine hN (s.length - (i + 1)) _ _ _ _ (by omega) Gh.refl ⟨i + 1, by omega, rfl, ?_, ?_, ?_, ?_, ?_, ?_, rfl⟩
          any_goals (simp (disch := omega) only [RA, ↓reduceIte, Nat.reduceEqDiff, Nat.reduceBEq, Nat.reduceSub, Nat.reduceAdd, Nat.reduceMul, Nat.reduceLT, Nat.reduceLeDiff, Int.reduceLE, Int.reduceLT, Int.reduceEq, Int.reduceNeg, Int.reduceToNat, Int.reduceMul, Int.reduceAdd, Int.reduceSub, Int.reduceBEq, Int.reduceBNe, reduceCtorEq, RD, RE, *] <;> rfl)
          · intro d hd
            rw [List.take_add_one, List.getElem?_eq_getElem hin, Option.toList_some, hc] at hd
            rcases List.mem_append.1 hd with hd | hd
            · exact hc1 d hd
            · rw [List.mem_singleton] at hd; rw [hd]; exact hcc
          · intro j hj
            by_cases hji : j = i + 1
            · rw [hji]; omega
            · exact hd1 j (by omega)
      first | refine T_bfree rfl ?_ | refine T_bfree' rfl ?_
      try simp only [RN, reduceIte]
      try refine T_e rfl ?_
      refine T_rseq fun Kr hKr => ?_
      simp (disch := omega) only [RA, ↓reduceIte, Nat.reduceEqDiff, Nat.reduceBEq, Nat.reduceSub, Nat.reduceAdd, Nat.reduceMul, Nat.reduceLT, Nat.reduceLeDiff, Int.reduceLE, Int.reduceLT, Int.reduceEq, Int.reduceNeg, Int.reduceToNat, Int.reduceMul, Int.reduceAdd, Int.reduceSub, Int.reduceBEq, Int.reduceBNe, reduceCtorEq, RD, g15]
      refine hKr _ _ ?_
      clear hKr Kr
      try simp only [RN, reduceIte]
      try refine T_e rfl ?_
      refine T_rseq fun Kr hKr => ?_
      simp (disch := omega) only [RA, ↓reduceIte, Nat.reduceEqDiff, Nat.reduceBEq, Nat.reduceSub, Nat.reduceAdd, Nat.reduceMul, Nat.reduceLT, Nat.reduceLeDiff, Int.reduceLE, Int.reduceLT, Int.reduceEq, Int.reduceNeg, Int.reduceToNat, Int.reduceMul, Int.reduceAdd, Int.reduceSub, Int.reduceBEq, Int.reduceBNe, reduceCtorEq, RD, g0, hix]
      refine hKr _ _ ?_
      clear hKr Kr
      try simp only [RN, reduceIte]
      try refine T_e rfl ?_
      first | refine T_bfree rfl ?_ | refine T_bfree' rfl ?_
      try simp only [RN, reduceIte]
      try refine T_e rfl ?_
      by_cases h40 : c.toNat = 40
      · have e : decide ((c.toNat : Int) = 40) = true := decide_eq_true (by omega)
        rw [if_pos h40] at hdt
        refine T_rseq fun Kr hKr => ?_
        simp (disch := omega) only [RA, ↓reduceIte, Nat.reduceEqDiff, Nat.reduceBEq, Nat.reduceSub, Nat.reduceAdd, Nat.reduceMul, Nat.reduceLT, Nat.reduceLeDiff, Int.reduceLE, Int.reduceLT, Int.reduceEq, Int.reduceNeg, Int.reduceToNat, Int.reduceMul, Int.reduceAdd, Int.reduceSub, Int.reduceBEq, Int.reduceBNe, reduceCtorEq, RD, e]
        refine hKr _ _ ?_
        clear hKr Kr
        try simp only [RN, reduceIte]
        try refine T_e rfl ?_
        refine T_cseq (t := true) (by simp (disch := omega) only [RA, ↓reduceIte, Nat.reduceEqDiff, Nat.reduceBEq, Nat.reduceSub, Nat.reduceAdd, Nat.reduceMul, Nat.reduceLT, Nat.reduceLeDiff, Int.reduceLE, Int.reduceLT, Int.reduceEq, Int.reduceNeg, Int.reduceToNat, Int.reduceMul, Int.reduceAdd, Int.reduceSub, Int.reduceBEq, Int.reduceBNe, reduceCtorEq, RD]) ?_
        try simp only [RN, reduceIte]
        try refine T_e rfl ?_
        refine T_rseq fun Kr hKr => ?_
        simp (disch := omega) only [RA, ↓reduceIte, Nat.reduceEqDiff, Nat.reduceBEq, Nat.reduceSub, Nat.reduceAdd, Nat.reduceMul, Nat.reduceLT, Nat.reduceLeDiff, Int.reduceLE, Int.reduceLT, Int.reduceEq, Int.reduceNeg, Int.reduceToNat, Int.reduceMul, Int.reduceAdd, Int.reduceSub, Int.reduceBEq, Int.reduceBNe, reduceCtorEq, RD, g3]
        refine hKr _ _ ?_
        clear hKr Kr
        try simp only [RN, reduceIte]
        try refine T_e rfl ?_
        rw [← hdt]
        refine hnext _ (.inl h40) ?_ ?_ ?_ ?_
        any_goals (simp (disch := omega) only [RA, ↓reduceIte, Nat.reduceEqDiff, Nat.reduceBEq, Nat.reduceSub, Nat.reduceAdd, Nat.reduceMul, Nat.reduceLT, Nat.reduceLeDiff, Int.reduceLE, Int.reduceLT, Int.reduceEq, Int.reduceNeg, Int.reduceToNat, Int.reduceMul, Int.reduceAdd, Int.reduceSub, Int.reduceBEq, Int.reduceBNe, reduceCtorEq, RD, RE, *] <;> rfl)
      · have e : decide ((c.toNat : Int) = 40) = false := decide_eq_false (by omega)
        rw [if_neg h40] at hdt
        refine T_rseq fun Kr hKr => ?_
        simp (disch := omega) only [RA, ↓reduceIte, Nat.reduceEqDiff, Nat.reduceBEq, Nat.reduceSub, Nat.reduceAdd, Nat.reduceMul, Nat.reduceLT, Nat.reduceLeDiff, Int.reduceLE, Int.reduceLT, Int.reduceEq, Int.reduceNeg, Int.reduceToNat, Int.reduceMul, Int.reduceAdd, Int.reduceSub, Int.reduceBEq, Int.reduceBNe, reduceCtorEq, RD, e]
        refine hKr _ _ ?_
        clear hKr Kr
        try simp only [RN, reduceIte]
        try refine T_e rfl ?_
        refine T_cseq (t := false) (by simp (disch := omega) only [RA, ↓reduceIte, Nat.reduceEqDiff, Nat.reduceBEq, Nat.reduceSub, Nat.reduceAdd, Nat.reduceMul, Nat.reduceLT, Nat.reduceLeDiff, Int.reduceLE, Int.reduceLT, Int.reduceEq, Int.reduceNeg, Int.reduceToNat, Int.reduceMul, Int.reduceAdd, Int.reduceSub, Int.reduceBEq, Int.reduceBNe, reduceCtorEq, RD]) ?_
        try simp only [RN, reduceIte]
        try refine T_e rfl ?_
        by_cases h41 : c.toNat = 41
        · have e' : decide ((c.toNat : Int) = 41) = true := decide_eq_true (by omega)
          rw [if_pos h41] at hdt
          have hdt' : dep (s.take i) - 1 = dep (s.take (i + 1)) := by omega
          refine T_rseq fun Kr hKr => ?_
          simp (disch := omega) only [RA, ↓reduceIte, Nat.reduceEqDiff, Nat.reduceBEq, Nat.reduceSub, Nat.reduceAdd, Nat.reduceMul, Nat.reduceLT, Nat.reduceLeDiff, Int.reduceLE, Int.reduceLT, Int.reduceEq, Int.reduceNeg, Int.reduceToNat, Int.reduceMul, Int.reduceAdd, Int.reduceSub, Int.reduceBEq, Int.reduceBNe, reduceCtorEq, RD, e']
          refine hKr _ _ ?_
          clear hKr Kr
          try simp only [RN, reduceIte]
          try refine T_e rfl ?_
          refine T_cseq (t := true) (by simp (disch := omega) only [RA, ↓reduceIte, Nat.reduceEqDiff, Nat.reduceBEq, Nat.reduceSub, Nat.reduceAdd, Nat.reduceMul, Nat.reduceLT, Nat.reduceLeDiff, Int.reduceLE, Int.reduceLT, Int.reduceEq, Int.reduceNeg, Int.reduceToNat, Int.reduceMul, Int.reduceAdd, Int.reduceSub, Int.reduceBEq, Int.reduceBNe, reduceCtorEq, RD]) ?_
          try simp only [RN, reduceIte]
          try refine T_e rfl ?_
          refine T_rseq fun Kr hKr => ?_
          simp (disch := omega) only [RA, ↓reduceIte, Nat.reduceEqDiff, Nat.reduceBEq, Nat.reduceSub, Nat.reduceAdd, Nat.reduceMul, Nat.reduceLT, Nat.reduceLeDiff, Int.reduceLE, Int.reduceLT, Int.reduceEq, Int.reduceNeg, Int.reduceToNat, Int.reduceMul, Int.reduceAdd, Int.reduceSub, Int.reduceBEq, Int.reduceBNe, reduceCtorEq, RD, g3]
          refine hKr _ _ ?_
          clear hKr Kr
          try simp only [RN, reduceIte]
          try refine T_e rfl ?_
          rw [hdt']
          refine hnext _ (.inr h41) ?_ ?_ ?_ ?_
          any_goals (simp (disch := omega) only [RA, ↓reduceIte, Nat.reduceEqDiff, Nat.reduceBEq, Nat.reduceSub, Nat.reduceAdd, Nat.reduceMul, Nat.reduceLT, Nat.reduceLeDiff, Int.reduceLE, Int.reduceLT, Int.reduceEq, Int.reduceNeg, Int.reduceToNat, Int.reduceMul, Int.reduceAdd, Int.reduceSub, Int.reduceBEq, Int.reduceBNe, reduceCtorEq, RD, RE, *] <;> rfl)
        · have e' : decide ((c.toNat : Int) = 41) = false := decide_eq_false (by omega)
          refine T_rseq fun Kr hKr => ?_
          simp (disch := omega) only [RA, ↓reduceIte, Nat.reduceEqDiff, Nat.reduceBEq, Nat.reduceSub, Nat.reduceAdd, Nat.reduceMul, Nat.reduceLT, Nat.reduceLeDiff, Int.reduceLE, Int.reduceLT, Int.reduceEq, Int.reduceNeg, Int.reduceToNat, Int.reduceMul, Int.reduceAdd, Int.reduceSub, Int.reduceBEq, Int.reduceBNe, reduceCtorEq, RD, e']
          refine hKr _ _ ?_
          clear hKr Kr
          try simp only [RN, reduceIte]
          try refine T_e rfl ?_
          refine T_cseq (t := false) (by simp (disch := omega) only [RA, ↓reduceIte, Nat.reduceEqDiff, Nat.reduceBEq, Nat.reduceSub, Nat.reduceAdd, Nat.reduceMul, Nat.reduceLT, Nat.reduceLeDiff, Int.reduceLE, Int.reduceLT, Int.reduceEq, Int.reduceNeg, Int.reduceToNat, Int.reduceMul, Int.reduceAdd, Int.reduceSub, Int.reduceBEq, Int.reduceBNe, reduceCtorEq, RD]) ?_
          try simp only [RN, reduceIte]
          try refine T_e rfl ?_
          refine T_rseq fun Kr hKr => ?_
          simp (disch := omega) only [RA, ↓reduceIte, Nat.reduceEqDiff, Nat.reduceBEq, Nat.reduceSub, Nat.reduceAdd, Nat.reduceMul, Nat.reduceLT, Nat.reduceLeDiff, Int.reduceLE, Int.reduceLT, Int.reduceEq, Int.reduceNeg, Int.reduceToNat, Int.reduceMul, Int.reduceAdd, Int.reduceSub, Int.reduceBEq, Int.reduceBNe, reduceCtorEq, RD]
          refine hKr _ _ ?_
          clear hKr Kr
          try simp only [RN, reduceIte]
          try refine T_e rfl ?_
          exact hbad (.inl (by omega)) _
    · refine hX _ _ ?_
      obtain rfl : i = s.length := by omega
      rw [List.take_length] at hc1 g3
      have hw : decide (WdP s) = decide (dep s = 0) := by
        by_cases h : dep s = 0
        · rw [decide_eq_true h, decide_eq_true ⟨⟨by omega, by omega⟩, hc1, hd1, h⟩]
        · rw [decide_eq_false h, decide_eq_false fun q => h q.2.2.2]
      rw [hw] at hK
      refine T_rseq fun Kr hKr => ?_
      simp (disch := omega) only [RA, ↓reduceIte, Nat.reduceEqDiff, Nat.reduceBEq, Nat.reduceSub, Nat.reduceAdd, Nat.reduceMul, Nat.reduceLT, Nat.reduceLeDiff, Int.reduceLE, Int.reduceLT, Int.reduceEq, Int.reduceNeg, Int.reduceToNat, Int.reduceMul, Int.reduceAdd, Int.reduceSub, Int.reduceBEq, Int.reduceBNe, reduceCtorEq, RD, g3]
      refine hKr _ _ ?_
      clear hKr Kr
      try simp only [RN, reduceIte]
      try refine T_e rfl ?_
      refine bodyQ_ret (by simp (disch := omega) only [RA, ↓reduceIte, Nat.reduceEqDiff, Nat.reduceBEq, Nat.reduceSub, Nat.reduceAdd, Nat.reduceMul, Nat.reduceLT, Nat.reduceLeDiff, Int.reduceLE, Int.reduceLT, Int.reduceEq, Int.reduceNeg, Int.reduceToNat, Int.reduceMul, Int.reduceAdd, Int.reduceSub, Int.reduceBEq, Int.reduceBNe, reduceCtorEq, RD, resAll, resOf]; rfl) GhV.refl ?_
      simp only [tup]
      exact ⟨.bool, hK⟩
theorem l05Word_spec (hl : s.length ≤ 1048576) (hK : K (.bool (decide (WdP s))) H) : CallX x F_spec_l05Word [.string (bs s)] H K := by
  refine callP (.cons NNs .nil) ?_
  have hsz := bs_size (l := s)
  refine CallX_body Γ_spec_l05Word ?_
  simp only [A_spec_l05Word, T_aiff]
  refine T_rseq fun Kr hKr => ?_
  simp (disch := omega) only [RA, ↓reduceIte, Nat.reduceEqDiff, Nat.reduceBEq, Nat.reduceSub, Nat.reduceAdd, Nat.reduceMul, Nat.reduceLT, Nat.reduceLeDiff, Int.reduceLE, Int.reduceLT, Int.reduceEq, Int.reduceNeg, Int.reduceToNat, Int.reduceMul, Int.reduceAdd, Int.reduceSub, Int.reduceBEq, Int.reduceBNe, reduceCtorEq, RD]
  refine hKr _ _ ?_
  clear hKr Kr
  try simp only [RN, reduceIte]
  try refine T_e rfl ?_
  refine T_rseq fun Kr hKr => ?_
  simp (disch := omega) only [RA, ↓reduceIte, Nat.reduceEqDiff, Nat.reduceBEq, Nat.reduceSub, Nat.reduceAdd, Nat.reduceMul, Nat.reduceLT, Nat.reduceLeDiff, Int.reduceLE, Int.reduceLT, Int.reduceEq, Int.reduceNeg, Int.reduceToNat, Int.reduceMul, Int.reduceAdd, Int.reduceSub, Int.reduceBEq, Int.reduceBNe, reduceCtorEq, RD]
  refine hKr _ _ ?_
  clear hKr Kr
  try simp only [RN, reduceIte]
  try refine T_e rfl ?_
  refine T_rseq fun Kr hKr => ?_
  simp (disch := omega) only [RA, ↓reduceIte, Nat.reduceEqDiff, Nat.reduceBEq, Nat.reduceSub, Nat.reduceAdd, Nat.reduceMul, Nat.reduceLT, Nat.reduceLeDiff, Int.reduceLE, Int.reduceLT, Int.reduceEq, Int.reduceNeg, Int.reduceToNat, Int.reduceMul, Int.reduceAdd, Int.reduceSub, Int.reduceBEq, Int.reduceBNe, reduceCtorEq, RD]
  refine hKr _ _ ?_
  clear hKr Kr
  try simp only [RN, reduceIte]
  try refine T_e rfl ?_
  refine T_wloop (fun mm f H' => ∃ i, i ≤ s.length ∧ mm = s.length - i ∧ (∀ c ∈ s.take i, c.toNat = 40 ∨ c.toNat = 41) ∧ (∀ j, j ≤ i → 0 ≤ dep (s.take j)) ∧ f 0 = .string (bs s) ∧ f 3 = I (dep (s.take i)) ∧ f 4 = I i ∧ H' = []) (s.length) ?_ ?_
  · refine ⟨_, _, Gh.refl, 0, by omega, by omega, by simp, (fun j hj => by rw [show j = 0 by omega]; exact Int.le_refl _), ?_, ?_, ?_, rfl⟩
    any_goals (simp (disch := omega) only [RA, ↓reduceIte, Nat.reduceEqDiff, Nat.reduceBEq, Nat.reduceSub, Nat.reduceAdd, Nat.reduceMul, Nat.reduceLT, Nat.reduceLeDiff, Int.reduceLE, Int.reduceLT, Int.reduceEq, Int.reduceNeg, Int.reduceToNat, Int.reduceMul, Int.reduceAdd, Int.reduceSub, Int.reduceBEq, Int.reduceBNe, reduceCtorEq, RD, RE, *] <;> rfl)
  · rintro mm f H' R ⟨i, hi, rfl, hc1, hd1, g0, g3, g4, rfl⟩ hN hX hR hE
    simp only [A_spec_l05Word.l0, T_aiff]
    refine T_rseq fun Kr hKr => ?_
    simp (disch := omega) only [RA, ↓reduceIte, Nat.reduceEqDiff, Nat.reduceBEq, Nat.reduceSub, Nat.reduceAdd, Nat.reduceMul, Nat.reduceLT, Nat.reduceLeDiff, Int.reduceLE, Int.reduceLT, Int.reduceEq, Int.reduceNeg, Int.reduceToNat, Int.reduceMul, Int.reduceAdd, Int.reduceSub, Int.reduceBEq, Int.reduceBNe, reduceCtorEq, RD, g0, g4, hsz]
    refine hKr _ _ ?_
    clear hKr Kr
    try simp only [RN, reduceIte]
    try refine T_e rfl ?_
    refine T_csplit (p := i < s.length) (by simp only [RA, ↓reduceIte, Nat.reduceEqDiff, Nat.reduceBEq, Nat.reduceSub, Nat.reduceAdd, Nat.reduceMul, Nat.reduceLT, Nat.reduceLeDiff, Int.reduceLE, Int.reduceLT, Int.reduceEq, Int.reduceNeg, Int.reduceToNat, Int.reduceMul, Int.reduceAdd, Int.reduceSub, Int.reduceBEq, Int.reduceBNe, reduceCtorEq] <;> rfl) (by (try simp only [RB]) <;> first | done | exact Iff.rfl | omega | simp) (fun hc => ?_) (fun hc => ?_) <;> (try simp only [RN, reduceIte]) <;> (try refine T_e rfl ?_)
    · have hin : i < s.length := by assumption
      obtain ⟨c, hc⟩ : ∃ c, s[i] = c := ⟨_, rfl⟩
      have hix := ixS_bs hin
      rw [hc] at hix
      have hdt := dep_take hin
      rw [hc] at hdt
      have hdg := dep_ge (s := s) (i := i) (by omega)
      have hbad : (¬ (c.toNat = 40 ∨ c.toNat = 41) ∨ dep (s.take (i + 1)) < 0) → ∀ f', R .ret (upd f' 2 (.bool false)) [] := fun h f' => by
        refine hR _ _ ?_
        refine bodyQ_ret (by simp (disch := omega) only [RA, ↓reduceIte, Nat.reduceEqDiff, Nat.reduceBEq, Nat.reduceSub, Nat.reduceAdd, Nat.reduceMul, Nat.reduceLT, Nat.reduceLeDiff, Int.reduceLE, Int.reduceLT, Int.reduceEq, Int.reduceNeg, Int.reduceToNat, Int.reduceMul, Int.reduceAdd, Int.reduceSub, Int.reduceBEq, Int.reduceBNe, reduceCtorEq, RD, resAll, resOf]; rfl) GhV.refl ?_
        simp only [tup]
        rw [decide_eq_false fun q : WdP s => ?_] at hK
        · exact ⟨.bool, hK⟩
        · rcases h with h | h
          · exact h (hc ▸ q.2.1 _ (List.getElem_mem _))
          · have := q.2.2.1 (i + 1) (by omega)
            omega
      have hnext : ∀ f', (c.toNat = 40 ∨ c.toNat = 41) → f' 0 = .string (bs s) → f' 3 = I (dep (s.take (i + 1))) → f' 4 = I i → T 0 (.seq A_spec_l05Word.r11 (.seq (.cond (.t 23) (.seq A_spec_l05Word.r12 .ret) .skip) A_spec_l05Word.r4)) R f' [] := by
        clear g0 g3 g4
        intro f' hcc g0 g3 g4
        refine T_rseq fun Kr hKr => ?_
        simp (disch := omega) only [RA, ↓reduceIte, Nat.reduceEqDiff, Nat.reduceBEq, Nat.reduceSub, Nat.reduceAdd, Nat.reduceMul, Nat.reduceLT, Nat.reduceLeDiff, Int.reduceLE, Int.reduceLT, Int.reduceEq, Int.reduceNeg, Int.reduceToNat, Int.reduceMul, Int.reduceAdd, Int.reduceSub, Int.reduceBEq, Int.reduceBNe, reduceCtorEq, RD, g3]
        refine hKr _ _ ?_
        clear hKr Kr
        try simp only [RN, reduceIte]
        try refine T_e rfl ?_
        by_cases h0 : dep (s.take (i + 1)) < 0
        · refine T_cseq (t := true) (by simp (disch := omega) only [RA, ↓reduceIte, Nat.reduceEqDiff, Nat.reduceBEq, Nat.reduceSub, Nat.reduceAdd, Nat.reduceMul, Nat.reduceLT, Nat.reduceLeDiff, Int.reduceLE, Int.reduceLT, Int.reduceEq, Int.reduceNeg, Int.reduceToNat, Int.reduceMul, Int.reduceAdd, Int.reduceSub, Int.reduceBEq, Int.reduceBNe, reduceCtorEq, RD, decide_eq_true h0]) ?_
          try simp only [RN, reduceIte]
          try refine T_e rfl ?_
          refine T_rseq fun Kr hKr => ?_
          simp (disch := omega) only [RA, ↓reduceIte, Nat.reduceEqDiff, Nat.reduceBEq, Nat.reduceSub, Nat.reduceAdd, Nat.reduceMul, Nat.reduceLT, Nat.reduceLeDiff, Int.reduceLE, Int.reduceLT, Int.reduceEq, Int.reduceNeg, Int.reduceToNat, Int.reduceMul, Int.reduceAdd, Int.reduceSub, Int.reduceBEq, Int.reduceBNe, reduceCtorEq, RD]
          refine hKr _ _ ?_
          clear hKr Kr
          try simp only [RN, reduceIte]
          try refine T_e rfl ?_
          exact hbad (.inr h0) _
        · refine T_cseq (t := false) (by simp (disch := omega) only [RA, ↓reduceIte, Nat.reduceEqDiff, Nat.reduceBEq, Nat.reduceSub, Nat.reduceAdd, Nat.reduceMul, Nat.reduceLT, Nat.reduceLeDiff, Int.reduceLE, Int.reduceLT, Int.reduceEq, Int.reduceNeg, Int.reduceToNat, Int.reduceMul, Int.reduceAdd, Int.reduceSub, Int.reduceBEq, Int.reduceBNe, reduceCtorEq, RD, decide_eq_false h0]) ?_
          try simp only [RN, reduceIte]
          try refine T_e rfl ?_
          refine T_reg_k fun Kr hKr => ?_
          simp (disch := omega) only [RA, ↓reduceIte, Nat.reduceEqDiff, Nat.reduceBEq, Nat.reduceSub, Nat.reduceAdd, Nat.reduceMul, Nat.reduceLT, Nat.reduceLeDiff, Int.reduceLE, Int.reduceLT, Int.reduceEq, Int.reduceNeg, Int.reduceToNat, Int.reduceMul, Int.reduceAdd, Int.reduceSub, Int.reduceBEq, Int.reduceBNe, reduceCtorEq, RD, g4]
          refine hKr _ _ ?_
          clear hKr Kr
          refine hN (s.length - (i + 1)) _ _ _ _ (by omega) Gh.refl ⟨i + 1, by omega, rfl, ?_, ?_, ?_, ?_, ?_, rfl⟩
          any_goals (simp (disch := omega) only [RA, ↓reduceIte, Nat.reduceEqDiff, Nat.reduceBEq, Nat.reduceSub, Nat.reduceAdd, Nat.reduceMul, Nat.reduceLT, Nat.reduceLeDiff, Int.reduceLE, Int.reduceLT, Int.reduceEq, Int.reduceNeg, Int.reduceToNat, Int.reduceMul, Int.reduceAdd, Int.reduceSub, Int.reduceBEq, Int.reduceBNe, reduceCtorEq, RD, RE, *] <;> rfl)
          · intro d hd
            rw [List.take_add_one, List.getElem?_eq_getElem hin, Option.toList_some, hc] at hd
            rcases List.mem_append.1 hd with hd | hd
            · exact hc1 d hd
            · rw [List.mem_singleton] at hd; rw [hd]; exact hcc
          · intro j hj
            by_cases hji : j = i + 1
            · rw [hji]; omega
            · exact hd1 j (by omega)
      first | refine T_bfree rfl ?_ | refine T_bfree' rfl ?_
      try simp only [RN, reduceIte]
      try refine T_e rfl ?_
      refine T_rseq fun Kr hKr => ?_
      simp (disch := omega) only [RA, ↓reduceIte, Nat.reduceEqDiff, Nat.reduceBEq, Nat.reduceSub, Nat.reduceAdd, Nat.reduceMul, Nat.reduceLT, Nat.reduceLeDiff, Int.reduceLE, Int.reduceLT, Int.reduceEq, Int.reduceNeg, Int.reduceToNat, Int.reduceMul, Int.reduceAdd, Int.reduceSub, Int.reduceBEq, Int.reduceBNe, reduceCtorEq, RD, g0, g4, hix]
      refine hKr _ _ ?_
      clear hKr Kr
      try simp only [RN, reduceIte]
      try refine T_e rfl ?_
      first | refine T_bfree rfl ?_ | refine T_bfree' rfl ?_
      try simp only [RN, reduceIte]
      try refine T_e rfl ?_
      by_cases h40 : c.toNat = 40
      · have e : decide ((c.toNat : Int) = 40) = true := decide_eq_true (by omega)
        rw [if_pos h40] at hdt
        refine T_rseq fun Kr hKr => ?_
        simp (disch := omega) only [RA, ↓reduceIte, Nat.reduceEqDiff, Nat.reduceBEq, Nat.reduceSub, Nat.reduceAdd, Nat.reduceMul, Nat.reduceLT, Nat.reduceLeDiff, Int.reduceLE, Int.reduceLT, Int.reduceEq, Int.reduceNeg, Int.reduceToNat, Int.reduceMul, Int.reduceAdd, Int.reduceSub, Int.reduceBEq, Int.reduceBNe, reduceCtorEq, RD, e]
        refine hKr _ _ ?_
        clear hKr Kr
        try simp only [RN, reduceIte]
        try refine T_e rfl ?_
        refine T_cseq (t := true) (by simp (disch := omega) only [RA, ↓reduceIte, Nat.reduceEqDiff, Nat.reduceBEq, Nat.reduceSub, Nat.reduceAdd, Nat.reduceMul, Nat.reduceLT, Nat.reduceLeDiff, Int.reduceLE, Int.reduceLT, Int.reduceEq, Int.reduceNeg, Int.reduceToNat, Int.reduceMul, Int.reduceAdd, Int.reduceSub, Int.reduceBEq, Int.reduceBNe, reduceCtorEq, RD]) ?_
        try simp only [RN, reduceIte]
        try refine T_e rfl ?_
        refine T_rseq fun Kr hKr => ?_
        simp (disch := omega) only [RA, ↓reduceIte, Nat.reduceEqDiff, Nat.reduceBEq, Nat.reduceSub, Nat.reduceAdd, Nat.reduceMul, Nat.reduceLT, Nat.reduceLeDiff, Int.reduceLE, Int.reduceLT, Int.reduceEq, Int.reduceNeg, Int.reduceToNat, Int.reduceMul, Int.reduceAdd, Int.reduceSub, Int.reduceBEq, Int.reduceBNe, reduceCtorEq, RD, g3]
        refine hKr _ _ ?_
        clear hKr Kr
        try simp only [RN, reduceIte]
        try refine T_e rfl ?_
        rw [← hdt]
        refine hnext _ (.inl h40) ?_ ?_ ?_
        any_goals (simp (disch := omega) only [RA, ↓reduceIte, Nat.reduceEqDiff, Nat.reduceBEq, Nat.reduceSub, Nat.reduceAdd, Nat.reduceMul, Nat.reduceLT, Nat.reduceLeDiff, Int.reduceLE, Int.reduceLT, Int.reduceEq, Int.reduceNeg, Int.reduceToNat, Int.reduceMul, Int.reduceAdd, Int.reduceSub, Int.reduceBEq, Int.reduceBNe, reduceCtorEq, RD, RE, *] <;> rfl)
      · have e : decide ((c.toNat : Int) = 40) = false := decide_eq_false (by omega)
        rw [if_neg h40] at hdt
        refine T_rseq fun Kr hKr => ?_
        simp (disch := omega) only [RA, ↓reduceIte, Nat.reduceEqDiff, Nat.reduceBEq, Nat.reduceSub, Nat.reduceAdd, Nat.reduceMul, Nat.reduceLT, Nat.reduceLeDiff, Int.reduceLE, Int.reduceLT, Int.reduceEq, Int.reduceNeg, Int.reduceToNat, Int.reduceMul, Int.reduceAdd, Int.reduceSub, Int.reduceBEq, Int.reduceBNe, reduceCtorEq, RD, e]
        refine hKr _ _ ?_
        clear hKr Kr
        try simp only [RN, reduceIte]
        try refine T_e rfl ?_
        refine T_cseq (t := false) (by simp (disch := omega) only [RA, ↓reduceIte, Nat.reduceEqDiff, Nat.reduceBEq, Nat.reduceSub, Nat.reduceAdd, Nat.reduceMul, Nat.reduceLT, Nat.reduceLeDiff, Int.reduceLE, Int.reduceLT, Int.reduceEq, Int.reduceNeg, Int.reduceToNat, Int.reduceMul, Int.reduceAdd, Int.reduceSub, Int.reduceBEq, Int.reduceBNe, reduceCtorEq, RD]) ?_
        try simp only [RN, reduceIte]
        try refine T_e rfl ?_
        by_cases h41 : c.toNat = 41
        · have e' : decide ((c.toNat : Int) = 41) = true := decide_eq_true (by omega)
          rw [if_pos h41] at hdt
          have hdt' : dep (s.take i) - 1 = dep (s.take (i + 1)) := by omega
          refine T_rseq fun Kr hKr => ?_
          simp (disch := omega) only [RA, ↓reduceIte, Nat.reduceEqDiff, Nat.reduceBEq, Nat.reduceSub, Nat.reduceAdd, Nat.reduceMul, Nat.reduceLT, Nat.reduceLeDiff, Int.reduceLE, Int.reduceLT, Int.reduceEq, Int.reduceNeg, Int.reduceToNat, Int.reduceMul, Int.reduceAdd, Int.reduceSub, Int.reduceBEq, Int.reduceBNe, reduceCtorEq, RD, e']
          refine hKr _ _ ?_
          clear hKr Kr
          try simp only [RN, reduceIte]
          try refine T_e rfl ?_
          refine T_cseq (t := true) (by simp (disch := omega) only [RA, ↓reduceIte, Nat.reduceEqDiff, Nat.reduceBEq, Nat.reduceSub, Nat.reduceAdd, Nat.reduceMul, Nat.reduceLT, Nat.reduceLeDiff, Int.reduceLE, Int.reduceLT, Int.reduceEq, Int.reduceNeg, Int.reduceToNat, Int.reduceMul, Int.reduceAdd, Int.reduceSub, Int.reduceBEq, Int.reduceBNe, reduceCtorEq, RD]) ?_
          try simp only [RN, reduceIte]
          try refine T_e rfl ?_
          refine T_rseq fun Kr hKr => ?_
          simp (disch := omega) only [RA, ↓reduceIte, Nat.reduceEqDiff, Nat.reduceBEq, Nat.reduceSub, Nat.reduceAdd, Nat.reduceMul, Nat.reduceLT, Nat.reduceLeDiff, Int.reduceLE, Int.reduceLT, Int.reduceEq, Int.reduceNeg, Int.reduceToNat, Int.reduceMul, Int.reduceAdd, Int.reduceSub, Int.reduceBEq, Int.reduceBNe, reduceCtorEq, RD, g3]
          refine hKr _ _ ?_
          clear hKr Kr
          try simp only [RN, reduceIte]
          try refine T_e rfl ?_
          rw [hdt']
          refine hnext _ (.inr h41) ?_ ?_ ?_
          any_goals (simp (disch := omega) only [RA, ↓reduceIte, Nat.reduceEqDiff, Nat.reduceBEq, Nat.reduceSub, Nat.reduceAdd, Nat.reduceMul, Nat.reduceLT, Nat.reduceLeDiff, Int.reduceLE, Int.reduceLT, Int.reduceEq, Int.reduceNeg, Int.reduceToNat, Int.reduceMul, Int.reduceAdd, Int.reduceSub, Int.reduceBEq, Int.reduceBNe, reduceCtorEq, RD, RE, *] <;> rfl)
        · have e' : decide ((c.toNat : Int) = 41) = false := decide_eq_false (by omega)
          refine T_rseq fun Kr hKr => ?_
          simp (disch := omega) only [RA, ↓reduceIte, Nat.reduceEqDiff, Nat.reduceBEq, Nat.reduceSub, Nat.reduceAdd, Nat.reduceMul, Nat.reduceLT, Nat.reduceLeDiff, Int.reduceLE, Int.reduceLT, Int.reduceEq, Int.reduceNeg, Int.reduceToNat, Int.reduceMul, Int.reduceAdd, Int.reduceSub, Int.reduceBEq, Int.reduceBNe, reduceCtorEq, RD, e']
          refine hKr _ _ ?_
          clear hKr Kr
          try simp only [RN, reduceIte]
          try refine T_e rfl ?_
          refine T_cseq (t := false) (by simp (disch := omega) only [RA, ↓reduceIte, Nat.reduceEqDiff, Nat.reduceBEq, Nat.reduceSub, Nat.reduceAdd, Nat.reduceMul, Nat.reduceLT, Nat.reduceLeDiff, Int.reduceLE, Int.reduceLT, Int.reduceEq, Int.reduceNeg, Int.reduceToNat, Int.reduceMul, Int.reduceAdd, Int.reduceSub, Int.reduceBEq, Int.reduceBNe, reduceCtorEq, RD]) ?_
          try simp only [RN, reduceIte]
          try refine T_e rfl ?_
          refine T_rseq fun Kr hKr => ?_
          simp (disch := omega) only [RA, ↓reduceIte, Nat.reduceEqDiff, Nat.reduceBEq, Nat.reduceSub, Nat.reduceAdd, Nat.reduceMul, Nat.reduceLT, Nat.reduceLeDiff, Int.reduceLE, Int.reduceLT, Int.reduceEq, Int.reduceNeg, Int.reduceToNat, Int.reduceMul, Int.reduceAdd, Int.reduceSub, Int.reduceBEq, Int.reduceBNe, reduceCtorEq, RD]
          refine hKr _ _ ?_
          clear hKr Kr
          try simp only [RN, reduceIte]
          try refine T_e rfl ?_
          exact hbad (.inl (by omega)) _
    · refine hX _ _ ?_
      obtain rfl : i = s.length := by omega
      rw [List.take_length] at hc1 g3
      by_cases h0 : dep s = 0
      · have e0 := decide_eq_true h0
        by_cases h2 : (2 : Int) ≤ s.length
        · have e2 := decide_eq_true h2
          by_cases h3 : (s.length : Int) ≤ 32
          · have e3 := decide_eq_true h3
            refine T_rseq fun Kr hKr => ?_
            simp (disch := omega) only [RA, ↓reduceIte, Nat.reduceEqDiff, Nat.reduceBEq, Nat.reduceSub, Nat.reduceAdd, Nat.reduceMul, Nat.reduceLT, Nat.reduceLeDiff, Int.reduceLE, Int.reduceLT, Int.reduceEq, Int.reduceNeg, Int.reduceToNat, Int.reduceMul, Int.reduceAdd, Int.reduceSub, Int.reduceBEq, Int.reduceBNe, reduceCtorEq, RD, g0, g3, hsz, e0, e2, e3]
            refine hKr _ _ ?_
            clear hKr Kr
            try simp only [RN, reduceIte]
            try refine T_e rfl ?_
            refine bodyQ_ret (by simp (disch := omega) only [RA, ↓reduceIte, Nat.reduceEqDiff, Nat.reduceBEq, Nat.reduceSub, Nat.reduceAdd, Nat.reduceMul, Nat.reduceLT, Nat.reduceLeDiff, Int.reduceLE, Int.reduceLT, Int.reduceEq, Int.reduceNeg, Int.reduceToNat, Int.reduceMul, Int.reduceAdd, Int.reduceSub, Int.reduceBEq, Int.reduceBNe, reduceCtorEq, RD, resAll, resOf]; rfl) GhV.refl ?_
            simp only [tup]
            rw [decide_eq_true ⟨⟨by omega, by omega⟩, hc1, hd1, h0⟩] at hK
            exact ⟨.bool, hK⟩
          · have e3 := decide_eq_false h3
            refine T_rseq fun Kr hKr => ?_
            simp (disch := omega) only [RA, ↓reduceIte, Nat.reduceEqDiff, Nat.reduceBEq, Nat.reduceSub, Nat.reduceAdd, Nat.reduceMul, Nat.reduceLT, Nat.reduceLeDiff, Int.reduceLE, Int.reduceLT, Int.reduceEq, Int.reduceNeg, Int.reduceToNat, Int.reduceMul, Int.reduceAdd, Int.reduceSub, Int.reduceBEq, Int.reduceBNe, reduceCtorEq, RD, g0, g3, hsz, e0, e2, e3]
            refine hKr _ _ ?_
            clear hKr Kr
            try simp only [RN, reduceIte]
            try refine T_e rfl ?_
            refine bodyQ_ret (by simp (disch := omega) only [RA, ↓reduceIte, Nat.reduceEqDiff, Nat.reduceBEq, Nat.reduceSub, Nat.reduceAdd, Nat.reduceMul, Nat.reduceLT, Nat.reduceLeDiff, Int.reduceLE, Int.reduceLT, Int.reduceEq, Int.reduceNeg, Int.reduceToNat, Int.reduceMul, Int.reduceAdd, Int.reduceSub, Int.reduceBEq, Int.reduceBNe, reduceCtorEq, RD, resAll, resOf]; rfl) GhV.refl ?_
            simp only [tup]
            rw [decide_eq_false fun q : WdP s => h3 (by have := q.1; omega)] at hK
            exact ⟨.bool, hK⟩
        · have e2 := decide_eq_false h2
          refine T_rseq fun Kr hKr => ?_
          simp (disch := omega) only [RA, ↓reduceIte, Nat.reduceEqDiff, Nat.reduceBEq, Nat.reduceSub, Nat.reduceAdd, Nat.reduceMul, Nat.reduceLT, Nat.reduceLeDiff, Int.reduceLE, Int.reduceLT, Int.reduceEq, Int.reduceNeg, Int.reduceToNat, Int.reduceMul, Int.reduceAdd, Int.reduceSub, Int.reduceBEq, Int.reduceBNe, reduceCtorEq, RD, g0, g3, hsz, e0, e2]
          refine hKr _ _ ?_
          clear hKr Kr
          try simp only [RN, reduceIte]
          try refine T_e rfl ?_
          refine bodyQ_ret (by simp (disch := omega) only [RA, ↓reduceIte, Nat.reduceEqDiff, Nat.reduceBEq, Nat.reduceSub, Nat.reduceAdd, Nat.reduceMul, Nat.reduceLT, Nat.reduceLeDiff, Int.reduceLE, Int.reduceLT, Int.reduceEq, Int.reduceNeg, Int.reduceToNat, Int.reduceMul, Int.reduceAdd, Int.reduceSub, Int.reduceBEq, Int.reduceBNe, reduceCtorEq, RD, resAll, resOf]; rfl) GhV.refl ?_
          simp only [tup]
          rw [decide_eq_false fun q : WdP s => h2 (by have := q.1; omega)] at hK
          exact ⟨.bool, hK⟩
      · have e0 := decide_eq_false h0
        refine T_rseq fun Kr hKr => ?_
        simp (disch := omega) only [RA, ↓reduceIte, Nat.reduceEqDiff, Nat.reduceBEq, Nat.reduceSub, Nat.reduceAdd, Nat.reduceMul, Nat.reduceLT, Nat.reduceLeDiff, Int.reduceLE, Int.reduceLT, Int.reduceEq, Int.reduceNeg, Int.reduceToNat, Int.reduceMul, Int.reduceAdd, Int.reduceSub, Int.reduceBEq, Int.reduceBNe, reduceCtorEq, RD, g0, g3, hsz, e0]
        refine hKr _ _ ?_
        clear hKr Kr
        try simp only [RN, reduceIte]
        try refine T_e rfl ?_
        refine bodyQ_ret (by simp (disch := omega) only [RA, ↓reduceIte, Nat.reduceEqDiff, Nat.reduceBEq, Nat.reduceSub, Nat.reduceAdd, Nat.reduceMul, Nat.reduceLT, Nat.reduceLeDiff, Int.reduceLE, Int.reduceLT, Int.reduceEq, Int.reduceNeg, Int.reduceToNat, Int.reduceMul, Int.reduceAdd, Int.reduceSub, Int.reduceBEq, Int.reduceBNe, reduceCtorEq, RD, resAll, resOf]; rfl) GhV.refl ?_
        simp only [tup]
        rw [decide_eq_false fun q : WdP s => h0 q.2.2.2] at hK
        exact ⟨.bool, hK⟩
end
end Go.Bm

/- The reference's tree of a word. -/
set_option linter.unusedVariables false
set_option linter.unusedSimpArgs false
set_option linter.unusedSectionVars false
namespace Go.Bm
open Go Go.Am

def madeB (s : List UInt8) : List Nat := cycL (runW s).b ((runW s).ways.headD [])
def madeW (s : List UInt8) : List Nat := (runW s).w
theorem app1_It {H : BH} {b bytes cn l : Nat} {xs : List Int} {y : Int} (hl : l ≤ xs.length) (h : (l + 1) * bytes ≤ 140737488355328) : app1 (some [.int .i64 y]) (some (xs.map I)) H b l bytes cn = some (S H.length 0 (l + 1) 1, (H.set b none) ++ [some ((xs.take l ++ [y]).map I)]) := by
  simp only [app1]
  rw [if_pos ⟨by rw [List.length_map]; exact hl, h, rfl⟩]
  simp [List.map_take]
theorem sl_top {b L : Nat} : sliceW 1 (S b 0 (L + 1) 1) none (some (I (L : Nat))) = some (S b 0 L 1) := by
  rw [sliceW_s (l := 0) (h := L) (cutC_hi (by omega))]
  simp
theorem bot_cons {a : List Nat} {r : List (List Nat)} (hr : r ≠ []) : (a :: r).getLastD [] = r.getLastD [] := by
  cases r with
  | nil => exact absurd rfl hr
  | cons b l => rfl
theorem cnt_all : ∀ {s : List UInt8}, (∀ c ∈ s, c.toNat = 40 ∨ c.toNat = 41) → s.countP (fun c => c.toNat == 40) + s.countP (fun c => c.toNat == 41) = s.length
  | [], _ => rfl
  | a :: l, h => by
    have h1 := h a (by simp)
    have h2 := cnt_all (s := l) fun c hc => h c (by simp [hc])
    simp only [List.countP_cons, List.length_cons, beq_iff_eq]
    split <;> split <;> omega
section
variable {s : List UInt8} {H : BH} {K : Value → BH → Prop} {x : Bool}
set_option maxHeartbeats 2000000 in
theorem l05Made_spec (hw : WdP s) (hK : K (DV (s.length / 2 : Nat) (madeB s) (madeW s)) H) : CallX x F_spec_l05Made [.string (bs s)] H K := by
  refine callP (.cons NNs .nil) ?_
  have hsz := bs_size (l := s)
  have hq : (s.length : Int).tdiv 2 = ((s.length / 2 : Nat) : Int) := rfl
  obtain ⟨n, hn⟩ : ∃ n, s.length / 2 = n := ⟨_, rfl⟩
  rw [hn] at hK hq
  have hlen := hw.1
  have hzl := z16_len
  refine CallX_body Γ_spec_l05Made ?_
  simp only [A_spec_l05Made, T_aiff]
  refine T_rseq fun Kr hKr => ?_
  simp (disch := omega) only [RA, ↓reduceIte, Nat.reduceEqDiff, Nat.reduceBEq, Nat.reduceSub, Nat.reduceAdd, Nat.reduceMul, Nat.reduceLT, Nat.reduceLeDiff, Int.reduceLE, Int.reduceLT, Int.reduceEq, Int.reduceNeg, Int.reduceToNat, Int.reduceMul, Int.reduceAdd, Int.reduceSub, Int.reduceBEq, Int.reduceBNe, reduceCtorEq, RD, RDS]
  refine hKr _ _ ?_
  clear hKr Kr
  try simp only [RN, reduceIte]
  try refine T_e rfl ?_
  refine T_rseq fun Kr hKr => ?_
  simp (disch := omega) only [RA, ↓reduceIte, Nat.reduceEqDiff, Nat.reduceBEq, Nat.reduceSub, Nat.reduceAdd, Nat.reduceMul, Nat.reduceLT, Nat.reduceLeDiff, Int.reduceLE, Int.reduceLT, Int.reduceEq, Int.reduceNeg, Int.reduceToNat, Int.reduceMul, Int.reduceAdd, Int.reduceSub, Int.reduceBEq, Int.reduceBNe, reduceCtorEq, RD]
  refine hKr _ _ ?_
  clear hKr Kr
  try simp only [RN, reduceIte]
  try refine T_e rfl ?_
  refine T_rseq fun Kr hKr => ?_
  simp (disch := omega) only [RA, ↓reduceIte, Nat.reduceEqDiff, Nat.reduceBEq, Nat.reduceSub, Nat.reduceAdd, Nat.reduceMul, Nat.reduceLT, Nat.reduceLeDiff, Int.reduceLE, Int.reduceLT, Int.reduceEq, Int.reduceNeg, Int.reduceToNat, Int.reduceMul, Int.reduceAdd, Int.reduceSub, Int.reduceBEq, Int.reduceBNe, reduceCtorEq, RD]
  refine hKr _ _ ?_
  clear hKr Kr
  try simp only [RN, reduceIte]
  try refine T_e rfl ?_
  refine T_rseq fun Kr hKr => ?_
  simp (disch := omega) only [RA, ↓reduceIte, Nat.reduceEqDiff, Nat.reduceBEq, Nat.reduceSub, Nat.reduceAdd, Nat.reduceMul, Nat.reduceLT, Nat.reduceLeDiff, Int.reduceLE, Int.reduceLT, Int.reduceEq, Int.reduceNeg, Int.reduceToNat, Int.reduceMul, Int.reduceAdd, Int.reduceSub, Int.reduceBEq, Int.reduceBNe, reduceCtorEq, RD, RDS, hsz, hq]
  refine hKr _ _ ?_
  clear hKr Kr
  try simp only [RN, reduceIte]
  try refine T_e rfl ?_
  refine T_rseq fun Kr hKr => ?_
  simp (disch := omega) only [RA, ↓reduceIte, Nat.reduceEqDiff, Nat.reduceBEq, Nat.reduceSub, Nat.reduceAdd, Nat.reduceMul, Nat.reduceLT, Nat.reduceLeDiff, Int.reduceLE, Int.reduceLT, Int.reduceEq, Int.reduceNeg, Int.reduceToNat, Int.reduceMul, Int.reduceAdd, Int.reduceSub, Int.reduceBEq, Int.reduceBNe, reduceCtorEq, RD]
  refine hKr _ _ ?_
  clear hKr Kr
  try simp only [RN, reduceIte]
  try refine T_e rfl ?_
  refine T_wloop (fun mm f H' => ∃ i ja jb, i ≤ s.length ∧ mm = s.length - i ∧ f 0 = .string (bs s) ∧ f 2 = P 0 0 ∧ f 3 = S 1 0 (runW (s.take i)).ways.length 1 ∧ f 4 = S 2 0 (runW (s.take i)).ways.length 1 ∧ f 5 = I (runW (s.take i)).next ∧ f 6 = I 0 ∧ f 7 = P 3 0 ∧ f 8 = I i ∧ ((runW (s.take i)).ways.getLastD []).headD 0 = 0 ∧ H' = [some (DC 0 z16 z16), some ((sk (runW (s.take i)).ways ++ ja).map I), some ((la (runW (s.take i)).ways ++ jb).map I), some (DC n (chs (runW (s.take i)).b (lvl 0 (runW (s.take i)).ways)) (chs (runW (s.take i)).w (lvl 1 (runW (s.take i)).ways)))]) (s.length) ?_ ?_
  · refine ⟨_, _, Gh.refl, 0, [], [], by omega, by omega, ?_, ?_, ?_, ?_, ?_, ?_, ?_, ?_, rfl, rfl⟩
    any_goals (simp (disch := omega) only [RA, ↓reduceIte, Nat.reduceEqDiff, Nat.reduceBEq, Nat.reduceSub, Nat.reduceAdd, Nat.reduceMul, Nat.reduceLT, Nat.reduceLeDiff, Int.reduceLE, Int.reduceLT, Int.reduceEq, Int.reduceNeg, Int.reduceToNat, Int.reduceMul, Int.reduceAdd, Int.reduceSub, Int.reduceBEq, Int.reduceBNe, reduceCtorEq, RD, RE, *] <;> rfl)
  · rintro mm f H' R ⟨i, ja, jb, hi, rfl, g0, g2, g3, g4, g5, g6, g7, g8, hbot, rfl⟩ hN hX hR hE
    simp only [A_spec_l05Made.l0, T_aiff]
    refine T_rseq fun Kr hKr => ?_
    simp (disch := omega) only [RA, ↓reduceIte, Nat.reduceEqDiff, Nat.reduceBEq, Nat.reduceSub, Nat.reduceAdd, Nat.reduceMul, Nat.reduceLT, Nat.reduceLeDiff, Int.reduceLE, Int.reduceLT, Int.reduceEq, Int.reduceNeg, Int.reduceToNat, Int.reduceMul, Int.reduceAdd, Int.reduceSub, Int.reduceBEq, Int.reduceBNe, reduceCtorEq, RD, g0, g8, hsz]
    refine hKr _ _ ?_
    clear hKr Kr
    try simp only [RN, reduceIte]
    try refine T_e rfl ?_
    obtain ⟨hok, hlw, hnx⟩ := runW_ok hw i hi
    have hnl := next_le hw i hi
    have hdp := hw.2.2.1 i hi
    obtain ⟨st, hst⟩ : ∃ st, runW (s.take i) = st := ⟨_, rfl⟩
    rw [hst] at g3 g4 g5 hok hlw hnx hnl hbot ⊢
    obtain ⟨W, m, b, w⟩ := st
    simp only at g3 g4 g5 hok hlw hnx hnl hbot ⊢
    cases W with
    | nil => simp at hlw; omega
    | cons e r =>
    obtain ⟨L, hL⟩ : ∃ L, r.length = L := ⟨_, rfl⟩
    rw [List.length_cons, hL] at g3 g4 hlw
    have hdg := dep_ge (s := s) (i := i) hi
    have hLb : L ≤ 32 := by omega
    have ht1 : ((L + 1 : Nat) : Int) - 1 = (L : Nat) := by omega
    have hre : r ≠ [] → e ≠ [] := fun hr => by
      rcases hok.ne with ⟨_, q⟩ | ⟨_, _, q⟩
      · cases q; exact absurd rfl hr
      · exact q e (by simp)
    have helt : ∀ y ∈ e, y < m := fun y hy => hok.lt e (by simp) y hy
    have hlb := (chs_len (p := b) (es := lvl 0 (e :: r))).trans hok.bb.len
    have hlw2 := (chs_len (p := w) (es := lvl 1 (e :: r))).trans hok.bw.len
    obtain ⟨B1, hB1⟩ : ∃ B1, chs b (lvl 0 (e :: r)) = B1 := ⟨_, rfl⟩
    obtain ⟨W1, hW1⟩ : ∃ W1, chs w (lvl 1 (e :: r)) = W1 := ⟨_, rfl⟩
    rw [hB1] at hlb
    rw [hW1] at hlw2
    rw [hB1, hW1]
    obtain ⟨hgla, hgsk⟩ := la_top (e := e) (r := r)
    rw [hL] at hgla hgsk
    have hlal := la_len (r := e :: r)
    have hskl := sk_len (r := e :: r)
    rw [List.length_cons, hL] at hlal hskl
    obtain ⟨lA, hlA⟩ : ∃ lA, la (e :: r) = lA := ⟨_, rfl⟩
    obtain ⟨sK, hsK⟩ : ∃ sK, sk (e :: r) = sK := ⟨_, rfl⟩
    rw [hlA] at hgla hlal
    rw [hsK] at hgsk hskl
    rw [hlA, hsK]
    have gI : ∀ (xs ys : List Int) (v : Int), xs.length = L + 1 → xs[L]? = some v → getN none ((xs ++ ys).map I) L = some (I v) := fun xs ys v h1 h2 => by
      show ((xs ++ ys).map I)[L]? = some (I v)
      rw [List.getElem?_map, List.getElem?_append_left (by omega), h2]
      rfl
    have ga : getN none ((lA ++ jb).map I) L = some (I (laT e r)) := gI _ _ _ hlal hgla
    have gs : getN none ((sK ++ ja).map I) L = some (I (skT e r)) := gI _ _ _ hskl hgsk
    have hcl : (lA ++ jb).length = L + 1 + jb.length ∧ (sK ++ ja).length = L + 1 + ja.length := by simp [hlal, hskl]
    refine T_csplit (p := i < s.length) (by simp only [RA, ↓reduceIte, Nat.reduceEqDiff, Nat.reduceBEq, Nat.reduceSub, Nat.reduceAdd, Nat.reduceMul, Nat.reduceLT, Nat.reduceLeDiff, Int.reduceLE, Int.reduceLT, Int.reduceEq, Int.reduceNeg, Int.reduceToNat, Int.reduceMul, Int.reduceAdd, Int.reduceSub, Int.reduceBEq, Int.reduceBNe, reduceCtorEq] <;> rfl) (by (try simp only [RB]) <;> first | done | exact Iff.rfl | omega | simp) (fun hc => ?_) (fun hc => ?_) <;> (try simp only [RN, reduceIte]) <;> (try refine T_e rfl ?_)
    · have hin : i < s.length := by assumption
      obtain ⟨c, hc⟩ : ∃ c, s[i] = c := ⟨_, rfl⟩
      have hix := ixS_bs hin
      rw [hc] at hix
      have hrt := runW_take hin
      rw [hst, hc, stp] at hrt
      simp only at hrt
      have hm16 : m < 16 ∨ c.toNat ≠ 40 := by
        have := next_le hw (i + 1) (by omega)
        rw [hrt] at this
        by_cases h40 : c.toNat = 40
        · rw [if_pos h40] at this
          simp only at this
          omega
        · exact .inr h40
      refine T_seq (T_block ?_)
      try simp only [RN, reduceIte]
      try refine T_e rfl ?_
      refine T_rseq fun Kr hKr => ?_
      simp (disch := omega) only [RA, ↓reduceIte, Nat.reduceEqDiff, Nat.reduceBEq, Nat.reduceSub, Nat.reduceAdd, Nat.reduceMul, Nat.reduceLT, Nat.reduceLeDiff, Int.reduceLE, Int.reduceLT, Int.reduceEq, Int.reduceNeg, Int.reduceToNat, Int.reduceMul, Int.reduceAdd, Int.reduceSub, Int.reduceBEq, Int.reduceBNe, reduceCtorEq, RD, g3, ht1]
      refine hKr _ _ ?_
      clear hKr Kr
      try simp only [RN, reduceIte]
      try refine T_e rfl ?_
      refine T_rseq fun Kr hKr => ?_
      simp (disch := omega) only [RA, ↓reduceIte, Nat.reduceEqDiff, Nat.reduceBEq, Nat.reduceSub, Nat.reduceAdd, Nat.reduceMul, Nat.reduceLT, Nat.reduceLeDiff, Int.reduceLE, Int.reduceLT, Int.reduceEq, Int.reduceNeg, Int.reduceToNat, Int.reduceMul, Int.reduceAdd, Int.reduceSub, Int.reduceBEq, Int.reduceBNe, reduceCtorEq, RD, g0, g8, hix]
      refine hKr _ _ ?_
      clear hKr Kr
      try simp only [RN, reduceIte]
      try refine T_e rfl ?_
      by_cases h40 : c.toNat = 40
      · rw [if_pos h40] at hrt
        have hm : m < 16 := by omega
        have e40 : decide ((c.toNat : Int) = 40) = true := decide_eq_true (by omega)
        have hta : (sK ++ ja).take (L + 1) = sK := by rw [List.take_append_of_le_length (by omega), List.take_of_length_le (by omega)]
        have htb : ((lA ++ jb).set L (m : Int)).take (L + 1) = lA.set L m := by rw [List.set_append_left _ _ (by omega), List.take_append_of_le_length (by rw [List.length_set]; omega), List.take_of_length_le (by rw [List.length_set]; omega)]
        have hcs : ((lA ++ jb).set L (m : Int)).length = L + 1 + jb.length := by rw [List.length_set, hcl.1]
        have hnext : ∀ f'' B2 W2, B2 = chs b (lvl 0 ([m] :: (e ++ [m]) :: r)) → W2 = chs w (lvl 1 ([m] :: (e ++ [m]) :: r)) → f'' 0 = .string (bs s) → f'' 2 = P 0 0 → f'' 3 = S 1 0 (L + 2) 1 → f'' 4 = S 2 0 (L + 2) 1 → f'' 5 = I ((m + 1 : Nat) : Int) → f'' 6 = I 0 → f'' 7 = P 3 0 → f'' 8 = I i →
            T 0 A_spec_l05Made.r6 R f'' [some (DC 0 z16 z16), some ((sK ++ [(m : Int)]).map I), some ((lA.set L (m : Int) ++ [-1]).map I), some (DC n B2 W2)] := by
          clear g0 g2 g3 g4 g5 g6 g7 g8
          intro f'' B2 W2 hB2 hW2 g0 g2 g3 g4 g5 g6 g7 g8
          have hso := sk_open (n := m) hre
          have hlo := la_open (n := m) hre
          rw [hsK] at hso
          rw [hlA, hL] at hlo
          have q3 : f'' 3 = S 1 0 (runW (s.take (i + 1))).ways.length 1 := by rw [hrt]; simp only [List.length_cons, hL]; exact g3
          have q4 : f'' 4 = S 2 0 (runW (s.take (i + 1))).ways.length 1 := by rw [hrt]; simp only [List.length_cons, hL]; exact g4
          have q5 : f'' 5 = I (runW (s.take (i + 1))).next := by rw [hrt]; exact g5
          have qb : ((runW (s.take (i + 1))).ways.getLastD []).headD 0 = 0 := by
            rw [hrt]
            simp only
            rw [bot_cons (by simp)]
            by_cases hr : r = []
            · subst hr
              cases e with
              | nil =>
                rcases hok.ne with ⟨q, _⟩ | ⟨_, _, q⟩
                · exact q
                · exact absurd rfl (q [] (by simp))
              | cons a l => exact hbot
            · rw [bot_cons hr] at hbot ⊢
              exact hbot
          have qH : [some (DC 0 z16 z16), some ((sK ++ [(m : Int)]).map I), some ((lA.set L (m : Int) ++ [-1]).map I), some (DC n B2 W2)] = [some (DC 0 z16 z16), some ((sk (runW (s.take (i + 1))).ways ++ []).map I), some ((la (runW (s.take (i + 1))).ways ++ []).map I), some (DC n (chs (runW (s.take (i + 1))).b (lvl 0 (runW (s.take (i + 1))).ways)) (chs (runW (s.take (i + 1))).w (lvl 1 (runW (s.take (i + 1))).ways)))] := by
            rw [hrt]
            simp only
            rw [hso, hlo, hB2, hW2, List.append_nil, List.append_nil]
          rw [qH]
          refine T_reg_k fun Kr hKr => ?_
          simp (disch := omega) only [RA, ↓reduceIte, Nat.reduceEqDiff, Nat.reduceBEq, Nat.reduceSub, Nat.reduceAdd, Nat.reduceMul, Nat.reduceLT, Nat.reduceLeDiff, Int.reduceLE, Int.reduceLT, Int.reduceEq, Int.reduceNeg, Int.reduceToNat, Int.reduceMul, Int.reduceAdd, Int.reduceSub, Int.reduceBEq, Int.reduceBNe, reduceCtorEq, RD, g8]
          refine hKr _ _ ?_
          clear hKr Kr
          refine hN (s.length - (i + 1)) _ _ _ _ (by omega) Gh.refl ⟨i + 1, [], [], by omega, rfl, ?_, ?_, ?_, ?_, ?_, ?_, ?_, ?_, qb, rfl⟩
          any_goals (simp (disch := omega) only [RA, ↓reduceIte, Nat.reduceEqDiff, Nat.reduceBEq, Nat.reduceSub, Nat.reduceAdd, Nat.reduceMul, Nat.reduceLT, Nat.reduceLeDiff, Int.reduceLE, Int.reduceLT, Int.reduceEq, Int.reduceNeg, Int.reduceToNat, Int.reduceMul, Int.reduceAdd, Int.reduceSub, Int.reduceBEq, Int.reduceBNe, reduceCtorEq, RD, RE, *] <;> rfl)
        have hcont : ∀ (Q : Ex → Fr → BH → Prop) f' (fr : Int) (rest : ACode), (∀ f'' H'', T 0 A_spec_l05Made.r6 R f'' H'' → Q (.exit 1) f'' H'') → fr = (if e = [] then (-1 : Int) else ((e.getLastD 0 : Nat) : Int)) → f' 0 = .string (bs s) → f' 2 = P 0 0 → f' 3 = S 1 0 (L + 1) 1 → f' 4 = S 2 0 (L + 1) 1 → f' 5 = I ((m + 1 : Nat) : Int) → f' 6 = I 0 → f' 7 = P 3 0 → f' 8 = I i → f' 9 = I L → f' 10 = I m → f' 11 = I fr →
            T 0 (.seq A_spec_l05Made.r14 (.seq (.cond (.t 46) A_spec_l05Made.r15 (.seq A_spec_l05Made.r16 (.cond (.t 50) A_spec_l05Made.r17 A_spec_l05Made.r18))) (.seq (.seq A_spec_l05Made.r19 (.seq A_spec_l05Made.r20 (.seq A_spec_l05Made.r21 (.exit 1)))) rest))) Q f' [some (DC 0 z16 z16), some ((sK ++ ja).map I), some ((lA ++ jb).map I), some (DC n B1 W1)] := by
          clear g0 g2 g3 g4 g5 g6 g7 g8
          intro Q f' fr rest hq hfr g0 g2 g3 g4 g5 g6 g7 g8 g9 g10 g11
          have hmore : ∀ f' B2 W2, B2 = chs b (lvl 0 ([m] :: (e ++ [m]) :: r)) → W2 = chs w (lvl 1 ([m] :: (e ++ [m]) :: r)) → f' 0 = .string (bs s) → f' 2 = P 0 0 → f' 3 = S 1 0 (L + 1) 1 → f' 4 = S 2 0 (L + 1) 1 → f' 5 = I ((m + 1 : Nat) : Int) → f' 6 = I 0 → f' 7 = P 3 0 → f' 8 = I i → f' 9 = I L → f' 10 = I m →
              T 0 (.seq A_spec_l05Made.r19 (.seq (.seq A_spec_l05Made.r20 (.seq A_spec_l05Made.r21 (.exit 1))) rest)) Q f' [some (DC 0 z16 z16), some ((sK ++ ja).map I), some ((lA ++ jb).map I), some (DC n B2 W2)] := by
            clear g0 g2 g3 g4 g5 g6 g7 g8 g9 g10 g11
            intro f' B2 W2 hB2 hW2 g0 g2 g3 g4 g5 g6 g7 g8 g9 g10
            refine T_rseq fun Kr hKr => ?_
            simp (disch := omega) only [RA, ↓reduceIte, Nat.reduceEqDiff, Nat.reduceBEq, Nat.reduceSub, Nat.reduceAdd, Nat.reduceMul, Nat.reduceLT, Nat.reduceLeDiff, Int.reduceLE, Int.reduceLT, Int.reduceEq, Int.reduceNeg, Int.reduceToNat, Int.reduceMul, Int.reduceAdd, Int.reduceSub, Int.reduceBEq, Int.reduceBNe, reduceCtorEq, RD, g4, g9, g10]
            refine hKr _ _ ?_
            clear hKr Kr
            try simp only [RN, reduceIte]
            try refine T_e rfl ?_
            refine T_rseq fun Kr hKr => ?_
            simp (disch := omega) only [RA, ↓reduceIte, Nat.reduceEqDiff, Nat.reduceBEq, Nat.reduceSub, Nat.reduceAdd, Nat.reduceMul, Nat.reduceLT, Nat.reduceLeDiff, Int.reduceLE, Int.reduceLT, Int.reduceEq, Int.reduceNeg, Int.reduceToNat, Int.reduceMul, Int.reduceAdd, Int.reduceSub, Int.reduceBEq, Int.reduceBNe, reduceCtorEq, RD, g3, g10, app1_It, hta, hcl]
            refine hKr _ _ ?_
            clear hKr Kr
            try simp only [RN, reduceIte]
            try refine T_e rfl ?_
            refine T_rseq fun Kr hKr => ?_
            simp (disch := omega) only [RA, ↓reduceIte, Nat.reduceEqDiff, Nat.reduceBEq, Nat.reduceSub, Nat.reduceAdd, Nat.reduceMul, Nat.reduceLT, Nat.reduceLeDiff, Int.reduceLE, Int.reduceLT, Int.reduceEq, Int.reduceNeg, Int.reduceToNat, Int.reduceMul, Int.reduceAdd, Int.reduceSub, Int.reduceBEq, Int.reduceBNe, reduceCtorEq, RD, g4, app1_It, htb, hcs]
            refine hKr _ _ ?_
            clear hKr Kr
            try simp only [RN, reduceIte]
            try refine T_e rfl ?_
            refine hq _ _ (T_gh (Gh.nrm [0, 5, 7, 3] rfl rfl (by simp only [RH])) ?_)
            refine hnext _ B2 W2 hB2 hW2 ?_ ?_ ?_ ?_ ?_ ?_ ?_ ?_
            any_goals (simp (disch := omega) only [RA, ↓reduceIte, Nat.reduceEqDiff, Nat.reduceBEq, Nat.reduceSub, Nat.reduceAdd, Nat.reduceMul, Nat.reduceLT, Nat.reduceLeDiff, Int.reduceLE, Int.reduceLT, Int.reduceEq, Int.reduceNeg, Int.reduceToNat, Int.reduceMul, Int.reduceAdd, Int.reduceSub, Int.reduceBEq, Int.reduceBNe, reduceCtorEq, RD, RE, *] <;> rfl)
          have hco0 := chs_open (c := 0) (n := m) (p := b) (e := e) (r := r)
          have hco1 := chs_open (c := 1) (n := m) (p := w) (e := e) (r := r)
          rw [hL, hB1] at hco0
          rw [hL, hW1] at hco1
          by_cases he : e = []
          · rw [if_pos he] at hfr
            rw [if_neg (fun q => q.2 he)] at hco0 hco1
            have e1 : decide (fr < 0) = true := decide_eq_true (by omega)
            refine T_rseq fun Kr hKr => ?_
            simp (disch := omega) only [RA, ↓reduceIte, Nat.reduceEqDiff, Nat.reduceBEq, Nat.reduceSub, Nat.reduceAdd, Nat.reduceMul, Nat.reduceLT, Nat.reduceLeDiff, Int.reduceLE, Int.reduceLT, Int.reduceEq, Int.reduceNeg, Int.reduceToNat, Int.reduceMul, Int.reduceAdd, Int.reduceSub, Int.reduceBEq, Int.reduceBNe, reduceCtorEq, RD, g11]
            refine hKr _ _ ?_
            clear hKr Kr
            try simp only [RN, reduceIte]
            try refine T_e rfl ?_
            refine T_cseq (t := true) (by simp (disch := omega) only [RA, ↓reduceIte, Nat.reduceEqDiff, Nat.reduceBEq, Nat.reduceSub, Nat.reduceAdd, Nat.reduceMul, Nat.reduceLT, Nat.reduceLeDiff, Int.reduceLE, Int.reduceLT, Int.reduceEq, Int.reduceNeg, Int.reduceToNat, Int.reduceMul, Int.reduceAdd, Int.reduceSub, Int.reduceBEq, Int.reduceBNe, reduceCtorEq, RD, e1]) ?_
            try simp only [RN, reduceIte]
            try refine T_e rfl ?_
            refine T_rseq fun Kr hKr => ?_
            simp (disch := omega) only [RA, ↓reduceIte, Nat.reduceEqDiff, Nat.reduceBEq, Nat.reduceSub, Nat.reduceAdd, Nat.reduceMul, Nat.reduceLT, Nat.reduceLeDiff, Int.reduceLE, Int.reduceLT, Int.reduceEq, Int.reduceNeg, Int.reduceToNat, Int.reduceMul, Int.reduceAdd, Int.reduceSub, Int.reduceBEq, Int.reduceBNe, reduceCtorEq, RD, g10]
            refine hKr _ _ ?_
            clear hKr Kr
            try simp only [RN, reduceIte]
            try refine T_e rfl ?_
            have hm0 : m = 0 := by
              rcases hok.ne with ⟨q, _⟩ | ⟨_, _, q⟩
              · exact q
              · exact absurd he (q e (by simp))
            refine hmore _ B1 W1 hco0.symm hco1.symm ?_ ?_ ?_ ?_ ?_ ?_ ?_ ?_ ?_ ?_
            any_goals (simp (disch := omega) only [RA, ↓reduceIte, Nat.reduceEqDiff, Nat.reduceBEq, Nat.reduceSub, Nat.reduceAdd, Nat.reduceMul, Nat.reduceLT, Nat.reduceLeDiff, Int.reduceLE, Int.reduceLT, Int.reduceEq, Int.reduceNeg, Int.reduceToNat, Int.reduceMul, Int.reduceAdd, Int.reduceSub, Int.reduceBEq, Int.reduceBNe, reduceCtorEq, RD, RE, *] <;> rfl)
            rw [show (0 : Int) = (m : Int) by omega]
            exact (by simp (disch := omega) only [RA, ↓reduceIte, Nat.reduceEqDiff, Nat.reduceBEq, Nat.reduceSub, Nat.reduceAdd, Nat.reduceMul, Nat.reduceLT, Nat.reduceLeDiff, Int.reduceLE, Int.reduceLT, Int.reduceEq, Int.reduceNeg, Int.reduceToNat, Int.reduceMul, Int.reduceAdd, Int.reduceSub, Int.reduceBEq, Int.reduceBNe, reduceCtorEq, RD, RE, *] <;> rfl)
          · rw [if_neg he] at hfr
            obtain ⟨la1, hla1⟩ : ∃ la1, e.getLastD 0 = la1 := ⟨_, rfl⟩
            have hla16 : la1 < 16 := by have := helt _ (last_mem he); omega
            rw [hla1] at hfr hco0 hco1
            subst hfr
            have e1 : decide ((la1 : Int) < 0) = false := decide_eq_false (by omega)
            refine T_rseq fun Kr hKr => ?_
            simp (disch := omega) only [RA, ↓reduceIte, Nat.reduceEqDiff, Nat.reduceBEq, Nat.reduceSub, Nat.reduceAdd, Nat.reduceMul, Nat.reduceLT, Nat.reduceLeDiff, Int.reduceLE, Int.reduceLT, Int.reduceEq, Int.reduceNeg, Int.reduceToNat, Int.reduceMul, Int.reduceAdd, Int.reduceSub, Int.reduceBEq, Int.reduceBNe, reduceCtorEq, RD, g11]
            refine hKr _ _ ?_
            clear hKr Kr
            try simp only [RN, reduceIte]
            try refine T_e rfl ?_
            refine T_cseq (t := false) (by simp (disch := omega) only [RA, ↓reduceIte, Nat.reduceEqDiff, Nat.reduceBEq, Nat.reduceSub, Nat.reduceAdd, Nat.reduceMul, Nat.reduceLT, Nat.reduceLeDiff, Int.reduceLE, Int.reduceLT, Int.reduceEq, Int.reduceNeg, Int.reduceToNat, Int.reduceMul, Int.reduceAdd, Int.reduceSub, Int.reduceBEq, Int.reduceBNe, reduceCtorEq, RD, e1]) ?_
            try simp only [RN, reduceIte]
            try refine T_e rfl ?_
            have hmod : (L : Int).tmod 2 = ((L % 2 : Nat) : Int) := rfl
            refine T_rseq fun Kr hKr => ?_
            simp (disch := omega) only [RA, ↓reduceIte, Nat.reduceEqDiff, Nat.reduceBEq, Nat.reduceSub, Nat.reduceAdd, Nat.reduceMul, Nat.reduceLT, Nat.reduceLeDiff, Int.reduceLE, Int.reduceLT, Int.reduceEq, Int.reduceNeg, Int.reduceToNat, Int.reduceMul, Int.reduceAdd, Int.reduceSub, Int.reduceBEq, Int.reduceBNe, reduceCtorEq, RD, g9, hmod]
            refine hKr _ _ ?_
            clear hKr Kr
            try simp only [RN, reduceIte]
            try refine T_e rfl ?_
            by_cases h2 : L % 2 = 0
            · rw [if_pos ⟨h2, he⟩] at hco0
              rw [if_neg (by omega)] at hco1
              have e2 : decide (((L % 2 : Nat) : Int) = 0) = true := decide_eq_true (by omega)
              refine T_cseq (t := true) (by simp (disch := omega) only [RA, ↓reduceIte, Nat.reduceEqDiff, Nat.reduceBEq, Nat.reduceSub, Nat.reduceAdd, Nat.reduceMul, Nat.reduceLT, Nat.reduceLeDiff, Int.reduceLE, Int.reduceLT, Int.reduceEq, Int.reduceNeg, Int.reduceToNat, Int.reduceMul, Int.reduceAdd, Int.reduceSub, Int.reduceBEq, Int.reduceBNe, reduceCtorEq, RD, e2]) ?_
              try simp only [RN, reduceIte]
              try refine T_e rfl ?_
              refine T_rseq fun Kr hKr => ?_
              simp (disch := omega) only [RA, ↓reduceIte, Nat.reduceEqDiff, Nat.reduceBEq, Nat.reduceSub, Nat.reduceAdd, Nat.reduceMul, Nat.reduceLT, Nat.reduceLeDiff, Int.reduceLE, Int.reduceLT, Int.reduceEq, Int.reduceNeg, Int.reduceToNat, Int.reduceMul, Int.reduceAdd, Int.reduceSub, Int.reduceBEq, Int.reduceBNe, reduceCtorEq, RD, RDS, RDD, g7, g10, g11]
              refine hKr _ _ ?_
              clear hKr Kr
              try simp only [RN, reduceIte]
              try refine T_e rfl ?_
              refine hmore _ _ W1 hco0.symm hco1.symm ?_ ?_ ?_ ?_ ?_ ?_ ?_ ?_ ?_ ?_
              any_goals (simp (disch := omega) only [RA, ↓reduceIte, Nat.reduceEqDiff, Nat.reduceBEq, Nat.reduceSub, Nat.reduceAdd, Nat.reduceMul, Nat.reduceLT, Nat.reduceLeDiff, Int.reduceLE, Int.reduceLT, Int.reduceEq, Int.reduceNeg, Int.reduceToNat, Int.reduceMul, Int.reduceAdd, Int.reduceSub, Int.reduceBEq, Int.reduceBNe, reduceCtorEq, RD, RE, *] <;> rfl)
            · rw [if_neg (fun q => h2 q.1)] at hco0
              rw [if_pos ⟨by omega, he⟩] at hco1
              have e2 : decide (((L % 2 : Nat) : Int) = 0) = false := decide_eq_false (by omega)
              refine T_cseq (t := false) (by simp (disch := omega) only [RA, ↓reduceIte, Nat.reduceEqDiff, Nat.reduceBEq, Nat.reduceSub, Nat.reduceAdd, Nat.reduceMul, Nat.reduceLT, Nat.reduceLeDiff, Int.reduceLE, Int.reduceLT, Int.reduceEq, Int.reduceNeg, Int.reduceToNat, Int.reduceMul, Int.reduceAdd, Int.reduceSub, Int.reduceBEq, Int.reduceBNe, reduceCtorEq, RD, e2]) ?_
              try simp only [RN, reduceIte]
              try refine T_e rfl ?_
              refine T_rseq fun Kr hKr => ?_
              simp (disch := omega) only [RA, ↓reduceIte, Nat.reduceEqDiff, Nat.reduceBEq, Nat.reduceSub, Nat.reduceAdd, Nat.reduceMul, Nat.reduceLT, Nat.reduceLeDiff, Int.reduceLE, Int.reduceLT, Int.reduceEq, Int.reduceNeg, Int.reduceToNat, Int.reduceMul, Int.reduceAdd, Int.reduceSub, Int.reduceBEq, Int.reduceBNe, reduceCtorEq, RD, RDS, RDD, g7, g10, g11]
              refine hKr _ _ ?_
              clear hKr Kr
              try simp only [RN, reduceIte]
              try refine T_e rfl ?_
              refine hmore _ B1 _ hco0.symm hco1.symm ?_ ?_ ?_ ?_ ?_ ?_ ?_ ?_ ?_ ?_
              any_goals (simp (disch := omega) only [RA, ↓reduceIte, Nat.reduceEqDiff, Nat.reduceBEq, Nat.reduceSub, Nat.reduceAdd, Nat.reduceMul, Nat.reduceLT, Nat.reduceLeDiff, Int.reduceLE, Int.reduceLT, Int.reduceEq, Int.reduceNeg, Int.reduceToNat, Int.reduceMul, Int.reduceAdd, Int.reduceSub, Int.reduceBEq, Int.reduceBNe, reduceCtorEq, RD, RE, *] <;> rfl)
        have hfe := from_eq hre
        refine T_cseq (t := true) (by simp (disch := omega) only [RA, ↓reduceIte, Nat.reduceEqDiff, Nat.reduceBEq, Nat.reduceSub, Nat.reduceAdd, Nat.reduceMul, Nat.reduceLT, Nat.reduceLeDiff, Int.reduceLE, Int.reduceLT, Int.reduceEq, Int.reduceNeg, Int.reduceToNat, Int.reduceMul, Int.reduceAdd, Int.reduceSub, Int.reduceBEq, Int.reduceBNe, reduceCtorEq, RD, e40]) ?_
        try simp only [RN, reduceIte]
        try refine T_e rfl ?_
        refine T_rseq fun Kr hKr => ?_
        simp (disch := omega) only [RA, ↓reduceIte, Nat.reduceEqDiff, Nat.reduceBEq, Nat.reduceSub, Nat.reduceAdd, Nat.reduceMul, Nat.reduceLT, Nat.reduceLeDiff, Int.reduceLE, Int.reduceLT, Int.reduceEq, Int.reduceNeg, Int.reduceToNat, Int.reduceMul, Int.reduceAdd, Int.reduceSub, Int.reduceBEq, Int.reduceBNe, reduceCtorEq, RD, g5]
        refine hKr _ _ ?_
        clear hKr Kr
        try simp only [RN, reduceIte]
        try refine T_e rfl ?_
        refine T_rseq fun Kr hKr => ?_
        simp (disch := omega) only [RA, ↓reduceIte, Nat.reduceEqDiff, Nat.reduceBEq, Nat.reduceSub, Nat.reduceAdd, Nat.reduceMul, Nat.reduceLT, Nat.reduceLeDiff, Int.reduceLE, Int.reduceLT, Int.reduceEq, Int.reduceNeg, Int.reduceToNat, Int.reduceMul, Int.reduceAdd, Int.reduceSub, Int.reduceBEq, Int.reduceBNe, reduceCtorEq, RD, g5]
        refine hKr _ _ ?_
        clear hKr Kr
        try simp only [RN, reduceIte]
        try refine T_e rfl ?_
        refine T_rseq fun Kr hKr => ?_
        simp (disch := omega) only [RA, ↓reduceIte, Nat.reduceEqDiff, Nat.reduceBEq, Nat.reduceSub, Nat.reduceAdd, Nat.reduceMul, Nat.reduceLT, Nat.reduceLeDiff, Int.reduceLE, Int.reduceLT, Int.reduceEq, Int.reduceNeg, Int.reduceToNat, Int.reduceMul, Int.reduceAdd, Int.reduceSub, Int.reduceBEq, Int.reduceBNe, reduceCtorEq, RD, g4, ga]
        refine hKr _ _ ?_
        clear hKr Kr
        try simp only [RN, reduceIte]
        try refine T_e rfl ?_
        refine T_rseq fun Kr hKr => ?_
        simp (disch := omega) only [RA, ↓reduceIte, Nat.reduceEqDiff, Nat.reduceBEq, Nat.reduceSub, Nat.reduceAdd, Nat.reduceMul, Nat.reduceLT, Nat.reduceLeDiff, Int.reduceLE, Int.reduceLT, Int.reduceEq, Int.reduceNeg, Int.reduceToNat, Int.reduceMul, Int.reduceAdd, Int.reduceSub, Int.reduceBEq, Int.reduceBNe, reduceCtorEq, RD]
        refine hKr _ _ ?_
        clear hKr Kr
        try simp only [RN, reduceIte]
        try refine T_e rfl ?_
        by_cases hlt : laT e r < 0
        · rw [if_pos hlt] at hfe
          refine T_cseq (t := true) (by simp (disch := omega) only [RA, ↓reduceIte, Nat.reduceEqDiff, Nat.reduceBEq, Nat.reduceSub, Nat.reduceAdd, Nat.reduceMul, Nat.reduceLT, Nat.reduceLeDiff, Int.reduceLE, Int.reduceLT, Int.reduceEq, Int.reduceNeg, Int.reduceToNat, Int.reduceMul, Int.reduceAdd, Int.reduceSub, Int.reduceBEq, Int.reduceBNe, reduceCtorEq, RD, decide_eq_true hlt]) ?_
          try simp only [RN, reduceIte]
          try refine T_e rfl ?_
          refine T_rseq fun Kr hKr => ?_
          simp (disch := omega) only [RA, ↓reduceIte, Nat.reduceEqDiff, Nat.reduceBEq, Nat.reduceSub, Nat.reduceAdd, Nat.reduceMul, Nat.reduceLT, Nat.reduceLeDiff, Int.reduceLE, Int.reduceLT, Int.reduceEq, Int.reduceNeg, Int.reduceToNat, Int.reduceMul, Int.reduceAdd, Int.reduceSub, Int.reduceBEq, Int.reduceBNe, reduceCtorEq, RD, g3, gs]
          refine hKr _ _ ?_
          clear hKr Kr
          try simp only [RN, reduceIte]
          try refine T_e rfl ?_
          refine hcont _ _ _ _ (fun f'' H'' h => ?_) hfe ?_ ?_ ?_ ?_ ?_ ?_ ?_ ?_ ?_ ?_ ?_
          any_goals (simp (disch := omega) only [RA, ↓reduceIte, Nat.reduceEqDiff, Nat.reduceBEq, Nat.reduceSub, Nat.reduceAdd, Nat.reduceMul, Nat.reduceLT, Nat.reduceLeDiff, Int.reduceLE, Int.reduceLT, Int.reduceEq, Int.reduceNeg, Int.reduceToNat, Int.reduceMul, Int.reduceAdd, Int.reduceSub, Int.reduceBEq, Int.reduceBNe, reduceCtorEq, RD, RE, *] <;> rfl)
          simp only [blkQ, thenQ, loopQ, if_true]
          exact h
        · rw [if_neg hlt] at hfe
          refine T_cseq (t := false) (by simp (disch := omega) only [RA, ↓reduceIte, Nat.reduceEqDiff, Nat.reduceBEq, Nat.reduceSub, Nat.reduceAdd, Nat.reduceMul, Nat.reduceLT, Nat.reduceLeDiff, Int.reduceLE, Int.reduceLT, Int.reduceEq, Int.reduceNeg, Int.reduceToNat, Int.reduceMul, Int.reduceAdd, Int.reduceSub, Int.reduceBEq, Int.reduceBNe, reduceCtorEq, RD, decide_eq_false hlt]) ?_
          try simp only [RN, reduceIte]
          try refine T_e rfl ?_
          refine hcont _ _ _ _ (fun f'' H'' h => ?_) hfe ?_ ?_ ?_ ?_ ?_ ?_ ?_ ?_ ?_ ?_ ?_
          any_goals (simp (disch := omega) only [RA, ↓reduceIte, Nat.reduceEqDiff, Nat.reduceBEq, Nat.reduceSub, Nat.reduceAdd, Nat.reduceMul, Nat.reduceLT, Nat.reduceLeDiff, Int.reduceLE, Int.reduceLT, Int.reduceEq, Int.reduceNeg, Int.reduceToNat, Int.reduceMul, Int.reduceAdd, Int.reduceSub, Int.reduceBEq, Int.reduceBNe, reduceCtorEq, RD, RE, *] <;> rfl)
          simp only [blkQ, thenQ, loopQ, if_true]
          exact h
      · have h41 : c.toNat = 41 := (hc ▸ hw.2.1 _ (List.getElem_mem hin)).resolve_left h40
        have e40 : decide ((c.toNat : Int) = 40) = false := decide_eq_false (by omega)
        rw [if_neg h40] at hrt
        have hdn := hw.2.2.1 (i + 1) (by omega)
        rw [dep_take hin, hc, if_neg h40, if_pos h41] at hdn
        have hr : r ≠ [] := by
          rintro rfl
          simp at hL
          omega
        have he := hre hr
        have hfe := from_eq hre
        rw [if_neg he] at hfe
        have hsT := skT_close (e := e) hr
        rw [hsT] at gs hfe
        obtain ⟨la1, hla1⟩ : ∃ la1, e.getLastD 0 = la1 := ⟨_, rfl⟩
        obtain ⟨hd1, hhd1⟩ : ∃ hd1, e.headD 0 = hd1 := ⟨_, rfl⟩
        have hla16 : la1 < 16 := by have := helt _ (last_mem he); omega
        have hhd16 : hd1 < 16 := by have := helt _ (head_mem he); omega
        have hc0 := chs_close (p := b) (hok.nod 0) he
        have hc1 := chs_close (p := w) (hok.nod 1) he
        rw [hL, hB1, hla1, hhd1] at hc0
        rw [hL, hW1, hla1, hhd1] at hc1
        rw [hhd1] at gs hfe
        rw [hla1] at hfe
        have hsr : sK ++ ja = sk r ++ ([skT e r] ++ ja) := by rw [← hsK, sk, List.append_assoc]
        have hlr : lA ++ jb = la r ++ ([laT e r] ++ jb) := by rw [← hlA, la, List.append_assoc]
        have hnext : ∀ f'' B2 W2, B2 = (if L % 2 = 0 then B1.set la1 hd1 else B1) → W2 = (if L % 2 = 1 then W1.set la1 hd1 else W1) → f'' 0 = .string (bs s) → f'' 2 = P 0 0 → f'' 3 = S 1 0 L 1 → f'' 4 = S 2 0 L 1 → f'' 5 = I (m : Nat) → f'' 6 = I 0 → f'' 7 = P 3 0 → f'' 8 = I i →
            T 0 A_spec_l05Made.r6 R f'' [some (DC 0 z16 z16), some ((sK ++ ja).map I), some ((lA ++ jb).map I), some (DC n B2 W2)] := by
          clear g0 g2 g3 g4 g5 g6 g7 g8
          intro f'' B2 W2 hB2 hW2 g0 g2 g3 g4 g5 g6 g7 g8
          have hways : (runW (s.take (i + 1))).ways = r := by rw [hrt]; split <;> rfl
          have hnxt : (runW (s.take (i + 1))).next = m := by rw [hrt]; split <;> rfl
          have hbb : (runW (s.take (i + 1))).b = if L % 2 = 0 then cycL b e else b := by
            rw [hrt, hL]
            split
            · rw [if_neg (by omega)]
            · rw [if_pos (by omega)]
          have hww : (runW (s.take (i + 1))).w = if L % 2 = 1 then cycL w e else w := by
            rw [hrt, hL]
            split
            · rfl
            · rfl
          have q3 : f'' 3 = S 1 0 (runW (s.take (i + 1))).ways.length 1 := by rw [hways, hL]; exact g3
          have q4 : f'' 4 = S 2 0 (runW (s.take (i + 1))).ways.length 1 := by rw [hways, hL]; exact g4
          have q5 : f'' 5 = I (runW (s.take (i + 1))).next := by rw [hnxt]; exact g5
          have qb : ((runW (s.take (i + 1))).ways.getLastD []).headD 0 = 0 := by
            rw [hways]
            rw [bot_cons hr] at hbot
            exact hbot
          have qH : [some (DC 0 z16 z16), some ((sK ++ ja).map I), some ((lA ++ jb).map I), some (DC n B2 W2)] = [some (DC 0 z16 z16), some ((sk (runW (s.take (i + 1))).ways ++ ([skT e r] ++ ja)).map I), some ((la (runW (s.take (i + 1))).ways ++ ([laT e r] ++ jb)).map I), some (DC n (chs (runW (s.take (i + 1))).b (lvl 0 (runW (s.take (i + 1))).ways)) (chs (runW (s.take (i + 1))).w (lvl 1 (runW (s.take (i + 1))).ways)))] := by
            rw [hways, hbb, hww, hc0, hc1, hsr, hlr, hB2, hW2]
          clear g3 g4 g5
          rw [qH]
          refine T_reg_k fun Kr hKr => ?_
          simp (disch := omega) only [RA, ↓reduceIte, Nat.reduceEqDiff, Nat.reduceBEq, Nat.reduceSub, Nat.reduceAdd, Nat.reduceMul, Nat.reduceLT, Nat.reduceLeDiff, Int.reduceLE, Int.reduceLT, Int.reduceEq, Int.reduceNeg, Int.reduceToNat, Int.reduceMul, Int.reduceAdd, Int.reduceSub, Int.reduceBEq, Int.reduceBNe, reduceCtorEq, RD, g8]
          refine hKr _ _ ?_
          clear hKr Kr
          refine hN (s.length - (i + 1)) _ _ _ _ (by omega) Gh.refl ⟨i + 1, [skT e r] ++ ja, [laT e r] ++ jb, by omega, rfl, ?_, ?_, ?_, ?_, ?_, ?_, ?_, ?_, qb, rfl⟩
          any_goals (simp (disch := omega) only [RA, ↓reduceIte, Nat.reduceEqDiff, Nat.reduceBEq, Nat.reduceSub, Nat.reduceAdd, Nat.reduceMul, Nat.reduceLT, Nat.reduceLeDiff, Int.reduceLE, Int.reduceLT, Int.reduceEq, Int.reduceNeg, Int.reduceToNat, Int.reduceMul, Int.reduceAdd, Int.reduceSub, Int.reduceBEq, Int.reduceBNe, reduceCtorEq, RD, RE, *] <;> rfl)
        have hcont : ∀ (Q : Ex → Fr → BH → Prop) f' (fr : Int), (∀ f'' H'', T 0 A_spec_l05Made.r6 R f'' H'' → Q .normal f'' H'') → fr = (la1 : Int) → f' 0 = .string (bs s) → f' 2 = P 0 0 → f' 3 = S 1 0 (L + 1) 1 → f' 4 = S 2 0 (L + 1) 1 → f' 5 = I (m : Nat) → f' 6 = I 0 → f' 7 = P 3 0 → f' 8 = I i → f' 9 = I L → f' 12 = I fr →
            T 0 (.seq A_spec_l05Made.r25 (.seq (.cond (.t 84) A_spec_l05Made.r26 A_spec_l05Made.r27) (.seq A_spec_l05Made.r28 A_spec_l05Made.r29))) Q f' [some (DC 0 z16 z16), some ((sK ++ ja).map I), some ((lA ++ jb).map I), some (DC n B1 W1)] := by
          clear g0 g2 g3 g4 g5 g6 g7 g8
          intro Q f' fr hq hfr g0 g2 g3 g4 g5 g6 g7 g8 g9 g12
          subst hfr
          have hmod : (L : Int).tmod 2 = ((L % 2 : Nat) : Int) := rfl
          refine T_rseq fun Kr hKr => ?_
          simp (disch := omega) only [RA, ↓reduceIte, Nat.reduceEqDiff, Nat.reduceBEq, Nat.reduceSub, Nat.reduceAdd, Nat.reduceMul, Nat.reduceLT, Nat.reduceLeDiff, Int.reduceLE, Int.reduceLT, Int.reduceEq, Int.reduceNeg, Int.reduceToNat, Int.reduceMul, Int.reduceAdd, Int.reduceSub, Int.reduceBEq, Int.reduceBNe, reduceCtorEq, RD, g9, hmod]
          refine hKr _ _ ?_
          clear hKr Kr
          try simp only [RN, reduceIte]
          try refine T_e rfl ?_
          by_cases h2 : L % 2 = 0
          · have e2 : decide (((L % 2 : Nat) : Int) = 0) = true := decide_eq_true (by omega)
            refine T_cseq (t := true) (by simp (disch := omega) only [RA, ↓reduceIte, Nat.reduceEqDiff, Nat.reduceBEq, Nat.reduceSub, Nat.reduceAdd, Nat.reduceMul, Nat.reduceLT, Nat.reduceLeDiff, Int.reduceLE, Int.reduceLT, Int.reduceEq, Int.reduceNeg, Int.reduceToNat, Int.reduceMul, Int.reduceAdd, Int.reduceSub, Int.reduceBEq, Int.reduceBNe, reduceCtorEq, RD, e2]) ?_
            try simp only [RN, reduceIte]
            try refine T_e rfl ?_
            refine T_rseq fun Kr hKr => ?_
            simp (disch := omega) only [RA, ↓reduceIte, Nat.reduceEqDiff, Nat.reduceBEq, Nat.reduceSub, Nat.reduceAdd, Nat.reduceMul, Nat.reduceLT, Nat.reduceLeDiff, Int.reduceLE, Int.reduceLT, Int.reduceEq, Int.reduceNeg, Int.reduceToNat, Int.reduceMul, Int.reduceAdd, Int.reduceSub, Int.reduceBEq, Int.reduceBNe, reduceCtorEq, RD, RDS, RDD, g3, g7, g9, g12, gs]
            refine hKr _ _ ?_
            clear hKr Kr
            try simp only [RN, reduceIte]
            try refine T_e rfl ?_
            refine T_rseq fun Kr hKr => ?_
            simp (disch := omega) only [RA, ↓reduceIte, Nat.reduceEqDiff, Nat.reduceBEq, Nat.reduceSub, Nat.reduceAdd, Nat.reduceMul, Nat.reduceLT, Nat.reduceLeDiff, Int.reduceLE, Int.reduceLT, Int.reduceEq, Int.reduceNeg, Int.reduceToNat, Int.reduceMul, Int.reduceAdd, Int.reduceSub, Int.reduceBEq, Int.reduceBNe, reduceCtorEq, RD, g3, g9, sl_top]
            refine hKr _ _ ?_
            clear hKr Kr
            try simp only [RN, reduceIte]
            try refine T_e rfl ?_
            refine T_reg_k fun Kr hKr => ?_
            simp (disch := omega) only [RA, ↓reduceIte, Nat.reduceEqDiff, Nat.reduceBEq, Nat.reduceSub, Nat.reduceAdd, Nat.reduceMul, Nat.reduceLT, Nat.reduceLeDiff, Int.reduceLE, Int.reduceLT, Int.reduceEq, Int.reduceNeg, Int.reduceToNat, Int.reduceMul, Int.reduceAdd, Int.reduceSub, Int.reduceBEq, Int.reduceBNe, reduceCtorEq, RD, g4, g9, sl_top]
            refine hKr _ _ ?_
            clear hKr Kr
            refine hq _ _ ?_
            refine hnext _ _ W1 (by rw [if_pos h2]) (by rw [if_neg (by omega)]) ?_ ?_ ?_ ?_ ?_ ?_ ?_ ?_
            any_goals (simp (disch := omega) only [RA, ↓reduceIte, Nat.reduceEqDiff, Nat.reduceBEq, Nat.reduceSub, Nat.reduceAdd, Nat.reduceMul, Nat.reduceLT, Nat.reduceLeDiff, Int.reduceLE, Int.reduceLT, Int.reduceEq, Int.reduceNeg, Int.reduceToNat, Int.reduceMul, Int.reduceAdd, Int.reduceSub, Int.reduceBEq, Int.reduceBNe, reduceCtorEq, RD, RE, *] <;> rfl)
          · have e2 : decide (((L % 2 : Nat) : Int) = 0) = false := decide_eq_false (by omega)
            refine T_cseq (t := false) (by simp (disch := omega) only [RA, ↓reduceIte, Nat.reduceEqDiff, Nat.reduceBEq, Nat.reduceSub, Nat.reduceAdd, Nat.reduceMul, Nat.reduceLT, Nat.reduceLeDiff, Int.reduceLE, Int.reduceLT, Int.reduceEq, Int.reduceNeg, Int.reduceToNat, Int.reduceMul, Int.reduceAdd, Int.reduceSub, Int.reduceBEq, Int.reduceBNe, reduceCtorEq, RD, e2]) ?_
            try simp only [RN, reduceIte]
            try refine T_e rfl ?_
            refine T_rseq fun Kr hKr => ?_
            simp (disch := omega) only [RA, ↓reduceIte, Nat.reduceEqDiff, Nat.reduceBEq, Nat.reduceSub, Nat.reduceAdd, Nat.reduceMul, Nat.reduceLT, Nat.reduceLeDiff, Int.reduceLE, Int.reduceLT, Int.reduceEq, Int.reduceNeg, Int.reduceToNat, Int.reduceMul, Int.reduceAdd, Int.reduceSub, Int.reduceBEq, Int.reduceBNe, reduceCtorEq, RD, RDS, RDD, g3, g7, g9, g12, gs]
            refine hKr _ _ ?_
            clear hKr Kr
            try simp only [RN, reduceIte]
            try refine T_e rfl ?_
            refine T_rseq fun Kr hKr => ?_
            simp (disch := omega) only [RA, ↓reduceIte, Nat.reduceEqDiff, Nat.reduceBEq, Nat.reduceSub, Nat.reduceAdd, Nat.reduceMul, Nat.reduceLT, Nat.reduceLeDiff, Int.reduceLE, Int.reduceLT, Int.reduceEq, Int.reduceNeg, Int.reduceToNat, Int.reduceMul, Int.reduceAdd, Int.reduceSub, Int.reduceBEq, Int.reduceBNe, reduceCtorEq, RD, g3, g9, sl_top]
            refine hKr _ _ ?_
            clear hKr Kr
            try simp only [RN, reduceIte]
            try refine T_e rfl ?_
            refine T_reg_k fun Kr hKr => ?_
            simp (disch := omega) only [RA, ↓reduceIte, Nat.reduceEqDiff, Nat.reduceBEq, Nat.reduceSub, Nat.reduceAdd, Nat.reduceMul, Nat.reduceLT, Nat.reduceLeDiff, Int.reduceLE, Int.reduceLT, Int.reduceEq, Int.reduceNeg, Int.reduceToNat, Int.reduceMul, Int.reduceAdd, Int.reduceSub, Int.reduceBEq, Int.reduceBNe, reduceCtorEq, RD, g4, g9, sl_top]
            refine hKr _ _ ?_
            clear hKr Kr
            refine hq _ _ ?_
            refine hnext _ B1 _ (by rw [if_neg h2]) (by rw [if_pos (by omega)]) ?_ ?_ ?_ ?_ ?_ ?_ ?_ ?_
            any_goals (simp (disch := omega) only [RA, ↓reduceIte, Nat.reduceEqDiff, Nat.reduceBEq, Nat.reduceSub, Nat.reduceAdd, Nat.reduceMul, Nat.reduceLT, Nat.reduceLeDiff, Int.reduceLE, Int.reduceLT, Int.reduceEq, Int.reduceNeg, Int.reduceToNat, Int.reduceMul, Int.reduceAdd, Int.reduceSub, Int.reduceBEq, Int.reduceBNe, reduceCtorEq, RD, RE, *] <;> rfl)
        refine T_cseq (t := false) (by simp (disch := omega) only [RA, ↓reduceIte, Nat.reduceEqDiff, Nat.reduceBEq, Nat.reduceSub, Nat.reduceAdd, Nat.reduceMul, Nat.reduceLT, Nat.reduceLeDiff, Int.reduceLE, Int.reduceLT, Int.reduceEq, Int.reduceNeg, Int.reduceToNat, Int.reduceMul, Int.reduceAdd, Int.reduceSub, Int.reduceBEq, Int.reduceBNe, reduceCtorEq, RD, e40]) ?_
        try simp only [RN, reduceIte]
        try refine T_e rfl ?_
        refine T_rseq fun Kr hKr => ?_
        simp (disch := omega) only [RA, ↓reduceIte, Nat.reduceEqDiff, Nat.reduceBEq, Nat.reduceSub, Nat.reduceAdd, Nat.reduceMul, Nat.reduceLT, Nat.reduceLeDiff, Int.reduceLE, Int.reduceLT, Int.reduceEq, Int.reduceNeg, Int.reduceToNat, Int.reduceMul, Int.reduceAdd, Int.reduceSub, Int.reduceBEq, Int.reduceBNe, reduceCtorEq, RD, g4, ga]
        refine hKr _ _ ?_
        clear hKr Kr
        try simp only [RN, reduceIte]
        try refine T_e rfl ?_
        refine T_rseq fun Kr hKr => ?_
        simp (disch := omega) only [RA, ↓reduceIte, Nat.reduceEqDiff, Nat.reduceBEq, Nat.reduceSub, Nat.reduceAdd, Nat.reduceMul, Nat.reduceLT, Nat.reduceLeDiff, Int.reduceLE, Int.reduceLT, Int.reduceEq, Int.reduceNeg, Int.reduceToNat, Int.reduceMul, Int.reduceAdd, Int.reduceSub, Int.reduceBEq, Int.reduceBNe, reduceCtorEq, RD]
        refine hKr _ _ ?_
        clear hKr Kr
        try simp only [RN, reduceIte]
        try refine T_e rfl ?_
        by_cases hlt : laT e r < 0
        · rw [if_pos hlt] at hfe
          refine T_cseq (t := true) (by simp (disch := omega) only [RA, ↓reduceIte, Nat.reduceEqDiff, Nat.reduceBEq, Nat.reduceSub, Nat.reduceAdd, Nat.reduceMul, Nat.reduceLT, Nat.reduceLeDiff, Int.reduceLE, Int.reduceLT, Int.reduceEq, Int.reduceNeg, Int.reduceToNat, Int.reduceMul, Int.reduceAdd, Int.reduceSub, Int.reduceBEq, Int.reduceBNe, reduceCtorEq, RD, decide_eq_true hlt]) ?_
          try simp only [RN, reduceIte]
          try refine T_e rfl ?_
          refine T_rseq fun Kr hKr => ?_
          simp (disch := omega) only [RA, ↓reduceIte, Nat.reduceEqDiff, Nat.reduceBEq, Nat.reduceSub, Nat.reduceAdd, Nat.reduceMul, Nat.reduceLT, Nat.reduceLeDiff, Int.reduceLE, Int.reduceLT, Int.reduceEq, Int.reduceNeg, Int.reduceToNat, Int.reduceMul, Int.reduceAdd, Int.reduceSub, Int.reduceBEq, Int.reduceBNe, reduceCtorEq, RD, g3, gs]
          refine hKr _ _ ?_
          clear hKr Kr
          try simp only [RN, reduceIte]
          try refine T_e rfl ?_
          refine hcont _ _ _ (fun f'' H'' h => ?_) hfe ?_ ?_ ?_ ?_ ?_ ?_ ?_ ?_ ?_ ?_
          any_goals (simp (disch := omega) only [RA, ↓reduceIte, Nat.reduceEqDiff, Nat.reduceBEq, Nat.reduceSub, Nat.reduceAdd, Nat.reduceMul, Nat.reduceLT, Nat.reduceLeDiff, Int.reduceLE, Int.reduceLT, Int.reduceEq, Int.reduceNeg, Int.reduceToNat, Int.reduceMul, Int.reduceAdd, Int.reduceSub, Int.reduceBEq, Int.reduceBNe, reduceCtorEq, RD, RE, *] <;> rfl)
          simp only [blkQ, thenQ, loopQ, if_true]
          exact h
        · rw [if_neg hlt] at hfe
          refine T_cseq (t := false) (by simp (disch := omega) only [RA, ↓reduceIte, Nat.reduceEqDiff, Nat.reduceBEq, Nat.reduceSub, Nat.reduceAdd, Nat.reduceMul, Nat.reduceLT, Nat.reduceLeDiff, Int.reduceLE, Int.reduceLT, Int.reduceEq, Int.reduceNeg, Int.reduceToNat, Int.reduceMul, Int.reduceAdd, Int.reduceSub, Int.reduceBEq, Int.reduceBNe, reduceCtorEq, RD, decide_eq_false hlt]) ?_
          try simp only [RN, reduceIte]
          try refine T_e rfl ?_
          refine hcont _ _ _ (fun f'' H'' h => ?_) hfe ?_ ?_ ?_ ?_ ?_ ?_ ?_ ?_ ?_ ?_
          any_goals (simp (disch := omega) only [RA, ↓reduceIte, Nat.reduceEqDiff, Nat.reduceBEq, Nat.reduceSub, Nat.reduceAdd, Nat.reduceMul, Nat.reduceLT, Nat.reduceLeDiff, Int.reduceLE, Int.reduceLT, Int.reduceEq, Int.reduceNeg, Int.reduceToNat, Int.reduceMul, Int.reduceAdd, Int.reduceSub, Int.reduceBEq, Int.reduceBNe, reduceCtorEq, RD, RE, *] <;> rfl)
          simp only [blkQ, thenQ, loopQ, if_true]
          exact h
    · refine hX _ _ ?_
      obtain rfl : i = s.length := by omega
      have hd0 := hw.2.2.2
      rw [List.take_length] at hlw hst hnx
      have hL0 : L = 0 := by omega
      subst hL0
      have hr0 : r = [] := List.eq_nil_of_length_eq_zero hL
      subst hr0
      have hm1 : 0 < m := by
        have : (s.countP fun c => c.toNat == 41) ≤ s.countP fun c => c.toNat == 40 := by unfold dep at hd0; omega
        have h2 := cnt_all hw.2.1
        omega
      have he : e ≠ [] := by
        rcases hok.ne with ⟨q, _⟩ | ⟨_, _, q⟩
        · simp only at q; omega
        · exact q e (by simp)
      obtain ⟨la1, hla1⟩ : ∃ la1, e.getLastD 0 = la1 := ⟨_, rfl⟩
      have hla16 : la1 < 16 := by have := helt _ (last_mem he); omega
      have hlT : laT e [] = (la1 : Int) := by rw [laT, if_pos rfl, if_neg he, hla1]
      rw [hlT] at ga
      have hh0 : e.headD 0 = 0 := hbot
      have hmb : B1.set la1 0 = madeB s := by
        rw [madeB, hst]
        simp only [List.headD_cons]
        rw [cycL, if_neg he, hla1, hh0, ← hB1]
        rfl
      have hmw : W1 = madeW s := by
        rw [madeW, hst, ← hW1]
        rfl
      have hst0 : ∀ H', stO (some (DC n B1 W1)) H' 3 (1 + la1) 1 (.int .u8 0) = some (undef, H'.set 3 (some (DC n (B1.set la1 0) W1))) := fun H' => st_Db (x := 0) (by omega)
      refine T_rseq fun Kr hKr => ?_
      simp (disch := omega) only [RA, ↓reduceIte, Nat.reduceEqDiff, Nat.reduceBEq, Nat.reduceSub, Nat.reduceAdd, Nat.reduceMul, Nat.reduceLT, Nat.reduceLeDiff, Int.reduceLE, Int.reduceLT, Int.reduceEq, Int.reduceNeg, Int.reduceToNat, Int.reduceMul, Int.reduceAdd, Int.reduceSub, Int.reduceBEq, Int.reduceBNe, reduceCtorEq, RD, RDS, RDD, g4, g6, g7, ga, hst0]
      refine hKr _ _ ?_
      clear hKr Kr
      try simp only [RN, reduceIte]
      try refine T_e rfl ?_
      have hls : (B1.set la1 0).length = 16 := by rw [List.length_set, hlb]
      refine T_rseq fun Kr hKr => ?_
      simp (disch := omega) only [RA, ↓reduceIte, Nat.reduceEqDiff, Nat.reduceBEq, Nat.reduceSub, Nat.reduceAdd, Nat.reduceMul, Nat.reduceLT, Nat.reduceLeDiff, Int.reduceLE, Int.reduceLT, Int.reduceEq, Int.reduceNeg, Int.reduceToNat, Int.reduceMul, Int.reduceAdd, Int.reduceSub, Int.reduceBEq, Int.reduceBNe, reduceCtorEq, RD, RDS, RDD, g2, g7, hls, hlw2]
      refine hKr _ _ ?_
      clear hKr Kr
      try simp only [RN, reduceIte]
      try refine T_e rfl ?_
      refine bodyQ_ret (by simp (disch := omega) only [RA, ↓reduceIte, Nat.reduceEqDiff, Nat.reduceBEq, Nat.reduceSub, Nat.reduceAdd, Nat.reduceMul, Nat.reduceLT, Nat.reduceLeDiff, Int.reduceLE, Int.reduceLT, Int.reduceEq, Int.reduceNeg, Int.reduceToNat, Int.reduceMul, Int.reduceAdd, Int.reduceSub, Int.reduceBEq, Int.reduceBNe, reduceCtorEq, RD, resAll, resOf, RDS, RDD, g2, hls, hlw2]; rfl) GhV.refl ?_
      simp only [tup]
      rw [hmb, hmw]
      exact ⟨nn_D, hK⟩
end
end Go.Bm

/- Lists put behind lists. -/
set_option linter.unusedVariables false
set_option linter.unusedSimpArgs false
namespace Go.Bm
open Go Go.Am

section
variable {H : BH} {b bytes : Nat}
end
end Go.Bm

/- Draws: a source of numbers. What it draws is not followed, but its range. -/
set_option linter.unusedVariables false
set_option linter.unusedSimpArgs false
namespace Go.Bm
open Go Go.Am

section
variable {code : List Nat} {a b : Nat} {h : Int} {H : BH}
end
end Go.Bm

/- Draws: permutations and stars. -/
set_option linter.unusedVariables false
set_option linter.unusedSimpArgs false
namespace Go.Bm
open Go Go.Am

theorem Perm.of {p : List Nat} {n : Nat} (hn : 1 ≤ n ∧ n ≤ 16) (h0 : ∀ i, n ≤ i → i < 16 → nl p i = 0) (h1 : ∀ i, i < n → nl p i < n) (h2 : ∀ i j, i < n → j < i → nl p j ≠ nl p i) : Perm p n :=
  ⟨by omega, fun i hi => ⟨fun h => h0 i (by omega) hi, fun h => ⟨by have := h1 i (by omega); omega, fun j hj => h2 i j (by omega) hj⟩⟩⟩
theorem Perm.zero {p : List Nat} {n : Nat} (h : Perm p n) {i : Nat} (h1 : n ≤ i) (h2 : i < 16) : nl p i = 0 := (h.2 i h2).1 (by omega)
theorem mod_one {n i : Nat} (h : i < n) : (i + 1) % n = if i + 1 = n then 0 else i + 1 := by
  split
  · rename_i e; rw [e, Nat.mod_self]
  · exact Nat.mod_eq_of_lt (by omega)
section
variable {code : List Nat} {a : Nat} {h : Int}
end
end Go.Bm

/- All permutations in two orders (plain). -/
set_option linter.unusedVariables false
set_option linter.unusedSimpArgs false
set_option linter.unusedSectionVars false
namespace Go.Bm
open Go Go.Am

/-- A permutation of n numbers as places. -/
def PQ (n : Nat) (q : List Nat) : Prop := Perm q n ∧ q.length = 16
section
variable {n : Nat}
end
end Go.Bm

/- All types of a number. -/
set_option linter.unusedVariables false
set_option linter.unusedSimpArgs false
namespace Go.Bm
open Go Go.Am

end Go.Bm

/- All types of a number: the walks. -/
set_option linter.unusedVariables false
set_option linter.unusedSimpArgs false
namespace Go.Bm
open Go Go.Am

end Go.Bm

/- Draws: dessins. -/
set_option linter.unusedVariables false
set_option linter.unusedSimpArgs false
namespace Go.Bm
open Go Go.Am

section
variable {code : List Nat} {a : Nat} {h : Int}
end
end Go.Bm

/- All types of a number: the reference's walk. -/
set_option linter.unusedVariables false
set_option linter.unusedSimpArgs false
namespace Go.Bm
open Go Go.Am

end Go.Bm

/- Slices of slices in laws; sums and types of lists; passports. -/
set_option linter.unusedVariables false
set_option linter.unusedSimpArgs false
namespace Go.Bm
open Go Go.Am

end Go.Bm

/- Sums and types of lists; passports and their Euler numbers. -/
set_option linter.unusedVariables false
set_option linter.unusedSimpArgs false
namespace Go.Bm
open Go Go.Am

def sumK (xs : List Int) : Nat → Int
  | 0 => 0
  | i + 1 => sumK xs i + el xs i
def sumI (xs : List Int) : Int := sumK xs xs.length
def OkAt (xs : List Int) (i : Nat) : Prop := (1 ≤ el xs i ∧ el xs i ≤ 16) ∧ (0 < i → el xs i ≤ el xs (i - 1))
instance (xs : List Int) (i : Nat) : Decidable (OkAt xs i) := by unfold OkAt; infer_instance
def TypeP (xs : List Int) : Prop := (1 ≤ xs.length ∧ xs.length ≤ 16) ∧ (∀ i, i < xs.length → OkAt xs i) ∧ sumI xs ≤ 16
instance (xs : List Int) : Decidable (TypeP xs) := by unfold TypeP; infer_instance
theorem sumK_ge {xs : List Int} : ∀ {i : Nat}, (∀ j, j < i → OkAt xs j) → (i : Int) ≤ sumK xs i ∧ sumK xs i ≤ 16 * i
  | 0, _ => by simp [sumK]
  | i + 1, h => by
    have ih := sumK_ge (i := i) fun j hj => h j (by omega)
    have := (h i (by omega)).1
    simp only [sumK]
    omega
theorem TypeP.pos {xs : List Int} (h : TypeP xs) : 1 ≤ sumI xs := by
  have := (sumK_ge h.2.1).1
  have := h.1
  rw [sumI]
  omega
def at3 (xss : List (List Int)) (i : Nat) : List Int := xss.getD i []
def PassP (xss : List (List Int)) : Prop := xss.length = 3 ∧ ∀ i, i < 3 → TypeP (at3 xss i) ∧ sumI (at3 xss i) = sumI (at3 xss 0)
instance (xss : List (List Int)) : Decidable (PassP xss) := by unfold PassP; infer_instance
end Go.Bm

/- Draws: types and passports. -/
set_option linter.unusedVariables false
set_option linter.unusedSimpArgs false
namespace Go.Bm
open Go Go.Am

section
variable {code : List Nat} {a : Nat} {h : Int}
section
variable {x y z : Value} {H : BH} {b j o l e : Nat}
end
end
end Go.Bm

/- Draws: passports, types, numbers. -/
set_option linter.unusedVariables false
set_option linter.unusedSimpArgs false
namespace Go.Bm
open Go Go.Am

section
variable {code : List Nat} {a : Nat} {h : Int}
end
end Go.Bm

/- How many permutations commute with one of a type: the plain product. -/
set_option linter.unusedVariables false
set_option linter.unusedSimpArgs false
namespace Go.Bm
open Go Go.Am

section
variable {xs : List Int} {n : Nat}
end
section
variable {xs : List Int} (ht : TypeP xs)
include ht
end
end Go.Bm

/- Types: the functions that are compared, and what the law asks of them. -/
set_option linter.unusedVariables false
set_option linter.unusedSimpArgs false
namespace Go.Bm
open Go Go.Am

section
variable {xs : List Int}
end
end Go.Bm

/- The law of types: what it draws, and its own helpers. -/
set_option linter.unusedVariables false
set_option linter.unusedSimpArgs false
namespace Go.Bm
open Go Go.Am

section
variable {code : List Nat} {H : BH} {K : Value → BH → Prop} {x : Bool}
variable (hl : code.length ≤ 1048576) (hcd : ∀ i, nl code i < 256)
include hl hcd
end
end Go.Bm

/- The first permutation of a type; factorials; equal lists; which passports are searched. -/
set_option linter.unusedVariables false
set_option linter.unusedSimpArgs false
set_option linter.unusedSectionVars false
namespace Go.Bm
open Go Go.Am

def segK (p : List Nat) (t m : Nat) : Nat → List Nat
  | 0 => p
  | k + 1 => (segK p t m k).set (t + k) (t + (k + 1) % m)
theorem segK_len {p : List Nat} {t m k : Nat} : (segK p t m k).length = p.length := by
  induction k with
  | zero => rfl
  | succ k ih => rw [segK, List.length_set, ih]
theorem segK_nl {p : List Nat} {t m k x : Nat} (hl : p.length = 16) (h : t + k ≤ 16) : nl (segK p t m k) x = if t ≤ x ∧ x < t + k then t + (x - t + 1) % m else nl p x := by
  induction k with
  | zero => rw [segK, if_neg (by omega)]
  | succ k ih =>
    rw [segK, nl_set, segK_len, hl, ih (by omega)]
    by_cases e : x = t + k
    · subst e
      rw [if_pos ⟨rfl, by omega⟩, if_pos (by omega), show t + k - t + 1 = k + 1 by omega]
    · rw [if_neg (by omega)]
      by_cases h2 : t ≤ x ∧ x < t + k
      · rw [if_pos h2, if_pos (by omega)]
      · rw [if_neg h2, if_neg (by omega)]
structure StOk (p : List Nat) (t : Nat) : Prop where
  len : p.length = 16
  lt : ∀ x, x < t → nl p x < t
  inj : ∀ x y, x < t → y < t → nl p x = nl p y → x = y
  zero : ∀ x, t ≤ x → nl p x = 0
theorem StOk.seg {p : List Nat} {t m : Nat} (h : StOk p t) (hm : 1 ≤ m) (htm : t + m ≤ 16) : StOk (segK p t m m) (t + m) := by
  have hmod : ∀ x, t ≤ x → x < t + m → (x - t + 1) % m = if x - t + 1 = m then 0 else x - t + 1 := fun x h1 h2 => mod_one (by omega)
  refine ⟨by rw [segK_len, h.len], fun x hx => ?_, fun x y hx hy => ?_, fun x hx => ?_⟩
  · rw [segK_nl h.len htm]
    have := Nat.mod_lt (x - t + 1) (show 0 < m by omega)
    by_cases h1 : t ≤ x ∧ x < t + m
    · rw [if_pos h1]; omega
    · rw [if_neg h1]
      have := h.lt x (by omega)
      omega
  · rw [segK_nl h.len htm, segK_nl h.len htm]
    have hx' := h.lt x
    have hy' := h.lt y
    by_cases h1 : t ≤ x ∧ x < t + m <;> by_cases h2 : t ≤ y ∧ y < t + m
    · rw [if_pos h1, if_pos h2, hmod x h1.1 h1.2, hmod y h2.1 h2.2]
      intro e
      split at e <;> split at e <;> omega
    · rw [if_pos h1, if_neg h2]
      intro e
      have := hy' (by omega)
      omega
    · rw [if_neg h1, if_pos h2]
      intro e
      have := hx' (by omega)
      omega
    · rw [if_neg h1, if_neg h2]
      exact h.inj x y (by omega) (by omega)
  · rw [segK_nl h.len htm, if_neg (by omega)]
    exact h.zero x (by omega)
section
variable {xs : List Int} (ht : TypeP xs)
include ht
end
section
variable {x : Bool} {H : BH} {K : Value → BH → Prop}
end
end Go.Bm

/- The reference's search for pairs. -/
set_option linter.unusedVariables false
set_option linter.unusedSimpArgs false
set_option linter.unusedSectionVars false
namespace Go.Bm
open Go Go.Am

section
variable {H : BH} {K : Value → BH → Prop} {x : Bool}
end
section
variable {p c p' c' : Int} {H : BH} {b : Nat}
end
section
variable {black : List Nat} {n : Nat} {xss : List (List Int)} {H : BH} {K : Value → BH → Prop} {x : Bool}
end
end Go.Bm

/- The reference's numbers of pairs. -/
set_option linter.unusedVariables false
set_option linter.unusedSimpArgs false
set_option linter.unusedSectionVars false
namespace Go.Bm
open Go Go.Am

section
variable {xss : List (List Int)} (hp : PassP xss)
include hp
end
section
variable {xss : List (List Int)} {H : BH} {K : Value → BH → Prop} {x : Bool}
end
end Go.Bm

