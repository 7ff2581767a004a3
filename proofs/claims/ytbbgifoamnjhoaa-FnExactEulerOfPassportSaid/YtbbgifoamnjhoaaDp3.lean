/- What is reached, the program's; dessins. -/
import Derived.Test.YtbbgifoamnjhoaaDp2
set_option linter.unusedVariables false
set_option linter.unusedSimpArgs false
namespace Go.Bm
open Go Go.Am

/-- A slice of rows of m bytes. -/
abbrev FPs (m : Nat) (ls : List (List Nat)) : Value := Fz ls.length m (ls.flatten.map N8)
theorem flat_drop {α : Type} {m : Nat} : ∀ {ls : List (List α)} {j : Nat}, (∀ p ∈ ls, p.length = m) → j < ls.length → ∃ r, ls.flatten.drop (j * m) = ls.getD j [] ++ r
  | p :: ls, 0, h, _ => ⟨ls.flatten, by simp⟩
  | p :: ls, j + 1, h, hj => by
    obtain ⟨r, hr⟩ := flat_drop (ls := ls) (j := j) (fun q hq => h q (by simp [hq])) (by simpa using hj)
    refine ⟨r, ?_⟩
    have hp : p.length = m := h p (by simp)
    rw [List.flatten_cons, Nat.succ_mul, Nat.add_comm, List.drop_append, List.drop_eq_nil_of_le (by omega)]
    simp only [List.nil_append, hp]
    rw [show m + j * m - m = j * m by omega, hr]
    simp [List.getD]
theorem flat_len {α : Type} {m : Nat} : ∀ {ls : List (List α)}, (∀ p ∈ ls, p.length = m) → ls.flatten.length = ls.length * m
  | [], _ => by simp
  | p :: ls, h => by rw [List.flatten_cons, List.length_append, flat_len fun q hq => h q (by simp [hq]), h p (by simp), List.length_cons, Nat.succ_mul]; omega
theorem getD_mem {α : Type} {ls : List α} {d : α} {j : Nat} (h : j < ls.length) : ls.getD j d ∈ ls := by simp [List.getD, h]
theorem getN_FP {m j : Nat} {ls : List (List Nat)} (h : ∀ p ∈ ls, p.length = m) (hj : j < ls.length) : getN (some m) (ls.flatten.map N8) (j * m) = some (PL (ls.getD j [])) := by
  obtain ⟨r, hr⟩ := flat_drop h hj
  have hl := h _ (getD_mem (d := []) hj)
  have hf := flat_len h
  have : (j + 1) * m ≤ ls.length * m := Nat.mul_le_mul_right _ hj
  rw [Nat.succ_mul] at this
  generalize ls.getD j [] = q at hr hl ⊢
  rw [getN_agg (by rw [List.length_map, hf]; omega), ← List.map_drop, hr, List.map_append, List.take_append_of_le_length (by simp [hl]), List.take_of_length_le (by simp [hl])]
theorem getN_FP1 {m j y : Nat} {ls : List (List Nat)} (h : ∀ p ∈ ls, p.length = m) (hj : j < ls.length) (hy : y < m) : getN none (ls.flatten.map N8) (j * m + y) = some (N8 (nl (ls.getD j []) y)) := by
  obtain ⟨r, hr⟩ := flat_drop h hj
  have hl := h _ (getD_mem (d := []) hj)
  generalize ls.getD j [] = q at hr hl ⊢
  have : ls.flatten[j * m + y]? = q[y]? := by
    rw [← List.getElem?_drop, hr, List.getElem?_append_left (by omega)]
  simp only [getN, List.getElem?_map, this]
  simp [nl, List.getD, hl, hy]
theorem fill2P {b w : List Nat} {m : Nat} {v : Value} (hb : b.length = m) (hw : w.length = m) : fillL (repl (List.replicate m v) 2) [(0, m, PL b), (m, m, PL w)] = some (b.map N8 ++ w.map N8) := by
  simp [fillL, repl, cellsL, hb, hw, splice, List.take_append, List.drop_append]
theorem fill3P {a b w : List Nat} {m : Nat} {v : Value} (ha : a.length = m) (hb : b.length = m) (hw : w.length = m) : fillL (repl (List.replicate m v) 3) [(0, m, PL a), (m, m, PL b), (m + m, m, PL w)] = some (a.map N8 ++ b.map N8 ++ w.map N8) := by
  simp [fillL, repl, cellsL, ha, hb, hw, splice, List.take_append, List.drop_append]
  refine ⟨by omega, ?_⟩
  rw [List.take_of_length_le (by rw [List.length_map]; omega), List.drop_eq_nil_of_le (as := a.map N8) (by rw [List.length_map]; omega), List.drop_eq_nil_of_le (as := b.map N8) (by rw [List.length_map]; omega)]
  try simp
theorem reached_spec {x : Bool} {ls : List (List Nat)} {n : Int} {H : BH} {K : Value → BH → Prop} (hll : ls.length ≤ 1000) (hl : ∀ p ∈ ls, p.length = 16) (hl16 : ∀ p ∈ ls, ∀ i, nl p i < 16)
    (hK : K (I (bfs ls (st0 16) 16).2.length) H) : CallX x F_impl_reached [I n, FPs 16 ls] H K := by
  refine callP (by simp only [RH]) ?_
  refine CallX_body Γ_impl_reached ?_
  simp only [A_impl_reached, T_aiff]
  refine T_rseq fun Kr hKr => ?_
  simp (disch := omega) only [RA, ↓reduceIte, Nat.reduceEqDiff, Nat.reduceBEq, Nat.reduceSub, Nat.reduceAdd, Nat.reduceMul, Nat.reduceLT, Nat.reduceLeDiff, Int.reduceLE, Int.reduceLT, Int.reduceEq, Int.reduceNeg, Int.reduceToNat, Int.reduceMul, Int.reduceAdd, Int.reduceSub, Int.reduceBEq, Int.reduceBNe, reduceCtorEq, RD]
  refine hKr _ _ ?_
  clear hKr Kr
  try simp only [RN, reduceIte]
  try refine T_e rfl ?_
  refine T_rseq fun Kr hKr => ?_
  simp (disch := omega) only [RA, ↓reduceIte, Nat.reduceEqDiff, Nat.reduceBEq, Nat.reduceSub, Nat.reduceAdd, Nat.reduceMul, Nat.reduceLT, Nat.reduceLeDiff, Int.reduceLE, Int.reduceLT, Int.reduceEq, Int.reduceNeg, Int.reduceToNat, Int.reduceMul, Int.reduceAdd, Int.reduceSub, Int.reduceBEq, Int.reduceBNe, reduceCtorEq, RD]
  refine hKr _ _ ?_
  clear hKr Kr
  try simp only [RN, reduceIte]
  try refine T_e rfl ?_
  refine T_rseq fun Kr hKr => ?_
  simp (disch := omega) only [RA, ↓reduceIte, Nat.reduceEqDiff, Nat.reduceBEq, Nat.reduceSub, Nat.reduceAdd, Nat.reduceMul, Nat.reduceLT, Nat.reduceLeDiff, Int.reduceLE, Int.reduceLT, Int.reduceEq, Int.reduceNeg, Int.reduceToNat, Int.reduceMul, Int.reduceAdd, Int.reduceSub, Int.reduceBEq, Int.reduceBNe, reduceCtorEq, RD]
  refine hKr _ _ ?_
  clear hKr Kr
  try simp only [RN, reduceIte]
  try refine T_e rfl ?_
  refine T_rseq fun Kr hKr => ?_
  simp (disch := omega) only [RA, ↓reduceIte, Nat.reduceEqDiff, Nat.reduceBEq, Nat.reduceSub, Nat.reduceAdd, Nat.reduceMul, Nat.reduceLT, Nat.reduceLeDiff, Int.reduceLE, Int.reduceLT, Int.reduceEq, Int.reduceNeg, Int.reduceToNat, Int.reduceMul, Int.reduceAdd, Int.reduceSub, Int.reduceBEq, Int.reduceBNe, reduceCtorEq, RD]
  refine hKr _ _ ?_
  clear hKr Kr
  try simp only [RN, reduceIte]
  try refine T_e rfl ?_
  refine T_wloop (fun m f H' => ∃ i, i ≤ 16 ∧ m = 16 - i ∧ i ≤ (bfs ls (st0 16) i).2.length ∧ f 1 = FPs 16 ls ∧ f 5 = P 0 0 ∧ f 6 = S 1 0 (bfs ls (st0 16) i).2.length 1 ∧ f 7 = I i ∧ H' = [some ((bfs ls (st0 16) i).1.map B), some ((bfs ls (st0 16) i).2.map N8)]) (16) ?_ ?_
  · refine ⟨_, _, Gh.refl, 0, by omega, by omega, by omega, ?_, ?_, ?_, ?_, ?_⟩
    any_goals (simp (disch := omega) only [RA, ↓reduceIte, Nat.reduceEqDiff, RD, RE, *] <;> rfl)
    simp [bfs, st0] <;> rfl
  · rintro m f H' R ⟨i, hi, rfl, hil, h1, h5, h6, h7, rfl⟩ hN hX hR hE
    simp only [A_impl_reached.l1, T_aiff]
    have hB := (Bi.st0 (m := 16) (by omega)).bfs hl16 i
    generalize hst : bfs ls (st0 16) i = st at hil h6 hB
    have hle := hB.le
    have hsl := hB.len
    refine T_rseq fun Kr hKr => ?_
    simp (disch := omega) only [RA, ↓reduceIte, Nat.reduceEqDiff, RD, h6, h7]
    refine hKr _ _ ?_
    clear hKr Kr
    try simp only [RN, reduceIte]
    try refine T_e rfl ?_
    refine T_csplit (p := i < st.2.length) (by simp only [RA, ↓reduceIte, Nat.reduceEqDiff] <;> rfl) (by (try simp only [RB]) <;> first | done | exact Iff.rfl | omega | simp) (fun hc => ?_) (fun hc => ?_) <;> (try simp only [RN, reduceIte]) <;> (try refine T_e rfl ?_)
    · have hx := hB.lt i hc
      first | refine T_bfree rfl ?_ | refine T_bfree' rfl ?_
      try simp only [RN, reduceIte]
      try refine T_e rfl ?_
      refine T_rseq fun Kr hKr => ?_
      simp (disch := omega) only [RA, ↓reduceIte, Nat.reduceEqDiff, RD, h1]
      refine hKr _ _ ?_
      clear hKr Kr
      try simp only [RN, reduceIte]
      try refine T_e rfl ?_
      refine T_wloop (fun m f H' => ∃ j st', j ≤ ls.length ∧ m = ls.length - j ∧ st' = roundX (ls.take j) (nl st.2 i) st ∧ f 1 = FPs 16 ls ∧ f 5 = P 0 0 ∧ f 6 = S 1 0 st'.2.length 1 ∧ f 7 = I i ∧ f 19 = FPs 16 ls ∧ f 20 = I ls.length ∧ f 21 = I j ∧ H' = [some (st'.1.map B), some (st'.2.map N8)]) (ls.length) ?_ ?_
      · refine ⟨_, _, Gh.refl, 0, st, by omega, by omega, rfl, ?_, ?_, ?_, ?_, ?_, ?_, ?_, rfl⟩
        any_goals (simp (disch := omega) only [RA, ↓reduceIte, Nat.reduceEqDiff, RD, RE, *] <;> rfl)
      · clear h1 h5 h6 h7
        rintro m f H' R2 ⟨j, st', hj, rfl, hst', h1, h5, h6, h7, h19, h20, h21, rfl⟩ hN2 hX2 hR2 hE2
        simp only [A_impl_reached.l0, T_aiff]
        refine T_rseq fun Kr hKr => ?_
        simp (disch := omega) only [RA, ↓reduceIte, Nat.reduceEqDiff, RD, h20, h21]
        refine hKr _ _ ?_
        clear hKr Kr
        try simp only [RN, reduceIte]
        try refine T_e rfl ?_
        have hB' : Bi 16 st' := by rw [hst']; exact hB.round fun p hp => hl16 p (List.mem_of_mem_take hp) _
        have hle' := hB'.le
        have hsl' := hB'.len
        refine T_csplit (p := j < ls.length) (by simp only [RA, ↓reduceIte, Nat.reduceEqDiff] <;> rfl) (by (try simp only [RB]) <;> first | done | exact Iff.rfl | omega | simp) (fun hc => ?_) (fun hc => ?_) <;> (try simp only [RN, reduceIte]) <;> (try refine T_e rfl ?_)
        · obtain ⟨q, hq⟩ := @round_pre (nl st.2 i) (ls.take j) st
          rw [← hst'] at hq
          have hxi : nl st'.2 i = nl st.2 i := by rw [hq, nl_append, if_pos (by assumption)]
          have hil' : i < st'.2.length := by rw [hq]; simp; omega
          have hnx := round_take (ls := ls) (x := nl st.2 i) (st := st) hc
          rw [← hst'] at hnx
          have hpl := hl _ (getD_mem (d := []) hc)
          have hyl := hl16 _ (getD_mem (d := []) hc) (nl st.2 i)
          obtain ⟨pj, hpj⟩ : ∃ pj, ls.getD j [] = pj := ⟨_, rfl⟩
          rw [hpj] at hnx hpl hyl
          obtain ⟨y, hyd⟩ : ∃ y, nl pj (nl st.2 i) = y := ⟨_, rfl⟩
          rw [hyd] at hyl hnx
          have hnext : ∀ f' st2, f' 1 = FPs 16 ls → f' 5 = P 0 0 → f' 6 = S 1 0 st2.2.length 1 → f' 7 = I i → f' 19 = FPs 16 ls → f' 20 = I ls.length → f' 21 = I j → st2 = visit st' y →
              T 0 A_impl_reached.r13 R2 f' [some (st2.1.map B), some (st2.2.map N8)] := by
            intro f' st2 h1 h5 h6 h7 h19 h20 h21 hs2
            refine T_reg_k fun Kr hKr => ?_
            simp (disch := omega) only [RA, ↓reduceIte, Nat.reduceEqDiff, Nat.reduceAdd, Nat.reduceMul, Int.reduceToNat, Nat.reduceLT, reduceCtorEq, RD, h21]
            refine hKr _ _ ?_
            clear hKr Kr
            refine hN2 (ls.length - (j + 1)) _ _ _ _ (by omega) Gh.refl ⟨j + 1, st2, by omega, rfl, by rw [hnx, hs2], ?_, ?_, ?_, ?_, ?_, ?_, ?_, rfl⟩
            any_goals (simp (disch := omega) only [RA, ↓reduceIte, Nat.reduceEqDiff, Nat.reduceAdd, Nat.reduceMul, Int.reduceToNat, Nat.reduceLT, reduceCtorEq, RD, RE, *] <;> rfl)
          first | refine T_bfree rfl ?_ | refine T_bfree' rfl ?_
          try simp only [RN, reduceIte]
          try refine T_e rfl ?_
          refine T_rseq fun Kr hKr => ?_
          simp (disch := omega) only [RA, ↓reduceIte, Nat.reduceEqDiff, Nat.reduceAdd, Nat.reduceMul, Int.reduceToNat, Nat.reduceLT, reduceCtorEq, RD, h19, h21, getN_FP hl hc, hpj]
          refine hKr _ _ ?_
          clear hKr Kr
          try simp only [RN, reduceIte]
          try refine T_e rfl ?_
          refine T_rseq fun Kr hKr => ?_
          simp (disch := omega) only [RA, ↓reduceIte, Nat.reduceEqDiff, RD, h6, h7, hxi, hpl, hyd]
          refine hKr _ _ ?_
          clear hKr Kr
          try simp only [RN, reduceIte]
          try refine T_e rfl ?_
          refine T_rseq fun Kr hKr => ?_
          simp (disch := omega) only [RA, ↓reduceIte, Nat.reduceEqDiff, Nat.reduceBEq, Nat.reduceSub, Nat.reduceAdd, Nat.reduceMul, Nat.reduceLT, Nat.reduceLeDiff, Int.reduceLE, Int.reduceLT, Int.reduceEq, Int.reduceNeg, Int.reduceToNat, Int.reduceMul, Int.reduceAdd, Int.reduceSub, Int.reduceBEq, Int.reduceBNe, reduceCtorEq, RD, h5, hsl']
          refine hKr _ _ ?_
          clear hKr Kr
          try simp only [RN, reduceIte]
          try refine T_e rfl ?_
          refine T_csplit (p := ¬ bl st'.1 y = true) (by simp only [RA, ↓reduceIte, Nat.reduceEqDiff, Nat.reduceBEq, Nat.reduceSub, Nat.reduceAdd, Nat.reduceMul, Nat.reduceLT, Nat.reduceLeDiff, Int.reduceLE, Int.reduceLT, Int.reduceEq, Int.reduceNeg, Int.reduceToNat, Int.reduceMul, Int.reduceAdd, Int.reduceSub, Int.reduceBEq, Int.reduceBNe, reduceCtorEq] <;> rfl) (by (try simp only [RB]) <;> first | done | exact Iff.rfl | omega | simp) (fun hc => ?_) (fun hc => ?_) <;> (try simp only [RN, reduceIte]) <;> (try refine T_e rfl ?_)
          · refine T_rseq fun Kr hKr => ?_
            simp (disch := omega) only [RA, ↓reduceIte, Nat.reduceEqDiff, Nat.reduceBEq, Nat.reduceSub, Nat.reduceAdd, Nat.reduceMul, Nat.reduceLT, Nat.reduceLeDiff, Int.reduceLE, Int.reduceLT, Int.reduceEq, Int.reduceNeg, Int.reduceToNat, Int.reduceMul, Int.reduceAdd, Int.reduceSub, Int.reduceBEq, Int.reduceBNe, reduceCtorEq, RD, h5, hsl']
            refine hKr _ _ ?_
            clear hKr Kr
            try simp only [RN, reduceIte]
            try refine T_e rfl ?_
            refine T_rseq fun Kr hKr => ?_
            simp (disch := omega) only [RA, ↓reduceIte, Nat.reduceEqDiff, Nat.reduceBEq, Nat.reduceSub, Nat.reduceAdd, Nat.reduceMul, Nat.reduceLT, Nat.reduceLeDiff, Int.reduceLE, Int.reduceLT, Int.reduceEq, Int.reduceNeg, Int.reduceToNat, Int.reduceMul, Int.reduceAdd, Int.reduceSub, Int.reduceBEq, Int.reduceBNe, reduceCtorEq, RD, h6]
            refine hKr _ _ ?_
            clear hKr Kr
            try simp only [RN, reduceIte]
            try refine T_e rfl ?_
            refine T_gh (Gh.nrm [0, 4] rfl rfl (by simp only [RH])) ?_
            refine hnext _ (st'.1.set y true, st'.2 ++ [y]) ?_ ?_ ?_ ?_ ?_ ?_ ?_ ?_
            any_goals (simp (disch := omega) only [RA, ↓reduceIte, Nat.reduceEqDiff, RD, RE, *] <;> rfl)
            rw [visit, if_neg hc]
          · try simp only [RN, reduceIte]
            try refine T_e rfl ?_
            refine T_gh (Gh.nrm [0, 1] rfl rfl (by simp only [RH])) ?_
            refine hnext _ st' ?_ ?_ ?_ ?_ ?_ ?_ ?_ ?_
            any_goals (simp (disch := omega) only [RA, ↓reduceIte, Nat.reduceEqDiff, RD, RE, *] <;> rfl)
            rw [visit, if_pos (by simpa using hc)]
        · refine hX2 _ _ ?_
          obtain rfl : j = ls.length := by omega
          have hst2 : st' = bfs ls (st0 16) (i + 1) := by
            rw [hst', bfs, hst, if_pos (by assumption), List.take_length]
          obtain ⟨q, hq⟩ := @round_pre (nl st.2 i) (ls.take ls.length) st
          have hlq : i + 1 ≤ st'.2.length := by rw [hst', hq]; simp; omega
          refine T_reg_k fun Kr hKr => ?_
          simp (disch := omega) only [RA, ↓reduceIte, Nat.reduceEqDiff, RD, h7]
          refine hKr _ _ ?_
          clear hKr Kr
          refine hN (16 - (i + 1)) _ _ _ _ (by omega) Gh.refl ⟨i + 1, by omega, rfl, by rw [← hst2]; exact hlq, ?_, ?_, ?_, ?_, ?_⟩
          any_goals (simp (disch := omega) only [RA, ↓reduceIte, Nat.reduceEqDiff, RD, RE, *] <;> rfl)
          · rw [← hst2]
            exact (by simp (disch := omega) only [RA, ↓reduceIte, Nat.reduceEqDiff, RD, RE, *] <;> rfl)
          · rw [← hst2]
    · refine hX _ _ ?_
      refine T_rseq fun Kr hKr => ?_
      simp (disch := omega) only [RA, ↓reduceIte, Nat.reduceEqDiff, Nat.reduceBEq, Nat.reduceSub, Nat.reduceAdd, Nat.reduceMul, Nat.reduceLT, Nat.reduceLeDiff, Int.reduceLE, Int.reduceLT, Int.reduceEq, Int.reduceNeg, Int.reduceToNat, Int.reduceMul, Int.reduceAdd, Int.reduceSub, Int.reduceBEq, Int.reduceBNe, reduceCtorEq, RD, h6]
      refine hKr _ _ ?_
      clear hKr Kr
      try simp only [RN, reduceIte]
      try refine T_e rfl ?_
      refine bodyQ_ret (by simp (disch := omega) only [RA, ↓reduceIte, Nat.reduceEqDiff, RD, resAll, resOf]; rfl) GhV.refl ?_
      simp only [tup]
      refine ⟨NN.int, ?_⟩
      have hs : bfs ls (st0 16) 16 = st := by rw [bfs_stop (i := i) (by rw [hst]; omega) 16 hi, hst]
      rw [hs] at hK
      exact hK

/-- A dessin. -/
def Des (n : Int) (b w : List Nat) : Prop := Perm b n ∧ Perm w n ∧ ((reach b w).2.length : Int) = n
instance (n : Int) (b w : List Nat) : Decidable (Des n b w) := by unfold Des; infer_instance
theorem Perm.lt16' {p : List Nat} {n : Int} (h : Perm p n) (hl : p.length = 16) (i : Nat) : nl p i < 16 := by
  obtain ⟨m, rfl⟩ := Int.eq_ofNat_of_zero_le (show 0 ≤ n by have := h.1; omega)
  exact h.lt16 hl i
theorem l01Is_spec {x : Bool} {n : Int} {b w : List Nat} {H : BH} {K : Value → BH → Prop} (hb : By 16 b) (hw : By 16 w) (hK : K (.bool (decide (Des n b w))) H) : CallX x F_spec_l01Is [DV n b w] H K := by
  have hlb := hb.len
  have hlw := hw.len
  refine callP (by simp only [RH]) ?_
  refine CallX_body Γ_spec_l01Is ?_
  simp only [A_spec_l01Is, T_aiff]
  refine T_rseq fun Kr hKr => ?_
  simp (disch := omega) only [RA, ↓reduceIte, Nat.reduceEqDiff, RD]
  refine hKr _ _ ?_
  clear hKr Kr
  try simp only [RN, reduceIte]
  try refine T_e rfl ?_
  refine T_rseq fun Kr hKr => ?_
  simp (disch := omega) only [RA, ↓reduceIte, Nat.reduceEqDiff, RD, getN_D, getN_bk]
  refine l01Perm_spec hb ?_
  by_cases h1 : Perm b n
  · rw [decide_eq_true h1]
    simp (disch := omega) only [RA, ↓reduceIte, Nat.reduceEqDiff, RD, getN_D, getN_wh]
    refine l01Perm_spec hw ?_
    by_cases h2 : Perm w n
    · rw [decide_eq_true h2]
      simp (disch := omega) only [RA, ↓reduceIte, Nat.reduceEqDiff, RD, getN_D, getN_wh, getN_bk]
      refine l01Connected_spec hb hw (h1.lt16' hb.len) (h2.lt16' hw.len) ?_
      simp (disch := omega) only [RA, ↓reduceIte, Nat.reduceEqDiff, RD]
      refine hKr _ _ ?_
      clear hKr Kr
      try simp only [blkQ, thenQ, loopQ]
      try simp only [RN, reduceIte]
      try refine T_e rfl ?_
      refine bodyQ_ret (by simp (disch := omega) only [RA, ↓reduceIte, Nat.reduceEqDiff, RD, resAll, resOf]; rfl) GhV.refl ?_
      simp only [tup]
      exact ⟨NN.bool, by simpa [Des, h1, h2] using hK⟩
    · rw [decide_eq_false h2]
      simp (disch := omega) only [RA, ↓reduceIte, Nat.reduceEqDiff, RD]
      refine hKr _ _ ?_
      clear hKr Kr
      try simp only [blkQ, thenQ, loopQ]
      try simp only [RN, reduceIte]
      try refine T_e rfl ?_
      refine bodyQ_ret (by simp (disch := omega) only [RA, ↓reduceIte, Nat.reduceEqDiff, RD, resAll, resOf]; rfl) GhV.refl ?_
      simp only [tup]
      exact ⟨NN.bool, by simpa [Des, h1, h2] using hK⟩
  · rw [decide_eq_false h1]
    simp (disch := omega) only [RA, ↓reduceIte, Nat.reduceEqDiff, RD]
    refine hKr _ _ ?_
    clear hKr Kr
    try simp only [blkQ, thenQ, loopQ]
    try simp only [RN, reduceIte]
    try refine T_e rfl ?_
    refine bodyQ_ret (by simp (disch := omega) only [RA, ↓reduceIte, Nat.reduceEqDiff, RD, resAll, resOf]; rfl) GhV.refl ?_
    simp only [tup]
    exact ⟨NN.bool, by simpa [Des, h1] using hK⟩
theorem FPs2 {m : Nat} {b w : List Nat} : Fz 2 m (b.map N8 ++ w.map N8) = FPs m [b, w] := by simp [FPs]
theorem IsDessin_spec {x : Bool} {n : Int} {b w : List Nat} {H : BH} {K : Value → BH → Prop} (hb : By 16 b) (hw : By 16 w) (hK : K (.bool (decide (Des n b w))) H) : CallX x F_impl_IsDessin [DV n b w] H K := by
  have hlb := hb.len
  have hlw := hw.len
  refine callP (by simp only [RH]) ?_
  refine CallX_body Γ_impl_IsDessin ?_
  simp only [A_impl_IsDessin, T_aiff]
  refine T_rseq fun Kr hKr => ?_
  simp (disch := omega) only [RA, ↓reduceIte, Nat.reduceEqDiff, RD]
  refine hKr _ _ ?_
  clear hKr Kr
  try simp only [RN, reduceIte]
  try refine T_e rfl ?_
  refine T_rseq fun Kr hKr => ?_
  simp (disch := omega) only [RA, ↓reduceIte, Nat.reduceEqDiff, RD, getN_D]
  refine hKr _ _ ?_
  clear hKr Kr
  try simp only [RN, reduceIte]
  try refine T_e rfl ?_
  refine T_rseq fun Kr hKr => ?_
  simp (disch := omega) only [RA, ↓reduceIte, Nat.reduceEqDiff, Nat.reduceBEq, Nat.reduceSub, Nat.reduceAdd, Nat.reduceMul, Nat.reduceLT, Nat.reduceLeDiff, Int.reduceLE, Int.reduceLT, Int.reduceEq, Int.reduceNeg, Int.reduceToNat, Int.reduceMul, Int.reduceAdd, Int.reduceSub, Int.reduceBEq, Int.reduceBNe, reduceCtorEq, RD, getN_bk]
  refine IsPermutation_spec hb ?_
  by_cases h1 : Perm b n
  · rw [decide_eq_true h1]
    simp (disch := omega) only [RA, ↓reduceIte, Nat.reduceEqDiff, Nat.reduceBEq, Nat.reduceSub, Nat.reduceAdd, Nat.reduceMul, Nat.reduceLT, Nat.reduceLeDiff, Int.reduceLE, Int.reduceLT, Int.reduceEq, Int.reduceNeg, Int.reduceToNat, Int.reduceMul, Int.reduceAdd, Int.reduceSub, Int.reduceBEq, Int.reduceBNe, reduceCtorEq, RD, getN_wh]
    refine IsPermutation_spec hw ?_
    by_cases h2 : Perm w n
    · rw [decide_eq_true h2]
      simp (disch := omega) only [RA, ↓reduceIte, Nat.reduceEqDiff, Nat.reduceBEq, Nat.reduceSub, Nat.reduceAdd, Nat.reduceMul, Nat.reduceLT, Nat.reduceLeDiff, Int.reduceLE, Int.reduceLT, Int.reduceEq, Int.reduceNeg, Int.reduceToNat, Int.reduceMul, Int.reduceAdd, Int.reduceSub, Int.reduceBEq, Int.reduceBNe, reduceCtorEq, RD, getN_wh, getN_bk, fill2P hlb hlw]
      have h32 : 2 * 16 = (b.map N8 ++ w.map N8).length := by simp [hlb, hlw]
      refine callFz 1 rfl (by simp only [RH]) ?_
      simp only [RZ, frz_all h32]
      rw [FPs2]
      refine reached_spec (by simp) (by simp [hlb, hlw]) (by simp; exact ⟨h1.lt16' hb.len, h2.lt16' hw.len⟩) ?_
      simp (disch := omega) only [RA, ↓reduceIte, Nat.reduceEqDiff, RD]
      refine hKr _ _ ?_
      clear hKr Kr
      try simp only [blkQ, thenQ, loopQ]
      try simp only [RN, reduceIte]
      try refine T_e rfl ?_
      refine bodyQ_ret (by simp (disch := omega) only [RA, ↓reduceIte, Nat.reduceEqDiff, RD, resAll, resOf]; rfl) GhV.refl ?_
      simp only [tup]
      exact ⟨NN.bool, by simpa [Des, h1, h2, reach] using hK⟩
    · rw [decide_eq_false h2]
      simp (disch := omega) only [RA, ↓reduceIte, Nat.reduceEqDiff, RD]
      refine hKr _ _ ?_
      clear hKr Kr
      try simp only [blkQ, thenQ, loopQ]
      try simp only [RN, reduceIte]
      try refine T_e rfl ?_
      refine bodyQ_ret (by simp (disch := omega) only [RA, ↓reduceIte, Nat.reduceEqDiff, RD, resAll, resOf]; rfl) GhV.refl ?_
      simp only [tup]
      exact ⟨NN.bool, by simpa [Des, h1, h2] using hK⟩
  · rw [decide_eq_false h1]
    simp (disch := omega) only [RA, ↓reduceIte, Nat.reduceEqDiff, RD]
    refine hKr _ _ ?_
    clear hKr Kr
    try simp only [blkQ, thenQ, loopQ]
    try simp only [RN, reduceIte]
    try refine T_e rfl ?_
    refine bodyQ_ret (by simp (disch := omega) only [RA, ↓reduceIte, Nat.reduceEqDiff, RD, resAll, resOf]; rfl) GhV.refl ?_
    simp only [tup]
    exact ⟨NN.bool, by simpa [Des, h1] using hK⟩
end Go.Bm
