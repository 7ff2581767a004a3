/- The Euler number of flags. -/
import Derived.Test.YtdadgoboeonoaaaDpI
set_option linter.unusedVariables false
set_option linter.unusedSimpArgs false
namespace Go.Bm
open Go Go.Am

/-! ### The sets of flags under Corner and Side have four each -/
theorem visit_new {st : BS} {y : Nat} (h : bl st.1 y = false) : visit st y = (st.1.set y true, st.2 ++ [y]) := by rw [visit, if_neg (by simp [h])]
theorem visit_old {st : BS} {y : Nat} (h : bl st.1 y = true) : visit st y = st := by rw [visit, if_pos h]
theorem count_true : ∀ (l : List Bool) (n m : Nat), l.length = m → n ≤ m → (∀ i, i < m → bl l i = decide (i < n)) → l.count true = n
  | [], n, m, hl, hn, h => by simp at hl; simp; omega
  | a :: l, 0, m, hl, hn, h => by
    have h0 := h 0 (by simp at hl; omega)
    have ih := count_true l 0 (m - 1) (by simp at hl; omega) (by omega) fun i hi => by
      have := h (i + 1) (by omega)
      simpa [bl, List.getD] using this
    have : a = false := by simpa [bl, List.getD] using h0
    subst this
    simpa using ih
  | a :: l, n + 1, m, hl, hn, h => by
    have h0 := h 0 (by omega)
    have ih := count_true l n (m - 1) (by simp at hl; omega) (by omega) fun i hi => by
      have := h (i + 1) (by omega)
      simpa [bl, List.getD] using this
    have : a = true := by simpa [bl, List.getD] using h0
    subst this
    simp [ih]
structure Four (c s : List Nat) (n k : Nat) (so : List Bool × List Nat) : Prop where
  len : so.1.length = 32
  lt : ∀ i, bl so.1 i = true → i < n
  cl : ∀ i, bl so.1 i = true → bl so.1 (nl c i) = true ∧ bl so.1 (nl s i) = true
  cnt : so.1.count true = 4 * so.2.length
  upto : ∀ i, i < k → bl so.1 i = true
theorem bfs_four {c s : List Nat} {se : List Bool} {x a b d : Nat} (hl : se.length = 32) (hx : x < 32) (ha : a < 32) (hb : b < 32) (hd : d < 32) (hxa : x ≠ a) (hxb : x ≠ b) (hxd : x ≠ d) (hab : a ≠ b) (had : a ≠ d) (hbd : b ≠ d)
    (h1 : nl c x = a) (h2 : nl s x = b) (h3 : nl c a = x) (h4 : nl s a = d) (h5 : nl c b = d) (h6 : nl s b = x) (h7 : nl c d = b) (h8 : nl s d = a)
    (n0 : bl se x = false) (n1 : bl se a = false) (n2 : bl se b = false) (n3 : bl se d = false) :
    bfs [c, s] (stX se x) 32 = ((((se.set x true).set a true).set b true).set d true, [x, a, b, d]) := by
  have v1 : visit (se.set x true, [x]) a = ((se.set x true).set a true, [x, a]) := visit_new (st := (se.set x true, [x])) (by simp [bl_set, n1, hxa.symm])
  have v2 : visit ((se.set x true).set a true, [x, a]) b = (((se.set x true).set a true).set b true, [x, a, b]) := visit_new (st := ((se.set x true).set a true, [x, a])) (by simp [bl_set, n2, hxb.symm, hab.symm])
  have v3 : visit (((se.set x true).set a true).set b true, [x, a, b]) x = (((se.set x true).set a true).set b true, [x, a, b]) := visit_old (by simp [bl_set, hl, hx])
  have v4 : visit (((se.set x true).set a true).set b true, [x, a, b]) d = ((((se.set x true).set a true).set b true).set d true, [x, a, b, d]) := visit_new (st := (((se.set x true).set a true).set b true, [x, a, b])) (by simp [bl_set, n3, hxd.symm, had.symm, hbd.symm])
  have w : ∀ y, y = x ∨ y = a ∨ y = b ∨ y = d → visit ((((se.set x true).set a true).set b true).set d true, [x, a, b, d]) y = ((((se.set x true).set a true).set b true).set d true, [x, a, b, d]) := by
    intro y hy
    refine visit_old ?_
    rcases hy with rfl | rfl | rfl | rfl <;> simp [bl_set, hl, hx, ha, hb, hd]
  have e0 : bfs [c, s] (stX se x) 0 = (se.set x true, [x]) := rfl
  have e1 : bfs [c, s] (stX se x) 1 = (((se.set x true).set a true).set b true, [x, a, b]) := by
    rw [bfs, e0, if_pos (by simp)]
    show visit (visit _ (nl c x)) (nl s x) = _
    rw [h1, h2, v1, v2]
  have e2 : bfs [c, s] (stX se x) 2 = ((((se.set x true).set a true).set b true).set d true, [x, a, b, d]) := by
    rw [bfs, e1, if_pos (by simp)]
    show visit (visit _ (nl c a)) (nl s a) = _
    rw [h3, h4, v3, v4]
  have e3 : bfs [c, s] (stX se x) 3 = ((((se.set x true).set a true).set b true).set d true, [x, a, b, d]) := by
    rw [bfs, e2, if_pos (by simp)]
    show visit (visit _ (nl c b)) (nl s b) = _
    rw [h5, h6, w d (by simp), w x (by simp)]
  have e4 : bfs [c, s] (stX se x) 4 = ((((se.set x true).set a true).set b true).set d true, [x, a, b, d]) := by
    rw [bfs, e3, if_pos (by simp)]
    show visit (visit _ (nl c d)) (nl s d) = _
    rw [h7, h8, w b (by simp), w a (by simp)]
  rw [bfs_stop (i := 4) (by rw [e4]; simp) 32 (by omega), e4]
theorem orb_four {c s : List Nat} {n : Nat} (hn : n ≤ 32) (hc : ∀ x, x < n → nl c x < n ∧ nl c x ≠ x ∧ nl c (nl c x) = x) (hs : ∀ x, x < n → nl s x < n ∧ nl s x ≠ x ∧ nl s (nl s x) = x)
    (hcs : ∀ x, x < n → nl s (nl c x) = nl c (nl s x) ∧ nl s (nl c x) ≠ x) : ∀ k, k ≤ n → Four c s n k (orbK [c, s] k)
  | 0, _ => by
    have h0 : ∀ i, bl (orbK [c, s] 0).1 i = false := fun i => bl_rep
    exact ⟨by simp [orbK], fun i h => (by rw [h0] at h; cases h), fun i h => (by rw [h0] at h; cases h), by simp [orbK], fun i h => by omega⟩
  | x + 1, hk => by
    have ih := orb_four hn hc hs hcs x (by omega)
    simp only [orbK]
    generalize orbK [c, s] x = so at ih ⊢
    split
    · rename_i hb
      refine ⟨ih.len, ih.lt, ih.cl, ih.cnt, fun i hi => ?_⟩
      rcases Nat.lt_or_ge i x with h | h
      · exact ih.upto i h
      · obtain rfl : i = x := by omega
        exact hb
    · rename_i hb
      have n0 : bl so.1 x = false := by simpa using hb
      obtain ⟨c1, c2, c3⟩ := hc x (by omega)
      obtain ⟨s1, s2, s3⟩ := hs x (by omega)
      obtain ⟨d1, d2, d3⟩ := hs (nl c x) c1
      obtain ⟨k1, k2⟩ := hcs x (by omega)
      obtain ⟨m1, m2, m3⟩ := hc (nl s x) s1
      have hnot : ∀ y, y < n → (nl c y = x ∨ nl s y = x ∨ nl s (nl c y) = x) → bl so.1 y = false := by
        intro y hy h
        cases hby : bl so.1 y with
        | false => rfl
        | true =>
          exfalso
          obtain ⟨q1, q2⟩ := ih.cl y hby
          rcases h with h | h | h
          · rw [h] at q1; rw [q1] at n0; cases n0
          · rw [h] at q2; rw [q2] at n0; cases n0
          · have := (ih.cl _ q1).2
            rw [h, n0] at this; cases this
      have n1 := hnot (nl c x) c1 (.inl c3)
      have n2 := hnot (nl s x) s1 (.inr (.inl s3))
      have e7 : nl c (nl s (nl c x)) = nl s x := by rw [k1, m3]
      have n3 := hnot (nl s (nl c x)) d1 (.inr (.inr (by rw [e7, s3])))
      have hab : nl c x ≠ nl s x := fun e => by rw [e] at k2; exact k2 s3
      have had : nl c x ≠ nl s (nl c x) := fun e => d2 e.symm
      have hbd : nl s x ≠ nl s (nl c x) := fun e => by
        have := congrArg (nl s) e
        rw [s3, d3] at this
        exact c2 this.symm
      rw [bfs_four (x := x) (a := nl c x) (b := nl s x) (d := nl s (nl c x)) ih.len (by omega) (by omega) (by omega) (by omega) c2.symm s2.symm (fun e => k2 e.symm) hab had hbd rfl rfl c3 rfl k1.symm s3 e7 d3 n0 n1 n2 n3]
      have hget : ∀ i, bl ((((so.1.set x true).set (nl c x) true).set (nl s x) true).set (nl s (nl c x)) true) i = true ↔ (bl so.1 i = true ∨ i = x ∨ i = nl c x ∨ i = nl s x ∨ i = nl s (nl c x)) := by
        intro i
        simp only [bl_set, List.length_set, ih.len]
        by_cases h1 : i = nl s (nl c x)
        · simp [h1, show nl s (nl c x) < 32 by omega]
        · by_cases h2 : i = nl s x
          · simp [h2, show nl s x < 32 by omega]
          · by_cases h3 : i = nl c x
            · simp [h3, show nl c x < 32 by omega]
            · by_cases h4 : i = x
              · simp [h4, show x < 32 by omega]
              · simp [h1, h2, h3, h4]
      refine ⟨by simp [ih.len], fun i hi => ?_, fun i hi => ?_, ?_, fun i hi => ?_⟩
      · rcases (hget i).1 hi with h | rfl | rfl | rfl | rfl
        · exact ih.lt i h
        · omega
        · exact c1
        · exact s1
        · exact d1
      · show bl _ (nl c i) = true ∧ bl _ (nl s i) = true
        rw [hget, hget]
        rcases (hget i).1 hi with h | rfl | rfl | rfl | rfl
        · exact ⟨.inl (ih.cl i h).1, .inl (ih.cl i h).2⟩
        · exact ⟨.inr (.inr (.inl rfl)), .inr (.inr (.inr (.inl rfl)))⟩
        · exact ⟨.inr (.inl c3), .inr (.inr (.inr (.inr rfl)))⟩
        · exact ⟨.inr (.inr (.inr (.inr k1.symm))), .inr (.inl s3)⟩
        · exact ⟨.inr (.inr (.inr (.inl e7))), .inr (.inr (.inl d3))⟩
      · show ((((so.1.set x true).set (nl c x) true).set (nl s x) true).set (nl s (nl c x)) true).count true = 4 * (so.2 ++ [_]).length
        rw [count_set_true (by simp [ih.len]; omega) (by simp [bl_set, n3, had.symm, hbd.symm, k2]), count_set_true (by simp [ih.len]; omega) (by simp [bl_set, n2, hab.symm, s2]), count_set_true (by simp [ih.len]; omega) (by simp [bl_set, n1, c2]), count_set_true (by simp [ih.len]; omega) n0, ih.cnt]
        simp
        omega
      · show bl _ i = true
        rw [hget]
        rcases Nat.lt_or_ge i x with h | h
        · exact .inl (ih.upto i h)
        · exact .inr (.inl (by omega))
theorem Fl.four {n : Nat} {c t s : List Nat} (h : Fl n c t s) : (orbK [c, s] n).2.length = n / 4 := by
  have hn := h.1
  have hp : ∀ p, Pairs p n → ∀ i, i < n → nl p i < n ∧ nl p i ≠ i ∧ nl p (nl p i) = i := fun p hp i hi => by
    have := (hp i (by omega)).2 (by omega)
    exact ⟨by omega, this.2⟩
  have h4 := orb_four (c := c) (s := s) (by omega) (hp c h.2.2.1) (hp s h.2.2.2.2.1) (fun x hx => h.2.2.2.2.2.1 x (by simpa using hx)) n (Nat.le_refl _)
  have := count_true (orbK [c, s] n).1 n 32 h4.len (by omega) fun i hi => by
    by_cases h' : i < n
    · rw [h4.upto i h']; simp [h']
    · cases hb : bl (orbK [c, s] n).1 i with
      | false => simp [h']
      | true => exact absurd (h4.lt i hb) h'
  have h5 := h4.cnt
  omega
def resEu (n : Int) (c t s : List Nat) : Int × Int :=
  if ¬ Fl n c t s then (0, 1) else (((orbK [t, s] n.toNat).2.length : Int) + ((orbK [t, c] n.toNat).2.length : Int) - ((n.toNat / 4 : Nat) : Int), 0)
theorem nn_II {k l : IntKind} {a b : Int} : NN (.tuple ⟨[.int k a, .int l b]⟩) := NN.tuple (NNL.cons NN.int (NNL.cons NN.int NNL.nil))
theorem spec_EulerOfFlags_spec {x : Bool} {n : Int} {c t s : List Nat} {H : BH} {K : Value → BH → Prop} (hcc : By 32 c) (ht : By 32 t) (hs : By 32 s)
    (hK : K (.tuple ⟨[I (resEu n c t s).1, I (resEu n c t s).2]⟩) H) : CallX x F_spec_EulerOfFlags [FV n c t s] H K := by
  have hlc := hcc.len
  have hlt := ht.len
  have hls := hs.len
  refine callP (by exact .cons nn_F .nil) ?_
  refine CallX_body Γ_spec_EulerOfFlags ?_
  simp only [A_spec_EulerOfFlags, T_aiff]
  refine T_rseq fun Kr hKr => ?_
  simp (disch := omega) only [RF, RO, RC, ↓reduceIte, Nat.reduceEqDiff, Nat.reduceBEq, Nat.reduceSub, Nat.reduceAdd, Nat.reduceMul, Nat.reduceLT, Nat.reduceLeDiff, Int.reduceLE, Int.reduceLT, Int.reduceEq, Int.reduceNeg, Int.reduceToNat, Int.reduceMul, Int.reduceAdd, Int.reduceSub, Int.reduceBEq, Int.reduceBNe, reduceCtorEq, RD, RFS]
  refine hKr _ _ ?_
  clear hKr Kr
  try simp only [RN, if_true, if_false, Bool.false_eq_true, if_pos, reduceIte]
  try first | refine T_exit ?_ | refine T_ret ?_ | refine T_skip ?_
  refine T_rseq fun Kr hKr => ?_
  simp (disch := omega) only [RF, RO, RC, ↓reduceIte, Nat.reduceEqDiff, Nat.reduceBEq, Nat.reduceSub, Nat.reduceAdd, Nat.reduceMul, Nat.reduceLT, Nat.reduceLeDiff, Int.reduceLE, Int.reduceLT, Int.reduceEq, Int.reduceNeg, Int.reduceToNat, Int.reduceMul, Int.reduceAdd, Int.reduceSub, Int.reduceBEq, Int.reduceBNe, reduceCtorEq, RD, RFS, RFD]
  refine l07Are_spec hcc ht hs ?_
  simp (disch := omega) only [RF, RO, RC, ↓reduceIte, Nat.reduceEqDiff, Nat.reduceBEq, Nat.reduceSub, Nat.reduceAdd, Nat.reduceMul, Nat.reduceLT, Nat.reduceLeDiff, Int.reduceLE, Int.reduceLT, Int.reduceEq, Int.reduceNeg, Int.reduceToNat, Int.reduceMul, Int.reduceAdd, Int.reduceSub, Int.reduceBEq, Int.reduceBNe, reduceCtorEq, RD]
  refine hKr _ _ ?_
  clear hKr Kr
  try simp only [blkQ, thenQ, loopQ]
  try simp only [RN, if_true, if_false, Bool.false_eq_true, if_pos, reduceIte]
  try first | refine T_exit ?_ | refine T_ret ?_ | refine T_skip ?_
  refine T_csplit (p := ¬ Fl n c t s) (by simp only [RF, RO, RC, ↓reduceIte, Nat.reduceEqDiff, Nat.reduceBEq, Nat.reduceSub, Nat.reduceAdd, Nat.reduceMul, Nat.reduceLT, Nat.reduceLeDiff, Int.reduceLE, Int.reduceLT, Int.reduceEq, Int.reduceNeg, Int.reduceToNat, Int.reduceMul, Int.reduceAdd, Int.reduceSub, Int.reduceBEq, Int.reduceBNe, reduceCtorEq] <;> rfl) (by (try simp only [decide_eq_true_eq, Bool.or_eq_true, Bool.and_eq_true, Bool.not_eq_true', decide_eq_false_iff_not, Bool.not_eq_eq_eq_not, Bool.not_true, Bool.not_false, beq_iff_eq, Bool.false_eq_true]) <;> (first | done | exact Iff.rfl | omega | simp)) (fun hc => ?_) (fun hc => ?_) <;> (try simp only [RN, if_true, if_false, Bool.false_eq_true, if_pos, reduceIte]) <;> (try first | refine T_exit ?_ | refine T_ret ?_ | refine T_skip ?_)
  · refine T_rseq fun Kr hKr => ?_
    simp (disch := omega) only [RF, RO, RC, ↓reduceIte, Nat.reduceEqDiff, Nat.reduceBEq, Nat.reduceSub, Nat.reduceAdd, Nat.reduceMul, Nat.reduceLT, Nat.reduceLeDiff, Int.reduceLE, Int.reduceLT, Int.reduceEq, Int.reduceNeg, Int.reduceToNat, Int.reduceMul, Int.reduceAdd, Int.reduceSub, Int.reduceBEq, Int.reduceBNe, reduceCtorEq, RD]
    refine hKr _ _ ?_
    clear hKr Kr
    try simp only [RN, if_true, if_false, Bool.false_eq_true, if_pos, reduceIte]
    try first | refine T_exit ?_ | refine T_ret ?_ | refine T_skip ?_
    refine bodyQ_ret (by simp (disch := omega) only [RF, RO, RC, ↓reduceIte, Nat.reduceEqDiff, Nat.reduceBEq, Nat.reduceSub, Nat.reduceAdd, Nat.reduceMul, Nat.reduceLT, Nat.reduceLeDiff, Int.reduceLE, Int.reduceLT, Int.reduceEq, Int.reduceNeg, Int.reduceToNat, Int.reduceMul, Int.reduceAdd, Int.reduceSub, Int.reduceBEq, Int.reduceBNe, reduceCtorEq, RD, resAll, resOf]; rfl) GhV.refl ?_
    simp only [tup]
    rw [resEu, if_pos hc] at hK
    exact ⟨nn_II, hK⟩
  have hd := Decidable.not_not.1 hc
  rw [resEu, if_neg (by simpa using hd)] at hK
  clear hc
  have hn := hd.1
  obtain ⟨m, rfl⟩ : ∃ m : Nat, n = m := ⟨n.toNat, by omega⟩
  simp only [Int.toNat_natCast] at hK
  have hc32 := hd.2.2.1.lt hn.2 hcc (by omega)
  have ht32 := hd.2.2.2.1.lt hn.2 ht (by omega)
  have hs32 := hd.2.2.2.2.1.lt hn.2 hs (by omega)
  have a1 : ∀ p ∈ [t, s], ∀ i, nl p i < 32 := by simp; exact ⟨ht32, hs32⟩
  have a2 : ∀ p ∈ [t, c], ∀ i, nl p i < 32 := by simp; exact ⟨ht32, hc32⟩
  have l1 := degL_len (orbK_sz a1 (show m ≤ 32 by omega))
  have l2 := degL_len (orbK_sz a2 (show m ≤ 32 by omega))
  have z1 := (orbK_ok a1 (show m ≤ 32 by omega)).2
  have z2 := (orbK_ok a2 (show m ≤ 32 by omega)).2
  have hd4 : (m : Int).tdiv 4 = ((m / 4 : Nat) : Int) := (Int.ofNat_tdiv m 4).symm
  refine T_rseq fun Kr hKr => ?_
  simp (disch := omega) only [RF, RO, RC, ↓reduceIte, Nat.reduceEqDiff, Nat.reduceBEq, Nat.reduceSub, Nat.reduceAdd, Nat.reduceMul, Nat.reduceLT, Nat.reduceLeDiff, Int.reduceLE, Int.reduceLT, Int.reduceEq, Int.reduceNeg, Int.reduceToNat, Int.reduceMul, Int.reduceAdd, Int.reduceSub, Int.reduceBEq, Int.reduceBNe, reduceCtorEq, RD, RFS, RFD]
  refine l07Degrees_spec (by omega) hcc ht hs hs ht32 hs32 ?_
  simp (disch := omega) only [RF, RO, RC, ↓reduceIte, Nat.reduceEqDiff, Nat.reduceBEq, Nat.reduceSub, Nat.reduceAdd, Nat.reduceMul, Nat.reduceLT, Nat.reduceLeDiff, Int.reduceLE, Int.reduceLT, Int.reduceEq, Int.reduceNeg, Int.reduceToNat, Int.reduceMul, Int.reduceAdd, Int.reduceSub, Int.reduceBEq, Int.reduceBNe, reduceCtorEq, RD, RFS, RFD]
  refine l07Degrees_spec (by omega) hcc ht hs hcc ht32 hc32 ?_
  rw [l1, l2]
  simp (disch := omega) only [RF, RO, RC, ↓reduceIte, Nat.reduceEqDiff, Nat.reduceBEq, Nat.reduceSub, Nat.reduceAdd, Nat.reduceMul, Nat.reduceLT, Nat.reduceLeDiff, Int.reduceLE, Int.reduceLT, Int.reduceEq, Int.reduceNeg, Int.reduceToNat, Int.reduceMul, Int.reduceAdd, Int.reduceSub, Int.reduceBEq, Int.reduceBNe, reduceCtorEq, RD, RFS, RFD, hd4]
  refine hKr _ _ ?_
  clear hKr Kr
  try simp only [blkQ, thenQ, loopQ]
  try simp only [RN, if_true, if_false, Bool.false_eq_true, if_pos, reduceIte]
  try first | refine T_exit ?_ | refine T_ret ?_ | refine T_skip ?_
  refine bodyQ_ret (by simp (disch := omega) only [RF, RO, RC, ↓reduceIte, Nat.reduceEqDiff, Nat.reduceBEq, Nat.reduceSub, Nat.reduceAdd, Nat.reduceMul, Nat.reduceLT, Nat.reduceLeDiff, Int.reduceLE, Int.reduceLT, Int.reduceEq, Int.reduceNeg, Int.reduceToNat, Int.reduceMul, Int.reduceAdd, Int.reduceSub, Int.reduceBEq, Int.reduceBNe, reduceCtorEq, RD, resAll, resOf]; rfl) GhV.refl ?_
  simp only [tup]
  exact ⟨nn_II, hK⟩
theorem impl_EulerOfFlags_spec {x : Bool} {n : Int} {c t s : List Nat} {H : BH} {K : Value → BH → Prop} (hcc : By 32 c) (ht : By 32 t) (hs : By 32 s)
    (hK : K (.tuple ⟨[I (resEu n c t s).1, I (resEu n c t s).2]⟩) H) : CallX x F_impl_EulerOfFlags [FV n c t s] H K := by
  have hlc := hcc.len
  have hlt := ht.len
  have hls := hs.len
  refine callP (by exact .cons nn_F .nil) ?_
  refine CallX_body Γ_impl_EulerOfFlags ?_
  simp only [A_impl_EulerOfFlags, T_aiff]
  refine T_rseq fun Kr hKr => ?_
  simp (disch := omega) only [RF, RO, RC, ↓reduceIte, Nat.reduceEqDiff, Nat.reduceBEq, Nat.reduceSub, Nat.reduceAdd, Nat.reduceMul, Nat.reduceLT, Nat.reduceLeDiff, Int.reduceLE, Int.reduceLT, Int.reduceEq, Int.reduceNeg, Int.reduceToNat, Int.reduceMul, Int.reduceAdd, Int.reduceSub, Int.reduceBEq, Int.reduceBNe, reduceCtorEq, RD, RFS]
  refine hKr _ _ ?_
  clear hKr Kr
  try simp only [RN, if_true, if_false, Bool.false_eq_true, if_pos, reduceIte]
  try first | refine T_exit ?_ | refine T_ret ?_ | refine T_skip ?_
  refine T_rseq fun Kr hKr => ?_
  simp (disch := omega) only [RF, RO, RC, ↓reduceIte, Nat.reduceEqDiff, Nat.reduceBEq, Nat.reduceSub, Nat.reduceAdd, Nat.reduceMul, Nat.reduceLT, Nat.reduceLeDiff, Int.reduceLE, Int.reduceLT, Int.reduceEq, Int.reduceNeg, Int.reduceToNat, Int.reduceMul, Int.reduceAdd, Int.reduceSub, Int.reduceBEq, Int.reduceBNe, reduceCtorEq, RD, RFS, RFD]
  refine impl_AreFlags_spec hcc ht hs ?_
  simp (disch := omega) only [RF, RO, RC, ↓reduceIte, Nat.reduceEqDiff, Nat.reduceBEq, Nat.reduceSub, Nat.reduceAdd, Nat.reduceMul, Nat.reduceLT, Nat.reduceLeDiff, Int.reduceLE, Int.reduceLT, Int.reduceEq, Int.reduceNeg, Int.reduceToNat, Int.reduceMul, Int.reduceAdd, Int.reduceSub, Int.reduceBEq, Int.reduceBNe, reduceCtorEq, RD]
  refine hKr _ _ ?_
  clear hKr Kr
  try simp only [blkQ, thenQ, loopQ]
  try simp only [RN, if_true, if_false, Bool.false_eq_true, if_pos, reduceIte]
  try first | refine T_exit ?_ | refine T_ret ?_ | refine T_skip ?_
  refine T_csplit (p := ¬ Fl n c t s) (by simp only [RF, RO, RC, ↓reduceIte, Nat.reduceEqDiff, Nat.reduceBEq, Nat.reduceSub, Nat.reduceAdd, Nat.reduceMul, Nat.reduceLT, Nat.reduceLeDiff, Int.reduceLE, Int.reduceLT, Int.reduceEq, Int.reduceNeg, Int.reduceToNat, Int.reduceMul, Int.reduceAdd, Int.reduceSub, Int.reduceBEq, Int.reduceBNe, reduceCtorEq] <;> rfl) (by (try simp only [decide_eq_true_eq, Bool.or_eq_true, Bool.and_eq_true, Bool.not_eq_true', decide_eq_false_iff_not, Bool.not_eq_eq_eq_not, Bool.not_true, Bool.not_false, beq_iff_eq, Bool.false_eq_true]) <;> (first | done | exact Iff.rfl | omega | simp)) (fun hc => ?_) (fun hc => ?_) <;> (try simp only [RN, if_true, if_false, Bool.false_eq_true, if_pos, reduceIte]) <;> (try first | refine T_exit ?_ | refine T_ret ?_ | refine T_skip ?_)
  · refine T_rseq fun Kr hKr => ?_
    simp (disch := omega) only [RF, RO, RC, ↓reduceIte, Nat.reduceEqDiff, Nat.reduceBEq, Nat.reduceSub, Nat.reduceAdd, Nat.reduceMul, Nat.reduceLT, Nat.reduceLeDiff, Int.reduceLE, Int.reduceLT, Int.reduceEq, Int.reduceNeg, Int.reduceToNat, Int.reduceMul, Int.reduceAdd, Int.reduceSub, Int.reduceBEq, Int.reduceBNe, reduceCtorEq, RD]
    refine hKr _ _ ?_
    clear hKr Kr
    try simp only [RN, if_true, if_false, Bool.false_eq_true, if_pos, reduceIte]
    try first | refine T_exit ?_ | refine T_ret ?_ | refine T_skip ?_
    refine bodyQ_ret (by simp (disch := omega) only [RF, RO, RC, ↓reduceIte, Nat.reduceEqDiff, Nat.reduceBEq, Nat.reduceSub, Nat.reduceAdd, Nat.reduceMul, Nat.reduceLT, Nat.reduceLeDiff, Int.reduceLE, Int.reduceLT, Int.reduceEq, Int.reduceNeg, Int.reduceToNat, Int.reduceMul, Int.reduceAdd, Int.reduceSub, Int.reduceBEq, Int.reduceBNe, reduceCtorEq, RD, resAll, resOf]; rfl) GhV.refl ?_
    simp only [tup]
    rw [resEu, if_pos hc] at hK
    exact ⟨nn_II, hK⟩
  have hd := Decidable.not_not.1 hc
  rw [resEu, if_neg (by simpa using hd)] at hK
  clear hc
  have hn := hd.1
  obtain ⟨m, rfl⟩ : ∃ m : Nat, n = m := ⟨n.toNat, by omega⟩
  simp only [Int.toNat_natCast] at hK
  have hc32 := hd.2.2.1.lt hn.2 hcc (by omega)
  have ht32 := hd.2.2.2.1.lt hn.2 ht (by omega)
  have hs32 := hd.2.2.2.2.1.lt hn.2 hs (by omega)
  have a1 : ∀ p ∈ [t, s], ∀ i, nl p i < 32 := by simp; exact ⟨ht32, hs32⟩
  have a2 : ∀ p ∈ [c, s], ∀ i, nl p i < 32 := by simp; exact ⟨hc32, hs32⟩
  have a3 : ∀ p ∈ [t, c], ∀ i, nl p i < 32 := by simp; exact ⟨ht32, hc32⟩
  have z1 := (orbK_ok a1 (show m ≤ 32 by omega)).2
  have z3 := (orbK_ok a3 (show m ≤ 32 by omega)).2
  have hf := hd.four
  refine T_rseq fun Kr hKr => ?_
  simp (disch := omega) only [RF, RO, RC, ↓reduceIte, Nat.reduceEqDiff, Nat.reduceBEq, Nat.reduceSub, Nat.reduceAdd, Nat.reduceMul, Nat.reduceLT, Nat.reduceLeDiff, Int.reduceLE, Int.reduceLT, Int.reduceEq, Int.reduceNeg, Int.reduceToNat, Int.reduceMul, Int.reduceAdd, Int.reduceSub, Int.reduceBEq, Int.reduceBNe, reduceCtorEq, RD, RFS, RFD, fill2P32]
  have h64 : 2 * 32 = ([t, s].flatten.map N8).length := by simp [hlt, hls]
  refine callFz 1 rfl (by repeat' first | exact NNL.nil | exact NN.int | exact NN.bool | exact NN.fz | exact NN.nil | exact NN.string | exact NN.undef | (refine NNL.cons ?_ ?_) | (refine NN.tuple ?_) | (refine NN.agg ?_) | (refine NN.func ?_) | (refine NNL.append ?_ ?_) | exact NNL.map (fun _ => NN.int) | exact NNL.map (fun _ => NN.bool) | exact NNL.map (fun _ => NN.fz) | exact NNL.map (fun _ => NN.string) | exact NNL.replicate NN.int | exact NNL.replicate NN.bool | assumption) ?_
  simp only [RZ, frz_all h64]
  refine orbits_spec (ls := [t, s]) (by omega) (by simp) (by simp [hlt, hls]) a1 ?_
  simp (disch := omega) only [RF, RO, RC, ↓reduceIte, Nat.reduceEqDiff, Nat.reduceBEq, Nat.reduceSub, Nat.reduceAdd, Nat.reduceMul, Nat.reduceLT, Nat.reduceLeDiff, Int.reduceLE, Int.reduceLT, Int.reduceEq, Int.reduceNeg, Int.reduceToNat, Int.reduceMul, Int.reduceAdd, Int.reduceSub, Int.reduceBEq, Int.reduceBNe, reduceCtorEq, RD, RFS, RFD, fill2P32]
  have h64' : 2 * 32 = ([c, s].flatten.map N8).length := by simp [hlc, hls]
  refine callFz 2 rfl (by repeat' first | exact NNL.nil | exact NN.int | exact NN.bool | exact NN.fz | exact NN.nil | exact NN.string | exact NN.undef | (refine NNL.cons ?_ ?_) | (refine NN.tuple ?_) | (refine NN.agg ?_) | (refine NN.func ?_) | (refine NNL.append ?_ ?_) | exact NNL.map (fun _ => NN.int) | exact NNL.map (fun _ => NN.bool) | exact NNL.map (fun _ => NN.fz) | exact NNL.map (fun _ => NN.string) | exact NNL.replicate NN.int | exact NNL.replicate NN.bool | assumption) ?_
  simp only [RZ, frz_all h64']
  refine orbits_spec (ls := [c, s]) (by omega) (by simp) (by simp [hlc, hls]) a2 ?_
  simp (disch := omega) only [RF, RO, RC, ↓reduceIte, Nat.reduceEqDiff, Nat.reduceBEq, Nat.reduceSub, Nat.reduceAdd, Nat.reduceMul, Nat.reduceLT, Nat.reduceLeDiff, Int.reduceLE, Int.reduceLT, Int.reduceEq, Int.reduceNeg, Int.reduceToNat, Int.reduceMul, Int.reduceAdd, Int.reduceSub, Int.reduceBEq, Int.reduceBNe, reduceCtorEq, RD, RFS, RFD, fill2P32]
  have h64'' : 2 * 32 = ([t, c].flatten.map N8).length := by simp [hlt, hlc]
  refine callFz 3 rfl (by repeat' first | exact NNL.nil | exact NN.int | exact NN.bool | exact NN.fz | exact NN.nil | exact NN.string | exact NN.undef | (refine NNL.cons ?_ ?_) | (refine NN.tuple ?_) | (refine NN.agg ?_) | (refine NN.func ?_) | (refine NNL.append ?_ ?_) | exact NNL.map (fun _ => NN.int) | exact NNL.map (fun _ => NN.bool) | exact NNL.map (fun _ => NN.fz) | exact NNL.map (fun _ => NN.string) | exact NNL.replicate NN.int | exact NNL.replicate NN.bool | assumption) ?_
  simp only [RZ, frz_all h64'']
  refine orbits_spec (ls := [t, c]) (by omega) (by simp) (by simp [hlt, hlc]) a3 ?_
  rw [hf]
  simp (disch := omega) only [RF, RO, RC, ↓reduceIte, Nat.reduceEqDiff, Nat.reduceBEq, Nat.reduceSub, Nat.reduceAdd, Nat.reduceMul, Nat.reduceLT, Nat.reduceLeDiff, Int.reduceLE, Int.reduceLT, Int.reduceEq, Int.reduceNeg, Int.reduceToNat, Int.reduceMul, Int.reduceAdd, Int.reduceSub, Int.reduceBEq, Int.reduceBNe, reduceCtorEq, RD]
  refine hKr _ _ ?_
  clear hKr Kr
  try simp only [blkQ, thenQ, loopQ]
  try simp only [RN, if_true, if_false, Bool.false_eq_true, if_pos, reduceIte]
  try first | refine T_exit ?_ | refine T_ret ?_ | refine T_skip ?_
  refine T_rseq fun Kr hKr => ?_
  simp (disch := omega) only [RF, RO, RC, ↓reduceIte, Nat.reduceEqDiff, Nat.reduceBEq, Nat.reduceSub, Nat.reduceAdd, Nat.reduceMul, Nat.reduceLT, Nat.reduceLeDiff, Int.reduceLE, Int.reduceLT, Int.reduceEq, Int.reduceNeg, Int.reduceToNat, Int.reduceMul, Int.reduceAdd, Int.reduceSub, Int.reduceBEq, Int.reduceBNe, reduceCtorEq, RD]
  refine hKr _ _ ?_
  clear hKr Kr
  try simp only [RN, if_true, if_false, Bool.false_eq_true, if_pos, reduceIte]
  try first | refine T_exit ?_ | refine T_ret ?_ | refine T_skip ?_
  refine bodyQ_ret (by simp (disch := omega) only [RF, RO, RC, ↓reduceIte, Nat.reduceEqDiff, Nat.reduceBEq, Nat.reduceSub, Nat.reduceAdd, Nat.reduceMul, Nat.reduceLT, Nat.reduceLeDiff, Int.reduceLE, Int.reduceLT, Int.reduceEq, Int.reduceNeg, Int.reduceToNat, Int.reduceMul, Int.reduceAdd, Int.reduceSub, Int.reduceBEq, Int.reduceBNe, reduceCtorEq, RD, resAll, resOf]; rfl) GhV.refl ?_
  simp only [tup]
  refine ⟨nn_II, ?_⟩
  rw [show ((orbK [t, s] m).2.length : Int) + ((orbK [t, c] m).2.length : Int) - ((m / 4 : Nat) : Int) = ((orbK [t, s] m).2.length : Int) - ((m / 4 : Nat) : Int) + ((orbK [t, c] m).2.length : Int) by omega] at hK
  exact hK
end Go.Bm
