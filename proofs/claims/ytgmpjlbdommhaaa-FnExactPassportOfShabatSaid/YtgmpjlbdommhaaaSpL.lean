/- Rows of slices: the laws' helpers over slices of slices. -/
import Derived.Test.YtgmpjlbdommhaaaSpH
set_option linter.unusedVariables false
set_option linter.unusedSimpArgs false
namespace Go.Am
open Go

def rowAt (xss : List (List Int)) (i : Nat) : List Int := xss.getD i []
def valAt (vs : List Value) (i : Nat) : Value := vs.getD i undef
theorem getAt {vs rest : List Value} {i : Nat} (h : i < vs.length) : (vs ++ rest)[i]? = some (valAt vs i) := by
  simp [List.getElem?_append_left, h, valAt, List.getD]
theorem row_ext {xss yss : List (List Int)} (hl : xss.length = yss.length) (h : ∀ i, i < xss.length → rowAt xss i = rowAt yss i) : xss = yss := by
  apply List.ext_getElem hl
  intro i h1 h2
  have := h i h1
  simpa [rowAt, List.getD, h1, h2] using this
/-- A slice of slices of one's own, of the blocks lo to hi: the rows lie in order between r 0, r 1, .., the list of them before or behind. -/
def OwnSS (lo hi : Nat) (H : AHeap) (v : Value) (xss : List (List Int)) : Prop :=
  (v = .slice none 0 0 ∧ xss = []) ∨ ∃ (b : Nat) (vs rest : List Value) (r : Nat → Nat), v = S b 0 xss.length 1 ∧ lo ≤ b ∧ b < hi ∧ b < H.n ∧ H.get b = some ⟨vs ++ rest, true⟩ ∧ vs.length = xss.length ∧ (b < r 0 ∨ r xss.length ≤ b) ∧ lo ≤ r 0 ∧ r xss.length ≤ hi ∧
    ∀ i, i < xss.length → r i ≤ r (i + 1) ∧ OwnI (r i) (r (i + 1)) H (valAt vs i) (rowAt xss i)
theorem mono_r {r : Nat → Nat} {n : Nat} (h : ∀ i, i < n → r i ≤ r (i + 1)) : ∀ j i, i ≤ j → j ≤ n → r i ≤ r j
  | 0, i, hi, _ => by have : i = 0 := by omega
                      subst this; exact Nat.le_refl _
  | j + 1, i, hi, hj => by
    by_cases e : i = j + 1
    · subst e; exact Nat.le_refl _
    · exact Nat.le_trans (mono_r h j i (by omega) (by omega)) (h j (by omega))
section
variable {lo hi : Nat} {H H' : AHeap} {v : Value} {xss : List (List Int)}
theorem OwnSS.len (h : OwnSS lo hi H v xss) : ∃ a e, v = .slice a xss.length e := by
  rcases h with ⟨rfl, rfl⟩ | ⟨b, vs, rest, r, rfl, _⟩
  · exact ⟨_, _, rfl⟩
  · exact ⟨_, _, rfl⟩
theorem OwnSS.nil : OwnSS lo hi H (.slice none 0 0) [] := .inl ⟨rfl, rfl⟩
theorem OwnSS.pos (h : OwnSS lo hi H v xss) (hp : 0 < xss.length) : ∃ (b : Nat) (vs rest : List Value) (r : Nat → Nat), v = S b 0 xss.length 1 ∧ lo ≤ b ∧ b < hi ∧ b < H.n ∧ H.get b = some ⟨vs ++ rest, true⟩ ∧ vs.length = xss.length ∧ (b < r 0 ∨ r xss.length ≤ b) ∧ lo ≤ r 0 ∧ r xss.length ≤ hi ∧
    ∀ i, i < xss.length → r i ≤ r (i + 1) ∧ OwnI (r i) (r (i + 1)) H (valAt vs i) (rowAt xss i) := by
  rcases h with ⟨rfl, rfl⟩ | h
  · simp at hp
  · exact h
theorem OwnSS.ext (h : OwnSS lo hi H v xss) (he : Ext H H') : OwnSS lo hi H' v xss := by
  rcases h with h | ⟨b, vs, rest, r, h1, h2, h3, h4, h5, h6, h7, h8, h9, h10⟩
  · exact .inl h
  · exact .inr ⟨b, vs, rest, r, h1, h2, h3, Nat.lt_of_lt_of_le h4 he.n, by rw [he.get b h4]; exact h5, h6, h7, h8, h9, fun i hi => ⟨(h10 i hi).1, (h10 i hi).2.ext he⟩⟩
theorem OwnSS.weak (h : OwnSS lo hi H v xss) {lo' hi' : Nat} (hn : lo' ≤ lo) (hh : hi ≤ hi') : OwnSS lo' hi' H v xss := by
  rcases h with h | ⟨b, vs, rest, r, h1, h2, h3, h4, h5, h6, h7, h8, h9, h10⟩
  · exact .inl h
  · exact .inr ⟨b, vs, rest, r, h1, Nat.le_trans hn h2, Nat.lt_of_lt_of_le h3 hh, h4, h5, h6, h7, Nat.le_trans hn h8, Nat.le_trans h9 hh, h10⟩
theorem OwnSS.out {lo' hi' : Nat} (h : OwnSS lo hi H v xss) (he : Out lo' hi' H H') (hd : hi ≤ lo' ∨ hi' ≤ lo) : OwnSS lo hi H' v xss := by
  rcases h with h | ⟨b, vs, rest, r, h1, h2, h3, h4, h5, h6, h7, h8, h9, h10⟩
  · exact .inl h
  · refine .inr ⟨b, vs, rest, r, h1, h2, h3, Nat.lt_of_lt_of_le h4 he.n, by rw [he.get b h4 (by omega)]; exact h5, h6, h7, h8, h9, fun i hi => ⟨(h10 i hi).1, (h10 i hi).2.out he ?_⟩⟩
    have m1 := mono_r (fun i hi => (h10 i hi).1) i 0 (by omega) (by omega)
    have m2 := mono_r (fun i hi => (h10 i hi).1) xss.length (i + 1) (by omega) (Nat.le_refl _)
    omega
end

theorem eqInt64SS_spec {lo hi lo' hi' : Nat} {H : AHeap} {v u : Value} {xss yss : List (List Int)} {K : Value → AHeap → Prop} (hx : OwnSS lo hi H v xss) (hy : OwnSS lo' hi' H u yss) (hl : xss.length < 1000000) (hr : ∀ i, i < xss.length → (rowAt xss i).length < 2 ^ 62) (hK : K (.bool (decide (xss = yss))) H) : CallT F_laws_eqInt64SS [v, u] H K := by
  obtain ⟨a, e, rfl⟩ := hx.len
  obtain ⟨a', e', rfl⟩ := hy.len
  refine CallT_body Γ_laws_eqInt64SS ?_
  simp only [A_laws_eqInt64SS, T_aiff]
  refine T_rseq fun Kr hKr => ?_
  simp (disch := omega) only [RF, RO, RC, bodyQ, resAll, resOf, tup, ↓reduceIte, Nat.reduceEqDiff, Nat.reduceSub, Nat.reduceAdd, Nat.reduceMul, Nat.reduceLT, Nat.reduceLeDiff, Int.reduceLE, Int.reduceLT, Int.reduceEq, Int.reduceNeg, Int.reduceToNat, Int.reduceMul, Int.reduceAdd, Int.reduceSub, Int.reduceBEq, Int.reduceBNe, reduceCtorEq, RD]
  refine hKr _ _ ?_
  clear hKr Kr
  try simp only [RN, if_true, if_false, Bool.false_eq_true, if_pos, reduceIte]
  refine T_rseq fun Kr hKr => ?_
  simp (disch := omega) only [RF, RO, RC, bodyQ, resAll, resOf, tup, ↓reduceIte, Nat.reduceEqDiff, Nat.reduceSub, Nat.reduceAdd, Nat.reduceMul, Nat.reduceLT, Nat.reduceLeDiff, Int.reduceLE, Int.reduceLT, Int.reduceEq, Int.reduceNeg, Int.reduceToNat, Int.reduceMul, Int.reduceAdd, Int.reduceSub, Int.reduceBEq, Int.reduceBNe, reduceCtorEq, RD]
  refine hKr _ _ ?_
  clear hKr Kr
  try simp only [RN, if_true, if_false, Bool.false_eq_true, if_pos, reduceIte]
  by_cases hne : xss.length = yss.length
  · refine T_cseq (t := false) (by simp (disch := omega) only [RF, RO, RC, bodyQ, resAll, resOf, tup, ↓reduceIte, Nat.reduceEqDiff, Nat.reduceSub, Nat.reduceAdd, Nat.reduceMul, Nat.reduceLT, Nat.reduceLeDiff, Int.reduceLE, Int.reduceLT, Int.reduceEq, Int.reduceNeg, Int.reduceToNat, Int.reduceMul, Int.reduceAdd, Int.reduceSub, Int.reduceBEq, Int.reduceBNe, reduceCtorEq, decT, decF, hne]) ?_
    try simp only [RN, if_true, if_false, Bool.false_eq_true, if_pos, reduceIte]
    refine T_rseq fun Kr hKr => ?_
    simp (disch := omega) only [RF, RO, RC, bodyQ, resAll, resOf, tup, ↓reduceIte, Nat.reduceEqDiff, Nat.reduceSub, Nat.reduceAdd, Nat.reduceMul, Nat.reduceLT, Nat.reduceLeDiff, Int.reduceLE, Int.reduceLT, Int.reduceEq, Int.reduceNeg, Int.reduceToNat, Int.reduceMul, Int.reduceAdd, Int.reduceSub, Int.reduceBEq, Int.reduceBNe, reduceCtorEq, RD]
    refine hKr _ _ ?_
    clear hKr Kr
    try simp only [RN, if_true, if_false, Bool.false_eq_true, if_pos, reduceIte]
    refine T_wloop (fun n f H' => ∃ k, k ≤ xss.length ∧ n = xss.length - k ∧ H' = H ∧ f 0 = .slice a xss.length e ∧ f 1 = .slice a' yss.length e' ∧ f 5 = I k ∧ (∀ i, i < k → rowAt xss i = rowAt yss i)) (xss.length) ?_ ?_
    · exact ⟨0, by omega, by omega, rfl, by simp [RF], by simp [RF], by simp [RF], by simp⟩
    · rintro n f H' R ⟨k, hk, rfl, rfl, h0, h1, h5, hkk⟩ hN hX hR
      simp only [A_laws_eqInt64SS.l0, T_aiff]
      refine T_rseq fun Kr hKr => ?_
      simp (disch := omega) only [RF, RO, RC, bodyQ, resAll, resOf, tup, ↓reduceIte, Nat.reduceEqDiff, Nat.reduceSub, Nat.reduceAdd, Nat.reduceMul, Nat.reduceLT, Nat.reduceLeDiff, Int.reduceLE, Int.reduceLT, Int.reduceEq, Int.reduceNeg, Int.reduceToNat, Int.reduceMul, Int.reduceAdd, Int.reduceSub, Int.reduceBEq, Int.reduceBNe, reduceCtorEq, RD, h0, h5]
      refine hKr _ _ ?_
      clear hKr Kr
      try simp only [RN, if_true, if_false, Bool.false_eq_true, if_pos, reduceIte]
      by_cases hlt : k < xss.length
      · refine T_cseq (t := true) (by simp (disch := omega) only [RF, RO, RC, bodyQ, resAll, resOf, tup, ↓reduceIte, Nat.reduceEqDiff, Nat.reduceSub, Nat.reduceAdd, Nat.reduceMul, Nat.reduceLT, Nat.reduceLeDiff, Int.reduceLE, Int.reduceLT, Int.reduceEq, Int.reduceNeg, Int.reduceToNat, Int.reduceMul, Int.reduceAdd, Int.reduceSub, Int.reduceBEq, Int.reduceBNe, reduceCtorEq, decT, decF, hlt]) ?_
        try simp only [RN, if_true, if_false, Bool.false_eq_true, if_pos, reduceIte]
        first | refine T_bfree rfl ?_ | refine T_bfree' rfl ?_
        try simp only [RN, if_true, if_false, Bool.false_eq_true, if_pos, reduceIte]
        obtain ⟨b, vs, rest, r, heq, _, _, _, hg, hvl, _, _, _, hrow⟩ := hx.pos (by omega)
        cases heq
        obtain ⟨b', vs', rest', r', heq, _, _, _, hg', hvl', _, _, _, hrow'⟩ := hy.pos (by omega)
        cases heq
        have hlt' : k < yss.length := by omega
        have hg1 : (vs ++ rest)[k]? = some (valAt vs k) := getAt (by omega)
        have hg2 : (vs' ++ rest')[k]? = some (valAt vs' k) := getAt (by omega)
        refine T_rseq fun Kr hKr => ?_
        simp (disch := omega) only [RF, RO, RC, bodyQ, resAll, resOf, tup, ↓reduceIte, Nat.reduceEqDiff, Nat.reduceSub, Nat.reduceAdd, Nat.reduceMul, Nat.reduceLT, Nat.reduceLeDiff, Int.reduceLE, Int.reduceLT, Int.reduceEq, Int.reduceNeg, Int.reduceToNat, Int.reduceMul, Int.reduceAdd, Int.reduceSub, Int.reduceBEq, Int.reduceBNe, reduceCtorEq, RD, h0, h1, h5, hlt, hlt', hg, hg', hg1, hg2]
        refine eqInt64S_spec (hrow k hlt).2.is (hrow' k hlt').2.is (hr k hlt) ?_
        by_cases hq : rowAt xss k = rowAt yss k
        · rw [decide_eq_true hq]
          simp (disch := omega) only [RF, RO, RC, bodyQ, resAll, resOf, tup, ↓reduceIte, Nat.reduceEqDiff, Nat.reduceSub, Nat.reduceAdd, Nat.reduceMul, Nat.reduceLT, Nat.reduceLeDiff, Int.reduceLE, Int.reduceLT, Int.reduceEq, Int.reduceNeg, Int.reduceToNat, Int.reduceMul, Int.reduceAdd, Int.reduceSub, Int.reduceBEq, Int.reduceBNe, reduceCtorEq, RD, Ext.refl']
          refine hKr _ _ ?_
          clear hKr Kr
          try simp only [blkQ, thenQ, loopQ]
          try simp only [RN, if_true, if_false, Bool.false_eq_true, if_pos, reduceIte]
          refine T_cseq (t := false) (by simp (disch := omega) only [RF, RO, RC, bodyQ, resAll, resOf, tup, ↓reduceIte, Nat.reduceEqDiff, Nat.reduceSub, Nat.reduceAdd, Nat.reduceMul, Nat.reduceLT, Nat.reduceLeDiff, Int.reduceLE, Int.reduceLT, Int.reduceEq, Int.reduceNeg, Int.reduceToNat, Int.reduceMul, Int.reduceAdd, Int.reduceSub, Int.reduceBEq, Int.reduceBNe, reduceCtorEq, decT, decF]) ?_
          try simp only [RN, if_true, if_false, Bool.false_eq_true, if_pos, reduceIte]
          refine T_reg_k fun Kr hKr => ?_
          simp (disch := omega) only [RF, RO, RC, bodyQ, resAll, resOf, tup, ↓reduceIte, Nat.reduceEqDiff, Nat.reduceSub, Nat.reduceAdd, Nat.reduceMul, Nat.reduceLT, Nat.reduceLeDiff, Int.reduceLE, Int.reduceLT, Int.reduceEq, Int.reduceNeg, Int.reduceToNat, Int.reduceMul, Int.reduceAdd, Int.reduceSub, Int.reduceBEq, Int.reduceBNe, reduceCtorEq, RD, h5]
          refine hKr _ _ ?_
          clear hKr Kr
          refine hN (xss.length - (k + 1)) _ _ (by omega) ⟨k + 1, by omega, rfl, rfl, by simp [RF, h0], by simp [RF, h1], by simp [RF], fun i hi => ?_⟩
          rcases Nat.lt_succ_iff_lt_or_eq.1 hi with h | rfl
          · exact hkk i h
          · exact hq
        · rw [decide_eq_false hq]
          simp (disch := omega) only [RF, RO, RC, bodyQ, resAll, resOf, tup, ↓reduceIte, Nat.reduceEqDiff, Nat.reduceSub, Nat.reduceAdd, Nat.reduceMul, Nat.reduceLT, Nat.reduceLeDiff, Int.reduceLE, Int.reduceLT, Int.reduceEq, Int.reduceNeg, Int.reduceToNat, Int.reduceMul, Int.reduceAdd, Int.reduceSub, Int.reduceBEq, Int.reduceBNe, reduceCtorEq, RD, Ext.refl']
          refine hKr _ _ ?_
          clear hKr Kr
          try simp only [blkQ, thenQ, loopQ]
          try simp only [RN, if_true, if_false, Bool.false_eq_true, if_pos, reduceIte]
          refine T_cseq (t := true) (by simp (disch := omega) only [RF, RO, RC, bodyQ, resAll, resOf, tup, ↓reduceIte, Nat.reduceEqDiff, Nat.reduceSub, Nat.reduceAdd, Nat.reduceMul, Nat.reduceLT, Nat.reduceLeDiff, Int.reduceLE, Int.reduceLT, Int.reduceEq, Int.reduceNeg, Int.reduceToNat, Int.reduceMul, Int.reduceAdd, Int.reduceSub, Int.reduceBEq, Int.reduceBNe, reduceCtorEq, decT, decF]) ?_
          try simp only [RN, if_true, if_false, Bool.false_eq_true, if_pos, reduceIte]
          refine T_rseq fun Kr hKr => ?_
          simp (disch := omega) only [RF, RO, RC, bodyQ, resAll, resOf, tup, ↓reduceIte, Nat.reduceEqDiff, Nat.reduceSub, Nat.reduceAdd, Nat.reduceMul, Nat.reduceLT, Nat.reduceLeDiff, Int.reduceLE, Int.reduceLT, Int.reduceEq, Int.reduceNeg, Int.reduceToNat, Int.reduceMul, Int.reduceAdd, Int.reduceSub, Int.reduceBEq, Int.reduceBNe, reduceCtorEq, RD]
          refine hKr _ _ ?_
          clear hKr Kr
          try simp only [RN, if_true, if_false, Bool.false_eq_true, if_pos, reduceIte]
          refine hR _ _ ?_
          refine ⟨_, rfl, ?_⟩
          simp only [RF, ev_t, ev_c, tup, ↓reduceIte, Nat.reduceEqDiff]
          have : xss ≠ yss := fun h => hq (by rw [h])
          simpa [this] using hK
      · refine T_cseq (t := false) (by simp (disch := omega) only [RF, RO, RC, bodyQ, resAll, resOf, tup, ↓reduceIte, Nat.reduceEqDiff, Nat.reduceSub, Nat.reduceAdd, Nat.reduceMul, Nat.reduceLT, Nat.reduceLeDiff, Int.reduceLE, Int.reduceLT, Int.reduceEq, Int.reduceNeg, Int.reduceToNat, Int.reduceMul, Int.reduceAdd, Int.reduceSub, Int.reduceBEq, Int.reduceBNe, reduceCtorEq, decT, decF, hlt]) ?_
        try simp only [RN, if_true, if_false, Bool.false_eq_true, if_pos, reduceIte]
        refine hX _ _ ?_
        refine T_rseq fun Kr hKr => ?_
        simp (disch := omega) only [RF, RO, RC, bodyQ, resAll, resOf, tup, ↓reduceIte, Nat.reduceEqDiff, Nat.reduceSub, Nat.reduceAdd, Nat.reduceMul, Nat.reduceLT, Nat.reduceLeDiff, Int.reduceLE, Int.reduceLT, Int.reduceEq, Int.reduceNeg, Int.reduceToNat, Int.reduceMul, Int.reduceAdd, Int.reduceSub, Int.reduceBEq, Int.reduceBNe, reduceCtorEq, RD]
        refine hKr _ _ ?_
        clear hKr Kr
        try simp only [RN, if_true, if_false, Bool.false_eq_true, if_pos, reduceIte]
        refine ⟨_, rfl, ?_⟩
        simp only [RF, ev_t, ev_c, tup, ↓reduceIte, Nat.reduceEqDiff]
        have : xss = yss := row_ext hne fun i hi => hkk i (by omega)
        simpa [this] using hK
  · refine T_cseq (t := true) (by simp (disch := omega) only [RF, RO, RC, bodyQ, resAll, resOf, tup, ↓reduceIte, Nat.reduceEqDiff, Nat.reduceSub, Nat.reduceAdd, Nat.reduceMul, Nat.reduceLT, Nat.reduceLeDiff, Int.reduceLE, Int.reduceLT, Int.reduceEq, Int.reduceNeg, Int.reduceToNat, Int.reduceMul, Int.reduceAdd, Int.reduceSub, Int.reduceBEq, Int.reduceBNe, reduceCtorEq, decT, decF, hne, Int.ofNat_inj]) ?_
    try simp only [RN, if_true, if_false, Bool.false_eq_true, if_pos, reduceIte]
    refine T_rseq fun Kr hKr => ?_
    simp (disch := omega) only [RF, RO, RC, bodyQ, resAll, resOf, tup, ↓reduceIte, Nat.reduceEqDiff, Nat.reduceSub, Nat.reduceAdd, Nat.reduceMul, Nat.reduceLT, Nat.reduceLeDiff, Int.reduceLE, Int.reduceLT, Int.reduceEq, Int.reduceNeg, Int.reduceToNat, Int.reduceMul, Int.reduceAdd, Int.reduceSub, Int.reduceBEq, Int.reduceBNe, reduceCtorEq, RD]
    refine hKr _ _ ?_
    clear hKr Kr
    try simp only [RN, if_true, if_false, Bool.false_eq_true, if_pos, reduceIte]
    refine ⟨_, rfl, ?_⟩
    simp only [RF, ev_t, ev_c, tup, ↓reduceIte, Nat.reduceEqDiff]
    have : xss ≠ yss := fun h => hne (by rw [h])
    simpa [this] using hK
end Go.Am
