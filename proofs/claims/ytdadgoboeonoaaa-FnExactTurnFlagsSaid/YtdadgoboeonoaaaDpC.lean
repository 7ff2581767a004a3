/- Turned flags. -/
import Derived.Test.YtdadgoboeonoaaaDpA
import Derived.Test.YtdadgoboeonoaaaDp8
set_option linter.unusedVariables false
set_option linter.unusedSimpArgs false
namespace Go.Bm
open Go Go.Am

section
variable {n m : Int} {c t s c' t' s' : List Nat} {k : Nat}
theorem fill_F (hc : c.length = 32) (ht : t.length = 32) (hs : s.length = 32) (hc' : c'.length = 32) (ht' : t'.length = 32) (hs' : s'.length = 32) : fillL (FC n c t s) [(0, 1, .int .i64 m), (1, 32, PL c'), (33, 32, PL t'), (65, 32, PL s')] = some (FC m c' t' s') := by
  simp only [fillL, cellsL_i, cellsL_a, List.length_singleton, List.length_map]
  rw [if_pos ⟨trivial, by simp⟩, splice_0, if_pos ⟨hc', by simp [hc]⟩]
  have h1 : splice (FC m c t s) 1 (c'.map N8) = FC m c' t s := splice_mid (g := N8) (x := c) (y := c') (pre := [I m]) (post := t.map N8 ++ s.map N8) (by omega)
  rw [h1, if_pos ⟨ht', by simp [hc', ht]; omega⟩]
  have h2 := splice_mid (g := N8) (x := t) (y := t') (pre := I m :: c'.map N8) (post := s.map N8) (by omega)
  simp only [List.length_cons, List.length_map, hc', List.cons_append] at h2
  rw [show splice (FC m c' t s) 33 (t'.map N8) = FC m c' t' s from h2, if_pos ⟨hs', by simp [hc', ht', hs]⟩]
  have h3 := splice_mid (g := N8) (x := s) (y := s') (pre := I m :: (c'.map N8 ++ t'.map N8)) (post := []) (by omega)
  simp only [List.length_cons, List.length_append, List.length_map, hc', ht', List.cons_append, List.append_nil, List.append_assoc] at h3
  rw [show splice (FC m c' t' s) 65 (s'.map N8) = FC m c' t' s' from h3]
theorem nn_FI {k : IntKind} {a : Int} : NN (.tuple ⟨[aggL (FC n c t s), .int k a]⟩) := NN.tuple (NNL.cons nn_F (NNL.cons NN.int NNL.nil))

def tu1 (a b c : List Nat) (k : Nat) : List Nat := match k with | 0 => a | 1 => b | 2 => c | 3 => b | 4 => a | _ => c
def tu2 (a b c : List Nat) (k : Nat) : List Nat := match k with | 0 => b | 1 => a | 2 => b | 3 => c | 4 => c | _ => a
def sixT (a b c : List Nat) : List (List Value) := sixX a b b a c b b c a c c a
theorem sixT_len {m : Nat} {a b c : List Nat} (ha : a.length = m) (hb : b.length = m) (hc : c.length = m) : ∀ x ∈ sixT a b c, x.length = m + m := by simp [sixT, sixX, ha, hb, hc]
theorem sixT_get {a b c : List Nat} (h : k < 6) : (sixT a b c)[k]? = some (PC (tu1 a b c k) (tu2 a b c k)) := by
  match k, h with
  | 0, _ => rfl
  | 1, _ => rfl
  | 2, _ => rfl
  | 3, _ => rfl
  | 4, _ => rfl
  | 5, _ => rfl
theorem tu1_by {m : Nat} {a b c : List Nat} (ha : By m a) (hb : By m b) (hc : By m c) {k : Nat} : By m (tu1 a b c k) := by unfold tu1; split <;> assumption
theorem tu2_by {m : Nat} {a b c : List Nat} (ha : By m a) (hb : By m b) (hc : By m c) {k : Nat} : By m (tu2 a b c k) := by unfold tu2; split <;> assumption
def tst6 (k : Nat) : Nat := [0, 1, 2, 1, 0, 2].getD k 0
def tnd6 (k : Nat) : Nat := [1, 0, 1, 2, 2, 0].getD k 0
theorem tst6_get (h : k < 6) : getN none [I 0, I 1, I 2, I 1, I 0, I 2] k = some (I (tst6 k)) ∧ tst6 k < 3 := by
  match k, h with
  | 0, _ | 1, _ | 2, _ | 3, _ | 4, _ | 5, _ => exact ⟨rfl, by decide⟩
theorem tnd6_get (h : k < 6) : getN none [I 1, I 0, I 1, I 2, I 2, I 0] k = some (I (tnd6 k)) ∧ tnd6 k < 3 := by
  match k, h with
  | 0, _ | 1, _ | 2, _ | 3, _ | 4, _ | 5, _ => exact ⟨rfl, by decide⟩
theorem selT {a b c : List Nat} (h : k < 6) : sel a b c (tst6 k) = tu1 a b c k ∧ sel a b c (tnd6 k) = tu2 a b c k := by
  match k, h with
  | 0, _ | 1, _ | 2, _ | 3, _ | 4, _ | 5, _ => exact ⟨rfl, rfl⟩
end
theorem Fl.n0 {n : Int} {c t s : List Nat} (h : Fl n c t s) : ∃ m : Nat, n = m ∧ 4 ≤ m ∧ m ≤ 32 := by
  have := h.1
  exact ⟨n.toNat, by omega, by omega, by omega⟩
def resTu (n : Int) (c t s : List Nat) (k : Int) : (Int × List Nat × List Nat × List Nat) × Int :=
  if ¬ Fl n c t s then ((0, z32, z32, z32), 1) else if ¬ (0 ≤ k ∧ k ≤ 5) then ((0, z32, z32, z32), 2)
  else ((n, tu1 c s (bothK c s n.toNat) k.toNat, t, tu2 c s (bothK c s n.toNat) k.toNat), 0)
theorem resTu_by {n : Int} {c t s : List Nat} {k : Int} (hc : By 32 c) (ht : By 32 t) (hs : By 32 s) : By 32 (resTu n c t s k).1.2.1 ∧ By 32 (resTu n c t s k).1.2.2.1 ∧ By 32 (resTu n c t s k).1.2.2.2 := by
  unfold resTu
  split
  · exact ⟨z32_by, z32_by, z32_by⟩
  · split
    · exact ⟨z32_by, z32_by, z32_by⟩
    · rename_i hd _
      obtain ⟨m, rfl, hm1, hm2⟩ := (Decidable.not_not.1 hd).n0
      have hf : By 32 (bothK c s m) := bothK_by hs hm2
      exact ⟨tu1_by hc hs hf, ht, tu2_by hc hs hf⟩
theorem ones_3f {a b c : List Nat} : ([a.map N8, b.map N8, c.map N8].flatten).all one2 = true := by
  simp only [List.flatten_cons, List.flatten_nil, List.append_nil, List.all_append, ones_N, Bool.and_self]
set_option maxRecDepth 10000 in
theorem l07Turn_spec {x : Bool} {n : Nat} {c t s : List Nat} {j : Nat} {H : BH} {K : Value → BH → Prop} (hc : By 32 c) (ht : By 32 t) (hs : By 32 s) (hd : Fl n c t s) (hj : j < 6)
    (hK : K (FV n (tu1 c s (bothK c s n) j) t (tu2 c s (bothK c s n) j)) H) : CallX x F_spec_l07Turn [FV n c t s, I j] H K := by
  have hlc := hc.len
  have hlt := ht.len
  have hls := hs.len
  have hz := z32_len
  have hn : n ≤ 32 := by have := hd.1.2; omega
  have hf : By 32 (bothK c s n) := bothK_by hs hn
  have hlf := hf.len
  refine callP (by exact .cons nn_F (.cons .int .nil)) ?_
  refine CallX_body Γ_spec_l07Turn ?_
  simp only [A_spec_l07Turn, T_aiff]
  refine T_rseq fun Kr hKr => ?_
  simp (disch := omega) only [RF, RO, RC, ↓reduceIte, Nat.reduceEqDiff, Nat.reduceBEq, Nat.reduceSub, Nat.reduceAdd, Nat.reduceMul, Nat.reduceLT, Nat.reduceLeDiff, Int.reduceLE, Int.reduceLT, Int.reduceEq, Int.reduceNeg, Int.reduceToNat, Int.reduceMul, Int.reduceAdd, Int.reduceSub, Int.reduceBEq, Int.reduceBNe, reduceCtorEq, RD, RFS]
  refine hKr _ _ ?_
  clear hKr Kr
  try simp only [RN, if_true, if_false, Bool.false_eq_true, if_pos, reduceIte]
  try first | refine T_exit ?_ | refine T_ret ?_ | refine T_skip ?_
  refine T_rseq fun Kr hKr => ?_
  simp (disch := omega) only [RF, RO, RC, ↓reduceIte, Nat.reduceEqDiff, Nat.reduceBEq, Nat.reduceSub, Nat.reduceAdd, Nat.reduceMul, Nat.reduceLT, Nat.reduceLeDiff, Int.reduceLE, Int.reduceLT, Int.reduceEq, Int.reduceNeg, Int.reduceToNat, Int.reduceMul, Int.reduceAdd, Int.reduceSub, Int.reduceBEq, Int.reduceBNe, reduceCtorEq, RD, RFS, RFD]
  refine l07Both_spec hc hs hn (fun i _ => hd.2.2.1.lt (by omega) hc (by omega) i) ?_
  generalize bothK c s n = p at hf hlf hK
  obtain ⟨ha1, ha2⟩ := tst6_get hj
  obtain ⟨hb1, hb2⟩ := tnd6_get hj
  obtain ⟨hs1, hs2⟩ := @selT j c s p hj
  have hl1 := (@tu1_by 32 c s p hc hs hf j).len
  have hl2 := (@tu2_by 32 c s p hc hs hf j).len
  have hg1 := sel_get hlc hls hlf ha2
  have hg2 := sel_get hlc hls hlf hb2
  have hfl : fillL (List.replicate 96 (.int .u8 0)) [(0, 32, PL c), (32, 32, PL s), (64, 32, PL p)] = some ([c.map N8, s.map N8, p.map N8].flatten) := fill_3 hlc hls hlf
  have hall : ([c.map N8, s.map N8, p.map N8].flatten).all one2 = true := ones_3f
  have hlen : ([c.map N8, s.map N8, p.map N8].flatten).length = 96 := by simp [hlc, hls, hlf]
  generalize [c.map N8, s.map N8, p.map N8].flatten = X at hg1 hg2 hfl hall hlen
  have hst := fun {H : BH} {i : Nat} => st_r (H := H) (b := i) (v := .int .u8 0) hlen hall
  rw [hs1] at hg1
  rw [hs2] at hg2
  generalize tst6 j = a1 at ha1 ha2 hg1
  generalize tnd6 j = a2 at hb1 hb2 hg2
  simp (disch := omega) only [RF, RO, RC, ↓reduceIte, Nat.reduceEqDiff, Nat.reduceBEq, Nat.reduceSub, Nat.reduceAdd, Nat.reduceMul, Nat.reduceLT, Nat.reduceLeDiff, Int.reduceLE, Int.reduceLT, Int.reduceEq, Int.reduceNeg, Int.reduceToNat, Int.reduceMul, Int.reduceAdd, Int.reduceSub, Int.reduceBEq, Int.reduceBNe, reduceCtorEq, RD, RFS, RFD, hfl, hst]
  refine hKr _ _ ?_
  clear hKr Kr
  try simp only [blkQ, thenQ, loopQ]
  try simp only [RN, if_true, if_false, Bool.false_eq_true, if_pos, reduceIte]
  try first | refine T_exit ?_ | refine T_ret ?_ | refine T_skip ?_
  have st6 := fun {H : BH} {i : Nat} {a b c d e g : Int} => st_r (H := H) (b := i) (v := .int .i64 0) (vs := [I a, I b, I c, I d, I e, I g]) rfl rfl
  simp only [List.length_cons, List.length_nil, Nat.reduceAdd] at st6
  refine T_rseq fun Kr hKr => ?_
  simp (disch := omega) only [RF, RO, RC, ↓reduceIte, Nat.reduceEqDiff, Nat.reduceBEq, Nat.reduceSub, Nat.reduceAdd, Nat.reduceMul, Nat.reduceLT, Nat.reduceLeDiff, Int.reduceLE, Int.reduceLT, Int.reduceEq, Int.reduceNeg, Int.reduceToNat, Int.reduceMul, Int.reduceAdd, Int.reduceSub, Int.reduceBEq, Int.reduceBNe, reduceCtorEq, RD, st6]
  refine hKr _ _ ?_
  clear hKr Kr
  try simp only [RN, if_true, if_false, Bool.false_eq_true, if_pos, reduceIte]
  try first | refine T_exit ?_ | refine T_ret ?_ | refine T_skip ?_
  refine T_rseq fun Kr hKr => ?_
  simp (disch := omega) only [RF, RO, RC, ↓reduceIte, Nat.reduceEqDiff, Nat.reduceBEq, Nat.reduceSub, Nat.reduceAdd, Nat.reduceMul, Nat.reduceLT, Nat.reduceLeDiff, Int.reduceLE, Int.reduceLT, Int.reduceEq, Int.reduceNeg, Int.reduceToNat, Int.reduceMul, Int.reduceAdd, Int.reduceSub, Int.reduceBEq, Int.reduceBNe, reduceCtorEq, RD, RFS, RFD, ha1, hb1, hg1, hg2, fill_F]
  refine hKr _ _ ?_
  clear hKr Kr
  try simp only [RN, if_true, if_false, Bool.false_eq_true, if_pos, reduceIte]
  try first | refine T_exit ?_ | refine T_ret ?_ | refine T_skip ?_
  refine bodyQ_ret (by simp (disch := omega) only [RF, RO, RC, ↓reduceIte, Nat.reduceEqDiff, Nat.reduceBEq, Nat.reduceSub, Nat.reduceAdd, Nat.reduceMul, Nat.reduceLT, Nat.reduceLeDiff, Int.reduceLE, Int.reduceLT, Int.reduceEq, Int.reduceNeg, Int.reduceToNat, Int.reduceMul, Int.reduceAdd, Int.reduceSub, Int.reduceBEq, Int.reduceBNe, reduceCtorEq, RD, resAll, resOf, RFS, RFD]; rfl) GhV.refl ?_
  simp only [tup]
  exact ⟨nn_F, hK⟩
theorem spec_TurnFlags_spec {x : Bool} {n : Int} {c t s : List Nat} {k : Int} {H : BH} {K : Value → BH → Prop} (hcc : By 32 c) (ht : By 32 t) (hs : By 32 s)
    (hK : K (.tuple ⟨[FV (resTu n c t s k).1.1 (resTu n c t s k).1.2.1 (resTu n c t s k).1.2.2.1 (resTu n c t s k).1.2.2.2, I (resTu n c t s k).2]⟩) H) : CallX x F_spec_TurnFlags [FV n c t s, I k] H K := by
  have hlc := hcc.len
  have hlt := ht.len
  have hls := hs.len
  have hz := z32_len
  refine callP (by exact .cons nn_F (.cons .int .nil)) ?_
  refine CallX_body Γ_spec_TurnFlags ?_
  simp only [A_spec_TurnFlags, T_aiff]
  refine T_rseq fun Kr hKr => ?_
  simp (disch := omega) only [RF, RO, RC, ↓reduceIte, Nat.reduceEqDiff, Nat.reduceBEq, Nat.reduceSub, Nat.reduceAdd, Nat.reduceMul, Nat.reduceLT, Nat.reduceLeDiff, Int.reduceLE, Int.reduceLT, Int.reduceEq, Int.reduceNeg, Int.reduceToNat, Int.reduceMul, Int.reduceAdd, Int.reduceSub, Int.reduceBEq, Int.reduceBNe, reduceCtorEq, RD, RFS]
  refine hKr _ _ ?_
  clear hKr Kr
  try simp only [RN, if_true, if_false, Bool.false_eq_true, if_pos, reduceIte]
  try first | refine T_exit ?_ | refine T_ret ?_ | refine T_skip ?_
  refine T_seq (T_block ?_)
  try simp only [RN, if_true, if_false, Bool.false_eq_true, if_pos, reduceIte]
  try first | refine T_exit ?_ | refine T_ret ?_ | refine T_skip ?_
  refine T_rseq fun Kr hKr => ?_
  simp (disch := omega) only [RF, RO, RC, ↓reduceIte, Nat.reduceEqDiff, Nat.reduceBEq, Nat.reduceSub, Nat.reduceAdd, Nat.reduceMul, Nat.reduceLT, Nat.reduceLeDiff, Int.reduceLE, Int.reduceLT, Int.reduceEq, Int.reduceNeg, Int.reduceToNat, Int.reduceMul, Int.reduceAdd, Int.reduceSub, Int.reduceBEq, Int.reduceBNe, reduceCtorEq, RD, RFS, RFD]
  refine l07Are_spec hcc ht hs ?_
  simp (disch := omega) only [RF, RO, RC, ↓reduceIte, Nat.reduceEqDiff, Nat.reduceBEq, Nat.reduceSub, Nat.reduceAdd, Nat.reduceMul, Nat.reduceLT, Nat.reduceLeDiff, Int.reduceLE, Int.reduceLT, Int.reduceEq, Int.reduceNeg, Int.reduceToNat, Int.reduceMul, Int.reduceAdd, Int.reduceSub, Int.reduceBEq, Int.reduceBNe, reduceCtorEq, RD]
  refine hKr _ _ ?_
  clear hKr Kr
  try simp only [blkQ, thenQ, loopQ]
  try simp only [RN, if_true, if_false, Bool.false_eq_true, if_pos, reduceIte]
  try first | refine T_exit ?_ | refine T_ret ?_ | refine T_skip ?_
  refine T_csplit1 (p := ¬ Fl n c t s) (by simp only [RF, RO, RC, ↓reduceIte, Nat.reduceEqDiff, Nat.reduceBEq, Nat.reduceSub, Nat.reduceAdd, Nat.reduceMul, Nat.reduceLT, Nat.reduceLeDiff, Int.reduceLE, Int.reduceLT, Int.reduceEq, Int.reduceNeg, Int.reduceToNat, Int.reduceMul, Int.reduceAdd, Int.reduceSub, Int.reduceBEq, Int.reduceBNe, reduceCtorEq] <;> rfl) (by (try simp only [decide_eq_true_eq, Bool.or_eq_true, Bool.and_eq_true, Bool.not_eq_true', decide_eq_false_iff_not, Bool.not_eq_eq_eq_not, Bool.not_true, Bool.not_false, beq_iff_eq, Bool.false_eq_true]) <;> (first | done | exact Iff.rfl | omega | simp)) (fun hc => ?_) (fun hc => ?_) <;> (try simp only [RN, if_true, if_false, Bool.false_eq_true, if_pos, reduceIte]) <;> (try first | refine T_exit ?_ | refine T_ret ?_ | refine T_skip ?_)
  · refine T_rseq fun Kr hKr => ?_
    simp (disch := omega) only [RF, RO, RC, ↓reduceIte, Nat.reduceEqDiff, Nat.reduceBEq, Nat.reduceSub, Nat.reduceAdd, Nat.reduceMul, Nat.reduceLT, Nat.reduceLeDiff, Int.reduceLE, Int.reduceLT, Int.reduceEq, Int.reduceNeg, Int.reduceToNat, Int.reduceMul, Int.reduceAdd, Int.reduceSub, Int.reduceBEq, Int.reduceBNe, reduceCtorEq, RD, RFS, RFD]
    refine hKr _ _ ?_
    clear hKr Kr
    try simp only [RN, if_true, if_false, Bool.false_eq_true, if_pos, reduceIte]
    try first | refine T_exit ?_ | refine T_ret ?_ | refine T_skip ?_
    simp only [blkQ, thenQ, loopQ, if_true]
    refine bodyQ_ret (by simp (disch := omega) only [RF, RO, RC, ↓reduceIte, Nat.reduceEqDiff, Nat.reduceBEq, Nat.reduceSub, Nat.reduceAdd, Nat.reduceMul, Nat.reduceLT, Nat.reduceLeDiff, Int.reduceLE, Int.reduceLT, Int.reduceEq, Int.reduceNeg, Int.reduceToNat, Int.reduceMul, Int.reduceAdd, Int.reduceSub, Int.reduceBEq, Int.reduceBNe, reduceCtorEq, RD, resAll, resOf, RFS, RFD]; rfl) GhV.refl ?_
    simp only [tup]
    rw [resTu, if_pos hc] at hK
    exact ⟨nn_FI, hK⟩
  have hd := Decidable.not_not.1 hc
  refine T_rseq fun Kr hKr => ?_
  simp (disch := omega) only [RF, RO, RC, ↓reduceIte, Nat.reduceEqDiff, Nat.reduceBEq, Nat.reduceSub, Nat.reduceAdd, Nat.reduceMul, Nat.reduceLT, Nat.reduceLeDiff, Int.reduceLE, Int.reduceLT, Int.reduceEq, Int.reduceNeg, Int.reduceToNat, Int.reduceMul, Int.reduceAdd, Int.reduceSub, Int.reduceBEq, Int.reduceBNe, reduceCtorEq, RD]
  refine l01In_spec ?_
  simp (disch := omega) only [RF, RO, RC, ↓reduceIte, Nat.reduceEqDiff, Nat.reduceBEq, Nat.reduceSub, Nat.reduceAdd, Nat.reduceMul, Nat.reduceLT, Nat.reduceLeDiff, Int.reduceLE, Int.reduceLT, Int.reduceEq, Int.reduceNeg, Int.reduceToNat, Int.reduceMul, Int.reduceAdd, Int.reduceSub, Int.reduceBEq, Int.reduceBNe, reduceCtorEq, RD]
  refine hKr _ _ ?_
  clear hKr Kr
  try simp only [blkQ, thenQ, loopQ]
  try simp only [RN, if_true, if_false, Bool.false_eq_true, if_pos, reduceIte]
  try first | refine T_exit ?_ | refine T_ret ?_ | refine T_skip ?_
  refine T_csplit1 (p := ¬ (0 ≤ k ∧ k ≤ 5)) (by simp only [RF, RO, RC, ↓reduceIte, Nat.reduceEqDiff, Nat.reduceBEq, Nat.reduceSub, Nat.reduceAdd, Nat.reduceMul, Nat.reduceLT, Nat.reduceLeDiff, Int.reduceLE, Int.reduceLT, Int.reduceEq, Int.reduceNeg, Int.reduceToNat, Int.reduceMul, Int.reduceAdd, Int.reduceSub, Int.reduceBEq, Int.reduceBNe, reduceCtorEq] <;> rfl) (by (try simp only [decide_eq_true_eq, Bool.or_eq_true, Bool.and_eq_true, Bool.not_eq_true', decide_eq_false_iff_not, Bool.not_eq_eq_eq_not, Bool.not_true, Bool.not_false, beq_iff_eq, Bool.false_eq_true]) <;> (first | done | exact Iff.rfl | omega | simp)) (fun hc => ?_) (fun hc => ?_) <;> (try simp only [RN, if_true, if_false, Bool.false_eq_true, if_pos, reduceIte]) <;> (try first | refine T_exit ?_ | refine T_ret ?_ | refine T_skip ?_)
  · refine T_rseq fun Kr hKr => ?_
    simp (disch := omega) only [RF, RO, RC, ↓reduceIte, Nat.reduceEqDiff, Nat.reduceBEq, Nat.reduceSub, Nat.reduceAdd, Nat.reduceMul, Nat.reduceLT, Nat.reduceLeDiff, Int.reduceLE, Int.reduceLT, Int.reduceEq, Int.reduceNeg, Int.reduceToNat, Int.reduceMul, Int.reduceAdd, Int.reduceSub, Int.reduceBEq, Int.reduceBNe, reduceCtorEq, RD, RFS, RFD]
    refine hKr _ _ ?_
    clear hKr Kr
    try simp only [RN, if_true, if_false, Bool.false_eq_true, if_pos, reduceIte]
    try first | refine T_exit ?_ | refine T_ret ?_ | refine T_skip ?_
    simp only [blkQ, thenQ, loopQ, if_true]
    refine bodyQ_ret (by simp (disch := omega) only [RF, RO, RC, ↓reduceIte, Nat.reduceEqDiff, Nat.reduceBEq, Nat.reduceSub, Nat.reduceAdd, Nat.reduceMul, Nat.reduceLT, Nat.reduceLeDiff, Int.reduceLE, Int.reduceLT, Int.reduceEq, Int.reduceNeg, Int.reduceToNat, Int.reduceMul, Int.reduceAdd, Int.reduceSub, Int.reduceBEq, Int.reduceBNe, reduceCtorEq, RD, resAll, resOf, RFS, RFD]; rfl) GhV.refl ?_
    simp only [tup]
    rw [resTu, if_neg (by simpa using hd), if_pos hc] at hK
    exact ⟨nn_FI, hK⟩
  simp only [blkQ, thenQ, loopQ, if_true]
  have hk := Decidable.not_not.1 hc
  obtain ⟨m, rfl, hm1, hm2⟩ := hd.n0
  obtain ⟨j, rfl⟩ : ∃ j : Nat, k = j := ⟨k.toNat, by omega⟩
  rw [resTu, if_neg (by simpa using hd), if_neg (by simpa using hk)] at hK
  simp only [Int.toNat_natCast] at hK
  have hf : By 32 (bothK c s m) := bothK_by hs hm2
  have hl1 := (@tu1_by 32 c s (bothK c s m) hcc hs hf j).len
  have hl2 := (@tu2_by 32 c s (bothK c s m) hcc hs hf j).len
  refine T_rseq fun Kr hKr => ?_
  simp (disch := omega) only [RF, RO, RC, ↓reduceIte, Nat.reduceEqDiff, Nat.reduceBEq, Nat.reduceSub, Nat.reduceAdd, Nat.reduceMul, Nat.reduceLT, Nat.reduceLeDiff, Int.reduceLE, Int.reduceLT, Int.reduceEq, Int.reduceNeg, Int.reduceToNat, Int.reduceMul, Int.reduceAdd, Int.reduceSub, Int.reduceBEq, Int.reduceBNe, reduceCtorEq, RD, RFS, RFD]
  refine l07Turn_spec hcc ht hs hd (by omega) ?_
  simp (disch := omega) only [RF, RO, RC, ↓reduceIte, Nat.reduceEqDiff, Nat.reduceBEq, Nat.reduceSub, Nat.reduceAdd, Nat.reduceMul, Nat.reduceLT, Nat.reduceLeDiff, Int.reduceLE, Int.reduceLT, Int.reduceEq, Int.reduceNeg, Int.reduceToNat, Int.reduceMul, Int.reduceAdd, Int.reduceSub, Int.reduceBEq, Int.reduceBNe, reduceCtorEq, RD, RFS, RFD]
  refine hKr _ _ ?_
  clear hKr Kr
  try simp only [blkQ, thenQ, loopQ]
  try simp only [RN, if_true, if_false, Bool.false_eq_true, if_pos, reduceIte]
  try first | refine T_exit ?_ | refine T_ret ?_ | refine T_skip ?_
  refine bodyQ_ret (by simp (disch := omega) only [RF, RO, RC, ↓reduceIte, Nat.reduceEqDiff, Nat.reduceBEq, Nat.reduceSub, Nat.reduceAdd, Nat.reduceMul, Nat.reduceLT, Nat.reduceLeDiff, Int.reduceLE, Int.reduceLT, Int.reduceEq, Int.reduceNeg, Int.reduceToNat, Int.reduceMul, Int.reduceAdd, Int.reduceSub, Int.reduceBEq, Int.reduceBNe, reduceCtorEq, RD, resAll, resOf, RFS, RFD]; rfl) GhV.refl ?_
  simp only [tup]
  exact ⟨nn_FI, hK⟩
theorem both_spec {x : Bool} {n : Nat} {c t s : List Nat} {H : BH} {K : Value → BH → Prop} (hcc : By 32 c) (ht : By 32 t) (hs : By 32 s) (hd : Fl n c t s) (hK : K (PL (bothK c s n)) H) : CallX x F_impl_both [FV n c t s] H K := by
  have hlc := hcc.len
  have hlt := ht.len
  have hls := hs.len
  have hz := z32_len
  have hn : n ≤ 32 := by have := hd.1.2; omega
  have hc32 := fun i => hd.2.2.1.lt (by omega) hcc (by omega) i
  refine callP (by exact .cons nn_F .nil) ?_
  refine CallX_body Γ_impl_both ?_
  simp only [A_impl_both, T_aiff]
  refine T_rseq fun Kr hKr => ?_
  simp (disch := omega) only [RF, RO, RC, ↓reduceIte, Nat.reduceEqDiff, Nat.reduceBEq, Nat.reduceSub, Nat.reduceAdd, Nat.reduceMul, Nat.reduceLT, Nat.reduceLeDiff, Int.reduceLE, Int.reduceLT, Int.reduceEq, Int.reduceNeg, Int.reduceToNat, Int.reduceMul, Int.reduceAdd, Int.reduceSub, Int.reduceBEq, Int.reduceBNe, reduceCtorEq, RD, RFS]
  refine hKr _ _ ?_
  clear hKr Kr
  try simp only [RN, if_true, if_false, Bool.false_eq_true, if_pos, reduceIte]
  try first | refine T_exit ?_ | refine T_ret ?_ | refine T_skip ?_
  refine T_rseq fun Kr hKr => ?_
  simp (disch := omega) only [RF, RO, RC, ↓reduceIte, Nat.reduceEqDiff, Nat.reduceBEq, Nat.reduceSub, Nat.reduceAdd, Nat.reduceMul, Nat.reduceLT, Nat.reduceLeDiff, Int.reduceLE, Int.reduceLT, Int.reduceEq, Int.reduceNeg, Int.reduceToNat, Int.reduceMul, Int.reduceAdd, Int.reduceSub, Int.reduceBEq, Int.reduceBNe, reduceCtorEq, RD]
  refine hKr _ _ ?_
  clear hKr Kr
  try simp only [RN, if_true, if_false, Bool.false_eq_true, if_pos, reduceIte]
  try first | refine T_exit ?_ | refine T_ret ?_ | refine T_skip ?_
  refine T_rseq fun Kr hKr => ?_
  simp (disch := omega) only [RF, RO, RC, ↓reduceIte, Nat.reduceEqDiff, Nat.reduceBEq, Nat.reduceSub, Nat.reduceAdd, Nat.reduceMul, Nat.reduceLT, Nat.reduceLeDiff, Int.reduceLE, Int.reduceLT, Int.reduceEq, Int.reduceNeg, Int.reduceToNat, Int.reduceMul, Int.reduceAdd, Int.reduceSub, Int.reduceBEq, Int.reduceBNe, reduceCtorEq, RD, RFS, RFD]
  refine hKr _ _ ?_
  clear hKr Kr
  try simp only [RN, if_true, if_false, Bool.false_eq_true, if_pos, reduceIte]
  try first | refine T_exit ?_ | refine T_ret ?_ | refine T_skip ?_
  refine T_wloop (fun m f H' => ∃ k, k ≤ n ∧ m = n - k ∧ f 1 = P 0 0 ∧ f 2 = P 1 0 ∧ f 3 = P 2 0 ∧ f 7 = I n ∧ f 8 = I k ∧ H' = [some (FC n c t s), some (List.replicate 32 (.int .u8 0)), some ((bothK c s k).map N8)]) (n) ?_ ?_
  · refine ⟨_, _, Gh.refl, 0, by omega, by omega, ?_, ?_, ?_, ?_, ?_, by simp [RF, RO, RC, ↓reduceIte, Nat.reduceEqDiff, Nat.reduceBEq, Nat.reduceSub, Nat.reduceAdd, Nat.reduceMul, Nat.reduceLT, Nat.reduceLeDiff, Int.reduceLE, Int.reduceLT, Int.reduceEq, Int.reduceNeg, Int.reduceToNat, Int.reduceMul, Int.reduceAdd, Int.reduceSub, Int.reduceBEq, Int.reduceBNe, reduceCtorEq, bothK]⟩
    any_goals (simp (disch := omega) only [RF, RO, RC, ↓reduceIte, Nat.reduceEqDiff, Nat.reduceBEq, Nat.reduceSub, Nat.reduceAdd, Nat.reduceMul, Nat.reduceLT, Nat.reduceLeDiff, Int.reduceLE, Int.reduceLT, Int.reduceEq, Int.reduceNeg, Int.reduceToNat, Int.reduceMul, Int.reduceAdd, Int.reduceSub, Int.reduceBEq, Int.reduceBNe, reduceCtorEq, RD, ren_PL, ren_AB, ren_AI, *] <;> rfl)
  · rintro m f H' R ⟨k, hk, rfl, h1, h2, h3, h7, h8, rfl⟩ hN hX hR hE
    simp only [A_impl_both.l0, T_aiff]
    refine T_rseq fun Kr hKr => ?_
    simp (disch := omega) only [RF, RO, RC, ↓reduceIte, Nat.reduceEqDiff, Nat.reduceBEq, Nat.reduceSub, Nat.reduceAdd, Nat.reduceMul, Nat.reduceLT, Nat.reduceLeDiff, Int.reduceLE, Int.reduceLT, Int.reduceEq, Int.reduceNeg, Int.reduceToNat, Int.reduceMul, Int.reduceAdd, Int.reduceSub, Int.reduceBEq, Int.reduceBNe, reduceCtorEq, RD, h7, h8]
    refine hKr _ _ ?_
    clear hKr Kr
    try simp only [RN, if_true, if_false, Bool.false_eq_true, if_pos, reduceIte]
    try first | refine T_exit ?_ | refine T_ret ?_ | refine T_skip ?_
    refine T_csplit (p := k < n) (by simp only [RF, RO, RC, ↓reduceIte, Nat.reduceEqDiff, Nat.reduceBEq, Nat.reduceSub, Nat.reduceAdd, Nat.reduceMul, Nat.reduceLT, Nat.reduceLeDiff, Int.reduceLE, Int.reduceLT, Int.reduceEq, Int.reduceNeg, Int.reduceToNat, Int.reduceMul, Int.reduceAdd, Int.reduceSub, Int.reduceBEq, Int.reduceBNe, reduceCtorEq] <;> rfl) (by (try simp only [decide_eq_true_eq, Bool.or_eq_true, Bool.and_eq_true, Bool.not_eq_true', decide_eq_false_iff_not, Bool.not_eq_eq_eq_not, Bool.not_true, Bool.not_false, beq_iff_eq, Bool.false_eq_true]) <;> (first | done | exact Iff.rfl | omega | simp)) (fun hc => ?_) (fun hc => ?_) <;> (try simp only [RN, if_true, if_false, Bool.false_eq_true, if_pos, reduceIte]) <;> (try first | refine T_exit ?_ | refine T_ret ?_ | refine T_skip ?_)
    · have hlk := @bothK_len c s k
      have hpk := hc32 k
      first | refine T_bfree rfl ?_ | refine T_bfree' rfl ?_
      try simp only [RN, if_true, if_false, Bool.false_eq_true, if_pos, reduceIte]
      try first | refine T_exit ?_ | refine T_ret ?_ | refine T_skip ?_
      refine T_rseq fun Kr hKr => ?_
      simp (disch := omega) only [RF, RO, RC, ↓reduceIte, Nat.reduceEqDiff, Nat.reduceBEq, Nat.reduceSub, Nat.reduceAdd, Nat.reduceMul, Nat.reduceLT, Nat.reduceLeDiff, Int.reduceLE, Int.reduceLT, Int.reduceEq, Int.reduceNeg, Int.reduceToNat, Int.reduceMul, Int.reduceAdd, Int.reduceSub, Int.reduceBEq, Int.reduceBNe, reduceCtorEq, RD, h8]
      refine hKr _ _ ?_
      clear hKr Kr
      try simp only [RN, if_true, if_false, Bool.false_eq_true, if_pos, reduceIte]
      try first | refine T_exit ?_ | refine T_ret ?_ | refine T_skip ?_
      refine T_rseq fun Kr hKr => ?_
      simp (disch := omega) only [RF, RO, RC, ↓reduceIte, Nat.reduceEqDiff, Nat.reduceBEq, Nat.reduceSub, Nat.reduceAdd, Nat.reduceMul, Nat.reduceLT, Nat.reduceLeDiff, Int.reduceLE, Int.reduceLT, Int.reduceEq, Int.reduceNeg, Int.reduceToNat, Int.reduceMul, Int.reduceAdd, Int.reduceSub, Int.reduceBEq, Int.reduceBNe, reduceCtorEq, RD, h1, h3, h8, RFS, RFD]
      refine hKr _ _ ?_
      clear hKr Kr
      try simp only [RN, if_true, if_false, Bool.false_eq_true, if_pos, reduceIte]
      try first | refine T_exit ?_ | refine T_ret ?_ | refine T_skip ?_
      refine T_reg_k fun Kr hKr => ?_
      simp (disch := omega) only [RF, RO, RC, ↓reduceIte, Nat.reduceEqDiff, Nat.reduceBEq, Nat.reduceSub, Nat.reduceAdd, Nat.reduceMul, Nat.reduceLT, Nat.reduceLeDiff, Int.reduceLE, Int.reduceLT, Int.reduceEq, Int.reduceNeg, Int.reduceToNat, Int.reduceMul, Int.reduceAdd, Int.reduceSub, Int.reduceBEq, Int.reduceBNe, reduceCtorEq, RD, h8]
      refine hKr _ _ ?_
      clear hKr Kr
      refine hN (n - (k + 1)) _ _ _ _ (by omega) Gh.refl ⟨k + 1, by omega, rfl, ?_, ?_, ?_, ?_, ?_, rfl⟩
      any_goals (simp (disch := omega) only [RF, RO, RC, ↓reduceIte, Nat.reduceEqDiff, Nat.reduceBEq, Nat.reduceSub, Nat.reduceAdd, Nat.reduceMul, Nat.reduceLT, Nat.reduceLeDiff, Int.reduceLE, Int.reduceLT, Int.reduceEq, Int.reduceNeg, Int.reduceToNat, Int.reduceMul, Int.reduceAdd, Int.reduceSub, Int.reduceBEq, Int.reduceBNe, reduceCtorEq, RD, ren_PL, ren_AB, ren_AI, *] <;> rfl)
    · refine hX _ _ ?_
      obtain rfl : k = n := by omega
      have hlk := @bothK_len c s k
      refine T_rseq fun Kr hKr => ?_
      simp (disch := omega) only [RF, RO, RC, ↓reduceIte, Nat.reduceEqDiff, Nat.reduceBEq, Nat.reduceSub, Nat.reduceAdd, Nat.reduceMul, Nat.reduceLT, Nat.reduceLeDiff, Int.reduceLE, Int.reduceLT, Int.reduceEq, Int.reduceNeg, Int.reduceToNat, Int.reduceMul, Int.reduceAdd, Int.reduceSub, Int.reduceBEq, Int.reduceBNe, reduceCtorEq, RD, h2, h3, hlk]
      refine hKr _ _ ?_
      clear hKr Kr
      try simp only [RN, if_true, if_false, Bool.false_eq_true, if_pos, reduceIte]
      try first | refine T_exit ?_ | refine T_ret ?_ | refine T_skip ?_
      refine bodyQ_ret (by simp (disch := omega) only [RF, RO, RC, ↓reduceIte, Nat.reduceEqDiff, Nat.reduceBEq, Nat.reduceSub, Nat.reduceAdd, Nat.reduceMul, Nat.reduceLT, Nat.reduceLeDiff, Int.reduceLE, Int.reduceLT, Int.reduceEq, Int.reduceNeg, Int.reduceToNat, Int.reduceMul, Int.reduceAdd, Int.reduceSub, Int.reduceBEq, Int.reduceBNe, reduceCtorEq, RD, resAll, resOf, h2, hlk]; rfl) GhV.refl ?_
      simp only [tup]
      exact ⟨NN.agg (by (repeat' first | exact NNL.nil | exact NN.int | exact NN.bool | exact NN.fz | exact NN.nil | exact NN.string | exact NN.undef | (refine NNL.cons ?_ ?_) | (refine NN.tuple ?_) | (refine NN.agg ?_) | (refine NN.func ?_) | (refine NNL.append ?_ ?_) | exact NNL.map (fun _ => NN.int) | exact NNL.map (fun _ => NN.bool) | exact NNL.map (fun _ => NN.fz) | exact NNL.map (fun _ => NN.string) | exact NNL.replicate NN.int | exact NNL.replicate NN.bool | assumption)), hK⟩
set_option maxRecDepth 10000 in
theorem impl_TurnFlags_spec {x : Bool} {n : Int} {c t s : List Nat} {k : Int} {H : BH} {K : Value → BH → Prop} (hcc : By 32 c) (ht : By 32 t) (hs : By 32 s)
    (hK : K (.tuple ⟨[FV (resTu n c t s k).1.1 (resTu n c t s k).1.2.1 (resTu n c t s k).1.2.2.1 (resTu n c t s k).1.2.2.2, I (resTu n c t s k).2]⟩) H) : CallX x F_impl_TurnFlags [FV n c t s, I k] H K := by
  have hlc := hcc.len
  have hlt := ht.len
  have hls := hs.len
  have hz := z32_len
  refine callP (by exact .cons nn_F (.cons .int .nil)) ?_
  refine CallX_body Γ_impl_TurnFlags ?_
  simp only [A_impl_TurnFlags, T_aiff]
  refine T_rseq fun Kr hKr => ?_
  simp (disch := omega) only [RF, RO, RC, ↓reduceIte, Nat.reduceEqDiff, Nat.reduceBEq, Nat.reduceSub, Nat.reduceAdd, Nat.reduceMul, Nat.reduceLT, Nat.reduceLeDiff, Int.reduceLE, Int.reduceLT, Int.reduceEq, Int.reduceNeg, Int.reduceToNat, Int.reduceMul, Int.reduceAdd, Int.reduceSub, Int.reduceBEq, Int.reduceBNe, reduceCtorEq, RD, RFS]
  refine hKr _ _ ?_
  clear hKr Kr
  try simp only [RN, if_true, if_false, Bool.false_eq_true, if_pos, reduceIte]
  try first | refine T_exit ?_ | refine T_ret ?_ | refine T_skip ?_
  refine T_seq (T_block ?_)
  try simp only [RN, if_true, if_false, Bool.false_eq_true, if_pos, reduceIte]
  try first | refine T_exit ?_ | refine T_ret ?_ | refine T_skip ?_
  refine T_rseq fun Kr hKr => ?_
  simp (disch := omega) only [RF, RO, RC, ↓reduceIte, Nat.reduceEqDiff, Nat.reduceBEq, Nat.reduceSub, Nat.reduceAdd, Nat.reduceMul, Nat.reduceLT, Nat.reduceLeDiff, Int.reduceLE, Int.reduceLT, Int.reduceEq, Int.reduceNeg, Int.reduceToNat, Int.reduceMul, Int.reduceAdd, Int.reduceSub, Int.reduceBEq, Int.reduceBNe, reduceCtorEq, RD, RFS, RFD]
  refine impl_AreFlags_spec hcc ht hs ?_
  simp (disch := omega) only [RF, RO, RC, ↓reduceIte, Nat.reduceEqDiff, Nat.reduceBEq, Nat.reduceSub, Nat.reduceAdd, Nat.reduceMul, Nat.reduceLT, Nat.reduceLeDiff, Int.reduceLE, Int.reduceLT, Int.reduceEq, Int.reduceNeg, Int.reduceToNat, Int.reduceMul, Int.reduceAdd, Int.reduceSub, Int.reduceBEq, Int.reduceBNe, reduceCtorEq, RD]
  refine hKr _ _ ?_
  clear hKr Kr
  try simp only [blkQ, thenQ, loopQ]
  try simp only [RN, if_true, if_false, Bool.false_eq_true, if_pos, reduceIte]
  try first | refine T_exit ?_ | refine T_ret ?_ | refine T_skip ?_
  refine T_csplit1 (p := ¬ Fl n c t s) (by simp only [RF, RO, RC, ↓reduceIte, Nat.reduceEqDiff, Nat.reduceBEq, Nat.reduceSub, Nat.reduceAdd, Nat.reduceMul, Nat.reduceLT, Nat.reduceLeDiff, Int.reduceLE, Int.reduceLT, Int.reduceEq, Int.reduceNeg, Int.reduceToNat, Int.reduceMul, Int.reduceAdd, Int.reduceSub, Int.reduceBEq, Int.reduceBNe, reduceCtorEq] <;> rfl) (by (try simp only [decide_eq_true_eq, Bool.or_eq_true, Bool.and_eq_true, Bool.not_eq_true', decide_eq_false_iff_not, Bool.not_eq_eq_eq_not, Bool.not_true, Bool.not_false, beq_iff_eq, Bool.false_eq_true]) <;> (first | done | exact Iff.rfl | omega | simp)) (fun hc => ?_) (fun hc => ?_) <;> (try simp only [RN, if_true, if_false, Bool.false_eq_true, if_pos, reduceIte]) <;> (try first | refine T_exit ?_ | refine T_ret ?_ | refine T_skip ?_)
  · refine T_rseq fun Kr hKr => ?_
    simp (disch := omega) only [RF, RO, RC, ↓reduceIte, Nat.reduceEqDiff, Nat.reduceBEq, Nat.reduceSub, Nat.reduceAdd, Nat.reduceMul, Nat.reduceLT, Nat.reduceLeDiff, Int.reduceLE, Int.reduceLT, Int.reduceEq, Int.reduceNeg, Int.reduceToNat, Int.reduceMul, Int.reduceAdd, Int.reduceSub, Int.reduceBEq, Int.reduceBNe, reduceCtorEq, RD, RFS, RFD]
    refine hKr _ _ ?_
    clear hKr Kr
    try simp only [RN, if_true, if_false, Bool.false_eq_true, if_pos, reduceIte]
    try first | refine T_exit ?_ | refine T_ret ?_ | refine T_skip ?_
    simp only [blkQ, thenQ, loopQ, if_true]
    refine bodyQ_ret (by simp (disch := omega) only [RF, RO, RC, ↓reduceIte, Nat.reduceEqDiff, Nat.reduceBEq, Nat.reduceSub, Nat.reduceAdd, Nat.reduceMul, Nat.reduceLT, Nat.reduceLeDiff, Int.reduceLE, Int.reduceLT, Int.reduceEq, Int.reduceNeg, Int.reduceToNat, Int.reduceMul, Int.reduceAdd, Int.reduceSub, Int.reduceBEq, Int.reduceBNe, reduceCtorEq, RD, resAll, resOf, RFS, RFD]; rfl) GhV.refl ?_
    simp only [tup]
    rw [resTu, if_pos hc] at hK
    exact ⟨nn_FI, hK⟩
  have hd := Decidable.not_not.1 hc
  by_cases hk0 : k < 0
  · refine T_rseq fun Kr hKr => ?_
    simp (disch := omega) only [RF, RO, RC, ↓reduceIte, Nat.reduceEqDiff, Nat.reduceBEq, Nat.reduceSub, Nat.reduceAdd, Nat.reduceMul, Nat.reduceLT, Nat.reduceLeDiff, Int.reduceLE, Int.reduceLT, Int.reduceEq, Int.reduceNeg, Int.reduceToNat, Int.reduceMul, Int.reduceAdd, Int.reduceSub, Int.reduceBEq, Int.reduceBNe, reduceCtorEq, RD, hk0]
    refine hKr _ _ ?_
    clear hKr Kr
    try simp only [RN, if_true, if_false, Bool.false_eq_true, if_pos, reduceIte]
    try first | refine T_exit ?_ | refine T_ret ?_ | refine T_skip ?_
    refine T_cond (t := true) (by simp (disch := omega) only [RF, RO, RC, ↓reduceIte, Nat.reduceEqDiff, Nat.reduceBEq, Nat.reduceSub, Nat.reduceAdd, Nat.reduceMul, Nat.reduceLT, Nat.reduceLeDiff, Int.reduceLE, Int.reduceLT, Int.reduceEq, Int.reduceNeg, Int.reduceToNat, Int.reduceMul, Int.reduceAdd, Int.reduceSub, Int.reduceBEq, Int.reduceBNe, reduceCtorEq, RD]) ?_
    try simp only [RN, if_true, if_false, Bool.false_eq_true, if_pos, reduceIte]
    try first | refine T_exit ?_ | refine T_ret ?_ | refine T_skip ?_
    refine T_rseq fun Kr hKr => ?_
    simp (disch := omega) only [RF, RO, RC, ↓reduceIte, Nat.reduceEqDiff, Nat.reduceBEq, Nat.reduceSub, Nat.reduceAdd, Nat.reduceMul, Nat.reduceLT, Nat.reduceLeDiff, Int.reduceLE, Int.reduceLT, Int.reduceEq, Int.reduceNeg, Int.reduceToNat, Int.reduceMul, Int.reduceAdd, Int.reduceSub, Int.reduceBEq, Int.reduceBNe, reduceCtorEq, RD, RFS, RFD]
    refine hKr _ _ ?_
    clear hKr Kr
    try simp only [RN, if_true, if_false, Bool.false_eq_true, if_pos, reduceIte]
    try first | refine T_exit ?_ | refine T_ret ?_ | refine T_skip ?_
    simp only [blkQ, thenQ, loopQ, if_true]
    refine bodyQ_ret (by simp (disch := omega) only [RF, RO, RC, ↓reduceIte, Nat.reduceEqDiff, Nat.reduceBEq, Nat.reduceSub, Nat.reduceAdd, Nat.reduceMul, Nat.reduceLT, Nat.reduceLeDiff, Int.reduceLE, Int.reduceLT, Int.reduceEq, Int.reduceNeg, Int.reduceToNat, Int.reduceMul, Int.reduceAdd, Int.reduceSub, Int.reduceBEq, Int.reduceBNe, reduceCtorEq, RD, resAll, resOf, RFS, RFD]; rfl) GhV.refl ?_
    simp only [tup]
    rw [resTu, if_neg (by simpa using hd), if_pos (by omega)] at hK
    exact ⟨nn_FI, hK⟩
  refine T_rseq fun Kr hKr => ?_
  simp (disch := omega) only [RF, RO, RC, ↓reduceIte, Nat.reduceEqDiff, Nat.reduceBEq, Nat.reduceSub, Nat.reduceAdd, Nat.reduceMul, Nat.reduceLT, Nat.reduceLeDiff, Int.reduceLE, Int.reduceLT, Int.reduceEq, Int.reduceNeg, Int.reduceToNat, Int.reduceMul, Int.reduceAdd, Int.reduceSub, Int.reduceBEq, Int.reduceBNe, reduceCtorEq, RD, hk0]
  refine hKr _ _ ?_
  clear hKr Kr
  try simp only [RN, if_true, if_false, Bool.false_eq_true, if_pos, reduceIte]
  try first | refine T_exit ?_ | refine T_ret ?_ | refine T_skip ?_
  refine T_csplit1 (p := k > 5) (by simp only [RF, RO, RC, ↓reduceIte, Nat.reduceEqDiff, Nat.reduceBEq, Nat.reduceSub, Nat.reduceAdd, Nat.reduceMul, Nat.reduceLT, Nat.reduceLeDiff, Int.reduceLE, Int.reduceLT, Int.reduceEq, Int.reduceNeg, Int.reduceToNat, Int.reduceMul, Int.reduceAdd, Int.reduceSub, Int.reduceBEq, Int.reduceBNe, reduceCtorEq] <;> rfl) (by (try simp only [decide_eq_true_eq, Bool.or_eq_true, Bool.and_eq_true, Bool.not_eq_true', decide_eq_false_iff_not, Bool.not_eq_eq_eq_not, Bool.not_true, Bool.not_false, beq_iff_eq, Bool.false_eq_true]) <;> (first | done | exact Iff.rfl | omega | simp)) (fun hc => ?_) (fun hc => ?_) <;> (try simp only [RN, if_true, if_false, Bool.false_eq_true, if_pos, reduceIte]) <;> (try first | refine T_exit ?_ | refine T_ret ?_ | refine T_skip ?_)
  · refine T_rseq fun Kr hKr => ?_
    simp (disch := omega) only [RF, RO, RC, ↓reduceIte, Nat.reduceEqDiff, Nat.reduceBEq, Nat.reduceSub, Nat.reduceAdd, Nat.reduceMul, Nat.reduceLT, Nat.reduceLeDiff, Int.reduceLE, Int.reduceLT, Int.reduceEq, Int.reduceNeg, Int.reduceToNat, Int.reduceMul, Int.reduceAdd, Int.reduceSub, Int.reduceBEq, Int.reduceBNe, reduceCtorEq, RD, RFS, RFD]
    refine hKr _ _ ?_
    clear hKr Kr
    try simp only [RN, if_true, if_false, Bool.false_eq_true, if_pos, reduceIte]
    try first | refine T_exit ?_ | refine T_ret ?_ | refine T_skip ?_
    simp only [blkQ, thenQ, loopQ, if_true]
    refine bodyQ_ret (by simp (disch := omega) only [RF, RO, RC, ↓reduceIte, Nat.reduceEqDiff, Nat.reduceBEq, Nat.reduceSub, Nat.reduceAdd, Nat.reduceMul, Nat.reduceLT, Nat.reduceLeDiff, Int.reduceLE, Int.reduceLT, Int.reduceEq, Int.reduceNeg, Int.reduceToNat, Int.reduceMul, Int.reduceAdd, Int.reduceSub, Int.reduceBEq, Int.reduceBNe, reduceCtorEq, RD, resAll, resOf, RFS, RFD]; rfl) GhV.refl ?_
    simp only [tup]
    rw [resTu, if_neg (by simpa using hd), if_pos (by omega)] at hK
    exact ⟨nn_FI, hK⟩
  simp only [blkQ, thenQ, loopQ, if_true]
  obtain ⟨m, rfl, hm1, hm2⟩ := hd.n0
  obtain ⟨j, rfl⟩ : ∃ j : Nat, k = j := ⟨k.toNat, by omega⟩
  rw [resTu, if_neg (by simpa using hd), if_neg (by omega)] at hK
  simp only [Int.toNat_natCast] at hK
  refine T_rseq fun Kr hKr => ?_
  simp (disch := omega) only [RF, RO, RC, ↓reduceIte, Nat.reduceEqDiff, Nat.reduceBEq, Nat.reduceSub, Nat.reduceAdd, Nat.reduceMul, Nat.reduceLT, Nat.reduceLeDiff, Int.reduceLE, Int.reduceLT, Int.reduceEq, Int.reduceNeg, Int.reduceToNat, Int.reduceMul, Int.reduceAdd, Int.reduceSub, Int.reduceBEq, Int.reduceBNe, reduceCtorEq, RD, RFS, RFD]
  refine both_spec hcc ht hs hd ?_
  have hf : By 32 (bothK c s m) := bothK_by hs hm2
  have hlf := hf.len
  generalize bothK c s m = p at hf hlf hK
  have hl1 := (@tu1_by 32 c s p hcc hs hf j).len
  have hl2 := (@tu2_by 32 c s p hcc hs hf j).len
  simp (disch := omega) only [RF, RO, RC, ↓reduceIte, Nat.reduceEqDiff, Nat.reduceBEq, Nat.reduceSub, Nat.reduceAdd, Nat.reduceMul, Nat.reduceLT, Nat.reduceLeDiff, Int.reduceLE, Int.reduceLT, Int.reduceEq, Int.reduceNeg, Int.reduceToNat, Int.reduceMul, Int.reduceAdd, Int.reduceSub, Int.reduceBEq, Int.reduceBNe, reduceCtorEq, RD, RFS, RFD]
  refine hKr _ _ ?_
  clear hKr Kr
  try simp only [blkQ, thenQ, loopQ]
  try simp only [RN, if_true, if_false, Bool.false_eq_true, if_pos, reduceIte]
  try first | refine T_exit ?_ | refine T_ret ?_ | refine T_skip ?_
  have h6 := getG _ _ _ (@sixT_len 32 c s p hlc hls hlf) (@sixT_get j c s p (by omega))
  have e1 := @fill_P 32 (.int .u8 0) c s hlc hls
  have e2 := @fill_P 32 (.int .u8 0) s c hls hlc
  have e3 := @fill_P 32 (.int .u8 0) p s hlf hls
  have e4 := @fill_P 32 (.int .u8 0) s p hls hlf
  have e5 := @fill_P 32 (.int .u8 0) c p hlc hlf
  have e6 := @fill_P 32 (.int .u8 0) p c hlf hlc
  simp only [Nat.reduceAdd] at e1 e2 e3 e4 e5 e6 h6
  have h7 : fillL (repl (List.replicate 64 (.int .u8 0)) 6) [(0, 64, aggL (PC c s)), (64, 64, aggL (PC s c)), (128, 64, aggL (PC p s)), (192, 64, aggL (PC s p)), (256, 64, aggL (PC c p)), (320, 64, aggL (PC p c))] = some (sixT c s p).flatten := by
    have := fillG (e := 64) (sixT c s p) [] (repl (List.replicate 64 (.int .u8 0)) 6) (sixT_len (m := 32) hlc hls hlf) (by rw [repl_rep]; simp [sixT, sixX])
    simpa [prt, sixT, sixX] using this
  have h8 := fun {H : BH} {i : Nat} => @st_P 32 H i (.int .u8 0) (tu1 c s p j) (tu2 c s p j) hl1 hl2
  have h9 := @getN_P1 32 (tu1 c s p j) (tu2 c s p j) hl1
  have h10 := @getN_P2 32 (tu1 c s p j) (tu2 c s p j) hl1 hl2
  simp only [Nat.reduceAdd] at h8
  generalize (sixT c s p).flatten = X at h6 h7
  simp only [PC] at e1 e2 e3 e4 e5 e6 h6 h7 h8 h9 h10
  refine T_rseq fun Kr hKr => ?_
  simp (disch := omega) only [RF, RO, RC, ↓reduceIte, Nat.reduceEqDiff, Nat.reduceBEq, Nat.reduceSub, Nat.reduceAdd, Nat.reduceMul, Nat.reduceLT, Nat.reduceLeDiff, Int.reduceLE, Int.reduceLT, Int.reduceEq, Int.reduceNeg, Int.reduceToNat, Int.reduceMul, Int.reduceAdd, Int.reduceSub, Int.reduceBEq, Int.reduceBNe, reduceCtorEq, RD, RFS, RFD, e1, e2, e3, e4, e5, e6, h7, h6, h8]
  refine hKr _ _ ?_
  clear hKr Kr
  try simp only [RN, if_true, if_false, Bool.false_eq_true, if_pos, reduceIte]
  try first | refine T_exit ?_ | refine T_ret ?_ | refine T_skip ?_
  refine T_rseq fun Kr hKr => ?_
  simp (disch := omega) only [RF, RO, RC, ↓reduceIte, Nat.reduceEqDiff, Nat.reduceBEq, Nat.reduceSub, Nat.reduceAdd, Nat.reduceMul, Nat.reduceLT, Nat.reduceLeDiff, Int.reduceLE, Int.reduceLT, Int.reduceEq, Int.reduceNeg, Int.reduceToNat, Int.reduceMul, Int.reduceAdd, Int.reduceSub, Int.reduceBEq, Int.reduceBNe, reduceCtorEq, RD, RFS, RFD, h9, h10]
  refine hKr _ _ ?_
  clear hKr Kr
  try simp only [RN, if_true, if_false, Bool.false_eq_true, if_pos, reduceIte]
  try first | refine T_exit ?_ | refine T_ret ?_ | refine T_skip ?_
  refine T_rseq fun Kr hKr => ?_
  simp (disch := omega) only [RF, RO, RC, ↓reduceIte, Nat.reduceEqDiff, Nat.reduceBEq, Nat.reduceSub, Nat.reduceAdd, Nat.reduceMul, Nat.reduceLT, Nat.reduceLeDiff, Int.reduceLE, Int.reduceLT, Int.reduceEq, Int.reduceNeg, Int.reduceToNat, Int.reduceMul, Int.reduceAdd, Int.reduceSub, Int.reduceBEq, Int.reduceBNe, reduceCtorEq, RD, RFS, RFD]
  refine hKr _ _ ?_
  clear hKr Kr
  try simp only [RN, if_true, if_false, Bool.false_eq_true, if_pos, reduceIte]
  try first | refine T_exit ?_ | refine T_ret ?_ | refine T_skip ?_
  refine bodyQ_ret (by simp (disch := omega) only [RF, RO, RC, ↓reduceIte, Nat.reduceEqDiff, Nat.reduceBEq, Nat.reduceSub, Nat.reduceAdd, Nat.reduceMul, Nat.reduceLT, Nat.reduceLeDiff, Int.reduceLE, Int.reduceLT, Int.reduceEq, Int.reduceNeg, Int.reduceToNat, Int.reduceMul, Int.reduceAdd, Int.reduceSub, Int.reduceBEq, Int.reduceBNe, reduceCtorEq, RD, resAll, resOf, RFS, RFD]; rfl) GhV.refl ?_
  simp only [tup]
  exact ⟨nn_FI, hK⟩

/-! ### The laws' comparisons -/
theorem eqByteA32_spec {x : Bool} {p q : List Nat} {H : BH} {K : Value → BH → Prop} (hp : By 32 p) (hq : By 32 q) (hK : K (.bool (decide (p = q))) H) : CallX x F_laws_eqByteA32 [PL p, PL q] H K := by
  have hlp := hp.len
  have hlq := hq.len
  refine callP (by repeat' first | exact NNL.nil | exact NN.int | exact NN.bool | exact NN.fz | exact NN.nil | exact NN.string | exact NN.undef | (refine NNL.cons ?_ ?_) | (refine NN.tuple ?_) | (refine NN.agg ?_) | (refine NN.func ?_) | (refine NNL.append ?_ ?_) | exact NNL.map (fun _ => NN.int) | exact NNL.map (fun _ => NN.bool) | exact NNL.map (fun _ => NN.fz) | exact NNL.map (fun _ => NN.string) | exact NNL.replicate NN.int | exact NNL.replicate NN.bool | assumption) ?_
  refine CallX_body Γ_laws_eqByteA32 ?_
  simp only [A_laws_eqByteA32, T_aiff]
  refine T_rseq fun Kr hKr => ?_
  simp (disch := omega) only [RF, RO, RC, ↓reduceIte, Nat.reduceEqDiff, Nat.reduceBEq, Nat.reduceSub, Nat.reduceAdd, Nat.reduceMul, Nat.reduceLT, Nat.reduceLeDiff, Int.reduceLE, Int.reduceLT, Int.reduceEq, Int.reduceNeg, Int.reduceToNat, Int.reduceMul, Int.reduceAdd, Int.reduceSub, Int.reduceBEq, Int.reduceBNe, reduceCtorEq, RD]
  refine hKr _ _ ?_
  clear hKr Kr
  try simp only [RN, if_true, if_false, Bool.false_eq_true, if_pos, reduceIte]
  try first | refine T_exit ?_ | refine T_ret ?_ | refine T_skip ?_
  refine T_rseq fun Kr hKr => ?_
  simp (disch := omega) only [RF, RO, RC, ↓reduceIte, Nat.reduceEqDiff, Nat.reduceBEq, Nat.reduceSub, Nat.reduceAdd, Nat.reduceMul, Nat.reduceLT, Nat.reduceLeDiff, Int.reduceLE, Int.reduceLT, Int.reduceEq, Int.reduceNeg, Int.reduceToNat, Int.reduceMul, Int.reduceAdd, Int.reduceSub, Int.reduceBEq, Int.reduceBNe, reduceCtorEq, RD]
  refine hKr _ _ ?_
  clear hKr Kr
  try simp only [RN, if_true, if_false, Bool.false_eq_true, if_pos, reduceIte]
  try first | refine T_exit ?_ | refine T_ret ?_ | refine T_skip ?_
  refine T_wloop (fun m f H' => ∃ k, k ≤ 32 ∧ m = 32 - k ∧ f 2 = P 0 0 ∧ f 3 = P 1 0 ∧ f 5 = I k ∧ H' = [some (p.map N8), some (q.map N8)] ∧ ∀ i, i < k → nl p i = nl q i) (32) ?_ ?_
  · refine ⟨_, _, Gh.refl, 0, by omega, by omega, ?_, ?_, ?_, rfl, by omega⟩
    any_goals (simp (disch := omega) only [RF, RO, RC, ↓reduceIte, Nat.reduceEqDiff, Nat.reduceBEq, Nat.reduceSub, Nat.reduceAdd, Nat.reduceMul, Nat.reduceLT, Nat.reduceLeDiff, Int.reduceLE, Int.reduceLT, Int.reduceEq, Int.reduceNeg, Int.reduceToNat, Int.reduceMul, Int.reduceAdd, Int.reduceSub, Int.reduceBEq, Int.reduceBNe, reduceCtorEq, RD, ren_PL, ren_AB, ren_AI, *] <;> rfl)
  · rintro m f H' R ⟨k, hk, rfl, h1, h2, h4, rfl, hall⟩ hN hX hR hE
    simp only [A_laws_eqByteA32.l0, T_aiff]
    refine T_rseq fun Kr hKr => ?_
    simp (disch := omega) only [RF, RO, RC, ↓reduceIte, Nat.reduceEqDiff, Nat.reduceBEq, Nat.reduceSub, Nat.reduceAdd, Nat.reduceMul, Nat.reduceLT, Nat.reduceLeDiff, Int.reduceLE, Int.reduceLT, Int.reduceEq, Int.reduceNeg, Int.reduceToNat, Int.reduceMul, Int.reduceAdd, Int.reduceSub, Int.reduceBEq, Int.reduceBNe, reduceCtorEq, RD, h4]
    refine hKr _ _ ?_
    clear hKr Kr
    try simp only [RN, if_true, if_false, Bool.false_eq_true, if_pos, reduceIte]
    try first | refine T_exit ?_ | refine T_ret ?_ | refine T_skip ?_
    refine T_csplit (p := k < 32) (by simp only [RF, RO, RC, ↓reduceIte, Nat.reduceEqDiff, Nat.reduceBEq, Nat.reduceSub, Nat.reduceAdd, Nat.reduceMul, Nat.reduceLT, Nat.reduceLeDiff, Int.reduceLE, Int.reduceLT, Int.reduceEq, Int.reduceNeg, Int.reduceToNat, Int.reduceMul, Int.reduceAdd, Int.reduceSub, Int.reduceBEq, Int.reduceBNe, reduceCtorEq] <;> rfl) (by (try simp only [decide_eq_true_eq, Bool.or_eq_true, Bool.and_eq_true, Bool.not_eq_true', decide_eq_false_iff_not, Bool.not_eq_eq_eq_not, Bool.not_true, Bool.not_false, beq_iff_eq, Bool.false_eq_true]) <;> (first | done | exact Iff.rfl | omega | simp)) (fun hc => ?_) (fun hc => ?_) <;> (try simp only [RN, if_true, if_false, Bool.false_eq_true, if_pos, reduceIte]) <;> (try first | refine T_exit ?_ | refine T_ret ?_ | refine T_skip ?_)
    · first | refine T_bfree rfl ?_ | refine T_bfree' rfl ?_
      try simp only [RN, if_true, if_false, Bool.false_eq_true, if_pos, reduceIte]
      try first | refine T_exit ?_ | refine T_ret ?_ | refine T_skip ?_
      refine T_rseq fun Kr hKr => ?_
      simp (disch := omega) only [RF, RO, RC, ↓reduceIte, Nat.reduceEqDiff, Nat.reduceBEq, Nat.reduceSub, Nat.reduceAdd, Nat.reduceMul, Nat.reduceLT, Nat.reduceLeDiff, Int.reduceLE, Int.reduceLT, Int.reduceEq, Int.reduceNeg, Int.reduceToNat, Int.reduceMul, Int.reduceAdd, Int.reduceSub, Int.reduceBEq, Int.reduceBNe, reduceCtorEq, RD, h1, h2, h4, hlp, hlq]
      refine hKr _ _ ?_
      clear hKr Kr
      try simp only [RN, if_true, if_false, Bool.false_eq_true, if_pos, reduceIte]
      try first | refine T_exit ?_ | refine T_ret ?_ | refine T_skip ?_
      refine T_csplit (p := nl p k ≠ nl q k) (by simp only [RF, RO, RC, ↓reduceIte, Nat.reduceEqDiff, Nat.reduceBEq, Nat.reduceSub, Nat.reduceAdd, Nat.reduceMul, Nat.reduceLT, Nat.reduceLeDiff, Int.reduceLE, Int.reduceLT, Int.reduceEq, Int.reduceNeg, Int.reduceToNat, Int.reduceMul, Int.reduceAdd, Int.reduceSub, Int.reduceBEq, Int.reduceBNe, reduceCtorEq] <;> rfl) (by (try simp only [decide_eq_true_eq, Bool.or_eq_true, Bool.and_eq_true, Bool.not_eq_true', decide_eq_false_iff_not, Bool.not_eq_eq_eq_not, Bool.not_true, Bool.not_false, beq_iff_eq, Bool.false_eq_true]) <;> (first | done | exact Iff.rfl | omega | simp)) (fun hc => ?_) (fun hc => ?_) <;> (try simp only [RN, if_true, if_false, Bool.false_eq_true, if_pos, reduceIte]) <;> (try first | refine T_exit ?_ | refine T_ret ?_ | refine T_skip ?_)
      · refine T_rseq fun Kr hKr => ?_
        simp (disch := omega) only [RF, RO, RC, ↓reduceIte, Nat.reduceEqDiff, Nat.reduceBEq, Nat.reduceSub, Nat.reduceAdd, Nat.reduceMul, Nat.reduceLT, Nat.reduceLeDiff, Int.reduceLE, Int.reduceLT, Int.reduceEq, Int.reduceNeg, Int.reduceToNat, Int.reduceMul, Int.reduceAdd, Int.reduceSub, Int.reduceBEq, Int.reduceBNe, reduceCtorEq, RD]
        refine hKr _ _ ?_
        clear hKr Kr
        try simp only [RN, if_true, if_false, Bool.false_eq_true, if_pos, reduceIte]
        try first | refine T_exit ?_ | refine T_ret ?_ | refine T_skip ?_
        refine hR _ _ ?_
        refine bodyQ_ret (by simp (disch := omega) only [RF, RO, RC, ↓reduceIte, Nat.reduceEqDiff, Nat.reduceBEq, Nat.reduceSub, Nat.reduceAdd, Nat.reduceMul, Nat.reduceLT, Nat.reduceLeDiff, Int.reduceLE, Int.reduceLT, Int.reduceEq, Int.reduceNeg, Int.reduceToNat, Int.reduceMul, Int.reduceAdd, Int.reduceSub, Int.reduceBEq, Int.reduceBNe, reduceCtorEq, RD, resAll, resOf]; rfl) GhV.refl ?_
        simp only [tup]
        refine ⟨NN.bool, ?_⟩
        have : ¬ p = q := fun e => hc (by rw [e])
        simpa [this] using hK
      · refine T_reg_k fun Kr hKr => ?_
        simp (disch := omega) only [RF, RO, RC, ↓reduceIte, Nat.reduceEqDiff, Nat.reduceBEq, Nat.reduceSub, Nat.reduceAdd, Nat.reduceMul, Nat.reduceLT, Nat.reduceLeDiff, Int.reduceLE, Int.reduceLT, Int.reduceEq, Int.reduceNeg, Int.reduceToNat, Int.reduceMul, Int.reduceAdd, Int.reduceSub, Int.reduceBEq, Int.reduceBNe, reduceCtorEq, RD, h4]
        refine hKr _ _ ?_
        clear hKr Kr
        refine hN (32 - (k + 1)) _ _ _ _ (by omega) Gh.refl ⟨k + 1, by omega, rfl, ?_, ?_, ?_, rfl, fun i hi => ?_⟩
        any_goals (simp (disch := omega) only [RF, RO, RC, ↓reduceIte, Nat.reduceEqDiff, Nat.reduceBEq, Nat.reduceSub, Nat.reduceAdd, Nat.reduceMul, Nat.reduceLT, Nat.reduceLeDiff, Int.reduceLE, Int.reduceLT, Int.reduceEq, Int.reduceNeg, Int.reduceToNat, Int.reduceMul, Int.reduceAdd, Int.reduceSub, Int.reduceBEq, Int.reduceBNe, reduceCtorEq, RD, ren_PL, ren_AB, ren_AI, *] <;> rfl)
        rcases Nat.lt_or_ge i k with h | h
        · exact hall i h
        · obtain rfl : i = k := by omega
          exact Decidable.not_not.1 hc
    · refine hX _ _ ?_
      refine T_rseq fun Kr hKr => ?_
      simp (disch := omega) only [RF, RO, RC, ↓reduceIte, Nat.reduceEqDiff, Nat.reduceBEq, Nat.reduceSub, Nat.reduceAdd, Nat.reduceMul, Nat.reduceLT, Nat.reduceLeDiff, Int.reduceLE, Int.reduceLT, Int.reduceEq, Int.reduceNeg, Int.reduceToNat, Int.reduceMul, Int.reduceAdd, Int.reduceSub, Int.reduceBEq, Int.reduceBNe, reduceCtorEq, RD]
      refine hKr _ _ ?_
      clear hKr Kr
      try simp only [RN, if_true, if_false, Bool.false_eq_true, if_pos, reduceIte]
      try first | refine T_exit ?_ | refine T_ret ?_ | refine T_skip ?_
      refine bodyQ_ret (by simp (disch := omega) only [RF, RO, RC, ↓reduceIte, Nat.reduceEqDiff, Nat.reduceBEq, Nat.reduceSub, Nat.reduceAdd, Nat.reduceMul, Nat.reduceLT, Nat.reduceLeDiff, Int.reduceLE, Int.reduceLT, Int.reduceEq, Int.reduceNeg, Int.reduceToNat, Int.reduceMul, Int.reduceAdd, Int.reduceSub, Int.reduceBEq, Int.reduceBNe, reduceCtorEq, RD, resAll, resOf]; rfl) GhV.refl ?_
      simp only [tup]
      refine ⟨NN.bool, ?_⟩
      have : p = q := nl_ext (by omega) fun i hi => hall i (by omega)
      simpa [this] using hK
/-- Flags are equal to themselves. -/
theorem eqFlags_same {x : Bool} {n : Int} {c t s : List Nat} {H : BH} {K : Value → BH → Prop} (hc : By 32 c) (ht : By 32 t) (hs : By 32 s) (hK : K (.bool true) H) :
    CallX x F_laws_eqFlags [FV n c t s, FV n c t s] H K := by
  have hlc := hc.len
  have hlt := ht.len
  have hls := hs.len
  refine callP (by exact .cons nn_F (.cons nn_F .nil)) ?_
  refine CallX_body Γ_laws_eqFlags ?_
  simp only [A_laws_eqFlags, T_aiff]
  refine T_rseq fun Kr hKr => ?_
  simp (disch := omega) only [RF, RO, RC, ↓reduceIte, Nat.reduceEqDiff, Nat.reduceBEq, Nat.reduceSub, Nat.reduceAdd, Nat.reduceMul, Nat.reduceLT, Nat.reduceLeDiff, Int.reduceLE, Int.reduceLT, Int.reduceEq, Int.reduceNeg, Int.reduceToNat, Int.reduceMul, Int.reduceAdd, Int.reduceSub, Int.reduceBEq, Int.reduceBNe, reduceCtorEq, RD, RFS]
  refine hKr _ _ ?_
  clear hKr Kr
  try simp only [RN, if_true, if_false, Bool.false_eq_true, if_pos, reduceIte]
  try first | refine T_exit ?_ | refine T_ret ?_ | refine T_skip ?_
  refine T_rseq fun Kr hKr => ?_
  simp (disch := omega) only [RF, RO, RC, ↓reduceIte, Nat.reduceEqDiff, Nat.reduceBEq, Nat.reduceSub, Nat.reduceAdd, Nat.reduceMul, Nat.reduceLT, Nat.reduceLeDiff, Int.reduceLE, Int.reduceLT, Int.reduceEq, Int.reduceNeg, Int.reduceToNat, Int.reduceMul, Int.reduceAdd, Int.reduceSub, Int.reduceBEq, Int.reduceBNe, reduceCtorEq, RD, RFS]
  refine hKr _ _ ?_
  clear hKr Kr
  try simp only [RN, if_true, if_false, Bool.false_eq_true, if_pos, reduceIte]
  try first | refine T_exit ?_ | refine T_ret ?_ | refine T_skip ?_
  refine T_cseq (t := false) (by simp (disch := omega) only [RF, RO, RC, ↓reduceIte, Nat.reduceEqDiff, Nat.reduceBEq, Nat.reduceSub, Nat.reduceAdd, Nat.reduceMul, Nat.reduceLT, Nat.reduceLeDiff, Int.reduceLE, Int.reduceLT, Int.reduceEq, Int.reduceNeg, Int.reduceToNat, Int.reduceMul, Int.reduceAdd, Int.reduceSub, Int.reduceBEq, Int.reduceBNe, reduceCtorEq, RD]) ?_
  try simp only [RN, if_true, if_false, Bool.false_eq_true, if_pos, reduceIte]
  try first | refine T_exit ?_ | refine T_ret ?_ | refine T_skip ?_
  refine T_rseq fun Kr hKr => ?_
  simp (disch := omega) only [RF, RO, RC, ↓reduceIte, Nat.reduceEqDiff, Nat.reduceBEq, Nat.reduceSub, Nat.reduceAdd, Nat.reduceMul, Nat.reduceLT, Nat.reduceLeDiff, Int.reduceLE, Int.reduceLT, Int.reduceEq, Int.reduceNeg, Int.reduceToNat, Int.reduceMul, Int.reduceAdd, Int.reduceSub, Int.reduceBEq, Int.reduceBNe, reduceCtorEq, RD, RFS, RFD]
  refine eqByteA32_spec hc hc ?_
  rw [decide_eq_true rfl]
  simp (disch := omega) only [RF, RO, RC, ↓reduceIte, Nat.reduceEqDiff, Nat.reduceBEq, Nat.reduceSub, Nat.reduceAdd, Nat.reduceMul, Nat.reduceLT, Nat.reduceLeDiff, Int.reduceLE, Int.reduceLT, Int.reduceEq, Int.reduceNeg, Int.reduceToNat, Int.reduceMul, Int.reduceAdd, Int.reduceSub, Int.reduceBEq, Int.reduceBNe, reduceCtorEq, RD]
  refine hKr _ _ ?_
  clear hKr Kr
  try simp only [blkQ, thenQ, loopQ]
  try simp only [RN, if_true, if_false, Bool.false_eq_true, if_pos, reduceIte]
  try first | refine T_exit ?_ | refine T_ret ?_ | refine T_skip ?_
  refine T_cseq (t := false) (by simp (disch := omega) only [RF, RO, RC, ↓reduceIte, Nat.reduceEqDiff, Nat.reduceBEq, Nat.reduceSub, Nat.reduceAdd, Nat.reduceMul, Nat.reduceLT, Nat.reduceLeDiff, Int.reduceLE, Int.reduceLT, Int.reduceEq, Int.reduceNeg, Int.reduceToNat, Int.reduceMul, Int.reduceAdd, Int.reduceSub, Int.reduceBEq, Int.reduceBNe, reduceCtorEq, RD]) ?_
  try simp only [RN, if_true, if_false, Bool.false_eq_true, if_pos, reduceIte]
  try first | refine T_exit ?_ | refine T_ret ?_ | refine T_skip ?_
  refine T_rseq fun Kr hKr => ?_
  simp (disch := omega) only [RF, RO, RC, ↓reduceIte, Nat.reduceEqDiff, Nat.reduceBEq, Nat.reduceSub, Nat.reduceAdd, Nat.reduceMul, Nat.reduceLT, Nat.reduceLeDiff, Int.reduceLE, Int.reduceLT, Int.reduceEq, Int.reduceNeg, Int.reduceToNat, Int.reduceMul, Int.reduceAdd, Int.reduceSub, Int.reduceBEq, Int.reduceBNe, reduceCtorEq, RD, RFS, RFD]
  refine eqByteA32_spec ht ht ?_
  rw [decide_eq_true rfl]
  simp (disch := omega) only [RF, RO, RC, ↓reduceIte, Nat.reduceEqDiff, Nat.reduceBEq, Nat.reduceSub, Nat.reduceAdd, Nat.reduceMul, Nat.reduceLT, Nat.reduceLeDiff, Int.reduceLE, Int.reduceLT, Int.reduceEq, Int.reduceNeg, Int.reduceToNat, Int.reduceMul, Int.reduceAdd, Int.reduceSub, Int.reduceBEq, Int.reduceBNe, reduceCtorEq, RD]
  refine hKr _ _ ?_
  clear hKr Kr
  try simp only [blkQ, thenQ, loopQ]
  try simp only [RN, if_true, if_false, Bool.false_eq_true, if_pos, reduceIte]
  try first | refine T_exit ?_ | refine T_ret ?_ | refine T_skip ?_
  refine T_cseq (t := false) (by simp (disch := omega) only [RF, RO, RC, ↓reduceIte, Nat.reduceEqDiff, Nat.reduceBEq, Nat.reduceSub, Nat.reduceAdd, Nat.reduceMul, Nat.reduceLT, Nat.reduceLeDiff, Int.reduceLE, Int.reduceLT, Int.reduceEq, Int.reduceNeg, Int.reduceToNat, Int.reduceMul, Int.reduceAdd, Int.reduceSub, Int.reduceBEq, Int.reduceBNe, reduceCtorEq, RD]) ?_
  try simp only [RN, if_true, if_false, Bool.false_eq_true, if_pos, reduceIte]
  try first | refine T_exit ?_ | refine T_ret ?_ | refine T_skip ?_
  refine T_rseq fun Kr hKr => ?_
  simp (disch := omega) only [RF, RO, RC, ↓reduceIte, Nat.reduceEqDiff, Nat.reduceBEq, Nat.reduceSub, Nat.reduceAdd, Nat.reduceMul, Nat.reduceLT, Nat.reduceLeDiff, Int.reduceLE, Int.reduceLT, Int.reduceEq, Int.reduceNeg, Int.reduceToNat, Int.reduceMul, Int.reduceAdd, Int.reduceSub, Int.reduceBEq, Int.reduceBNe, reduceCtorEq, RD, RFS, RFD]
  refine eqByteA32_spec hs hs ?_
  rw [decide_eq_true rfl]
  simp (disch := omega) only [RF, RO, RC, ↓reduceIte, Nat.reduceEqDiff, Nat.reduceBEq, Nat.reduceSub, Nat.reduceAdd, Nat.reduceMul, Nat.reduceLT, Nat.reduceLeDiff, Int.reduceLE, Int.reduceLT, Int.reduceEq, Int.reduceNeg, Int.reduceToNat, Int.reduceMul, Int.reduceAdd, Int.reduceSub, Int.reduceBEq, Int.reduceBNe, reduceCtorEq, RD]
  refine hKr _ _ ?_
  clear hKr Kr
  try simp only [blkQ, thenQ, loopQ]
  try simp only [RN, if_true, if_false, Bool.false_eq_true, if_pos, reduceIte]
  try first | refine T_exit ?_ | refine T_ret ?_ | refine T_skip ?_
  refine T_cseq (t := false) (by simp (disch := omega) only [RF, RO, RC, ↓reduceIte, Nat.reduceEqDiff, Nat.reduceBEq, Nat.reduceSub, Nat.reduceAdd, Nat.reduceMul, Nat.reduceLT, Nat.reduceLeDiff, Int.reduceLE, Int.reduceLT, Int.reduceEq, Int.reduceNeg, Int.reduceToNat, Int.reduceMul, Int.reduceAdd, Int.reduceSub, Int.reduceBEq, Int.reduceBNe, reduceCtorEq, RD]) ?_
  try simp only [RN, if_true, if_false, Bool.false_eq_true, if_pos, reduceIte]
  try first | refine T_exit ?_ | refine T_ret ?_ | refine T_skip ?_
  refine T_rseq fun Kr hKr => ?_
  simp (disch := omega) only [RF, RO, RC, ↓reduceIte, Nat.reduceEqDiff, Nat.reduceBEq, Nat.reduceSub, Nat.reduceAdd, Nat.reduceMul, Nat.reduceLT, Nat.reduceLeDiff, Int.reduceLE, Int.reduceLT, Int.reduceEq, Int.reduceNeg, Int.reduceToNat, Int.reduceMul, Int.reduceAdd, Int.reduceSub, Int.reduceBEq, Int.reduceBNe, reduceCtorEq, RD]
  refine hKr _ _ ?_
  clear hKr Kr
  try simp only [RN, if_true, if_false, Bool.false_eq_true, if_pos, reduceIte]
  try first | refine T_exit ?_ | refine T_ret ?_ | refine T_skip ?_
  refine bodyQ_ret (by simp (disch := omega) only [RF, RO, RC, ↓reduceIte, Nat.reduceEqDiff, Nat.reduceBEq, Nat.reduceSub, Nat.reduceAdd, Nat.reduceMul, Nat.reduceLT, Nat.reduceLeDiff, Int.reduceLE, Int.reduceLT, Int.reduceEq, Int.reduceNeg, Int.reduceToNat, Int.reduceMul, Int.reduceAdd, Int.reduceSub, Int.reduceBEq, Int.reduceBNe, reduceCtorEq, RD, resAll, resOf]; rfl) GhV.refl ?_
  simp only [tup]
  exact ⟨NN.bool, hK⟩
end Go.Bm
