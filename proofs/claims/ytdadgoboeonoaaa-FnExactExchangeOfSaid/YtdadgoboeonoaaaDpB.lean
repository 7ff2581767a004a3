/- Exchanges. -/
import Derived.Test.YtdadgoboeonoaaaDpA
set_option linter.unusedVariables false
set_option linter.unusedSimpArgs false
namespace Go.Bm
open Go Go.Am

def resEx (n : Int) (b w : List Nat) (k : Int) : (Int × List Nat × List Nat) × Int :=
  if ¬ Des n b w then ((0, z16, z16), 1) else if ¬ (0 ≤ k ∧ k ≤ 5) then ((0, z16, z16), 2) else ((n, ex1 b w (faceP b w n.toNat) k.toNat, ex2 b w (faceP b w n.toNat) k.toNat), 0)
theorem resEx_by {n : Int} {b w : List Nat} {k : Int} (hb : By 16 b) (hw : By 16 w) : By 16 (resEx n b w k).1.2.1 ∧ By 16 (resEx n b w k).1.2.2 := by
  unfold resEx
  split
  · exact ⟨z16_by, z16_by⟩
  · split
    · exact ⟨z16_by, z16_by⟩
    · rename_i hd _
      obtain ⟨m, rfl, hm1, hm2⟩ := (Decidable.not_not.1 hd).n0
      have hf : By 16 (faceP b w m) := backK_by (by omega)
      exact ⟨ex1_by hb hw hf, ex2_by hb hw hf⟩
def fst6 (k : Nat) : Nat := [0, 1, 1, 2, 0, 2].getD k 0
def snd6 (k : Nat) : Nat := [1, 0, 2, 0, 2, 1].getD k 0
theorem fst6_get {k : Nat} (h : k < 6) : getN none [I 0, I 1, I 1, I 2, I 0, I 2] k = some (I (fst6 k)) ∧ fst6 k < 3 := by
  match k, h with
  | 0, _ | 1, _ | 2, _ | 3, _ | 4, _ | 5, _ => exact ⟨rfl, by decide⟩
theorem snd6_get {k : Nat} (h : k < 6) : getN none [I 1, I 0, I 2, I 0, I 2, I 1] k = some (I (snd6 k)) ∧ snd6 k < 3 := by
  match k, h with
  | 0, _ | 1, _ | 2, _ | 3, _ | 4, _ | 5, _ => exact ⟨rfl, by decide⟩
theorem sel6 {a b c : List Nat} {k : Nat} (h : k < 6) : sel a b c (fst6 k) = ex1 a b c k ∧ sel a b c (snd6 k) = ex2 a b c k := by
  match k, h with
  | 0, _ | 1, _ | 2, _ | 3, _ | 4, _ | 5, _ => exact ⟨rfl, rfl⟩
theorem ones_3 {a b c : List Nat} : ([a.map N8, b.map N8, c.map N8].flatten).all one2 = true := by
  simp only [List.flatten_cons, List.flatten_nil, List.append_nil, List.all_append, ones_N, Bool.and_self]
theorem spec_ExchangeOf_spec {x : Bool} {n : Int} {b w : List Nat} {k : Int} {H : BH} {K : Value → BH → Prop} (hb : By 16 b) (hw : By 16 w)
    (hK : K (.tuple ⟨[DV (resEx n b w k).1.1 (resEx n b w k).1.2.1 (resEx n b w k).1.2.2, I (resEx n b w k).2]⟩) H) : CallX x F_spec_ExchangeOf [DV n b w, I k] H K := by
  have hlb := hb.len
  have hlw := hw.len
  have hz := z16_len
  refine callP (by exact .cons nn_D (.cons .int .nil)) ?_
  refine CallX_body Γ_spec_ExchangeOf ?_
  simp only [A_spec_ExchangeOf, T_aiff]
  refine T_rseq fun Kr hKr => ?_
  simp (disch := omega) only [RF, RO, RC, ↓reduceIte, Nat.reduceEqDiff, Nat.reduceBEq, Nat.reduceSub, Nat.reduceAdd, Nat.reduceMul, Nat.reduceLT, Nat.reduceLeDiff, Int.reduceLE, Int.reduceLT, Int.reduceEq, Int.reduceNeg, Int.reduceToNat, Int.reduceMul, Int.reduceAdd, Int.reduceSub, Int.reduceBEq, Int.reduceBNe, reduceCtorEq, RD, RDS]
  refine hKr _ _ ?_
  clear hKr Kr
  try simp only [RN, if_true, if_false, Bool.false_eq_true, if_pos, reduceIte]
  try first | refine T_exit ?_ | refine T_ret ?_ | refine T_skip ?_
  refine T_seq (T_block ?_)
  try simp only [RN, if_true, if_false, Bool.false_eq_true, if_pos, reduceIte]
  try first | refine T_exit ?_ | refine T_ret ?_ | refine T_skip ?_
  refine T_rseq fun Kr hKr => ?_
  simp (disch := omega) only [RF, RO, RC, ↓reduceIte, Nat.reduceEqDiff, Nat.reduceBEq, Nat.reduceSub, Nat.reduceAdd, Nat.reduceMul, Nat.reduceLT, Nat.reduceLeDiff, Int.reduceLE, Int.reduceLT, Int.reduceEq, Int.reduceNeg, Int.reduceToNat, Int.reduceMul, Int.reduceAdd, Int.reduceSub, Int.reduceBEq, Int.reduceBNe, reduceCtorEq, RD, RDS, RDD]
  refine l01Is_spec hb hw ?_
  simp (disch := omega) only [RF, RO, RC, ↓reduceIte, Nat.reduceEqDiff, Nat.reduceBEq, Nat.reduceSub, Nat.reduceAdd, Nat.reduceMul, Nat.reduceLT, Nat.reduceLeDiff, Int.reduceLE, Int.reduceLT, Int.reduceEq, Int.reduceNeg, Int.reduceToNat, Int.reduceMul, Int.reduceAdd, Int.reduceSub, Int.reduceBEq, Int.reduceBNe, reduceCtorEq, RD]
  refine hKr _ _ ?_
  clear hKr Kr
  try simp only [blkQ, thenQ, loopQ]
  try simp only [RN, if_true, if_false, Bool.false_eq_true, if_pos, reduceIte]
  try first | refine T_exit ?_ | refine T_ret ?_ | refine T_skip ?_
  refine T_csplit1 (p := ¬ Des n b w) (by simp only [RF, RO, RC, ↓reduceIte, Nat.reduceEqDiff, Nat.reduceBEq, Nat.reduceSub, Nat.reduceAdd, Nat.reduceMul, Nat.reduceLT, Nat.reduceLeDiff, Int.reduceLE, Int.reduceLT, Int.reduceEq, Int.reduceNeg, Int.reduceToNat, Int.reduceMul, Int.reduceAdd, Int.reduceSub, Int.reduceBEq, Int.reduceBNe, reduceCtorEq] <;> rfl) (by (try simp only [decide_eq_true_eq, Bool.or_eq_true, Bool.and_eq_true, Bool.not_eq_true', decide_eq_false_iff_not, Bool.not_eq_eq_eq_not, Bool.not_true, Bool.not_false, beq_iff_eq, Bool.false_eq_true]) <;> (first | done | exact Iff.rfl | omega | simp)) (fun hc => ?_) (fun hc => ?_) <;> (try simp only [RN, if_true, if_false, Bool.false_eq_true, if_pos, reduceIte]) <;> (try first | refine T_exit ?_ | refine T_ret ?_ | refine T_skip ?_)
  · refine T_rseq fun Kr hKr => ?_
    simp (disch := omega) only [RF, RO, RC, ↓reduceIte, Nat.reduceEqDiff, Nat.reduceBEq, Nat.reduceSub, Nat.reduceAdd, Nat.reduceMul, Nat.reduceLT, Nat.reduceLeDiff, Int.reduceLE, Int.reduceLT, Int.reduceEq, Int.reduceNeg, Int.reduceToNat, Int.reduceMul, Int.reduceAdd, Int.reduceSub, Int.reduceBEq, Int.reduceBNe, reduceCtorEq, RD, RDS, RDD]
    refine hKr _ _ ?_
    clear hKr Kr
    try simp only [RN, if_true, if_false, Bool.false_eq_true, if_pos, reduceIte]
    try first | refine T_exit ?_ | refine T_ret ?_ | refine T_skip ?_
    simp only [blkQ, thenQ, loopQ, if_true]
    refine bodyQ_ret (by simp (disch := omega) only [RF, RO, RC, ↓reduceIte, Nat.reduceEqDiff, Nat.reduceBEq, Nat.reduceSub, Nat.reduceAdd, Nat.reduceMul, Nat.reduceLT, Nat.reduceLeDiff, Int.reduceLE, Int.reduceLT, Int.reduceEq, Int.reduceNeg, Int.reduceToNat, Int.reduceMul, Int.reduceAdd, Int.reduceSub, Int.reduceBEq, Int.reduceBNe, reduceCtorEq, RD, resAll, resOf, RDS, RDD]; rfl) GhV.refl ?_
    simp only [tup]
    rw [resEx, if_pos hc] at hK
    exact ⟨nn_DI, hK⟩
  have hd := Decidable.not_not.1 hc
  refine T_rseq fun Kr hKr => ?_
  simp (disch := omega) only [RF, RO, RC, ↓reduceIte, Nat.reduceEqDiff, Nat.reduceBEq, Nat.reduceSub, Nat.reduceAdd, Nat.reduceMul, Nat.reduceLT, Nat.reduceLeDiff, Int.reduceLE, Int.reduceLT, Int.reduceEq, Int.reduceNeg, Int.reduceToNat, Int.reduceMul, Int.reduceAdd, Int.reduceSub, Int.reduceBEq, Int.reduceBNe, reduceCtorEq, RD]
  refine l01In_spec ?_
  simp (disch := omega) only [RF, RO, RC, ↓reduceIte, Nat.reduceEqDiff, Nat.reduceBEq, Nat.reduceSub, Nat.reduceAdd, Nat.reduceMul, Nat.reduceLT, Nat.reduceLeDiff, Int.reduceLE, Int.reduceLT, Int.reduceEq, Int.reduceNeg, Int.reduceToNat, Int.reduceMul, Int.reduceAdd, Int.reduceSub, Int.reduceBEq, Int.reduceBNe, reduceCtorEq, RD]
  refine hKr _ _ ?_
  clear hKr Kr
  try simp only [blkQ, thenQ, loopQ]
  try simp only [RN, if_true, if_false, Bool.false_eq_true, if_pos, reduceIte]
  try first | refine T_exit ?_ | refine T_ret ?_ | refine T_skip ?_
  refine T_csplit1 (p := ¬ (0 ≤ k ∧ k ≤ 5)) (by simp only [RF, RO, RC, ↓reduceIte, Nat.reduceEqDiff, Nat.reduceBEq, Nat.reduceSub, Nat.reduceAdd, Nat.reduceMul, Nat.reduceLT, Nat.reduceLeDiff, Int.reduceLE, Int.reduceLT, Int.reduceEq, Int.reduceNeg, Int.reduceToNat, Int.reduceMul, Int.reduceAdd, Int.reduceSub, Int.reduceBEq, Int.reduceBNe, reduceCtorEq] <;> rfl) (by (try simp only [decide_eq_true_eq, Bool.or_eq_true, Bool.and_eq_true, Bool.not_eq_true', decide_eq_false_iff_not, Bool.not_eq_eq_eq_not, Bool.not_true, Bool.not_false, beq_iff_eq, Bool.false_eq_true]) <;> (first | done | exact Iff.rfl | omega | simp)) (fun hc => ?_) (fun hc => ?_) <;> (try simp only [RN, if_true, if_false, Bool.false_eq_true, if_pos, reduceIte]) <;> (try first | refine T_exit ?_ | refine T_ret ?_ | refine T_skip ?_)
  · refine T_rseq fun Kr hKr => ?_
    simp (disch := omega) only [RF, RO, RC, ↓reduceIte, Nat.reduceEqDiff, Nat.reduceBEq, Nat.reduceSub, Nat.reduceAdd, Nat.reduceMul, Nat.reduceLT, Nat.reduceLeDiff, Int.reduceLE, Int.reduceLT, Int.reduceEq, Int.reduceNeg, Int.reduceToNat, Int.reduceMul, Int.reduceAdd, Int.reduceSub, Int.reduceBEq, Int.reduceBNe, reduceCtorEq, RD, RDS, RDD]
    refine hKr _ _ ?_
    clear hKr Kr
    try simp only [RN, if_true, if_false, Bool.false_eq_true, if_pos, reduceIte]
    try first | refine T_exit ?_ | refine T_ret ?_ | refine T_skip ?_
    simp only [blkQ, thenQ, loopQ, if_true]
    refine bodyQ_ret (by simp (disch := omega) only [RF, RO, RC, ↓reduceIte, Nat.reduceEqDiff, Nat.reduceBEq, Nat.reduceSub, Nat.reduceAdd, Nat.reduceMul, Nat.reduceLT, Nat.reduceLeDiff, Int.reduceLE, Int.reduceLT, Int.reduceEq, Int.reduceNeg, Int.reduceToNat, Int.reduceMul, Int.reduceAdd, Int.reduceSub, Int.reduceBEq, Int.reduceBNe, reduceCtorEq, RD, resAll, resOf, RDS, RDD]; rfl) GhV.refl ?_
    simp only [tup]
    rw [resEx, if_neg (by simpa using hd), if_pos hc] at hK
    exact ⟨nn_DI, hK⟩
  simp only [blkQ, thenQ, loopQ, if_true]
  have hk := Decidable.not_not.1 hc
  obtain ⟨m, rfl, hm1, hm2⟩ := hd.n0
  obtain ⟨j, rfl⟩ : ∃ j : Nat, k = j := ⟨k.toNat, by omega⟩
  have hf : By 16 (faceP b w m) := backK_by (by omega)
  have hlf := hf.len
  rw [resEx, if_neg (by simpa using hd), if_neg (by simpa using hk)] at hK
  simp only [Int.toNat_natCast] at hK
  obtain ⟨ha1, ha2⟩ := fst6_get (k := j) (by omega)
  obtain ⟨hb1, hb2⟩ := snd6_get (k := j) (by omega)
  obtain ⟨hs1, hs2⟩ := @sel6 b w (faceP b w m) j (by omega)
  have hl1 := @ex1_len 16 b w (faceP b w m) hlb hlw hlf j
  have hl2 := @ex2_len 16 b w (faceP b w m) hlb hlw hlf j
  refine T_rseq fun Kr hKr => ?_
  simp (disch := omega) only [RF, RO, RC, ↓reduceIte, Nat.reduceEqDiff, Nat.reduceBEq, Nat.reduceSub, Nat.reduceAdd, Nat.reduceMul, Nat.reduceLT, Nat.reduceLeDiff, Int.reduceLE, Int.reduceLT, Int.reduceEq, Int.reduceNeg, Int.reduceToNat, Int.reduceMul, Int.reduceAdd, Int.reduceSub, Int.reduceBEq, Int.reduceBNe, reduceCtorEq, RD, RDS, RDD]
  refine l01Face_spec hb hw (by omega) (hd.1.lt16' hlb) (hd.2.1.lt16' hlw) ?_
  have hg1 := sel_get hlb hlw hlf ha2
  have hg2 := sel_get hlb hlw hlf hb2
  have hfl : fillL (List.replicate 48 (.int .u8 0)) [(0, 16, PL b), (16, 16, PL w), (32, 16, PL (faceP b w m))] = some ([b.map N8, w.map N8, (faceP b w m).map N8].flatten) := fill_3 hlb hlw hlf
  have hall : ([b.map N8, w.map N8, (faceP b w m).map N8].flatten).all one2 = true := ones_3
  have hlen : ([b.map N8, w.map N8, (faceP b w m).map N8].flatten).length = 48 := by simp [hlb, hlw, hlf]
  generalize [b.map N8, w.map N8, (faceP b w m).map N8].flatten = X at hg1 hg2 hfl hall hlen
  have hst := fun {H : BH} {i : Nat} => st_r (H := H) (b := i) (v := .int .u8 0) hlen hall
  rw [hs1] at hg1
  rw [hs2] at hg2
  generalize fst6 j = a1 at ha1 ha2 hg1
  generalize snd6 j = a2 at hb1 hb2 hg2
  simp (disch := omega) only [RF, RO, RC, ↓reduceIte, Nat.reduceEqDiff, Nat.reduceBEq, Nat.reduceSub, Nat.reduceAdd, Nat.reduceMul, Nat.reduceLT, Nat.reduceLeDiff, Int.reduceLE, Int.reduceLT, Int.reduceEq, Int.reduceNeg, Int.reduceToNat, Int.reduceMul, Int.reduceAdd, Int.reduceSub, Int.reduceBEq, Int.reduceBNe, reduceCtorEq, RD, RDS, RDD, hfl, hst]
  refine hKr _ _ ?_
  clear hKr Kr
  try simp only [blkQ, thenQ, loopQ]
  try simp only [RN, if_true, if_false, Bool.false_eq_true, if_pos, reduceIte]
  try first | refine T_exit ?_ | refine T_ret ?_ | refine T_skip ?_
  have st6 := fun {H : BH} {i : Nat} {a b c d e g : Int} => st_r (H := H) (b := i) (v := .int .i64 0) (vs := [I a, I b, I c, I d, I e, I g]) rfl rfl
  simp only [List.length_cons, List.length_nil, Nat.reduceAdd] at st6
  refine T_rseq fun Kr hKr => ?_
  simp (disch := omega) only [RF, RO, RC, ↓reduceIte, Nat.reduceEqDiff, Nat.reduceBEq, Nat.reduceSub, Nat.reduceAdd, Nat.reduceMul, Nat.reduceLT, Nat.reduceLeDiff, Int.reduceLE, Int.reduceLT, Int.reduceEq, Int.reduceNeg, Int.reduceToNat, Int.reduceMul, Int.reduceAdd, Int.reduceSub, Int.reduceBEq, Int.reduceBNe, reduceCtorEq, RD, st6]
  refine hKr _ _ ?_
  clear hKr Kr
  try simp only [RN, if_true, if_false, Bool.false_eq_true, if_pos, reduceIte]
  try first | refine T_exit ?_ | refine T_ret ?_ | refine T_skip ?_
  refine T_rseq fun Kr hKr => ?_
  simp (disch := omega) only [RF, RO, RC, ↓reduceIte, Nat.reduceEqDiff, Nat.reduceBEq, Nat.reduceSub, Nat.reduceAdd, Nat.reduceMul, Nat.reduceLT, Nat.reduceLeDiff, Int.reduceLE, Int.reduceLT, Int.reduceEq, Int.reduceNeg, Int.reduceToNat, Int.reduceMul, Int.reduceAdd, Int.reduceSub, Int.reduceBEq, Int.reduceBNe, reduceCtorEq, RD, RDS, RDD, ha1, hb1, hg1, hg2]
  refine hKr _ _ ?_
  clear hKr Kr
  try simp only [RN, if_true, if_false, Bool.false_eq_true, if_pos, reduceIte]
  try first | refine T_exit ?_ | refine T_ret ?_ | refine T_skip ?_
  refine bodyQ_ret (by simp (disch := omega) only [RF, RO, RC, ↓reduceIte, Nat.reduceEqDiff, Nat.reduceBEq, Nat.reduceSub, Nat.reduceAdd, Nat.reduceMul, Nat.reduceLT, Nat.reduceLeDiff, Int.reduceLE, Int.reduceLT, Int.reduceEq, Int.reduceNeg, Int.reduceToNat, Int.reduceMul, Int.reduceAdd, Int.reduceSub, Int.reduceBEq, Int.reduceBNe, reduceCtorEq, RD, resAll, resOf, RDS, RDD]; rfl) GhV.refl ?_
  simp only [tup]
  exact ⟨nn_DI, hK⟩
set_option maxRecDepth 10000 in
theorem impl_ExchangeOf_spec {x : Bool} {n : Int} {b w : List Nat} {k : Int} {H : BH} {K : Value → BH → Prop} (hb : By 16 b) (hw : By 16 w)
    (hK : K (.tuple ⟨[DV (resEx n b w k).1.1 (resEx n b w k).1.2.1 (resEx n b w k).1.2.2, I (resEx n b w k).2]⟩) H) : CallX x F_impl_ExchangeOf [DV n b w, I k] H K := by
  have hlb := hb.len
  have hlw := hw.len
  have hz := z16_len
  refine callP (by exact .cons nn_D (.cons .int .nil)) ?_
  refine CallX_body Γ_impl_ExchangeOf ?_
  simp only [A_impl_ExchangeOf, T_aiff]
  refine T_rseq fun Kr hKr => ?_
  simp (disch := omega) only [RF, RO, RC, ↓reduceIte, Nat.reduceEqDiff, Nat.reduceBEq, Nat.reduceSub, Nat.reduceAdd, Nat.reduceMul, Nat.reduceLT, Nat.reduceLeDiff, Int.reduceLE, Int.reduceLT, Int.reduceEq, Int.reduceNeg, Int.reduceToNat, Int.reduceMul, Int.reduceAdd, Int.reduceSub, Int.reduceBEq, Int.reduceBNe, reduceCtorEq, RD, RDS]
  refine hKr _ _ ?_
  clear hKr Kr
  try simp only [RN, if_true, if_false, Bool.false_eq_true, if_pos, reduceIte]
  try first | refine T_exit ?_ | refine T_ret ?_ | refine T_skip ?_
  refine T_seq (T_block ?_)
  try simp only [RN, if_true, if_false, Bool.false_eq_true, if_pos, reduceIte]
  try first | refine T_exit ?_ | refine T_ret ?_ | refine T_skip ?_
  refine T_rseq fun Kr hKr => ?_
  simp (disch := omega) only [RF, RO, RC, ↓reduceIte, Nat.reduceEqDiff, Nat.reduceBEq, Nat.reduceSub, Nat.reduceAdd, Nat.reduceMul, Nat.reduceLT, Nat.reduceLeDiff, Int.reduceLE, Int.reduceLT, Int.reduceEq, Int.reduceNeg, Int.reduceToNat, Int.reduceMul, Int.reduceAdd, Int.reduceSub, Int.reduceBEq, Int.reduceBNe, reduceCtorEq, RD, RDS, RDD]
  refine IsDessin_spec hb hw ?_
  simp (disch := omega) only [RF, RO, RC, ↓reduceIte, Nat.reduceEqDiff, Nat.reduceBEq, Nat.reduceSub, Nat.reduceAdd, Nat.reduceMul, Nat.reduceLT, Nat.reduceLeDiff, Int.reduceLE, Int.reduceLT, Int.reduceEq, Int.reduceNeg, Int.reduceToNat, Int.reduceMul, Int.reduceAdd, Int.reduceSub, Int.reduceBEq, Int.reduceBNe, reduceCtorEq, RD]
  refine hKr _ _ ?_
  clear hKr Kr
  try simp only [blkQ, thenQ, loopQ]
  try simp only [RN, if_true, if_false, Bool.false_eq_true, if_pos, reduceIte]
  try first | refine T_exit ?_ | refine T_ret ?_ | refine T_skip ?_
  refine T_csplit1 (p := ¬ Des n b w) (by simp only [RF, RO, RC, ↓reduceIte, Nat.reduceEqDiff, Nat.reduceBEq, Nat.reduceSub, Nat.reduceAdd, Nat.reduceMul, Nat.reduceLT, Nat.reduceLeDiff, Int.reduceLE, Int.reduceLT, Int.reduceEq, Int.reduceNeg, Int.reduceToNat, Int.reduceMul, Int.reduceAdd, Int.reduceSub, Int.reduceBEq, Int.reduceBNe, reduceCtorEq] <;> rfl) (by (try simp only [decide_eq_true_eq, Bool.or_eq_true, Bool.and_eq_true, Bool.not_eq_true', decide_eq_false_iff_not, Bool.not_eq_eq_eq_not, Bool.not_true, Bool.not_false, beq_iff_eq, Bool.false_eq_true]) <;> (first | done | exact Iff.rfl | omega | simp)) (fun hc => ?_) (fun hc => ?_) <;> (try simp only [RN, if_true, if_false, Bool.false_eq_true, if_pos, reduceIte]) <;> (try first | refine T_exit ?_ | refine T_ret ?_ | refine T_skip ?_)
  · refine T_rseq fun Kr hKr => ?_
    simp (disch := omega) only [RF, RO, RC, ↓reduceIte, Nat.reduceEqDiff, Nat.reduceBEq, Nat.reduceSub, Nat.reduceAdd, Nat.reduceMul, Nat.reduceLT, Nat.reduceLeDiff, Int.reduceLE, Int.reduceLT, Int.reduceEq, Int.reduceNeg, Int.reduceToNat, Int.reduceMul, Int.reduceAdd, Int.reduceSub, Int.reduceBEq, Int.reduceBNe, reduceCtorEq, RD, RDS, RDD]
    refine hKr _ _ ?_
    clear hKr Kr
    try simp only [RN, if_true, if_false, Bool.false_eq_true, if_pos, reduceIte]
    try first | refine T_exit ?_ | refine T_ret ?_ | refine T_skip ?_
    simp only [blkQ, thenQ, loopQ, if_true]
    refine bodyQ_ret (by simp (disch := omega) only [RF, RO, RC, ↓reduceIte, Nat.reduceEqDiff, Nat.reduceBEq, Nat.reduceSub, Nat.reduceAdd, Nat.reduceMul, Nat.reduceLT, Nat.reduceLeDiff, Int.reduceLE, Int.reduceLT, Int.reduceEq, Int.reduceNeg, Int.reduceToNat, Int.reduceMul, Int.reduceAdd, Int.reduceSub, Int.reduceBEq, Int.reduceBNe, reduceCtorEq, RD, resAll, resOf, RDS, RDD]; rfl) GhV.refl ?_
    simp only [tup]
    rw [resEx, if_pos hc] at hK
    exact ⟨nn_DI, hK⟩
  have hd := Decidable.not_not.1 hc
  by_cases hk0 : k < 0
  · refine T_rseq fun Kr hKr => ?_
    simp (disch := omega) only [RF, RO, RC, ↓reduceIte, Nat.reduceEqDiff, Nat.reduceBEq, Nat.reduceSub, Nat.reduceAdd, Nat.reduceMul, Nat.reduceLT, Nat.reduceLeDiff, Int.reduceLE, Int.reduceLT, Int.reduceEq, Int.reduceNeg, Int.reduceToNat, Int.reduceMul, Int.reduceAdd, Int.reduceSub, Int.reduceBEq, Int.reduceBNe, reduceCtorEq, RD, hk0]
    refine hKr _ _ ?_
    clear hKr Kr
    try simp only [RN, if_true, if_false, Bool.false_eq_true, if_pos, reduceIte]
    try first | refine T_exit ?_ | refine T_ret ?_ | refine T_skip ?_
    refine T_cond (t := true) (by simp (disch := omega) only [RF, RO, RC, ↓reduceIte, Nat.reduceEqDiff, Nat.reduceBEq, Nat.reduceSub, Nat.reduceAdd, Nat.reduceMul, Nat.reduceLT, Nat.reduceLeDiff, Int.reduceLE, Int.reduceLT, Int.reduceEq, Int.reduceNeg, Int.reduceToNat, Int.reduceMul, Int.reduceAdd, Int.reduceSub, Int.reduceBEq, Int.reduceBNe, reduceCtorEq, RD]) ?_
    try simp only [RN, if_true, if_false, Bool.false_eq_true, if_pos, reduceIte]
    try first | refine T_exit ?_ | refine T_ret ?_ | refine T_skip ?_
    refine T_rseq fun Kr hKr => ?_
    simp (disch := omega) only [RF, RO, RC, ↓reduceIte, Nat.reduceEqDiff, Nat.reduceBEq, Nat.reduceSub, Nat.reduceAdd, Nat.reduceMul, Nat.reduceLT, Nat.reduceLeDiff, Int.reduceLE, Int.reduceLT, Int.reduceEq, Int.reduceNeg, Int.reduceToNat, Int.reduceMul, Int.reduceAdd, Int.reduceSub, Int.reduceBEq, Int.reduceBNe, reduceCtorEq, RD, RDS, RDD]
    refine hKr _ _ ?_
    clear hKr Kr
    try simp only [RN, if_true, if_false, Bool.false_eq_true, if_pos, reduceIte]
    try first | refine T_exit ?_ | refine T_ret ?_ | refine T_skip ?_
    simp only [blkQ, thenQ, loopQ, if_true]
    refine bodyQ_ret (by simp (disch := omega) only [RF, RO, RC, ↓reduceIte, Nat.reduceEqDiff, Nat.reduceBEq, Nat.reduceSub, Nat.reduceAdd, Nat.reduceMul, Nat.reduceLT, Nat.reduceLeDiff, Int.reduceLE, Int.reduceLT, Int.reduceEq, Int.reduceNeg, Int.reduceToNat, Int.reduceMul, Int.reduceAdd, Int.reduceSub, Int.reduceBEq, Int.reduceBNe, reduceCtorEq, RD, resAll, resOf, RDS, RDD]; rfl) GhV.refl ?_
    simp only [tup]
    rw [resEx, if_neg (by simpa using hd), if_pos (by omega)] at hK
    exact ⟨nn_DI, hK⟩
  refine T_rseq fun Kr hKr => ?_
  simp (disch := omega) only [RF, RO, RC, ↓reduceIte, Nat.reduceEqDiff, Nat.reduceBEq, Nat.reduceSub, Nat.reduceAdd, Nat.reduceMul, Nat.reduceLT, Nat.reduceLeDiff, Int.reduceLE, Int.reduceLT, Int.reduceEq, Int.reduceNeg, Int.reduceToNat, Int.reduceMul, Int.reduceAdd, Int.reduceSub, Int.reduceBEq, Int.reduceBNe, reduceCtorEq, RD, hk0]
  refine hKr _ _ ?_
  clear hKr Kr
  try simp only [RN, if_true, if_false, Bool.false_eq_true, if_pos, reduceIte]
  try first | refine T_exit ?_ | refine T_ret ?_ | refine T_skip ?_
  refine T_csplit1 (p := k > 5) (by simp only [RF, RO, RC, ↓reduceIte, Nat.reduceEqDiff, Nat.reduceBEq, Nat.reduceSub, Nat.reduceAdd, Nat.reduceMul, Nat.reduceLT, Nat.reduceLeDiff, Int.reduceLE, Int.reduceLT, Int.reduceEq, Int.reduceNeg, Int.reduceToNat, Int.reduceMul, Int.reduceAdd, Int.reduceSub, Int.reduceBEq, Int.reduceBNe, reduceCtorEq] <;> rfl) (by (try simp only [decide_eq_true_eq, Bool.or_eq_true, Bool.and_eq_true, Bool.not_eq_true', decide_eq_false_iff_not, Bool.not_eq_eq_eq_not, Bool.not_true, Bool.not_false, beq_iff_eq, Bool.false_eq_true]) <;> (first | done | exact Iff.rfl | omega | simp)) (fun hc => ?_) (fun hc => ?_) <;> (try simp only [RN, if_true, if_false, Bool.false_eq_true, if_pos, reduceIte]) <;> (try first | refine T_exit ?_ | refine T_ret ?_ | refine T_skip ?_)
  · refine T_rseq fun Kr hKr => ?_
    simp (disch := omega) only [RF, RO, RC, ↓reduceIte, Nat.reduceEqDiff, Nat.reduceBEq, Nat.reduceSub, Nat.reduceAdd, Nat.reduceMul, Nat.reduceLT, Nat.reduceLeDiff, Int.reduceLE, Int.reduceLT, Int.reduceEq, Int.reduceNeg, Int.reduceToNat, Int.reduceMul, Int.reduceAdd, Int.reduceSub, Int.reduceBEq, Int.reduceBNe, reduceCtorEq, RD, RDS, RDD]
    refine hKr _ _ ?_
    clear hKr Kr
    try simp only [RN, if_true, if_false, Bool.false_eq_true, if_pos, reduceIte]
    try first | refine T_exit ?_ | refine T_ret ?_ | refine T_skip ?_
    simp only [blkQ, thenQ, loopQ, if_true]
    refine bodyQ_ret (by simp (disch := omega) only [RF, RO, RC, ↓reduceIte, Nat.reduceEqDiff, Nat.reduceBEq, Nat.reduceSub, Nat.reduceAdd, Nat.reduceMul, Nat.reduceLT, Nat.reduceLeDiff, Int.reduceLE, Int.reduceLT, Int.reduceEq, Int.reduceNeg, Int.reduceToNat, Int.reduceMul, Int.reduceAdd, Int.reduceSub, Int.reduceBEq, Int.reduceBNe, reduceCtorEq, RD, resAll, resOf, RDS, RDD]; rfl) GhV.refl ?_
    simp only [tup]
    rw [resEx, if_neg (by simpa using hd), if_pos (by omega)] at hK
    exact ⟨nn_DI, hK⟩
  simp only [blkQ, thenQ, loopQ, if_true]
  obtain ⟨m, rfl, hm1, hm2⟩ := hd.n0
  obtain ⟨j, rfl⟩ : ∃ j : Nat, k = j := ⟨k.toNat, by omega⟩
  have hf : By 16 (faceP b w m) := backK_by (by omega)
  have hlf := hf.len
  rw [resEx, if_neg (by simpa using hd), if_neg (by omega)] at hK
  simp only [Int.toNat_natCast] at hK
  have hl1 := @ex1_len 16 b w (faceP b w m) hlb hlw hlf j
  have hl2 := @ex2_len 16 b w (faceP b w m) hlb hlw hlf j
  refine T_rseq fun Kr hKr => ?_
  simp (disch := omega) only [RF, RO, RC, ↓reduceIte, Nat.reduceEqDiff, Nat.reduceBEq, Nat.reduceSub, Nat.reduceAdd, Nat.reduceMul, Nat.reduceLT, Nat.reduceLeDiff, Int.reduceLE, Int.reduceLT, Int.reduceEq, Int.reduceNeg, Int.reduceToNat, Int.reduceMul, Int.reduceAdd, Int.reduceSub, Int.reduceBEq, Int.reduceBNe, reduceCtorEq, RD, RDS, RDD]
  refine face_spec hb hw (by omega) (hd.1.lt16' hlb) (hd.2.1.lt16' hlw) ?_
  generalize faceP b w m = f at hf hlf hK hl1 hl2
  simp (disch := omega) only [RF, RO, RC, ↓reduceIte, Nat.reduceEqDiff, Nat.reduceBEq, Nat.reduceSub, Nat.reduceAdd, Nat.reduceMul, Nat.reduceLT, Nat.reduceLeDiff, Int.reduceLE, Int.reduceLT, Int.reduceEq, Int.reduceNeg, Int.reduceToNat, Int.reduceMul, Int.reduceAdd, Int.reduceSub, Int.reduceBEq, Int.reduceBNe, reduceCtorEq, RD, RDS, RDD]
  refine hKr _ _ ?_
  clear hKr Kr
  try simp only [blkQ, thenQ, loopQ]
  try simp only [RN, if_true, if_false, Bool.false_eq_true, if_pos, reduceIte]
  try first | refine T_exit ?_ | refine T_ret ?_ | refine T_skip ?_
  have h6 := getG _ _ _ (@six_len 16 b w f hlb hlw hlf) (@six_get b w f j (by omega))
  have e1 := @fill_P 16 (.int .u8 0) b w hlb hlw
  have e2 := @fill_P 16 (.int .u8 0) w b hlw hlb
  have e3 := @fill_P 16 (.int .u8 0) w f hlw hlf
  have e4 := @fill_P 16 (.int .u8 0) f b hlf hlb
  have e5 := @fill_P 16 (.int .u8 0) b f hlb hlf
  have e6 := @fill_P 16 (.int .u8 0) f w hlf hlw
  simp only [Nat.reduceAdd] at e1 e2 e3 e4 e5 e6 h6
  have h7 : fillL (repl (List.replicate 32 (.int .u8 0)) 6) [(0, 32, aggL (PC b w)), (32, 32, aggL (PC w b)), (64, 32, aggL (PC w f)), (96, 32, aggL (PC f b)), (128, 32, aggL (PC b f)), (160, 32, aggL (PC f w))] = some (sixE b w f).flatten := by
    have := fillG (e := 32) (sixE b w f) [] (repl (List.replicate 32 (.int .u8 0)) 6) (six_len (m := 16) hlb hlw hlf) (by rw [repl_rep]; simp [sixE, sixX])
    simpa [prt, sixE, sixX] using this
  have h8 := fun {H : BH} {i : Nat} => @st_P 16 H i (.int .u8 0) (ex1 b w f j) (ex2 b w f j) hl1 hl2
  have h9 := @getN_P1 16 (ex1 b w f j) (ex2 b w f j) hl1
  have h10 := @getN_P2 16 (ex1 b w f j) (ex2 b w f j) hl1 hl2
  simp only [Nat.reduceAdd] at h8
  generalize (sixE b w f).flatten = X at h6 h7
  simp only [PC] at e1 e2 e3 e4 e5 e6 h6 h7 h8 h9 h10
  refine T_rseq fun Kr hKr => ?_
  simp (disch := omega) only [RF, RO, RC, ↓reduceIte, Nat.reduceEqDiff, Nat.reduceBEq, Nat.reduceSub, Nat.reduceAdd, Nat.reduceMul, Nat.reduceLT, Nat.reduceLeDiff, Int.reduceLE, Int.reduceLT, Int.reduceEq, Int.reduceNeg, Int.reduceToNat, Int.reduceMul, Int.reduceAdd, Int.reduceSub, Int.reduceBEq, Int.reduceBNe, reduceCtorEq, RD, RDS, RDD, e1, e2, e3, e4, e5, e6, h7, h6, h8]
  refine hKr _ _ ?_
  clear hKr Kr
  try simp only [RN, if_true, if_false, Bool.false_eq_true, if_pos, reduceIte]
  try first | refine T_exit ?_ | refine T_ret ?_ | refine T_skip ?_
  refine T_rseq fun Kr hKr => ?_
  simp (disch := omega) only [RF, RO, RC, ↓reduceIte, Nat.reduceEqDiff, Nat.reduceBEq, Nat.reduceSub, Nat.reduceAdd, Nat.reduceMul, Nat.reduceLT, Nat.reduceLeDiff, Int.reduceLE, Int.reduceLT, Int.reduceEq, Int.reduceNeg, Int.reduceToNat, Int.reduceMul, Int.reduceAdd, Int.reduceSub, Int.reduceBEq, Int.reduceBNe, reduceCtorEq, RD, RDS, RDD, h9, h10]
  refine hKr _ _ ?_
  clear hKr Kr
  try simp only [RN, if_true, if_false, Bool.false_eq_true, if_pos, reduceIte]
  try first | refine T_exit ?_ | refine T_ret ?_ | refine T_skip ?_
  refine bodyQ_ret (by simp (disch := omega) only [RF, RO, RC, ↓reduceIte, Nat.reduceEqDiff, Nat.reduceBEq, Nat.reduceSub, Nat.reduceAdd, Nat.reduceMul, Nat.reduceLT, Nat.reduceLeDiff, Int.reduceLE, Int.reduceLT, Int.reduceEq, Int.reduceNeg, Int.reduceToNat, Int.reduceMul, Int.reduceAdd, Int.reduceSub, Int.reduceBEq, Int.reduceBNe, reduceCtorEq, RD, resAll, resOf, RDS, RDD]; rfl) GhV.refl ?_
  simp only [tup]
  exact ⟨nn_DI, hK⟩
end Go.Bm
