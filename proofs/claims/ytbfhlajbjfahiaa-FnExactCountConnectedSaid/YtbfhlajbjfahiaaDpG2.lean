/- DpO, DpP, Dp7a, DpQ, DpCb, DpV, DpVa, DpDa -/
import Derived.Test.YtbfhlajbjfahiaaDpG0
import Derived.Test.YtbfhlajbjfahiaaDpG1
/- Sorting: lengths of numbers in bits, patterns broken. -/
set_option linter.unusedVariables false
set_option linter.unusedSimpArgs false
namespace Go.Bm
open Go Go.Am

set_option maxRecDepth 10000
def len8 : ByteArray := ⟨#[0, 1, 2, 2, 3, 3, 3, 3, 4, 4, 4, 4, 4, 4, 4, 4, 5, 5, 5, 5, 5, 5, 5, 5, 5, 5, 5, 5, 5, 5, 5, 5, 6, 6, 6, 6, 6, 6, 6, 6, 6, 6, 6, 6, 6, 6, 6, 6, 6, 6, 6, 6, 6, 6, 6, 6, 6, 6, 6, 6, 6, 6, 6, 6, 7, 7, 7, 7, 7, 7, 7, 7, 7, 7, 7, 7, 7, 7, 7, 7, 7, 7, 7, 7, 7, 7, 7, 7, 7, 7, 7, 7, 7, 7, 7, 7, 7, 7, 7, 7, 7, 7, 7, 7, 7, 7, 7, 7, 7, 7, 7, 7, 7, 7, 7, 7, 7, 7, 7, 7, 7, 7, 7, 7, 7, 7, 7, 7, 8, 8, 8, 8, 8, 8, 8, 8, 8, 8, 8, 8, 8, 8, 8, 8, 8, 8, 8, 8, 8, 8, 8, 8, 8, 8, 8, 8, 8, 8, 8, 8, 8, 8, 8, 8, 8, 8, 8, 8, 8, 8, 8, 8, 8, 8, 8, 8, 8, 8, 8, 8, 8, 8, 8, 8, 8, 8, 8, 8, 8, 8, 8, 8, 8, 8, 8, 8, 8, 8, 8, 8, 8, 8, 8, 8, 8, 8, 8, 8, 8, 8, 8, 8, 8, 8, 8, 8, 8, 8, 8, 8, 8, 8, 8, 8, 8, 8, 8, 8, 8, 8, 8, 8, 8, 8, 8, 8, 8, 8, 8, 8, 8, 8, 8, 8, 8, 8, 8, 8, 8, 8, 8, 8, 8, 8, 8, 8]⟩
def lenOf (x : Nat) : Nat := match len8[x]? with | some b => b.toNat | none => 0
theorem len8_is : (⟨#[0, 1, 2, 2, 3, 3, 3, 3, 4, 4, 4, 4, 4, 4, 4, 4, 5, 5, 5, 5, 5, 5, 5, 5, 5, 5, 5, 5, 5, 5, 5, 5, 6, 6, 6, 6, 6, 6, 6, 6, 6, 6, 6, 6, 6, 6, 6, 6, 6, 6, 6, 6, 6, 6, 6, 6, 6, 6, 6, 6, 6, 6, 6, 6, 7, 7, 7, 7, 7, 7, 7, 7, 7, 7, 7, 7, 7, 7, 7, 7, 7, 7, 7, 7, 7, 7, 7, 7, 7, 7, 7, 7, 7, 7, 7, 7, 7, 7, 7, 7, 7, 7, 7, 7, 7, 7, 7, 7, 7, 7, 7, 7, 7, 7, 7, 7, 7, 7, 7, 7, 7, 7, 7, 7, 7, 7, 7, 7, 8, 8, 8, 8, 8, 8, 8, 8, 8, 8, 8, 8, 8, 8, 8, 8, 8, 8, 8, 8, 8, 8, 8, 8, 8, 8, 8, 8, 8, 8, 8, 8, 8, 8, 8, 8, 8, 8, 8, 8, 8, 8, 8, 8, 8, 8, 8, 8, 8, 8, 8, 8, 8, 8, 8, 8, 8, 8, 8, 8, 8, 8, 8, 8, 8, 8, 8, 8, 8, 8, 8, 8, 8, 8, 8, 8, 8, 8, 8, 8, 8, 8, 8, 8, 8, 8, 8, 8, 8, 8, 8, 8, 8, 8, 8, 8, 8, 8, 8, 8, 8, 8, 8, 8, 8, 8, 8, 8, 8, 8, 8, 8, 8, 8, 8, 8, 8, 8, 8, 8, 8, 8, 8, 8, 8, 8, 8, 8]⟩ : ByteArray) = len8 := rfl
theorem len8_size : len8.size = 256 := by decide +kernel
theorem ixS_len8 {x : Nat} (h : x < 256) : ixS (.string len8) (.int .u8 (x : Int)) = some (.int .u8 (lenOf x : Int)) := by
  have hb : len8[x]? = some (len8[x]'(by rw [len8_size]; exact h)) := getElem?_pos len8 x (by rw [len8_size]; exact h)
  simp only [ixS, lenOf, Int.natCast_nonneg, if_true, Int.toNat_natCast, hb, Option.map_some]
theorem lenOf_lt {x : Nat} : lenOf x < 256 := by
  unfold lenOf
  split
  · exact UInt8.toNat_lt _
  · omega
theorem lenOf_small : ∀ x, x < 17 → x ≤ lenOf x + 12 ∧ (8 ≤ x → lenOf x = if x < 16 then 4 else 5) := by decide +kernel
theorem Len64_spec {x : Bool} {n : Nat} {H : BH} {K : Value → BH → Prop} (hn : n < 256) (hK : K (I (lenOf n)) H) : CallX x F_math_bits_Len64 [.int .u64 (n : Int)] H K := by
  have hl := @lenOf_lt n
  refine callP (by simp only [RH]) ?_
  refine CallX_body Γ_math_bits_Len64 ?_
  simp only [A_math_bits_Len64, T_aiff]
  refine T_rseq fun Kr hKr => ?_
  simp (disch := omega) only [RA, ↓reduceIte, Nat.reduceEqDiff, RD]
  refine hKr _ _ ?_
  clear hKr Kr
  try simp only [RN, reduceIte]
  try refine T_e rfl ?_
  refine T_rseq fun Kr hKr => ?_
  simp (disch := omega) only [RA, ↓reduceIte, Nat.reduceEqDiff, RD]
  refine hKr _ _ ?_
  clear hKr Kr
  try simp only [RN, reduceIte]
  try refine T_e rfl ?_
  refine T_cseq (t := false) (by simp (disch := omega) only [RA, ↓reduceIte, Nat.reduceEqDiff, RD]) ?_
  try simp only [RN, reduceIte]
  try refine T_e rfl ?_
  refine T_rseq fun Kr hKr => ?_
  simp (disch := omega) only [RA, ↓reduceIte, Nat.reduceEqDiff, RD]
  refine hKr _ _ ?_
  clear hKr Kr
  try simp only [RN, reduceIte]
  try refine T_e rfl ?_
  refine T_cseq (t := false) (by simp (disch := omega) only [RA, ↓reduceIte, Nat.reduceEqDiff, RD]) ?_
  try simp only [RN, reduceIte]
  try refine T_e rfl ?_
  refine T_rseq fun Kr hKr => ?_
  simp (disch := omega) only [RA, ↓reduceIte, Nat.reduceEqDiff, RD]
  refine hKr _ _ ?_
  clear hKr Kr
  try simp only [RN, reduceIte]
  try refine T_e rfl ?_
  refine T_cseq (t := false) (by simp (disch := omega) only [RA, ↓reduceIte, Nat.reduceEqDiff, RD]) ?_
  try simp only [RN, reduceIte]
  try refine T_e rfl ?_
  refine T_rseq fun Kr hKr => ?_
  simp (disch := omega) only [RA, ↓reduceIte, Nat.reduceEqDiff, RD, len8_is, ixS_len8, Int.zero_add]
  refine hKr _ _ ?_
  clear hKr Kr
  try simp only [blkQ, thenQ, loopQ]
  try simp only [RN, reduceIte]
  try refine T_e rfl ?_
  refine bodyQ_ret (by simp (disch := omega) only [RA, ↓reduceIte, Nat.reduceEqDiff, RD, resAll, resOf]; rfl) GhV.refl ?_
  simp only [tup]
  exact ⟨NN.int, hK⟩
theorem Len_spec {x : Bool} {n : Nat} {H : BH} {K : Value → BH → Prop} (hn : n < 256) (hK : K (I (lenOf n)) H) : CallX x F_math_bits_Len [.int .u64 (n : Int)] H K := by
  refine callP (by simp only [RH]) ?_
  refine CallX_body Γ_math_bits_Len ?_
  simp only [A_math_bits_Len, T_aiff]
  refine T_rseq fun Kr hKr => ?_
  simp (disch := omega) only [RA, ↓reduceIte, Nat.reduceEqDiff, RD]
  refine hKr _ _ ?_
  clear hKr Kr
  try simp only [RN, reduceIte]
  try refine T_e rfl ?_
  refine T_cseq (t := false) (by simp (disch := omega) only [RA, ↓reduceIte, Nat.reduceEqDiff, RD]) ?_
  try simp only [RN, reduceIte]
  try refine T_e rfl ?_
  refine T_rseq fun Kr hKr => ?_
  simp (disch := omega) only [RA, ↓reduceIte, Nat.reduceEqDiff, RD]
  refine Len64_spec hn ?_
  simp (disch := omega) only [RA, ↓reduceIte, Nat.reduceEqDiff, RD]
  refine hKr _ _ ?_
  clear hKr Kr
  try simp only [blkQ, thenQ, loopQ]
  try simp only [RN, reduceIte]
  try refine T_e rfl ?_
  refine bodyQ_ret (by simp (disch := omega) only [RA, ↓reduceIte, Nat.reduceEqDiff, RD, resAll, resOf]; rfl) GhV.refl ?_
  simp only [tup]
  exact ⟨NN.int, hK⟩
theorem wu64 {n : Int} (h0 : 0 ≤ n) (h1 : n < 18446744073709551616) : IntKind.u64.wrap n = n := by
  have hb : (2 : Int) ^ (64 : Nat) = 18446744073709551616 := by decide
  simp only [IntKind.wrap, IntKind.bits, IntKind.signed, hb]
  simp
  omega
theorem nextPow_spec {x : Bool} {n : Nat} {H : BH} {K : Value → BH → Prop} (h8 : 8 ≤ n) (hn : n ≤ 16) (hK : K (.int .u64 (if n < 16 then 16 else 32)) H) : CallX x F_slices_nextPowerOfTwo [I n] H K := by
  have hl := (lenOf_small n (by omega)).2 h8
  refine callP (by simp only [RH]) ?_
  refine CallX_body Γ_slices_nextPowerOfTwo ?_
  simp only [A_slices_nextPowerOfTwo, T_aiff]
  refine T_rseq fun Kr hKr => ?_
  simp (disch := omega) only [RA, ↓reduceIte, Nat.reduceEqDiff, RD]
  refine hKr _ _ ?_
  clear hKr Kr
  try simp only [RN, reduceIte]
  try refine T_e rfl ?_
  refine T_rseq fun Kr hKr => ?_
  simp (disch := omega) only [RA, ↓reduceIte, Nat.reduceEqDiff, RD, wu64]
  refine Len_spec (by omega) ?_
  rw [hl]
  by_cases h : n < 16
  · rw [if_pos h] at hK ⊢
    simp (disch := omega) only [RA, ↓reduceIte, Nat.reduceEqDiff, RD]
    refine hKr _ _ ?_
    clear hKr Kr
    try simp only [blkQ, thenQ, loopQ]
    try simp only [RN, reduceIte]
    try refine T_e rfl ?_
    refine bodyQ_ret (by simp (disch := omega) only [RA, ↓reduceIte, Nat.reduceEqDiff, RD, resAll, resOf]; rfl) GhV.refl ?_
    simp only [tup]
    exact ⟨NN.int, hK⟩
  · rw [if_neg h] at hK ⊢
    simp (disch := omega) only [RA, ↓reduceIte, Nat.reduceEqDiff, RD]
    refine hKr _ _ ?_
    clear hKr Kr
    try simp only [blkQ, thenQ, loopQ]
    try simp only [RN, reduceIte]
    try refine T_e rfl ?_
    refine bodyQ_ret (by simp (disch := omega) only [RA, ↓reduceIte, Nat.reduceEqDiff, RD, resAll, resOf]; rfl) GhV.refl ?_
    simp only [tup]
    exact ⟨NN.int, hK⟩
theorem st_cu {H : BH} {b : Nat} {v : Value} {k : IntKind} {n : Int} : stO (some [v]) H b 0 1 (.int k n) = some (undef, H.set b (some [.int k n])) := rfl
theorem Next_spec {v : Int} {K : Value → BH → Prop} (hK : ∀ v' : Int, K (.int .u64 v') [some [.int .u64 v']]) : CallX false F_slices_xorshift_Next [P 0 0] [some [.int .u64 v]] K := by
  refine CallX_body Γ_slices_xorshift_Next ?_
  simp only [A_slices_xorshift_Next, T_aiff]
  refine T_rseq fun Kr hKr => ?_
  simp (disch := omega) only [RA, ↓reduceIte, Nat.reduceEqDiff, RD]
  refine hKr _ _ ?_
  clear hKr Kr
  try simp only [RN, reduceIte]
  try refine T_e rfl ?_
  refine T_rseq fun Kr hKr => ?_
  simp (disch := omega) only [RA, ↓reduceIte, Nat.reduceEqDiff, RD, getN_c, st_cu]
  refine hKr _ _ ?_
  clear hKr Kr
  try simp only [RN, reduceIte]
  try refine T_e rfl ?_
  generalize IntKind.u64.wrap _ = v1
  refine T_rseq fun Kr hKr => ?_
  simp (disch := omega) only [RA, ↓reduceIte, Nat.reduceEqDiff, RD, getN_c, st_cu]
  refine hKr _ _ ?_
  clear hKr Kr
  try simp only [RN, reduceIte]
  try refine T_e rfl ?_
  generalize IntKind.u64.wrap _ = v2
  refine T_rseq fun Kr hKr => ?_
  simp (disch := omega) only [RA, ↓reduceIte, Nat.reduceEqDiff, RD, getN_c, st_cu]
  refine hKr _ _ ?_
  clear hKr Kr
  try simp only [RN, reduceIte]
  try refine T_e rfl ?_
  generalize IntKind.u64.wrap _ = v3
  refine T_rseq fun Kr hKr => ?_
  simp (disch := omega) only [RA, ↓reduceIte, Nat.reduceEqDiff, RD, getN_c]
  refine hKr _ _ ?_
  clear hKr Kr
  try simp only [RN, reduceIte]
  try refine T_e rfl ?_
  refine bodyQ_ret (by simp (disch := omega) only [RA, ↓reduceIte, Nat.reduceEqDiff, RD, resAll, resOf]; rfl) GhV.refl ?_
  simp only [tup]
  exact hK _
/-- What is kept of a number. -/
theorem mask_lt {a : Int} {m : Nat} (hm : m = 16 ∨ m = 32) : ∃ o : Nat, IntKind.i64.wrap (IntKind.u64.wrap ((BitVec.ofInt IntKind.u64.bits a &&& BitVec.ofInt IntKind.u64.bits (IntKind.u64.wrap ((m : Int) - 1))).toNat : Int)) = o ∧ o < m := by
  have h1 : (BitVec.ofInt IntKind.u64.bits a &&& BitVec.ofInt IntKind.u64.bits (IntKind.u64.wrap ((m : Int) - 1))).toNat ≤ m - 1 := by
    rw [BitVec.toNat_and]
    refine Nat.le_trans Nat.and_le_right ?_
    rcases hm with rfl | rfl <;> decide
  refine ⟨(BitVec.ofInt IntKind.u64.bits a &&& BitVec.ofInt IntKind.u64.bits (IntKind.u64.wrap ((m : Int) - 1))).toNat, ?_, by omega⟩
  generalize (BitVec.ofInt IntKind.u64.bits a &&& BitVec.ofInt IntKind.u64.bits (IntKind.u64.wrap ((m : Int) - 1))).toNat = x at h1
  rw [wu64 (by omega) (by omega), w64 (by omega) (by omega)]
theorem breakPatterns_spec {p : List Int} {a b : Nat} {K : Value → BH → Prop} (hpl : p.length ≤ 1000) (hb : b ≤ p.length) (h8 : a + 8 ≤ b) (h16 : b ≤ a + 16) (hK : ∀ q, Sg a b p q → K (.tuple ⟨[]⟩) [some (q.map I)]) :
    CallX false F_slices_breakPatternsOrdered_int64 [S 0 0 p.length 1, I a, I b] [some (p.map I)] K := by
  obtain ⟨l, hl⟩ : ∃ l, l = b - a := ⟨_, rfl⟩
  have hbl : (b : Int) - (a : Int) = (l : Int) := by omega
  have hd : (l : Int).tdiv 4 = ((l / 4 : Nat) : Int) := (Int.ofNat_tdiv l 4).symm
  obtain ⟨t, ht⟩ : ∃ t, t = l / 4 := ⟨_, rfl⟩
  rw [← ht] at hd
  have e2 : (a : Int) + (t : Int) * 2 = ((a + t * 2 : Nat) : Int) := by omega
  have e3 : ((a + t * 2 : Nat) : Int) - 1 = ((a + t * 2 - 1 : Nat) : Int) := by omega
  have e4 : ((a + t * 2 : Nat) : Int) + 1 = ((a + t * 2 + 1 : Nat) : Int) := by omega
  obtain ⟨m, hm, hml⟩ : ∃ m : Nat, (if l < 16 then (16 : Int) else 32) = m ∧ (m = 16 ∧ l < 16 ∨ m = 32 ∧ l = 16) := by
    by_cases h : l < 16
    · exact ⟨16, by rw [if_pos h]; rfl, .inl ⟨rfl, h⟩⟩
    · exact ⟨32, by rw [if_neg h]; rfl, .inr ⟨rfl, by omega⟩⟩
  refine CallX_body Γ_slices_breakPatternsOrdered_int64 ?_
  simp only [A_slices_breakPatternsOrdered_int64, T_aiff]
  refine T_rseq fun Kr hKr => ?_
  simp (disch := omega) only [RA, ↓reduceIte, Nat.reduceEqDiff, RD, hbl]
  refine hKr _ _ ?_
  clear hKr Kr
  try simp only [RN, reduceIte]
  try refine T_e rfl ?_
  refine T_rseq fun Kr hKr => ?_
  simp (disch := omega) only [RA, ↓reduceIte, Nat.reduceEqDiff, RD]
  refine hKr _ _ ?_
  clear hKr Kr
  try simp only [RN, reduceIte]
  try refine T_e rfl ?_
  refine T_cond (t := true) (by simp (disch := omega) only [RA, ↓reduceIte, Nat.reduceEqDiff, RD]) ?_
  try simp only [RN, reduceIte]
  try refine T_e rfl ?_
  refine T_rseq fun Kr hKr => ?_
  simp (disch := omega) only [RA, ↓reduceIte, Nat.reduceEqDiff, RD, wu64, st_cu]
  refine hKr _ _ ?_
  clear hKr Kr
  try simp only [RN, reduceIte]
  try refine T_e rfl ?_
  refine T_rseq fun Kr hKr => ?_
  simp (disch := omega) only [RA, ↓reduceIte, Nat.reduceEqDiff, Nat.reduceBEq, Nat.reduceSub, Nat.reduceAdd, Nat.reduceMul, Nat.reduceLT, Nat.reduceLeDiff, Int.reduceLE, Int.reduceLT, Int.reduceEq, Int.reduceNeg, Int.reduceToNat, Int.reduceMul, Int.reduceAdd, Int.reduceSub, Int.reduceBEq, Int.reduceBNe, reduceCtorEq, RD]
  refine nextPow_spec (by omega) (by omega) ?_
  rw [hm]
  simp (disch := omega) only [RA, ↓reduceIte, Nat.reduceEqDiff, Nat.reduceBEq, Nat.reduceSub, Nat.reduceAdd, Nat.reduceMul, Nat.reduceLT, Nat.reduceLeDiff, Int.reduceLE, Int.reduceLT, Int.reduceEq, Int.reduceNeg, Int.reduceToNat, Int.reduceMul, Int.reduceAdd, Int.reduceSub, Int.reduceBEq, Int.reduceBNe, reduceCtorEq, RD]
  refine hKr _ _ ?_
  clear hKr Kr
  try simp only [blkQ, thenQ, loopQ]
  try simp only [RN, reduceIte]
  try refine T_e rfl ?_
  refine T_rseq fun Kr hKr => ?_
  simp (disch := omega) only [RA, ↓reduceIte, Nat.reduceEqDiff, Nat.reduceBEq, Nat.reduceSub, Nat.reduceAdd, Nat.reduceMul, Nat.reduceLT, Nat.reduceLeDiff, Int.reduceLE, Int.reduceLT, Int.reduceEq, Int.reduceNeg, Int.reduceToNat, Int.reduceMul, Int.reduceAdd, Int.reduceSub, Int.reduceBEq, Int.reduceBNe, reduceCtorEq, RD, hd, e2, e3]
  refine hKr _ _ ?_
  clear hKr Kr
  try simp only [RN, reduceIte]
  try refine T_e rfl ?_
  refine T_tail ?_
  refine T_wloop (fun n f H' => ∃ (q : List Int) (i : Nat) (v : Int), Sg a b p q ∧ a + t * 2 - 1 ≤ i ∧ i ≤ a + t * 2 + 2 ∧ n = a + t * 2 + 2 - i ∧ f 0 = S 0 0 p.length 1 ∧ f 1 = I a ∧ f 6 = I l ∧ f 7 = P 1 0 ∧ f 8 = .int .u64 (m : Int) ∧ f 9 = I i ∧ H' = [some (q.map I), some [.int .u64 v]]) (a + t * 2 + 2 - (a + t * 2 - 1)) ?_ ?_
  · refine ⟨_, _, Gh.refl, p, a + t * 2 - 1, l, .refl, by omega, by omega, rfl, ?_, ?_, ?_, ?_, ?_, ?_, rfl⟩
    any_goals (simp (disch := omega) only [RA, ↓reduceIte, Nat.reduceEqDiff, Nat.reduceBEq, Nat.reduceSub, Nat.reduceAdd, Nat.reduceMul, Nat.reduceLT, Nat.reduceLeDiff, Int.reduceLE, Int.reduceLT, Int.reduceEq, Int.reduceNeg, Int.reduceToNat, Int.reduceMul, Int.reduceAdd, Int.reduceSub, Int.reduceBEq, Int.reduceBNe, reduceCtorEq, RD, RE, *] <;> rfl)
  · rintro n f H' R ⟨q, i, v, hq, hi1, hi2, rfl, g0, g1, g6, g7, g8, g9, rfl⟩ hN hX hR hE
    simp only [A_slices_breakPatternsOrdered_int64.l0, T_aiff]
    have hql := hq.len
    refine T_rseq fun Kr hKr => ?_
    simp (disch := omega) only [RA, ↓reduceIte, Nat.reduceEqDiff, Nat.reduceBEq, Nat.reduceSub, Nat.reduceAdd, Nat.reduceMul, Nat.reduceLT, Nat.reduceLeDiff, Int.reduceLE, Int.reduceLT, Int.reduceEq, Int.reduceNeg, Int.reduceToNat, Int.reduceMul, Int.reduceAdd, Int.reduceSub, Int.reduceBEq, Int.reduceBNe, reduceCtorEq, RD, g1, g6, g9, hd, e2, e4]
    refine hKr _ _ ?_
    clear hKr Kr
    try simp only [RN, reduceIte]
    try refine T_e rfl ?_
    refine T_csplit (p := i ≤ a + t * 2 + 1) (by simp only [RA, ↓reduceIte, Nat.reduceEqDiff] <;> rfl) (by (try simp only [RB]) <;> first | done | exact Iff.rfl | omega | simp) (fun hc => ?_) (fun hc => ?_) <;> (try simp only [RN, reduceIte]) <;> (try refine T_e rfl ?_)
    · have hnext : ∀ f' (v' : Int) (o : Nat), f' 0 = S 0 0 p.length 1 → f' 1 = I a → f' 6 = I l → f' 7 = P 1 0 → f' 8 = .int .u64 (m : Int) → f' 9 = I i → f' 10 = I o → o < l →
          T 1 (.seq A_slices_breakPatternsOrdered_int64.r10 A_slices_breakPatternsOrdered_int64.r6) R f' [some (q.map I), some [.int .u64 v']] := by
        intro f' v' o g0 g1 g6 g7 g8 g9 g10 ho
        have e5 : (a : Int) + (o : Int) = ((a + o : Nat) : Int) := by omega
        have hqs : (q.set i (el q (a + o))).length = p.length := by simp [hql]
        have hsw : (q.set i (el q (a + o))).set (a + o) (el q i) = swp q i (a + o) := rfl
        refine T_rseq fun Kr hKr => ?_
        simp (disch := omega) only [RA, ↓reduceIte, Nat.reduceEqDiff, RD, g0, g1, g9, g10, e5, hql, hqs]
        refine hKr _ _ ?_
        clear hKr Kr
        try simp only [RN, reduceIte]
        try refine T_e rfl ?_
        rw [hsw]
        refine T_reg_k fun Kr hKr => ?_
        simp (disch := omega) only [RA, ↓reduceIte, Nat.reduceEqDiff, RD, g9]
        refine hKr _ _ ?_
        clear hKr Kr
        refine hN (a + t * 2 + 2 - (i + 1)) _ _ _ _ (by omega) Gh.refl ⟨swp q i (a + o), i + 1, v', hq.trans (.swp (by omega) (by omega) (by omega) (by omega) (by omega)), by omega, by omega, rfl, ?_, ?_, ?_, ?_, ?_, ?_, rfl⟩
        any_goals (simp (disch := omega) only [RA, ↓reduceIte, Nat.reduceEqDiff, RD, RE, *] <;> rfl)
      first | refine T_bfree rfl ?_ | refine T_bfree' rfl ?_
      try simp only [RN, reduceIte]
      try refine T_e rfl ?_
      refine T_rseq fun Kr hKr => ?_
      simp (disch := omega) only [RA, ↓reduceIte, Nat.reduceEqDiff, RD, g7]
      refine call1 (i := 1) (cs := [.int .u64 v]) rfl (by (simp only [RH])) ?_
      refine Next_spec ?_
      intro v'
      refine ⟨.int, .cons (by (simp only [RH])) .nil, ?_⟩
      obtain ⟨o, ho1, ho2⟩ := @mask_lt v' m (by omega)
      simp (disch := omega) only [RA, ↓reduceIte, Nat.reduceEqDiff, RD, g8, ho1]
      refine hKr _ _ ?_
      clear hKr Kr
      try simp only [blkQ, thenQ, loopQ]
      try simp only [RN, reduceIte]
      try refine T_e rfl ?_
      refine T_rseq fun Kr hKr => ?_
      simp (disch := omega) only [RA, ↓reduceIte, Nat.reduceEqDiff, RD, g6]
      refine hKr _ _ ?_
      clear hKr Kr
      try simp only [RN, reduceIte]
      try refine T_e rfl ?_
      refine T_csplit (p := l ≤ o) (by simp only [RA, ↓reduceIte, Nat.reduceEqDiff] <;> rfl) (by (try simp only [RB]) <;> first | done | exact Iff.rfl | omega | simp) (fun hc => ?_) (fun hc => ?_) <;> (try simp only [RN, reduceIte]) <;> (try refine T_e rfl ?_)
      · have e6 : (o : Int) - (l : Int) = ((o - l : Nat) : Int) := by omega
        refine T_rseq fun Kr hKr => ?_
        simp (disch := omega) only [RA, ↓reduceIte, Nat.reduceEqDiff, RD, g6, e6]
        refine hKr _ _ ?_
        clear hKr Kr
        try simp only [RN, reduceIte]
        try refine T_e rfl ?_
        refine hnext _ v' (o - l) ?_ ?_ ?_ ?_ ?_ ?_ ?_ (by omega)
        any_goals (simp (disch := omega) only [RA, ↓reduceIte, Nat.reduceEqDiff, RD, RE, *] <;> rfl)
      · try simp only [RN, reduceIte]
        try refine T_e rfl ?_
        refine hnext _ v' o ?_ ?_ ?_ ?_ ?_ ?_ ?_ (by omega)
        any_goals (simp (disch := omega) only [RA, ↓reduceIte, Nat.reduceEqDiff, RD, RE, *] <;> rfl)
    · refine hX _ _ ?_
      refine T_skip ?_
      refine bodyQ_ret (by simp (disch := omega) only [RA, ↓reduceIte, Nat.reduceEqDiff, RD, resAll, resOf]; rfl) (GhV.nrm [0] rfl rfl (by simp only [RH]) (by simp only [tup, RH])) ?_
      simp only [tup]
      exact hK q hq
end Go.Bm

/- Sorting: the whole. -/
set_option linter.unusedVariables false
set_option linter.unusedSimpArgs false
namespace Go.Bm
open Go Go.Am

section
variable {k : Nat} {Q : Ex → Fr → BH → Prop} {f : Fr} {H : BH}
theorem T_mid {a rest : ACode} (P : Fr → BH → Prop) (h1 : ∀ R : Ex → Fr → BH → Prop, (∀ f' H', P f' H' → R .normal f' H') → (∀ f' H', Q .ret f' H' → R .ret f' H') → (∀ i f' H', Q (.exit i) f' H' → R (.exit i) f' H') → T k a R f H) (h2 : ∀ f' H', P f' H' → T k rest Q f' H') : T k (.seq a rest) Q f H :=
  T_seq (h1 (thenQ k rest Q) (fun _ _ h => h2 _ _ h) (fun _ _ h => h) (fun _ _ _ h => h))
end
/-- All pairs are in order but for those within a part. -/
def Od (a b a' b' : Nat) (q : List Int) : Prop := ∀ x y, a ≤ x → x < y → y < b → ¬ (a' ≤ x ∧ y < b') → el q x ≤ el q y
/-- What stands ahead of a part is not above it. -/
def Pre (a b : Nat) (q : List Int) : Prop := 0 < a → ∀ x, a ≤ x → x < b → el q (a - 1) ≤ el q x
section
variable {a b a' b' m : Nat} {q r : List Int}
theorem Od.sg (h : Od a b a' b' q) (ha : a ≤ a') (hb : b' ≤ b) (k : Sg a' b' q r) : Od a b a' b' r := by
  intro x y h1 h2 h3 h4
  by_cases hx : a' ≤ x ∧ x < b'
  · obtain ⟨x', x1, x2, x3⟩ := k.src x hx.1 hx.2
    rw [x3, k.out y (by omega)]
    exact h x' y (by omega) (by omega) h3 (by omega)
  · rw [k.out x (by omega)]
    by_cases hy : a' ≤ y ∧ y < b'
    · obtain ⟨y', y1, y2, y3⟩ := k.src y hy.1 hy.2
      rw [y3]
      exact h x y' h1 (by omega) (by omega) (by omega)
    · rw [k.out y (by omega)]
      exact h x y h1 h2 h3 h4
theorem Pre.sg (h : Pre a' b' q) (k : Sg a' b' q r) : Pre a' b' r := fun h0 x h1 h2 => by
  obtain ⟨x', x1, x2, x3⟩ := k.src x h1 h2
  rw [x3, k.out (a' - 1) (by omega)]
  exact h h0 x' x1 x2
theorem Od.left (h : Od a b a' b' q) (ha : a ≤ a') (hb : b' ≤ b) (h1 : a' ≤ m) (h2 : m < b') (hl : ∀ x, a' ≤ x → x < m → el q x ≤ el q m) (hr : ∀ x, m < x → x < b' → el q m ≤ el q x) (k : Sg a' m q r) (hs : Srt a' m r) : Od a b (m + 1) b' r := by
  intro x y k1 k2 k3 k4
  by_cases hb2 : a' ≤ x ∧ y < b'
  · have em : el r m = el q m := k.out m (by omega)
    have hlow : ∀ z, a' ≤ z → z < m → el r z ≤ el q m := fun z z1 z2 => by
      obtain ⟨z', w1, w2, w3⟩ := k.src z z1 z2
      rw [w3]
      exact hl z' w1 w2
    have hup : ∀ z, m < z → z < b' → el q m ≤ el r z := fun z z1 z2 => by
      rw [k.out z (by omega)]
      exact hr z z1 z2
    rcases Nat.lt_trichotomy y m with hy | hy | hy
    · exact hs x y hb2.1 (by omega) hy
    · subst hy
      rw [em]
      exact hlow x hb2.1 k2
    · have h9 := hup y hy hb2.2
      rcases Nat.lt_or_ge x m with hx | hx
      · exact Int.le_trans (hlow x hb2.1 hx) h9
      · obtain rfl : x = m := by omega
        rw [em]
        exact h9
  · exact h.sg ha hb (k.mono (by omega) (by omega)) x y k1 k2 k3 hb2
theorem Od.right (h : Od a b a' b' q) (ha : a ≤ a') (hb : b' ≤ b) (h1 : a' ≤ m) (h2 : m < b') (hl : ∀ x, a' ≤ x → x < m → el q x ≤ el q m) (hr : ∀ x, m < x → x < b' → el q m ≤ el q x) (k : Sg (m + 1) b' q r) (hs : Srt (m + 1) b' r) : Od a b a' m r := by
  intro x y k1 k2 k3 k4
  by_cases hb2 : a' ≤ x ∧ y < b'
  · have em : el r m = el q m := k.out m (by omega)
    have hlow : ∀ z, a' ≤ z → z < m → el r z ≤ el q m := fun z z1 z2 => by
      rw [k.out z (by omega)]
      exact hl z z1 z2
    have hup : ∀ z, m < z → z < b' → el q m ≤ el r z := fun z z1 z2 => by
      obtain ⟨z', w1, w2, w3⟩ := k.src z (by omega) z2
      rw [w3]
      exact hr z' (by omega) w2
    rcases Nat.lt_trichotomy x m with hx | hx | hx
    · have h9 := hlow x hb2.1 hx
      rcases Nat.lt_or_ge m y with hy | hy
      · exact Int.le_trans h9 (hup y hy hb2.2)
      · obtain rfl : y = m := by omega
        rw [em]
        exact h9
    · subst hx
      rw [em]
      exact hup y k2 hb2.2
    · exact hs x y (by omega) (by omega) hb2.2
  · exact h.sg ha hb (k.mono (by omega) (by omega)) x y k1 k2 k3 hb2
theorem Od.done (h : Od a b a' b' q) (ha : a ≤ a') (hb : b' ≤ b) (hs : Srt a' b' q) : Srt a b q := fun x y h1 h2 h3 => by
  rcases Nat.lt_or_ge x y with hx | hx
  · by_cases hc : a' ≤ x ∧ y < b'
    · exact hs x y hc.1 h2 hc.2
    · exact h x y h1 hx h3 hc
  · obtain rfl : x = y := by omega
    exact Int.le_refl _
end
set_option maxRecDepth 20000 in
theorem pdqsort_spec : ∀ (N : Nat) {p : List Int} {a b lim : Nat} {K : Value → BH → Prop}, p.length ≤ 1000 → b ≤ p.length → a ≤ b → b - a < N → b ≤ a + 16 → b - a ≤ lim + 12 → lim ≤ 1000 → Pre a b p → (∀ q, Sg a b p q → Srt a b q → K (.tuple ⟨[]⟩) [some (q.map I)]) →
    CallX false F_slices_pdqsortOrdered_int64 [S 0 0 p.length 1, I a, I b, I lim] [some (p.map I)] K
  | 0, _, _, _, _, _, _, _, _, h, _, _, _, _, _ => by omega
  | N + 1, p, a, b, lim, K, hpl, hb, hab, hN0, h16, hlim, hlm, hpre, hK => by
    have ih := fun {p : List Int} {a b lim : Nat} {K : Value → BH → Prop} => @pdqsort_spec N p a b lim K
    refine CallX_body Γ_slices_pdqsortOrdered_int64 ?_
    simp only [A_slices_pdqsortOrdered_int64, T_aiff]
    refine T_rseq fun Kr hKr => ?_
    simp (disch := omega) only [RA, ↓reduceIte, Nat.reduceEqDiff, Nat.reduceBEq, Nat.reduceSub, Nat.reduceAdd, Nat.reduceMul, Nat.reduceLT, Nat.reduceLeDiff, Int.reduceLE, Int.reduceLT, Int.reduceEq, Int.reduceNeg, Int.reduceToNat, Int.reduceMul, Int.reduceAdd, Int.reduceSub, Int.reduceBEq, Int.reduceBNe, reduceCtorEq, RD]
    refine hKr _ _ ?_
    clear hKr Kr
    try simp only [RN, reduceIte]
    try refine T_e rfl ?_
    refine T_rseq fun Kr hKr => ?_
    simp (disch := omega) only [RA, ↓reduceIte, Nat.reduceEqDiff, Nat.reduceBEq, Nat.reduceSub, Nat.reduceAdd, Nat.reduceMul, Nat.reduceLT, Nat.reduceLeDiff, Int.reduceLE, Int.reduceLT, Int.reduceEq, Int.reduceNeg, Int.reduceToNat, Int.reduceMul, Int.reduceAdd, Int.reduceSub, Int.reduceBEq, Int.reduceBNe, reduceCtorEq, RD]
    refine hKr _ _ ?_
    clear hKr Kr
    try simp only [RN, reduceIte]
    try refine T_e rfl ?_
    refine T_tail ?_
    refine T_wloop (fun m f H' => ∃ (q : List Int) (a' b' lim : Nat) (wb wp : Bool), Sg a b p q ∧ a ≤ a' ∧ a' ≤ b' ∧ b' ≤ b ∧ Od a b a' b' q ∧ Pre a' b' q ∧ b' - a' ≤ lim + 12 ∧ lim ≤ 1000 ∧ m = b' - a' ∧ f 0 = S 0 0 p.length 1 ∧ f 1 = I a' ∧ f 2 = I b' ∧ f 3 = I lim ∧ f 8 = .bool wb ∧ f 9 = .bool wp ∧ H' = [some (q.map I)]) (b - a) ?_ ?_
    · refine ⟨_, _, Gh.refl, p, a, b, lim, true, true, .refl, by omega, by omega, by omega, fun x y h1 h2 h3 h4 => absurd ⟨h1, h3⟩ h4, hpre, hlim, hlm, rfl, ?_, ?_, ?_, ?_, ?_, ?_, rfl⟩
      any_goals (simp (disch := omega) only [RA, ↓reduceIte, Nat.reduceEqDiff, RD, RE, *] <;> rfl)
    · clear hlim hlm hpre
      rintro m f H' R ⟨q, a', b', lim, wb, wp, hq, h1, h2, h3, hod, hpre, hlim, hlm, rfl, g0, g1, g2, g3, g8, g9, rfl⟩ hN hX hR hE
      simp only [A_slices_pdqsortOrdered_int64.l0, T_aiff]
      refine T_block ?_
      try simp only [RN, reduceIte]
      try refine T_e rfl ?_
      obtain ⟨l, hl⟩ : ∃ l, l = b' - a' := ⟨_, rfl⟩
      have hbl : (b' : Int) - (a' : Int) = (l : Int) := by omega
      have hql := hq.len
      refine T_rseq fun Kr hKr => ?_
      simp (disch := omega) only [RA, ↓reduceIte, Nat.reduceEqDiff, RD, g1, g2, hbl]
      refine hKr _ _ ?_
      clear hKr Kr
      try simp only [RN, reduceIte]
      try refine T_e rfl ?_
      refine T_rseq fun Kr hKr => ?_
      simp (disch := omega) only [RA, ↓reduceIte, Nat.reduceEqDiff, Nat.reduceBEq, Nat.reduceSub, Nat.reduceAdd, Nat.reduceMul, Nat.reduceLT, Nat.reduceLeDiff, Int.reduceLE, Int.reduceLT, Int.reduceEq, Int.reduceNeg, Int.reduceToNat, Int.reduceMul, Int.reduceAdd, Int.reduceSub, Int.reduceBEq, Int.reduceBNe, reduceCtorEq, RD]
      refine hKr _ _ ?_
      clear hKr Kr
      try simp only [RN, reduceIte]
      try refine T_e rfl ?_
      refine T_csplit (p := l ≤ 12) (by simp only [RA, ↓reduceIte, Nat.reduceEqDiff] <;> rfl) (by (try simp only [RB]) <;> first | done | exact Iff.rfl | omega | simp) (fun hc => ?_) (fun hc => ?_) <;> (try simp only [RN, reduceIte]) <;> (try refine T_e rfl ?_)
      · refine T_rseq fun Kr hKr => ?_
        simp (disch := omega) only [RA, ↓reduceIte, Nat.reduceEqDiff, RD, g0, g1, g2]
        rw [← hql]
        refine insertionSort_spec (by omega) (by omega) h2 ?_
        intro r hr hs
        simp (disch := omega) only [RA, ↓reduceIte, Nat.reduceEqDiff, RD]
        refine hKr _ _ ?_
        clear hKr Kr
        try simp only [blkQ, thenQ, loopQ]
        try simp only [RN, reduceIte]
        try refine T_e rfl ?_
        simp only [blkQ, thenQ, loopQ, if_true]
        refine hR _ _ ?_
        refine bodyQ_ret (by simp (disch := omega) only [RA, ↓reduceIte, Nat.reduceEqDiff, RD, resAll, resOf]; rfl) GhV.refl ?_
        simp only [tup]
        exact hK r (hq.trans (hr.mono h1 h3)) ((hod.sg h1 h3 hr).done h1 h3 hs)
      refine T_rseq fun Kr hKr => ?_
      simp (disch := omega) only [RA, ↓reduceIte, Nat.reduceEqDiff, RD, g3]
      refine hKr _ _ ?_
      clear hKr Kr
      try simp only [RN, reduceIte]
      try refine T_e rfl ?_
      refine T_cseq (t := false) (by simp (disch := omega) only [RA, ↓reduceIte, Nat.reduceEqDiff, RD]) ?_
      try simp only [RN, reduceIte]
      try refine T_e rfl ?_
      refine T_rseq fun Kr hKr => ?_
      simp (disch := omega) only [RA, ↓reduceIte, Nat.reduceEqDiff, RD, g8]
      refine hKr _ _ ?_
      clear hKr Kr
      try simp only [RN, reduceIte]
      try refine T_e rfl ?_
      refine T_mid (fun f H' => ∃ (q : List Int) (lim' : Nat), Sg a b p q ∧ Od a b a' b' q ∧ Pre a' b' q ∧ l ≤ lim' + 13 ∧ lim' ≤ 1000 ∧ f 0 = S 0 0 p.length 1 ∧ f 1 = I a' ∧ f 2 = I b' ∧ f 3 = I lim' ∧ f 8 = .bool wb ∧ f 9 = .bool wp ∧ f 10 = I l ∧ H' = [some (q.map I)]) ?_ ?_
      · intro R1 hR1 hR2 hR3
        cases wb
        · refine T_cond (t := true) (by simp (disch := omega) only [RA, ↓reduceIte, Nat.reduceEqDiff, RD]) ?_
          try simp only [RN, reduceIte]
          try refine T_e rfl ?_
          refine T_rseq fun Kr hKr => ?_
          simp (disch := omega) only [RA, ↓reduceIte, Nat.reduceEqDiff, RD, g0, g1, g2]
          rw [← hql]
          refine breakPatterns_spec (by omega) (by omega) (by omega) (by omega) ?_
          intro r hr
          simp (disch := omega) only [RA, ↓reduceIte, Nat.reduceEqDiff, RD]
          refine hKr _ _ ?_
          clear hKr Kr
          try simp only [blkQ, thenQ, loopQ]
          try simp only [RN, reduceIte]
          try refine T_e rfl ?_
          have hl1 : (lim : Int) - 1 = ((lim - 1 : Nat) : Int) := by omega
          have hrl := hr.len
          refine T_reg_k fun Kr hKr => ?_
          simp (disch := omega) only [RA, ↓reduceIte, Nat.reduceEqDiff, RD, g3, hl1]
          refine hKr _ _ ?_
          clear hKr Kr
          refine hR1 _ _ ⟨r, lim - 1, hq.trans (hr.mono h1 h3), hod.sg h1 h3 hr, hpre.sg hr, by omega, by omega, ?_, ?_, ?_, ?_, ?_, ?_, ?_, rfl⟩
          any_goals (simp (disch := omega) only [RA, ↓reduceIte, Nat.reduceEqDiff, RD, RE, *] <;> rfl)
        · refine T_cond (t := false) (by simp (disch := omega) only [RA, ↓reduceIte, Nat.reduceEqDiff, RD]) ?_
          try simp only [RN, reduceIte]
          try refine T_e rfl ?_
          refine hR1 _ _ ⟨q, lim, hq, hod, hpre, by omega, by omega, ?_, ?_, ?_, ?_, ?_, ?_, ?_, rfl⟩
          any_goals (simp (disch := omega) only [RA, ↓reduceIte, Nat.reduceEqDiff, RD, RE, *] <;> rfl)
      clear hq hql hod hpre g0 g1 g2 g3 g8 g9 hlim hlm lim q
      rintro f H' ⟨q, lim, hq, hod, hpre, hlim, hlm, g0, g1, g2, g3, g8, g9, g10, rfl⟩
      have hql := hq.len
      try simp only [RN, reduceIte]
      try refine T_e rfl ?_
      refine T_rseq fun Kr hKr => ?_
      simp (disch := omega) only [RA, ↓reduceIte, Nat.reduceEqDiff, RD, g0, g1, g2]
      rw [← hql]
      refine choosePivot_spec (by omega) (by omega) (by omega) (by omega) ?_
      intro piv h hp1 hp2
      simp (disch := omega) only [RA, ↓reduceIte, Nat.reduceEqDiff, RD]
      refine hKr _ _ ?_
      clear hKr Kr
      try simp only [blkQ, thenQ, loopQ]
      try simp only [RN, reduceIte]
      try refine T_e rfl ?_
      refine T_rseq fun Kr hKr => ?_
      simp (disch := omega) only [RA, ↓reduceIte, Nat.reduceEqDiff, Nat.reduceBEq, Nat.reduceSub, Nat.reduceAdd, Nat.reduceMul, Nat.reduceLT, Nat.reduceLeDiff, Int.reduceLE, Int.reduceLT, Int.reduceEq, Int.reduceNeg, Int.reduceToNat, Int.reduceMul, Int.reduceAdd, Int.reduceSub, Int.reduceBEq, Int.reduceBNe, reduceCtorEq, RD]
      refine hKr _ _ ?_
      clear hKr Kr
      try simp only [RN, reduceIte]
      try refine T_e rfl ?_
      refine T_mid (fun f H' => ∃ (q : List Int) (piv : Nat) (h : Int), a' ≤ piv ∧ piv < b' ∧ Sg a b p q ∧ Od a b a' b' q ∧ Pre a' b' q ∧ f 0 = S 0 0 p.length 1 ∧ f 1 = I a' ∧ f 2 = I b' ∧ f 3 = I lim ∧ f 8 = .bool wb ∧ f 9 = .bool wp ∧ f 10 = I l ∧ f 11 = I piv ∧ f 12 = I h ∧ H' = [some (q.map I)]) ?_ ?_
      · intro R1 hR1 hR2 hR3
        refine T_csplit1 (p := h = 2) (by simp only [RA, ↓reduceIte, Nat.reduceEqDiff] <;> rfl) (by (try simp only [RB]) <;> first | done | exact Iff.rfl | omega | simp) (fun hc => ?_) (fun hc => ?_) <;> (try simp only [RN, reduceIte]) <;> (try refine T_e rfl ?_)
        · refine T_rseq fun Kr hKr => ?_
          simp (disch := omega) only [RA, ↓reduceIte, Nat.reduceEqDiff, RD, g0, g1, g2]
          rw [← hql]
          refine reverseRange_spec (by omega) (by omega) (by omega) ?_
          intro r hr
          simp (disch := omega) only [RA, ↓reduceIte, Nat.reduceEqDiff, RD]
          refine hKr _ _ ?_
          clear hKr Kr
          try simp only [blkQ, thenQ, loopQ]
          try simp only [RN, reduceIte]
          try refine T_e rfl ?_
          have hpv : (b' : Int) - 1 - ((piv : Int) - (a' : Int)) = ((b' - 1 - (piv - a') : Nat) : Int) := by omega
          have hrl := hr.len
          refine T_rseq fun Kr hKr => ?_
          simp (disch := omega) only [RA, ↓reduceIte, Nat.reduceEqDiff, RD, g1, g2, hpv]
          refine hKr _ _ ?_
          clear hKr Kr
          try simp only [RN, reduceIte]
          try refine T_e rfl ?_
          refine T_reg_k fun Kr hKr => ?_
          simp (disch := omega) only [RA, ↓reduceIte, Nat.reduceEqDiff, RD]
          refine hKr _ _ ?_
          clear hKr Kr
          refine hR1 _ _ ⟨r, b' - 1 - (piv - a'), 1, by omega, by omega, hq.trans (hr.mono h1 h3), hod.sg h1 h3 hr, hpre.sg hr, ?_, ?_, ?_, ?_, ?_, ?_, ?_, ?_, ?_, rfl⟩
          any_goals (simp (disch := omega) only [RA, ↓reduceIte, Nat.reduceEqDiff, RD, RE, *] <;> rfl)
        · refine hR1 _ _ ⟨q, piv, h, hp1, hp2, hq, hod, hpre, ?_, ?_, ?_, ?_, ?_, ?_, ?_, ?_, ?_, rfl⟩
          any_goals (simp (disch := omega) only [RA, ↓reduceIte, Nat.reduceEqDiff, RD, RE, *] <;> rfl)
      clear hq hql hod hpre g0 g1 g2 g3 g8 g9 g10 hp1 hp2 piv h q
      rintro f H' ⟨q, piv, h, hp1, hp2, hq, hod, hpre, g0, g1, g2, g3, g8, g9, g10, g11, g12, rfl⟩
      have hql := hq.len
      try simp only [RN, reduceIte]
      try refine T_e rfl ?_
      have hpart : ∀ f', f' 0 = S 0 0 p.length 1 → f' 1 = I a' → f' 2 = I b' → f' 3 = I lim → f' 9 = .bool wp → f' 10 = I l → f' 11 = I piv → f' 8 = .bool wb →
          ∀ R1 : Ex → Fr → BH → Prop, (∀ f' H', (f' 0 = S 0 0 p.length 1 ∧ f' 1 = I a' ∧ f' 2 = I b' ∧ f' 3 = I lim ∧ f' 8 = .bool wb ∧ f' 9 = .bool wp ∧ f' 10 = I l ∧ f' 11 = I piv ∧ H' = [some (q.map I)]) → R1 .normal f' H') → (∀ f' H', bodyQ 1 [] K .ret f' H' → R1 .ret f' H') →
          T 1 (.seq A_slices_pdqsortOrdered_int64.r16 (.cond (.t 72) .ret .skip)) R1 f' [some (q.map I)] := by
        intro f' g0 g1 g2 g3 g9 g10 g11 g8 R1 hR1 hR2
        refine T_rseq fun Kr hKr => ?_
        simp (disch := omega) only [RA, ↓reduceIte, Nat.reduceEqDiff, RD, g0, g1, g2]
        rw [← hql]
        refine partialInsertionSort_spec (by omega) (by omega) (by omega) (by omega) ?_
        intro r hr
        simp (disch := omega) only [RA, ↓reduceIte, Nat.reduceEqDiff, RD]
        refine hKr _ _ ?_
        clear hKr Kr
        try simp only [blkQ, thenQ, loopQ]
        try simp only [RN, reduceIte]
        try refine T_e rfl ?_
        cases r
        · refine T_cond (t := false) (by simp (disch := omega) only [RA, ↓reduceIte, Nat.reduceEqDiff, RD]) ?_
          try simp only [RN, reduceIte]
          try refine T_e rfl ?_
          refine hR1 _ _ ⟨?_, ?_, ?_, ?_, ?_, ?_, ?_, ?_, rfl⟩
          any_goals (simp (disch := omega) only [RA, ↓reduceIte, Nat.reduceEqDiff, RD, RE, *] <;> rfl)
        · refine T_cond (t := true) (by simp (disch := omega) only [RA, ↓reduceIte, Nat.reduceEqDiff, RD]) ?_
          try simp only [RN, reduceIte]
          try refine T_e rfl ?_
          refine hR2 _ _ ?_
          refine bodyQ_ret (by simp (disch := omega) only [RA, ↓reduceIte, Nat.reduceEqDiff, RD, resAll, resOf]; rfl) GhV.refl ?_
          simp only [tup]
          exact hK q hq (hod.done h1 h3 (hr rfl))
      have hpart2 : ∀ f' (t : Bool), f' 0 = S 0 0 p.length 1 → f' 1 = I a' → f' 2 = I b' → f' 3 = I lim → f' 9 = .bool wp → f' 10 = I l → f' 11 = I piv → f' 8 = .bool wb → f' 68 = .bool t →
          ∀ R1 : Ex → Fr → BH → Prop, (∀ f' H', (f' 0 = S 0 0 p.length 1 ∧ f' 1 = I a' ∧ f' 2 = I b' ∧ f' 3 = I lim ∧ f' 8 = .bool wb ∧ f' 9 = .bool wp ∧ f' 10 = I l ∧ f' 11 = I piv ∧ H' = [some (q.map I)]) → R1 .normal f' H') → (∀ f' H', bodyQ 1 [] K .ret f' H' → R1 .ret f' H') →
          T 1 (.cond (.t 68) (.seq A_slices_pdqsortOrdered_int64.r16 (.cond (.t 72) .ret .skip)) .skip) R1 f' [some (q.map I)] := by
        intro f' t g0 g1 g2 g3 g9 g10 g11 g8 g68 R1 hR1 hR2
        cases t
        · refine T_cond (t := false) (by simp (disch := omega) only [RA, ↓reduceIte, Nat.reduceEqDiff, RD, g68]) ?_
          try simp only [RN, reduceIte]
          try refine T_e rfl ?_
          exact hR1 _ _ ⟨g0, g1, g2, g3, g8, g9, g10, g11, rfl⟩
        · refine T_cond (t := true) g68 ?_
          exact hpart _ g0 g1 g2 g3 g9 g10 g11 g8 R1 hR1 hR2
      refine T_mid (fun f H' => ∃ t : Bool, f 0 = S 0 0 p.length 1 ∧ f 1 = I a' ∧ f 2 = I b' ∧ f 3 = I lim ∧ f 8 = .bool wb ∧ f 9 = .bool wp ∧ f 10 = I l ∧ f 11 = I piv ∧ f 68 = .bool t ∧ H' = [some (q.map I)]) ?_ ?_
      · intro R1 hR1 hR2 hR3
        cases wb
        · refine T_reg_k fun Kr hKr => ?_
          simp (disch := omega) only [RA, ↓reduceIte, Nat.reduceEqDiff, RD, g8]
          refine hKr _ _ ?_
          clear hKr Kr
          refine hR1 _ _ ⟨false, ?_, ?_, ?_, ?_, ?_, ?_, ?_, ?_, ?_, rfl⟩
          any_goals (simp (disch := omega) only [RA, ↓reduceIte, Nat.reduceEqDiff, RD, RE, *] <;> rfl)
        · cases wp
          · refine T_reg_k fun Kr hKr => ?_
            simp (disch := omega) only [RA, ↓reduceIte, Nat.reduceEqDiff, RD, g8, g9]
            refine hKr _ _ ?_
            clear hKr Kr
            refine hR1 _ _ ⟨false, ?_, ?_, ?_, ?_, ?_, ?_, ?_, ?_, ?_, rfl⟩
            any_goals (simp (disch := omega) only [RA, ↓reduceIte, Nat.reduceEqDiff, RD, RE, *] <;> rfl)
          · refine T_reg_k fun Kr hKr => ?_
            simp (disch := omega) only [RA, ↓reduceIte, Nat.reduceEqDiff, RD, g8, g9, g12]
            refine hKr _ _ ?_
            clear hKr Kr
            refine hR1 _ _ ⟨decide (h = 1), ?_, ?_, ?_, ?_, ?_, ?_, ?_, ?_, ?_, rfl⟩
            any_goals (simp (disch := omega) only [RA, ↓reduceIte, Nat.reduceEqDiff, RD, RE, *] <;> rfl)
      clear g0 g1 g2 g3 g8 g9 g10 g11 g12
      rintro f H' ⟨t, g0, g1, g2, g3, g8, g9, g10, g11, g68, rfl⟩
      refine T_mid (fun f H' => f 0 = S 0 0 p.length 1 ∧ f 1 = I a' ∧ f 2 = I b' ∧ f 3 = I lim ∧ f 8 = .bool wb ∧ f 9 = .bool wp ∧ f 10 = I l ∧ f 11 = I piv ∧ H' = [some (q.map I)]) ?_ ?_
      · intro R1 hR1 hR2 hR3
        exact hpart2 f t g0 g1 g2 g3 g9 g10 g11 g8 g68 R1 hR1 (fun f' H' h => hR2 _ _ (hR _ _ h))
      clear hpart hpart2 g0 g1 g2 g3 g8 g9 g10 g11 g68
      rintro f H' ⟨g0, g1, g2, g3, g8, g9, g10, g11, rfl⟩
      try simp only [RN, reduceIte]
      try refine T_e rfl ?_
      refine T_mid (fun f H' => ∃ t : Bool, (t = true → 0 < a' ∧ el q piv ≤ el q (a' - 1)) ∧ f 0 = S 0 0 p.length 1 ∧ f 1 = I a' ∧ f 2 = I b' ∧ f 3 = I lim ∧ f 8 = .bool wb ∧ f 9 = .bool wp ∧ f 10 = I l ∧ f 11 = I piv ∧ f 87 = .bool t ∧ H' = [some (q.map I)]) ?_ ?_
      · intro R1 hR1 hR2 hR3
        by_cases ha0 : 0 < a'
        · have hai : (a' : Int) - 1 = ((a' - 1 : Nat) : Int) := by omega
          refine T_reg_k fun Kr hKr => ?_
          simp (disch := omega) only [RA, ↓reduceIte, Nat.reduceEqDiff, RD, g0, g1, g11, ha0, hai, hql]
          refine Less_spec ?_
          simp (disch := omega) only [RA, ↓reduceIte, Nat.reduceEqDiff, RD]
          refine hKr _ _ ?_
          refine hR1 _ _ ⟨!decide (el q (a' - 1) < el q piv), fun h => ⟨ha0, by simpa using h⟩, ?_, ?_, ?_, ?_, ?_, ?_, ?_, ?_, ?_, rfl⟩
          any_goals (simp (disch := omega) only [RA, ↓reduceIte, Nat.reduceEqDiff, RD, RE, *] <;> rfl)
        · refine T_reg_k fun Kr hKr => ?_
          simp (disch := omega) only [RA, ↓reduceIte, Nat.reduceEqDiff, RD, g1, ha0]
          refine hKr _ _ ?_
          clear hKr Kr
          refine hR1 _ _ ⟨false, fun h => (by cases h), ?_, ?_, ?_, ?_, ?_, ?_, ?_, ?_, ?_, rfl⟩
          any_goals (simp (disch := omega) only [RA, ↓reduceIte, Nat.reduceEqDiff, RD, RE, *] <;> rfl)
      clear g0 g1 g2 g3 g8 g9 g10 g11
      rintro f H' ⟨t, ht, g0, g1, g2, g3, g8, g9, g10, g11, g87, rfl⟩
      by_cases htt : t = true
      · subst htt
        obtain ⟨ha0, hle⟩ := ht rfl
        refine T_cseq (t := true) (by simp (disch := omega) only [RA, ↓reduceIte, Nat.reduceEqDiff, RD, g87]) ?_
        try simp only [RN, reduceIte]
        try refine T_e rfl ?_
        refine T_rseq fun Kr hKr => ?_
        simp (disch := omega) only [RA, ↓reduceIte, Nat.reduceEqDiff, RD, g0, g1, g2, g11]
        rw [← hql]
        refine partitionEqual_spec (by omega) (by omega) hp1 hp2 (fun x x1 x2 => Int.le_trans hle (hpre ha0 x x1 x2)) ?_
        intro r mid hr hm1 hm2 hm3 hm4
        have hrl := hr.len
        simp (disch := omega) only [RA, ↓reduceIte, Nat.reduceEqDiff, RD]
        refine hKr _ _ ?_
        clear hKr Kr
        try simp only [blkQ, thenQ, loopQ]
        try simp only [RN, reduceIte]
        try refine T_e rfl ?_
        refine T_rseq fun Kr hKr => ?_
        simp (disch := omega) only [RA, ↓reduceIte, Nat.reduceEqDiff, Nat.reduceBEq, Nat.reduceSub, Nat.reduceAdd, Nat.reduceMul, Nat.reduceLT, Nat.reduceLeDiff, Int.reduceLE, Int.reduceLT, Int.reduceEq, Int.reduceNeg, Int.reduceToNat, Int.reduceMul, Int.reduceAdd, Int.reduceSub, Int.reduceBEq, Int.reduceBNe, reduceCtorEq, RD]
        refine hKr _ _ ?_
        clear hKr Kr
        try simp only [RN, reduceIte]
        try refine T_e rfl ?_
        refine hN (b' - mid) _ _ _ _ (by omega) Gh.refl ⟨r, mid, b', lim, wb, wp, hq.trans (hr.mono h1 h3), by omega, by omega, h3, ?_, fun _ x x1 x2 => (by rw [hm3 (mid - 1) (by omega) (by omega)]; exact hm4 x (by omega) x2), by omega, hlm, rfl, ?_, ?_, ?_, ?_, ?_, ?_, rfl⟩
        any_goals (simp (disch := omega) only [RA, ↓reduceIte, Nat.reduceEqDiff, RD, RE, *] <;> rfl)
        · intro x y k1 k2 k3 k4
          by_cases hb2 : a' ≤ x ∧ y < b'
          · rw [hm3 x hb2.1 (by omega)]
            exact hm4 y (by omega) hb2.2
          · exact hod.sg h1 h3 hr x y k1 k2 k3 hb2
      · have : t = false := by simpa using htt
        subst this
        refine T_cseq (t := false) (by simp (disch := omega) only [RA, ↓reduceIte, Nat.reduceEqDiff, RD, g87]) ?_
        try simp only [RN, reduceIte]
        try refine T_e rfl ?_
        refine T_rseq fun Kr hKr => ?_
        simp (disch := omega) only [RA, ↓reduceIte, Nat.reduceEqDiff, RD, g0, g1, g2, g11]
        rw [← hql]
        refine partition_spec (by omega) (by omega) hp1 hp2 ?_
        intro r mid al hr hm1 hm2 hm3 hm4
        have hrl := hr.len
        have hod' := hod.sg h1 h3 hr
        have hpre' := hpre.sg hr
        have e1 : (mid : Int) - (a' : Int) = ((mid - a' : Nat) : Int) := by omega
        have e2 : (b' : Int) - (mid : Int) = ((b' - mid : Nat) : Int) := by omega
        have e3 : (l : Int).tdiv 8 = ((l / 8 : Nat) : Int) := (Int.ofNat_tdiv l 8).symm
        have e4 : (mid : Int) + 1 = ((mid + 1 : Nat) : Int) := by omega
        have hdiv : l / 8 ≤ 16 := by omega
        simp (disch := omega) only [RA, ↓reduceIte, Nat.reduceEqDiff, RD]
        refine hKr _ _ ?_
        clear hKr Kr
        try simp only [blkQ, thenQ, loopQ]
        try simp only [RN, reduceIte]
        try refine T_e rfl ?_
        refine T_rseq fun Kr hKr => ?_
        simp (disch := omega) only [RA, ↓reduceIte, Nat.reduceEqDiff, Nat.reduceBEq, Nat.reduceSub, Nat.reduceAdd, Nat.reduceMul, Nat.reduceLT, Nat.reduceLeDiff, Int.reduceLE, Int.reduceLT, Int.reduceEq, Int.reduceNeg, Int.reduceToNat, Int.reduceMul, Int.reduceAdd, Int.reduceSub, Int.reduceBEq, Int.reduceBNe, reduceCtorEq, RD]
        refine hKr _ _ ?_
        clear hKr Kr
        try simp only [RN, reduceIte]
        try refine T_e rfl ?_
        refine T_rseq fun Kr hKr => ?_
        simp (disch := omega) only [RA, ↓reduceIte, Nat.reduceEqDiff, Nat.reduceBEq, Nat.reduceSub, Nat.reduceAdd, Nat.reduceMul, Nat.reduceLT, Nat.reduceLeDiff, Int.reduceLE, Int.reduceLT, Int.reduceEq, Int.reduceNeg, Int.reduceToNat, Int.reduceMul, Int.reduceAdd, Int.reduceSub, Int.reduceBEq, Int.reduceBNe, reduceCtorEq, RD, g1, g2, e1, e2]
        refine hKr _ _ ?_
        clear hKr Kr
        try simp only [RN, reduceIte]
        try refine T_e rfl ?_
        refine T_rseq fun Kr hKr => ?_
        simp (disch := omega) only [RA, ↓reduceIte, Nat.reduceEqDiff, Nat.reduceBEq, Nat.reduceSub, Nat.reduceAdd, Nat.reduceMul, Nat.reduceLT, Nat.reduceLeDiff, Int.reduceLE, Int.reduceLT, Int.reduceEq, Int.reduceNeg, Int.reduceToNat, Int.reduceMul, Int.reduceAdd, Int.reduceSub, Int.reduceBEq, Int.reduceBNe, reduceCtorEq, RD, g10, e3]
        refine hKr _ _ ?_
        clear hKr Kr
        try simp only [RN, reduceIte]
        try refine T_e rfl ?_
        refine T_rseq fun Kr hKr => ?_
        simp (disch := omega) only [RA, ↓reduceIte, Nat.reduceEqDiff, Nat.reduceBEq, Nat.reduceSub, Nat.reduceAdd, Nat.reduceMul, Nat.reduceLT, Nat.reduceLeDiff, Int.reduceLE, Int.reduceLT, Int.reduceEq, Int.reduceNeg, Int.reduceToNat, Int.reduceMul, Int.reduceAdd, Int.reduceSub, Int.reduceBEq, Int.reduceBNe, reduceCtorEq, RD]
        refine hKr _ _ ?_
        clear hKr Kr
        try simp only [RN, reduceIte]
        try refine T_e rfl ?_
        refine T_csplit1 (p := mid - a' < b' - mid) (by simp only [RA, ↓reduceIte, Nat.reduceEqDiff] <;> rfl) (by (try simp only [RB]) <;> first | done | exact Iff.rfl | omega | simp) (fun hc => ?_) (fun hc => ?_) <;> (try simp only [RN, reduceIte]) <;> (try refine T_e rfl ?_)
        · refine T_rseq fun Kr hKr => ?_
          simp (disch := omega) only [RA, ↓reduceIte, Nat.reduceEqDiff, RD]
          refine hKr _ _ ?_
          clear hKr Kr
          try simp only [RN, reduceIte]
          try refine T_e rfl ?_
          refine T_rseq fun Kr hKr => ?_
          simp (disch := omega) only [RA, ↓reduceIte, Nat.reduceEqDiff, RD, g0, g1, g3]
          rw [← hql, ← hrl]
          refine ih (by omega) (by omega) hm1 (by omega) (by omega) (by omega) hlm (fun h0 x x1 x2 => hpre' h0 x x1 (by omega)) ?_
          intro r2 hr2 hs2
          have hr2l := hr2.len
          simp (disch := omega) only [RA, ↓reduceIte, Nat.reduceEqDiff, RD]
          refine hKr _ _ ?_
          clear hKr Kr
          try simp only [blkQ, thenQ, loopQ]
          try simp only [RN, reduceIte]
          try refine T_e rfl ?_
          refine T_reg_k fun Kr hKr => ?_
          simp (disch := omega) only [RA, ↓reduceIte, Nat.reduceEqDiff, RD, e4]
          refine hKr _ _ ?_
          clear hKr Kr
          refine hN (b' - (mid + 1)) _ _ _ _ (by omega) Gh.refl ⟨r2, mid + 1, b', lim, decide (l / 8 ≤ mid - a'), al, (hq.trans (hr.mono h1 h3)).trans (hr2.mono h1 (by omega)), by omega, by omega, h3, hod'.left h1 h3 hm1 hm2 hm3 hm4 hr2 hs2, fun _ x x1 x2 => ?_, by omega, hlm, rfl, ?_, ?_, ?_, ?_, ?_, ?_, rfl⟩
          any_goals (simp (disch := omega) only [RA, ↓reduceIte, Nat.reduceEqDiff, RD, RE, *] <;> rfl)
          rw [Nat.add_sub_cancel, hr2.out mid (by omega), hr2.out x (by omega)]
          exact hm4 x (by omega) x2
        · refine T_rseq fun Kr hKr => ?_
          simp (disch := omega) only [RA, ↓reduceIte, Nat.reduceEqDiff, RD]
          refine hKr _ _ ?_
          clear hKr Kr
          try simp only [RN, reduceIte]
          try refine T_e rfl ?_
          refine T_rseq fun Kr hKr => ?_
          simp (disch := omega) only [RA, ↓reduceIte, Nat.reduceEqDiff, RD, g0, g2, g3, e4]
          rw [← hql, ← hrl]
          refine ih (by omega) (by omega) (by omega) (by omega) (by omega) (by omega) hlm (fun _ x x1 x2 => by rw [Nat.add_sub_cancel]; exact hm4 x (by omega) x2) ?_
          intro r2 hr2 hs2
          have hr2l := hr2.len
          simp (disch := omega) only [RA, ↓reduceIte, Nat.reduceEqDiff, RD]
          refine hKr _ _ ?_
          clear hKr Kr
          try simp only [blkQ, thenQ, loopQ]
          try simp only [RN, reduceIte]
          try refine T_e rfl ?_
          refine T_reg_k fun Kr hKr => ?_
          simp (disch := omega) only [RA, ↓reduceIte, Nat.reduceEqDiff, RD]
          refine hKr _ _ ?_
          clear hKr Kr
          refine hN (mid - a') _ _ _ _ (by omega) Gh.refl ⟨r2, a', mid, lim, decide (l / 8 ≤ b' - mid), al, (hq.trans (hr.mono h1 h3)).trans (hr2.mono (by omega) h3), by omega, by omega, by omega, hod'.right h1 h3 hm1 hm2 hm3 hm4 hr2 hs2, fun h0 x x1 x2 => ?_, by omega, hlm, rfl, ?_, ?_, ?_, ?_, ?_, ?_, rfl⟩
          any_goals (simp (disch := omega) only [RA, ↓reduceIte, Nat.reduceEqDiff, RD, RE, *] <;> rfl)
          rw [hr2.out (a' - 1) (by omega), hr2.out x (by omega)]
          exact hpre' h0 x x1 (by omega)
/-- Sorting in place. -/
theorem Sort_spec {p : List Int} {K : Value → BH → Prop} (hpl : p.length ≤ 16) (hK : ∀ q : List Int, q.Perm p → Srt 0 p.length q → K (.tuple ⟨[]⟩) [some (q.map I)]) :
    CallX false F_slices_Sort_int64_int64 [S 0 0 p.length 1] [some (p.map I)] K := by
  have hle := (lenOf_small p.length (by omega)).1
  have hlt := @lenOf_lt p.length
  refine CallX_body Γ_slices_Sort_int64_int64 ?_
  simp only [A_slices_Sort_int64_int64, T_aiff]
  refine T_rseq fun Kr hKr => ?_
  simp (disch := omega) only [RA, ↓reduceIte, Nat.reduceEqDiff, RD]
  refine hKr _ _ ?_
  clear hKr Kr
  try simp only [RN, reduceIte]
  try refine T_e rfl ?_
  refine T_reg_k fun Kr hKr => ?_
  simp (disch := omega) only [RA, ↓reduceIte, Nat.reduceEqDiff, RD, wu64]
  refine Len_spec (by omega) ?_
  simp (disch := omega) only [RA, ↓reduceIte, Nat.reduceEqDiff, RD]
  refine pdqsort_spec (p.length + 1) (a := 0) (b := p.length) (lim := lenOf p.length) (by omega) (Nat.le_refl _) (Nat.zero_le _) (by omega) (by omega) (by omega) (by omega) (fun h => by omega) ?_
  intro q hq hs
  simp (disch := omega) only [RA, ↓reduceIte, Nat.reduceEqDiff, RD]
  refine hKr _ _ ?_
  clear hKr Kr
  refine bodyQ_ret (by simp (disch := omega) only [RA, ↓reduceIte, Nat.reduceEqDiff, RD, resAll, resOf]; rfl) GhV.refl ?_
  simp only [tup]
  exact hK q hq.perm hs
end Go.Bm

/- Lists of numbers as cells. -/
set_option linter.unusedVariables false
set_option linter.unusedSimpArgs false
namespace Go.Bm
open Go Go.Am

abbrev N64 (n : Nat) : Value := .int .i64 (n : Int)
theorem getN_64 {p : List Nat} {k : Nat} (h : k < p.length) : getN none (p.map N64) k = some (N64 (nl p k)) := by
  simp [getN, h, nl, List.getD]
theorem app1_64 {H : BH} {b bytes cn : Nat} {xs : List Nat} {y : Nat} (h : (xs.length + 1) * bytes ≤ 140737488355328) : app1 (some [.int .i64 (y : Int)]) (some (xs.map N64)) H b xs.length bytes cn = some (S H.length 0 (xs.length + 1) 1, (H.set b none) ++ [some ((xs ++ [y]).map N64)]) := app1_g (g := N64) rfl h
theorem NNL_F8 {l : List Nat} : NNL (l.map N8) := NNL.map fun _ => .int
end Go.Bm

/- Lists in descending order. -/
set_option linter.unusedVariables false
set_option linter.unusedSimpArgs false
namespace Go.Bm
open Go Go.Am

def ofN (xs : List Nat) : List Int := xs.map fun n : Nat => (n : Int)
theorem map_N64 {xs : List Nat} : xs.map N64 = (ofN xs).map I := by simp [ofN, Function.comp_def]
theorem ofN_len {xs : List Nat} : (ofN xs).length = xs.length := by simp [ofN]
theorem el_ofN {xs : List Nat} {i : Nat} : el (ofN xs) i = (nl xs i : Int) := by
  simp only [el, ofN, nl, List.getD, List.getElem?_map]
  cases xs[i]? <;> rfl
/-- In descending order. -/
def Dsc (p : List Int) : Prop := ∀ i j, i ≤ j → j < p.length → el p j ≤ el p i
theorem Dsc.tail {a : Int} {p : List Int} (h : Dsc (a :: p)) : Dsc p := fun i j h1 h2 => by
  have := h (i + 1) (j + 1) (by omega) (by simp; omega)
  simpa [el, List.getD] using this
theorem Dsc.head {a : Int} {p : List Int} (h : Dsc (a :: p)) : ∀ x ∈ p, x ≤ a := fun x hx => by
  obtain ⟨i, hi, rfl⟩ := List.mem_iff_getElem.1 hx
  have := h 0 (i + 1) (by omega) (by simpa using hi)
  simpa [el, List.getD, hi] using this
/-- There is but one. -/
theorem Dsc.uniq : ∀ {p q : List Int}, Dsc p → Dsc q → p.Perm q → p = q
  | [], q, _, _, h => (List.nil_perm.1 h).symm
  | a :: p, [], _, _, h => by simp at h
  | a :: p, b :: q, hp, hq, h => by
    have hab : a = b := by
      have h1 : a ∈ b :: q := h.subset (by simp)
      have h2 : b ∈ a :: p := h.symm.subset (by simp)
      have h3 : a ≤ b := by
        rcases List.mem_cons.1 h1 with e | e
        · omega
        · exact hq.head a e
      have h4 : b ≤ a := by
        rcases List.mem_cons.1 h2 with e | e
        · omega
        · exact hp.head b e
      omega
    subst hab
    rw [Dsc.uniq hp.tail hq.tail (List.Perm.cons_inv h)]
theorem el_reverse {p : List Int} {i : Nat} (hi : i < p.length) : el p.reverse i = el p (p.length - 1 - i) := by
  simp only [el, List.getD]
  rw [List.getElem?_reverse (by omega)]
theorem descending_spec {p r : List Int} {K : Value → BH → Prop} (hpl : p.length ≤ 16) (hr : Dsc r) (hp : r.Perm p) (hK : K (S 0 0 p.length 1) [some (r.map I)]) :
    CallX false F_impl_descending [S 0 0 p.length 1] [some (p.map I)] K := by
  refine CallX_body Γ_impl_descending ?_
  simp only [A_impl_descending, T_aiff]
  refine T_rseq fun Kr hKr => ?_
  simp (disch := omega) only [RA, ↓reduceIte, Nat.reduceEqDiff, RD]
  refine hKr _ _ ?_
  clear hKr Kr
  try simp only [RN, reduceIte]
  try refine T_e rfl ?_
  refine T_rseq fun Kr hKr => ?_
  simp (disch := omega) only [RA, ↓reduceIte, Nat.reduceEqDiff, RD]
  refine Sort_spec hpl ?_
  intro q hq hs
  have hql : q.length = p.length := hq.length_eq
  simp (disch := omega) only [RA, ↓reduceIte, Nat.reduceEqDiff, RD]
  refine hKr _ _ ?_
  clear hKr Kr
  try simp only [blkQ, thenQ, loopQ]
  try simp only [RN, reduceIte]
  try refine T_e rfl ?_
  refine T_rseq fun Kr hKr => ?_
  simp (disch := omega) only [RA, ↓reduceIte, Nat.reduceEqDiff, RD]
  rw [← hql]
  refine Reverse_spec (by omega) ?_
  have e : q.reverse = r := by
    refine Dsc.uniq (fun i j h1 h2 => ?_) hr ((List.reverse_perm q).trans (hq.trans hp.symm))
    simp only [List.length_reverse] at h2
    rw [el_reverse h2, el_reverse (by omega)]
    exact hs _ _ (Nat.zero_le _) (by omega) (by omega)
  rw [e]
  simp (disch := omega) only [RA, ↓reduceIte, Nat.reduceEqDiff, RD]
  refine hKr _ _ ?_
  clear hKr Kr
  try simp only [blkQ, thenQ, loopQ]
  try simp only [RN, reduceIte]
  try refine T_e rfl ?_
  refine T_rseq fun Kr hKr => ?_
  simp (disch := omega) only [RA, ↓reduceIte, Nat.reduceEqDiff, RD]
  refine hKr _ _ ?_
  clear hKr Kr
  try simp only [RN, reduceIte]
  try refine T_e rfl ?_
  refine bodyQ_ret (by simp (disch := omega) only [RA, ↓reduceIte, Nat.reduceEqDiff, RD, resAll, resOf]; rfl) GhV.refl ?_
  simp only [tup]
  rw [hql]
  exact hK
end Go.Bm

/- Lists of numbers in descending order, made by counting. -/
set_option linter.unusedVariables false
set_option linter.unusedSimpArgs false
namespace Go.Bm
open Go Go.Am

/-- How many there are of each number, at the first i. -/
def cntT (zs : List Nat) : Nat → List Nat
  | 0 => List.replicate 17 0
  | i + 1 => (cntT zs i).set (nl zs i) (nl (cntT zs i) (nl zs i) + 1)
theorem cntT_len {zs : List Nat} {i : Nat} : (cntT zs i).length = 17 := by
  induction i with
  | zero => simp [cntT]
  | succ i ih => simp [cntT, ih]
theorem take_succ_nl' {zs : List Nat} {i : Nat} (h : i < zs.length) : zs.take (i + 1) = zs.take i ++ [nl zs i] := by
  rw [List.take_add_one]
  simp [nl, List.getD, h]
theorem cntT_nl {zs : List Nat} {i v : Nat} (hi : i ≤ zs.length) (hv : v < 17) : nl (cntT zs i) v = (zs.take i).count v := by
  induction i with
  | zero => simp only [cntT, nl_rep]; split <;> simp
  | succ i ih =>
    rw [take_succ_nl' (by omega), List.count_append, cntT, nl_set, ih (by omega)]
    by_cases h : v = nl zs i
    · subst h
      rw [if_pos ⟨rfl, by rw [cntT_len]; exact hv⟩, ih (by omega)]
      simp
    · rw [if_neg (fun e => h e.1)]
      have : ([nl zs i] : List Nat).count v = 0 := by
        rw [List.count_cons, List.count_nil]
        simp [show (nl zs i == v) = false by simpa using fun e => h e.symm]
      omega
/-- The numbers n, n - 1, .. as often as they come. -/
def typK (cn : List Nat) (n : Nat) : Nat → List Nat
  | 0 => []
  | k + 1 => typK cn n k ++ List.replicate (nl cn (n - k)) (n - k)
def typL (zs : List Nat) (n : Nat) : List Nat := typK (cntT zs zs.length) n n
theorem typK_count {cn : List Nat} {n v : Nat} : ∀ {k : Nat}, k ≤ n → (typK cn n k).count v = if n - k < v ∧ v ≤ n then nl cn v else 0
  | 0, _ => by
    rw [if_neg (by omega)]
    rfl
  | k + 1, hk => by
    rw [typK, List.count_append, typK_count (by omega), List.count_replicate]
    by_cases h : n - k = v
    · subst h
      rw [if_neg (by omega), if_pos (by simp), if_pos (by omega)]
      omega
    · have e : ((n - k) == v) = false := by simpa using h
      rw [e]
      simp only [Bool.false_eq_true, if_false, Nat.add_zero]
      by_cases h2 : n - k < v ∧ v ≤ n
      · rw [if_pos h2, if_pos (by omega)]
      · rw [if_neg h2, if_neg (by omega)]
theorem typK_ge {cn : List Nat} {n : Nat} : ∀ {k : Nat}, k ≤ n → ∀ z ∈ typK cn n k, n + 1 - k ≤ z
  | 0, _, z, hz => by simp [typK] at hz
  | k + 1, hk, z, hz => by
    simp only [typK, List.mem_append, List.mem_replicate] at hz
    rcases hz with hz | ⟨_, rfl⟩
    · have := typK_ge (k := k) (by omega) z hz
      omega
    · omega
theorem typK_dsc {cn : List Nat} {n : Nat} : ∀ {k : Nat}, k ≤ n → ∀ i j, i ≤ j → j < (typK cn n k).length → nl (typK cn n k) j ≤ nl (typK cn n k) i
  | 0, _, i, j, _, h => by simp [typK] at h
  | k + 1, hk, i, j, h1, h2 => by
    have ih := typK_dsc (cn := cn) (n := n) (k := k) (by omega)
    simp only [typK, List.length_append, List.length_replicate] at h2 ⊢
    simp only [nl_append]
    by_cases hj : j < (typK cn n k).length
    · rw [if_pos hj, if_pos (by omega)]
      exact ih i j h1 hj
    · rw [if_neg hj, nl_rep, if_pos (by omega)]
      by_cases hi : i < (typK cn n k).length
      · rw [if_pos hi]
        have : nl (typK cn n k) i ∈ typK cn n k := nl_mem hi
        have := typK_ge (by omega) _ this
        omega
      · rw [if_neg hi, nl_rep, if_pos (by omega)]
        exact Nat.le_refl _
theorem typL_dsc {zs : List Nat} {n : Nat} : Dsc (ofN (typL zs n)) := fun i j h1 h2 => by
  rw [ofN_len] at h2
  rw [el_ofN, el_ofN]
  exact Int.ofNat_le.2 (typK_dsc (Nat.le_refl _) i j h1 h2)
theorem typL_perm {zs : List Nat} {n : Nat} (hn : n ≤ 16) (h : ∀ z ∈ zs, 1 ≤ z ∧ z ≤ n) : (typL zs n).Perm zs := by
  rw [List.perm_iff_count]
  intro v
  rw [typL, typK_count (Nat.le_refl _), Nat.sub_self]
  by_cases hv : 0 < v ∧ v ≤ n
  · rw [if_pos hv, cntT_nl (Nat.le_refl _) (by omega), List.take_length]
  · rw [if_neg hv, List.count_eq_zero.2 fun hm => hv (by have := h v hm; omega)]
theorem typK_le {zs : List Nat} {n k : Nat} (hn : n ≤ 16) (hk : k ≤ n) (h : ∀ z ∈ zs, 1 ≤ z ∧ z ≤ n) : (typK (cntT zs zs.length) n k).length ≤ zs.length := by
  have hp := (typL_perm hn h).length_eq
  have : ∀ j, j ≤ n → (typK (cntT zs zs.length) n j).length ≤ (typK (cntT zs zs.length) n n).length := by
    intro j hj
    obtain ⟨d, rfl⟩ : ∃ d, n = j + d := ⟨n - j, by omega⟩
    have : ∀ m d, (typK (cntT zs zs.length) m j).length ≤ (typK (cntT zs zs.length) m (j + d)).length := by
      intro m d
      induction d with
      | zero => exact Nat.le_refl _
      | succ d ih =>
        rw [show j + (d + 1) = (j + d) + 1 by omega, typK, List.length_append]
        omega
    exact this _ d
  have := this k hk
  rw [typL] at hp
  omega
/-- The lengths of the cycles in descending order. -/
def lens (p : List Nat) (n : Nat) : List Nat := (cyc p n).map List.length
def typ (p : List Nat) (n : Nat) : List Nat := typL (lens p n) n
section
variable {p : List Nat} {n : Nat}
theorem lens_ok (hp : Perm p n) : ∀ z ∈ lens p n, 1 ≤ z ∧ z ≤ n := fun z hz => by
  obtain ⟨c, hc, rfl⟩ := List.mem_map.1 hz
  exact cyc_len hp hc
theorem lens_len (hp : Perm p n) : (lens p n).length ≤ 16 := by
  rw [lens, List.length_map]
  have := cyc_num hp
  have := hp.1
  omega
theorem typ_perm (hp : Perm p n) : (typ p n).Perm (lens p n) := typL_perm (by have := hp.1; omega) (lens_ok hp)
theorem typ_len (hp : Perm p n) : (typ p n).length = (cyc p n).length := by rw [(typ_perm hp).length_eq, lens, List.length_map]
end
end Go.Bm

/- Cycles in memory. -/
set_option linter.unusedVariables false
set_option linter.unusedSimpArgs false
namespace Go.Bm
open Go Go.Am

/-- A list of numbers that is only read. -/
abbrev FN (c : List Nat) : Value := Fz c.length 1 (c.map N64)
theorem NNL_FN {p : List (List Nat)} : NNL (p.map FN) := NNL.map fun _ => NN.fz
theorem NNL_64 {p : List Nat} : NNL (p.map N64) := NNL.map fun _ => NN.int
theorem app1_FN {H : BH} {b bytes cn : Nat} {xs : List (List Nat)} {y : List Nat} (h : (xs.length + 1) * bytes ≤ 140737488355328) : app1 (some [Fz y.length 1 (y.map N64)]) (some (xs.map FN)) H b xs.length bytes cn = some (S H.length 0 (xs.length + 1) 1, (H.set b none) ++ [some ((xs ++ [y]).map FN)]) := app1_g (g := FN) rfl h
theorem getN_FN {xs : List (List Nat)} {k : Nat} (h : k < xs.length) : getN none (xs.map FN) k = some (FN (xs.getD k [])) := by
  simp [getN, h, List.getD]
theorem frz_ne {i j o l e : Nat} {cs : List Value} (h : j ≠ i) : frz i cs (S j o l e) = S j o l e := by
  simp only [frz]
  rw [if_neg (fun k => h k.1)]
theorem RV : (type_of% @NNL_FN) ∧ (type_of% @NNL_64) := ⟨@NNL_FN, @NNL_64⟩
theorem cycles_run {p : List Nat} {n : Nat} (hb : By 16 p) (hp : Perm p n) :
    CallX false F_impl_cycles [PL p, I n] [] fun v H1 => ∃ j, v = S j 0 (cyc p n).length 1 ∧ blk H1 j = some ((cyc p n).map FN) := by
  have hlen := hb.len
  have hn := hp.1
  obtain ⟨M, hM⟩ : ∃ M, M = 16 := ⟨_, rfl⟩
  have hcyc : cyc p n = (cycK p M n).2 := by rw [hM]; rfl
  rw [hcyc]
  refine CallX_body Γ_impl_cycles ?_
  simp only [A_impl_cycles, T_aiff]
  refine T_rseq fun Kr hKr => ?_
  simp (disch := omega) only [RA, ↓reduceIte, Nat.reduceEqDiff, Nat.reduceBEq, Nat.reduceSub, Nat.reduceAdd, Nat.reduceMul, Nat.reduceLT, Nat.reduceLeDiff, Int.reduceLE, Int.reduceLT, Int.reduceEq, Int.reduceNeg, Int.reduceToNat, Int.reduceMul, Int.reduceAdd, Int.reduceSub, Int.reduceBEq, Int.reduceBNe, reduceCtorEq, RD]
  refine hKr _ _ ?_
  clear hKr Kr
  try simp only [RN, reduceIte]
  try refine T_e rfl ?_
  refine T_rseq fun Kr hKr => ?_
  simp (disch := omega) only [RA, ↓reduceIte, Nat.reduceEqDiff, Nat.reduceBEq, Nat.reduceSub, Nat.reduceAdd, Nat.reduceMul, Nat.reduceLT, Nat.reduceLeDiff, Int.reduceLE, Int.reduceLT, Int.reduceEq, Int.reduceNeg, Int.reduceToNat, Int.reduceMul, Int.reduceAdd, Int.reduceSub, Int.reduceBEq, Int.reduceBNe, reduceCtorEq, RD]
  refine hKr _ _ ?_
  clear hKr Kr
  try simp only [RN, reduceIte]
  try refine T_e rfl ?_
  refine T_rseq fun Kr hKr => ?_
  simp (disch := omega) only [RA, ↓reduceIte, Nat.reduceEqDiff, Nat.reduceBEq, Nat.reduceSub, Nat.reduceAdd, Nat.reduceMul, Nat.reduceLT, Nat.reduceLeDiff, Int.reduceLE, Int.reduceLT, Int.reduceEq, Int.reduceNeg, Int.reduceToNat, Int.reduceMul, Int.reduceAdd, Int.reduceSub, Int.reduceBEq, Int.reduceBNe, reduceCtorEq, RD]
  refine hKr _ _ ?_
  clear hKr Kr
  try simp only [RN, reduceIte]
  try refine T_e rfl ?_
  refine T_rseq fun Kr hKr => ?_
  simp (disch := omega) only [RA, ↓reduceIte, Nat.reduceEqDiff, Nat.reduceBEq, Nat.reduceSub, Nat.reduceAdd, Nat.reduceMul, Nat.reduceLT, Nat.reduceLeDiff, Int.reduceLE, Int.reduceLT, Int.reduceEq, Int.reduceNeg, Int.reduceToNat, Int.reduceMul, Int.reduceAdd, Int.reduceSub, Int.reduceBEq, Int.reduceBNe, reduceCtorEq, RD]
  refine hKr _ _ ?_
  clear hKr Kr
  try simp only [RN, reduceIte]
  try refine T_e rfl ?_
  refine T_wloop (fun m f H' => ∃ i sc, i ≤ n ∧ m = n - i ∧ sc = cycK p M i ∧ f 2 = P 0 0 ∧ f 5 = S 1 0 sc.2.length 1 ∧ f 6 = P 2 0 ∧ f 12 = I n ∧ f 13 = I i ∧ H' = [some (p.map N8), some (sc.2.map FN), some (sc.1.map B)]) (n) ?_ ?_
  · refine ⟨_, _, Gh.refl, 0, (List.replicate 16 false, []), by omega, by omega, rfl, ?_, ?_, ?_, ?_, ?_, by simp⟩
    any_goals (simp (disch := omega) only [RA, ↓reduceIte, Nat.reduceEqDiff, RD, RE, *] <;> rfl)
  · rintro m f H' R ⟨i, sc, hi, rfl, hsc, g2, g5, g6, g12, g13, rfl⟩ hN hX hR hE
    simp only [A_impl_cycles.l1, T_aiff]
    have hok := CycOk.all hM hp hi
    rw [← hsc] at hok
    have hsl := hok.len
    have hnum := hok.num
    refine T_rseq fun Kr hKr => ?_
    simp (disch := omega) only [RA, ↓reduceIte, Nat.reduceEqDiff, RD, g12, g13]
    refine hKr _ _ ?_
    clear hKr Kr
    try simp only [RN, reduceIte]
    try refine T_e rfl ?_
    refine T_csplit (p := i < n) (by simp only [RA, ↓reduceIte, Nat.reduceEqDiff] <;> rfl) (by (try simp only [RB]) <;> first | done | exact Iff.rfl | omega | simp) (fun hc => ?_) (fun hc => ?_) <;> (try simp only [RN, reduceIte]) <;> (try refine T_e rfl ?_)
    · have hnext : ∀ f' sc', f' 2 = P 0 0 → f' 5 = S 1 0 sc'.2.length 1 → f' 6 = P 2 0 → f' 12 = I n → f' 13 = I i → sc' = cycK p M (i + 1) → T 0 A_impl_cycles.r14 R f' [some (p.map N8), some (sc'.2.map FN), some (sc'.1.map B)] := by
        intro f' sc' g2 g5 g6 g12 g13 hs
        refine T_reg_k fun Kr hKr => ?_
        simp (disch := omega) only [RA, ↓reduceIte, Nat.reduceEqDiff, RD, g13]
        refine hKr _ _ ?_
        clear hKr Kr
        refine hN (n - (i + 1)) _ _ _ _ (by omega) Gh.refl ⟨i + 1, sc', by omega, rfl, hs, ?_, ?_, ?_, ?_, ?_, rfl⟩
        any_goals (simp (disch := omega) only [RA, ↓reduceIte, Nat.reduceEqDiff, RD, RE, *] <;> rfl)
      refine T_seq (T_block ?_)
      try simp only [RN, reduceIte]
      try refine T_e rfl ?_
      refine T_rseq fun Kr hKr => ?_
      simp (disch := omega) only [RA, ↓reduceIte, Nat.reduceEqDiff, RD, g13]
      refine hKr _ _ ?_
      clear hKr Kr
      try simp only [RN, reduceIte]
      try refine T_e rfl ?_
      refine T_rseq fun Kr hKr => ?_
      simp (disch := omega) only [RA, ↓reduceIte, Nat.reduceEqDiff, RD, g6, hsl]
      refine hKr _ _ ?_
      clear hKr Kr
      try simp only [RN, reduceIte]
      try refine T_e rfl ?_
      refine T_csplit (p := bl sc.1 i = true) (by simp only [RA, ↓reduceIte, Nat.reduceEqDiff] <;> rfl) (by (try simp only [RB]) <;> first | done | exact Iff.rfl | omega | simp) (fun hc => ?_) (fun hc => ?_) <;> (try simp only [RN, reduceIte]) <;> (try refine T_e rfl ?_)
      · simp only [blkQ, thenQ, loopQ, if_true]
        refine hnext _ sc ?_ ?_ ?_ ?_ ?_ (by rw [cycK, ← hsc, if_pos hc])
        any_goals (simp (disch := omega) only [RA, ↓reduceIte, Nat.reduceEqDiff, RD, RE, *] <;> rfl)
      · have h0 : bl sc.1 i = false := by simpa using hc
        have hin : i < n := by assumption
        have hdone := WkOk.done hM hp hsl hin h0 hok.inv
        refine T_rseq fun Kr hKr => ?_
        simp (disch := omega) only [RA, ↓reduceIte, Nat.reduceEqDiff, Nat.reduceBEq, Nat.reduceSub, Nat.reduceAdd, Nat.reduceMul, Nat.reduceLT, Nat.reduceLeDiff, Int.reduceLE, Int.reduceLT, Int.reduceEq, Int.reduceNeg, Int.reduceToNat, Int.reduceMul, Int.reduceAdd, Int.reduceSub, Int.reduceBEq, Int.reduceBNe, reduceCtorEq, RD]
        refine hKr _ _ ?_
        clear hKr Kr
        try simp only [RN, reduceIte]
        try refine T_e rfl ?_
        refine T_rseq fun Kr hKr => ?_
        simp (disch := omega) only [RA, ↓reduceIte, Nat.reduceEqDiff, Nat.reduceBEq, Nat.reduceSub, Nat.reduceAdd, Nat.reduceMul, Nat.reduceLT, Nat.reduceLeDiff, Int.reduceLE, Int.reduceLT, Int.reduceEq, Int.reduceNeg, Int.reduceToNat, Int.reduceMul, Int.reduceAdd, Int.reduceSub, Int.reduceBEq, Int.reduceBNe, reduceCtorEq, RD]
        refine hKr _ _ ?_
        clear hKr Kr
        try simp only [RN, reduceIte]
        try refine T_e rfl ?_
        refine T_wloop (fun m f H' => ∃ j st, j ≤ M ∧ m = M - j ∧ st = wk p (sc.1, [], i) j ∧ f 2 = P 0 0 ∧ f 5 = S 1 0 sc.2.length 1 ∧ f 6 = P 2 0 ∧ f 12 = I n ∧ f 13 = I i ∧ f 8 = S 3 0 st.2.1.length 1 ∧ f 9 = I st.2.2 ∧ H' = [some (p.map N8), some (sc.2.map FN), some (st.1.map B), some (st.2.1.map N64)]) (M) ?_ ?_
        · refine ⟨_, _, Gh.refl, 0, (sc.1, [], i), by omega, by omega, rfl, ?_, ?_, ?_, ?_, ?_, ?_, ?_, by simp⟩
          any_goals (simp (disch := omega) only [RA, ↓reduceIte, Nat.reduceEqDiff, RD, RE, *] <;> rfl)
        · clear g2 g5 g6 g12 g13
          rintro m f H' R1 ⟨j, st, hj, rfl, hst, g2, g5, g6, g12, g13, g8, g9, rfl⟩ hN1 hX1 hR1 hE1
          simp only [A_impl_cycles.l0, T_aiff]
          have hw := WkOk.wk hp hsl hin h0 hok.inv j
          have hstep : wk p (sc.1, [], i) (j + 1) = wstep p st := by rw [hst]; rfl
          have hstop : bl st.1 st.2.2 = true → wk p (sc.1, [], i) M = st := fun h => by
            rw [hst] at h ⊢
            exact wk_stop h M hj
          have hdj : j = M → bl st.1 st.2.2 = true := fun h => by
            rw [hst, h]
            exact hdone
          rw [← hst] at hw
          clear hst hdone
          obtain ⟨s, l, k⟩ := st
          simp only at g8 g9 hstop hdj hstep ⊢
          have hwl : s.length = 16 := hw.len
          have hwk : k < n := hw.at_
          have hpk := hp.lt hwk
          have hll : l.length ≤ 16 := by
            have h1 := hw.cnt
            have h2 := List.count_le_length (a := true) (l := s)
            simp only at h1
            omega
          refine T_rseq fun Kr hKr => ?_
          simp (disch := omega) only [RA, ↓reduceIte, Nat.reduceEqDiff, Nat.reduceBEq, Nat.reduceSub, Nat.reduceAdd, Nat.reduceMul, Nat.reduceLT, Nat.reduceLeDiff, Int.reduceLE, Int.reduceLT, Int.reduceEq, Int.reduceNeg, Int.reduceToNat, Int.reduceMul, Int.reduceAdd, Int.reduceSub, Int.reduceBEq, Int.reduceBNe, reduceCtorEq, RD, g6, g9, hwl]
          refine hKr _ _ ?_
          clear hKr Kr
          try simp only [RN, reduceIte]
          try refine T_e rfl ?_
          refine T_csplit (p := ¬ bl s k = true) (by simp only [RA, ↓reduceIte, Nat.reduceEqDiff, Nat.reduceBEq, Nat.reduceSub, Nat.reduceAdd, Nat.reduceMul, Nat.reduceLT, Nat.reduceLeDiff, Int.reduceLE, Int.reduceLT, Int.reduceEq, Int.reduceNeg, Int.reduceToNat, Int.reduceMul, Int.reduceAdd, Int.reduceSub, Int.reduceBEq, Int.reduceBNe, reduceCtorEq] <;> rfl) (by (try simp only [RB]) <;> first | done | exact Iff.rfl | omega | simp) (fun hc => ?_) (fun hc => ?_) <;> (try simp only [RN, reduceIte]) <;> (try refine T_e rfl ?_)
          · rw [wstep, if_neg hc] at hstep
            have hjM : j < M := by
              rcases Nat.lt_or_ge j M with h | h
              · exact h
              · exact absurd (hdj (by omega)) hc
            first | refine T_bfree rfl ?_ | refine T_bfree' rfl ?_
            try simp only [RN, reduceIte]
            try refine T_e rfl ?_
            refine T_rseq fun Kr hKr => ?_
            simp (disch := omega) only [RA, ↓reduceIte, Nat.reduceEqDiff, Nat.reduceBEq, Nat.reduceSub, Nat.reduceAdd, Nat.reduceMul, Nat.reduceLT, Nat.reduceLeDiff, Int.reduceLE, Int.reduceLT, Int.reduceEq, Int.reduceNeg, Int.reduceToNat, Int.reduceMul, Int.reduceAdd, Int.reduceSub, Int.reduceBEq, Int.reduceBNe, reduceCtorEq, RD, g6, g9, hwl]
            refine hKr _ _ ?_
            clear hKr Kr
            try simp only [RN, reduceIte]
            try refine T_e rfl ?_
            refine T_rseq fun Kr hKr => ?_
            simp (disch := omega) only [RA, ↓reduceIte, Nat.reduceEqDiff, Nat.reduceBEq, Nat.reduceSub, Nat.reduceAdd, Nat.reduceMul, Nat.reduceLT, Nat.reduceLeDiff, Int.reduceLE, Int.reduceLT, Int.reduceEq, Int.reduceNeg, Int.reduceToNat, Int.reduceMul, Int.reduceAdd, Int.reduceSub, Int.reduceBEq, Int.reduceBNe, reduceCtorEq, RD, g8, g9, app1_64]
            refine hKr _ _ ?_
            clear hKr Kr
            try simp only [RN, reduceIte]
            try refine T_e rfl ?_
            refine T_reg_k fun Kr hKr => ?_
            simp (disch := omega) only [RA, ↓reduceIte, Nat.reduceEqDiff, Nat.reduceBEq, Nat.reduceSub, Nat.reduceAdd, Nat.reduceMul, Nat.reduceLT, Nat.reduceLeDiff, Int.reduceLE, Int.reduceLT, Int.reduceEq, Int.reduceNeg, Int.reduceToNat, Int.reduceMul, Int.reduceAdd, Int.reduceSub, Int.reduceBEq, Int.reduceBNe, reduceCtorEq, RD, g2, g9]
            refine hKr _ _ ?_
            clear hKr Kr
            refine hN1 (M - (j + 1)) _ _ _ _ (by omega) (Gh.nrm [0, 1, 2, 5] rfl rfl (by simp only [RH, RV])) ⟨j + 1, (s.set k true, l ++ [k], nl p k), by omega, rfl, hstep.symm, ?_, ?_, ?_, ?_, ?_, ?_, ?_, rfl⟩
            any_goals (simp (disch := omega) only [RA, ↓reduceIte, Nat.reduceEqDiff, Nat.reduceBEq, Nat.reduceSub, Nat.reduceAdd, Nat.reduceMul, Nat.reduceLT, Nat.reduceLeDiff, Int.reduceLE, Int.reduceLT, Int.reduceEq, Int.reduceNeg, Int.reduceToNat, Int.reduceMul, Int.reduceAdd, Int.reduceSub, Int.reduceBEq, Int.reduceBNe, reduceCtorEq, RD, RE, *] <;> rfl)
          · refine hX1 _ _ ?_
            have hc' : bl s k = true := by simpa using hc
            have hfin := hstop hc'
            have hfl : l.length * 1 = (l.map N64).length := by simp
            have hfz : ∀ f2 : Fr, f2 2 = P 0 0 → f2 5 = S 1 0 sc.2.length 1 → f2 6 = P 2 0 → f2 8 = Fz l.length 1 (l.map N64) → f2 12 = I n → f2 13 = I i → T 0 A_impl_cycles.r13 (blkQ 1 (thenQ 0 A_impl_cycles.r14 R)) f2 [some (p.map N8), some (sc.2.map FN), some (s.map B), none] := by
              clear g2 g5 g6 g12 g13 g8 g9
              intro f2 g2 g5 g6 g8 g12 g13
              refine T_reg_k fun Kr hKr => ?_
              simp (disch := omega) only [RA, ↓reduceIte, Nat.reduceEqDiff, Nat.reduceBEq, Nat.reduceSub, Nat.reduceAdd, Nat.reduceMul, Nat.reduceLT, Nat.reduceLeDiff, Int.reduceLE, Int.reduceLT, Int.reduceEq, Int.reduceNeg, Int.reduceToNat, Int.reduceMul, Int.reduceAdd, Int.reduceSub, Int.reduceBEq, Int.reduceBNe, reduceCtorEq, RD, g5, g8, app1_FN]
              refine hKr _ _ ?_
              clear hKr Kr
              simp only [blkQ, thenQ, loopQ, if_true]
              refine T_gh (Gh.nrm [0, 5, 2] rfl rfl (by simp only [RH, RV])) ?_
              refine hnext _ (s, sc.2 ++ [l]) ?_ ?_ ?_ ?_ ?_ ?_
              any_goals (simp (disch := omega) only [RA, ↓reduceIte, Nat.reduceEqDiff, RD, RE, *] <;> rfl)
              rw [cycK, ← hsc, if_neg (by simp [h0]), hfin]
            exact T_gh (Gh.fz (i := 3) (cs := l.map N64) rfl NNL_64) (hfz _ (by simp (disch := omega) only [RA, ↓reduceIte, Nat.reduceEqDiff, RD, RE, RZ, frz_ne, frz_all, *] <;> rfl) (by simp (disch := omega) only [RA, ↓reduceIte, Nat.reduceEqDiff, RD, RE, RZ, frz_ne, frz_all, *] <;> rfl) (by simp (disch := omega) only [RA, ↓reduceIte, Nat.reduceEqDiff, RD, RE, RZ, frz_ne, frz_all, *] <;> rfl) (by simp (disch := omega) only [RA, ↓reduceIte, Nat.reduceEqDiff, RD, RE, RZ, frz_ne, frz_all, *] <;> rfl) (by simp (disch := omega) only [RA, ↓reduceIte, Nat.reduceEqDiff, RD, RE, RZ, frz_ne, frz_all, *] <;> rfl) (by simp (disch := omega) only [RA, ↓reduceIte, Nat.reduceEqDiff, RD, RE, RZ, frz_ne, frz_all, *] <;> rfl))
    · refine hX _ _ ?_
      obtain rfl : i = n := by omega
      refine T_rseq fun Kr hKr => ?_
      simp (disch := omega) only [RA, ↓reduceIte, Nat.reduceEqDiff, RD, g5]
      refine hKr _ _ ?_
      clear hKr Kr
      try simp only [RN, reduceIte]
      try refine T_e rfl ?_
      refine bodyQ_ret (by simp (disch := omega) only [RA, ↓reduceIte, Nat.reduceEqDiff, RD, resAll, resOf, g5]; rfl) GhV.refl ?_
      simp only [tup]
      rw [hsc]
      exact ⟨1, rfl, rfl⟩
theorem cycles_spec {x : Bool} {p : List Nat} {n : Nat} {H : BH} {K : Value → BH → Prop} (hb : By 16 p) (hp : Perm p n) (hK : K (Fz (cyc p n).length 1 ((cyc p n).map FN)) H) : CallX x F_impl_cycles [PL p, I n] H K :=
  callRZ (by (simp only [RH])) NNL_FN (by simp) (cycles_run hb hp) hK
theorem l01Cycles_run {p : List Nat} {n : Nat} (hb : By 16 p) (hp : Perm p n) :
    CallX false F_spec_l01Cycles [PL p, I n] [] fun v H1 => ∃ j, v = S j 0 (cyc p n).length 1 ∧ blk H1 j = some ((cyc p n).map FN) := by
  have hlen := hb.len
  have hn := hp.1
  obtain ⟨M, hM⟩ : ∃ M, M = 16 := ⟨_, rfl⟩
  have hcyc : cyc p n = (cycK p M n).2 := by rw [hM]; rfl
  rw [hcyc]
  refine CallX_body Γ_spec_l01Cycles ?_
  simp only [A_spec_l01Cycles, T_aiff]
  refine T_rseq fun Kr hKr => ?_
  simp (disch := omega) only [RA, ↓reduceIte, Nat.reduceEqDiff, Nat.reduceBEq, Nat.reduceSub, Nat.reduceAdd, Nat.reduceMul, Nat.reduceLT, Nat.reduceLeDiff, Int.reduceLE, Int.reduceLT, Int.reduceEq, Int.reduceNeg, Int.reduceToNat, Int.reduceMul, Int.reduceAdd, Int.reduceSub, Int.reduceBEq, Int.reduceBNe, reduceCtorEq, RD]
  refine hKr _ _ ?_
  clear hKr Kr
  try simp only [RN, reduceIte]
  try refine T_e rfl ?_
  refine T_rseq fun Kr hKr => ?_
  simp (disch := omega) only [RA, ↓reduceIte, Nat.reduceEqDiff, Nat.reduceBEq, Nat.reduceSub, Nat.reduceAdd, Nat.reduceMul, Nat.reduceLT, Nat.reduceLeDiff, Int.reduceLE, Int.reduceLT, Int.reduceEq, Int.reduceNeg, Int.reduceToNat, Int.reduceMul, Int.reduceAdd, Int.reduceSub, Int.reduceBEq, Int.reduceBNe, reduceCtorEq, RD]
  refine hKr _ _ ?_
  clear hKr Kr
  try simp only [RN, reduceIte]
  try refine T_e rfl ?_
  refine T_rseq fun Kr hKr => ?_
  simp (disch := omega) only [RA, ↓reduceIte, Nat.reduceEqDiff, Nat.reduceBEq, Nat.reduceSub, Nat.reduceAdd, Nat.reduceMul, Nat.reduceLT, Nat.reduceLeDiff, Int.reduceLE, Int.reduceLT, Int.reduceEq, Int.reduceNeg, Int.reduceToNat, Int.reduceMul, Int.reduceAdd, Int.reduceSub, Int.reduceBEq, Int.reduceBNe, reduceCtorEq, RD]
  refine hKr _ _ ?_
  clear hKr Kr
  try simp only [RN, reduceIte]
  try refine T_e rfl ?_
  refine T_wloop (fun m f H' => ∃ i sc, i ≤ n ∧ m = n - i ∧ sc = cycK p M i ∧ f 1 = I n ∧ f 2 = P 0 0 ∧ f 5 = S 1 0 sc.2.length 1 ∧ f 6 = P 2 0 ∧ f 7 = I i ∧ H' = [some (p.map N8), some (sc.2.map FN), some (sc.1.map B)]) (n) ?_ ?_
  · refine ⟨_, _, Gh.refl, 0, (List.replicate 16 false, []), by omega, by omega, rfl, ?_, ?_, ?_, ?_, ?_, by simp⟩
    any_goals (simp (disch := omega) only [RA, ↓reduceIte, Nat.reduceEqDiff, RD, RE, *] <;> rfl)
  · rintro m f H' R ⟨i, sc, hi, rfl, hsc, g1, g2, g5, g6, g7, rfl⟩ hN hX hR hE
    simp only [A_spec_l01Cycles.l1, T_aiff]
    have hok := CycOk.all hM hp hi
    rw [← hsc] at hok
    have hsl := hok.len
    have hnum := hok.num
    refine T_rseq fun Kr hKr => ?_
    simp (disch := omega) only [RA, ↓reduceIte, Nat.reduceEqDiff, RD, g1, g7]
    refine hKr _ _ ?_
    clear hKr Kr
    try simp only [RN, reduceIte]
    try refine T_e rfl ?_
    refine T_csplit (p := i < n) (by simp only [RA, ↓reduceIte, Nat.reduceEqDiff] <;> rfl) (by (try simp only [RB]) <;> first | done | exact Iff.rfl | omega | simp) (fun hc => ?_) (fun hc => ?_) <;> (try simp only [RN, reduceIte]) <;> (try refine T_e rfl ?_)
    · have hnext : ∀ f' sc', f' 1 = I n → f' 2 = P 0 0 → f' 5 = S 1 0 sc'.2.length 1 → f' 6 = P 2 0 → f' 7 = I i → sc' = cycK p M (i + 1) → T 0 A_spec_l01Cycles.r4 R f' [some (p.map N8), some (sc'.2.map FN), some (sc'.1.map B)] := by
        intro f' sc' g1 g2 g5 g6 g7 hs
        refine T_reg_k fun Kr hKr => ?_
        simp (disch := omega) only [RA, ↓reduceIte, Nat.reduceEqDiff, RD, g7]
        refine hKr _ _ ?_
        clear hKr Kr
        refine hN (n - (i + 1)) _ _ _ _ (by omega) Gh.refl ⟨i + 1, sc', by omega, rfl, hs, ?_, ?_, ?_, ?_, ?_, rfl⟩
        any_goals (simp (disch := omega) only [RA, ↓reduceIte, Nat.reduceEqDiff, RD, RE, *] <;> rfl)
      have hin : i < n := by assumption
      first | refine T_bfree rfl ?_ | refine T_bfree' rfl ?_
      try simp only [RN, reduceIte]
      try refine T_e rfl ?_
      refine T_rseq fun Kr hKr => ?_
      simp (disch := omega) only [RA, ↓reduceIte, Nat.reduceEqDiff, Nat.reduceBEq, Nat.reduceSub, Nat.reduceAdd, Nat.reduceMul, Nat.reduceLT, Nat.reduceLeDiff, Int.reduceLE, Int.reduceLT, Int.reduceEq, Int.reduceNeg, Int.reduceToNat, Int.reduceMul, Int.reduceAdd, Int.reduceSub, Int.reduceBEq, Int.reduceBNe, reduceCtorEq, RD]
      refine hKr _ _ ?_
      clear hKr Kr
      try simp only [RN, reduceIte]
      try refine T_e rfl ?_
      refine T_rseq fun Kr hKr => ?_
      simp (disch := omega) only [RA, ↓reduceIte, Nat.reduceEqDiff, RD, g7]
      refine hKr _ _ ?_
      clear hKr Kr
      try simp only [RN, reduceIte]
      try refine T_e rfl ?_
      by_cases hm : bl sc.1 i = true
      · refine T_wloop (fun m f H' => m = 0 ∧ f 1 = I n ∧ f 2 = P 0 0 ∧ f 5 = S 1 0 sc.2.length 1 ∧ f 6 = P 2 0 ∧ f 7 = I i ∧ f 8 = S 3 0 0 1 ∧ f 9 = I i ∧ H' = [some (p.map N8), some (sc.2.map FN), some (sc.1.map B), some []]) (0) ?_ ?_
        · refine ⟨_, _, Gh.refl, rfl, ?_, ?_, ?_, ?_, ?_, ?_, ?_, by simp⟩
          any_goals (simp (disch := omega) only [RA, ↓reduceIte, Nat.reduceEqDiff, RD, RE, *] <;> rfl)
        · clear g1 g2 g5 g6 g7
          rintro m f H' R1 ⟨rfl, g1, g2, g5, g6, g7, g8, g9, rfl⟩ hN1 hX1 hR1 hE1
          simp only [A_spec_l01Cycles.l0, T_aiff]
          refine T_rseq fun Kr hKr => ?_
          simp (disch := omega) only [RA, ↓reduceIte, Nat.reduceEqDiff, RD, g6, g9, hsl]
          refine hKr _ _ ?_
          clear hKr Kr
          try simp only [RN, reduceIte]
          try refine T_e rfl ?_
          refine T_cseq (t := false) (by simp (disch := omega) only [RA, ↓reduceIte, Nat.reduceEqDiff, RD, hm]) ?_
          try simp only [RN, reduceIte]
          try refine T_e rfl ?_
          refine hX1 _ _ ?_
          try simp only [RN, reduceIte]
          try refine T_e rfl ?_
          refine T_rseq fun Kr hKr => ?_
          simp (disch := omega) only [RA, ↓reduceIte, Nat.reduceEqDiff, Nat.reduceBEq, Nat.reduceSub, Nat.reduceAdd, Nat.reduceMul, Nat.reduceLT, Nat.reduceLeDiff, Int.reduceLE, Int.reduceLT, Int.reduceEq, Int.reduceNeg, Int.reduceToNat, Int.reduceMul, Int.reduceAdd, Int.reduceSub, Int.reduceBEq, Int.reduceBNe, reduceCtorEq, RD, g8]
          refine hKr _ _ ?_
          clear hKr Kr
          try simp only [RN, reduceIte]
          try refine T_e rfl ?_
          refine T_cseq (t := false) (by simp (disch := omega) only [RA, ↓reduceIte, Nat.reduceEqDiff, RD]) ?_
          try simp only [RN, reduceIte]
          try refine T_e rfl ?_
          refine T_gh (Gh.nrm [0, 1, 2] rfl rfl (by simp only [RH, RV])) ?_
          refine hnext _ sc ?_ ?_ ?_ ?_ ?_ (by rw [cycK, ← hsc, if_pos hm])
          any_goals (simp (disch := omega) only [RA, ↓reduceIte, Nat.reduceEqDiff, RD, RE, *] <;> rfl)
      · have h0 : bl sc.1 i = false := by simpa using hm
        have hdone := WkOk.done hM hp hsl hin h0 hok.inv
        have hcyc1 := (WkOk.cyc hM hp hsl hin h0 hok.inv hok.upto).1.ne
        refine T_wloop (fun m f H' => ∃ j st, j ≤ M ∧ m = M - j ∧ st = wk p (sc.1, [], i) j ∧ f 1 = I n ∧ f 2 = P 0 0 ∧ f 5 = S 1 0 sc.2.length 1 ∧ f 6 = P 2 0 ∧ f 7 = I i ∧ f 8 = S 3 0 st.2.1.length 1 ∧ f 9 = I st.2.2 ∧ H' = [some (p.map N8), some (sc.2.map FN), some (st.1.map B), some (st.2.1.map N64)]) (M) ?_ ?_
        · refine ⟨_, _, Gh.refl, 0, (sc.1, [], i), by omega, by omega, rfl, ?_, ?_, ?_, ?_, ?_, ?_, ?_, by simp⟩
          any_goals (simp (disch := omega) only [RA, ↓reduceIte, Nat.reduceEqDiff, RD, RE, *] <;> rfl)
        · clear g1 g2 g5 g6 g7
          rintro m f H' R1 ⟨j, st, hj, rfl, hst, g1, g2, g5, g6, g7, g8, g9, rfl⟩ hN1 hX1 hR1 hE1
          simp only [A_spec_l01Cycles.l0, T_aiff]
          have hw := WkOk.wk hp hsl hin h0 hok.inv j
          have hstep : wk p (sc.1, [], i) (j + 1) = wstep p st := by rw [hst]; rfl
          have hstop : bl st.1 st.2.2 = true → wk p (sc.1, [], i) M = st := fun h => by
            rw [hst] at h ⊢
            exact wk_stop h M hj
          have hdj : j = M → bl st.1 st.2.2 = true := fun h => by
            rw [hst, h]
            exact hdone
          rw [← hst] at hw
          clear hst hdone
          obtain ⟨s, l, k⟩ := st
          simp only at g8 g9 hstop hdj hstep ⊢
          have hwl : s.length = 16 := hw.len
          have hwk : k < n := hw.at_
          have hpk := hp.lt hwk
          have hll : l.length ≤ 16 := by
            have h1 := hw.cnt
            have h2 := List.count_le_length (a := true) (l := s)
            simp only at h1
            omega
          refine T_rseq fun Kr hKr => ?_
          simp (disch := omega) only [RA, ↓reduceIte, Nat.reduceEqDiff, Nat.reduceBEq, Nat.reduceSub, Nat.reduceAdd, Nat.reduceMul, Nat.reduceLT, Nat.reduceLeDiff, Int.reduceLE, Int.reduceLT, Int.reduceEq, Int.reduceNeg, Int.reduceToNat, Int.reduceMul, Int.reduceAdd, Int.reduceSub, Int.reduceBEq, Int.reduceBNe, reduceCtorEq, RD, g6, g9, hwl]
          refine hKr _ _ ?_
          clear hKr Kr
          try simp only [RN, reduceIte]
          try refine T_e rfl ?_
          refine T_csplit (p := ¬ bl s k = true) (by simp only [RA, ↓reduceIte, Nat.reduceEqDiff, Nat.reduceBEq, Nat.reduceSub, Nat.reduceAdd, Nat.reduceMul, Nat.reduceLT, Nat.reduceLeDiff, Int.reduceLE, Int.reduceLT, Int.reduceEq, Int.reduceNeg, Int.reduceToNat, Int.reduceMul, Int.reduceAdd, Int.reduceSub, Int.reduceBEq, Int.reduceBNe, reduceCtorEq] <;> rfl) (by (try simp only [RB]) <;> first | done | exact Iff.rfl | omega | simp) (fun hc => ?_) (fun hc => ?_) <;> (try simp only [RN, reduceIte]) <;> (try refine T_e rfl ?_)
          · rw [wstep, if_neg hc] at hstep
            have hjM : j < M := by
              rcases Nat.lt_or_ge j M with h | h
              · exact h
              · exact absurd (hdj (by omega)) hc
            first | refine T_bfree rfl ?_ | refine T_bfree' rfl ?_
            try simp only [RN, reduceIte]
            try refine T_e rfl ?_
            refine T_rseq fun Kr hKr => ?_
            simp (disch := omega) only [RA, ↓reduceIte, Nat.reduceEqDiff, Nat.reduceBEq, Nat.reduceSub, Nat.reduceAdd, Nat.reduceMul, Nat.reduceLT, Nat.reduceLeDiff, Int.reduceLE, Int.reduceLT, Int.reduceEq, Int.reduceNeg, Int.reduceToNat, Int.reduceMul, Int.reduceAdd, Int.reduceSub, Int.reduceBEq, Int.reduceBNe, reduceCtorEq, RD, g6, g9, hwl]
            refine hKr _ _ ?_
            clear hKr Kr
            try simp only [RN, reduceIte]
            try refine T_e rfl ?_
            refine T_rseq fun Kr hKr => ?_
            simp (disch := omega) only [RA, ↓reduceIte, Nat.reduceEqDiff, Nat.reduceBEq, Nat.reduceSub, Nat.reduceAdd, Nat.reduceMul, Nat.reduceLT, Nat.reduceLeDiff, Int.reduceLE, Int.reduceLT, Int.reduceEq, Int.reduceNeg, Int.reduceToNat, Int.reduceMul, Int.reduceAdd, Int.reduceSub, Int.reduceBEq, Int.reduceBNe, reduceCtorEq, RD, g8, g9, app1_64]
            refine hKr _ _ ?_
            clear hKr Kr
            try simp only [RN, reduceIte]
            try refine T_e rfl ?_
            refine T_reg_k fun Kr hKr => ?_
            simp (disch := omega) only [RA, ↓reduceIte, Nat.reduceEqDiff, RD, g2, g9]
            refine hKr _ _ ?_
            clear hKr Kr
            refine hN1 (M - (j + 1)) _ _ _ _ (by omega) (Gh.nrm [0, 1, 2, 5] rfl rfl (by simp only [RH, RV])) ⟨j + 1, (s.set k true, l ++ [k], nl p k), by omega, rfl, hstep.symm, ?_, ?_, ?_, ?_, ?_, ?_, ?_, rfl⟩
            any_goals (simp (disch := omega) only [RA, ↓reduceIte, Nat.reduceEqDiff, Nat.reduceAdd, Nat.reduceMul, Int.reduceToNat, Nat.reduceLT, reduceCtorEq, RD, RE, *] <;> rfl)
          · refine hX1 _ _ ?_
            have hc' : bl s k = true := by simpa using hc
            have hfin := hstop hc'
            rw [hfin] at hcyc1
            have hfl : l.length * 1 = (l.map N64).length := by simp
            have hl0 : 0 < l.length := hcyc1
            try simp only [RN, reduceIte]
            try refine T_e rfl ?_
            refine T_rseq fun Kr hKr => ?_
            simp (disch := omega) only [RA, ↓reduceIte, Nat.reduceEqDiff, Nat.reduceBEq, Nat.reduceSub, Nat.reduceAdd, Nat.reduceMul, Nat.reduceLT, Nat.reduceLeDiff, Int.reduceLE, Int.reduceLT, Int.reduceEq, Int.reduceNeg, Int.reduceToNat, Int.reduceMul, Int.reduceAdd, Int.reduceSub, Int.reduceBEq, Int.reduceBNe, reduceCtorEq, RD, g8]
            refine hKr _ _ ?_
            clear hKr Kr
            try simp only [RN, reduceIte]
            try refine T_e rfl ?_
            refine T_cseq (t := true) (by simp (disch := omega) only [RA, ↓reduceIte, Nat.reduceEqDiff, Nat.reduceBEq, Nat.reduceSub, Nat.reduceAdd, Nat.reduceMul, Nat.reduceLT, Nat.reduceLeDiff, Int.reduceLE, Int.reduceLT, Int.reduceEq, Int.reduceNeg, Int.reduceToNat, Int.reduceMul, Int.reduceAdd, Int.reduceSub, Int.reduceBEq, Int.reduceBNe, reduceCtorEq, RD]) ?_
            try simp only [RN, reduceIte]
            try refine T_e rfl ?_
            have hfz : ∀ f2 : Fr, f2 1 = I n → f2 2 = P 0 0 → f2 5 = S 1 0 sc.2.length 1 → f2 6 = P 2 0 → f2 7 = I i → f2 8 = Fz l.length 1 (l.map N64) → T 0 (.seq A_spec_l01Cycles.r12 A_spec_l01Cycles.r4) R f2 [some (p.map N8), some (sc.2.map FN), some (s.map B), none] := by
              clear g1 g2 g5 g6 g7 g8 g9
              intro f2 g1 g2 g5 g6 g7 g8
              refine T_rseq fun Kr hKr => ?_
              simp (disch := omega) only [RA, ↓reduceIte, Nat.reduceEqDiff, Nat.reduceBEq, Nat.reduceSub, Nat.reduceAdd, Nat.reduceMul, Nat.reduceLT, Nat.reduceLeDiff, Int.reduceLE, Int.reduceLT, Int.reduceEq, Int.reduceNeg, Int.reduceToNat, Int.reduceMul, Int.reduceAdd, Int.reduceSub, Int.reduceBEq, Int.reduceBNe, reduceCtorEq, RD, g5, g8, app1_FN]
              refine hKr _ _ ?_
              clear hKr Kr
              try simp only [RN, reduceIte]
              try refine T_e rfl ?_
              refine T_gh (Gh.nrm [0, 5, 2] rfl rfl (by simp only [RH, RV])) ?_
              refine hnext _ (s, sc.2 ++ [l]) ?_ ?_ ?_ ?_ ?_ ?_
              any_goals (simp (disch := omega) only [RA, ↓reduceIte, Nat.reduceEqDiff, RD, RE, *] <;> rfl)
              rw [cycK, ← hsc, if_neg (by simp [h0]), hfin]
            exact T_gh (Gh.fz (i := 3) (cs := l.map N64) rfl NNL_64) (hfz _ (by simp (disch := omega) only [RA, ↓reduceIte, Nat.reduceEqDiff, RD, RE, RZ, frz_ne, frz_all, *] <;> rfl) (by simp (disch := omega) only [RA, ↓reduceIte, Nat.reduceEqDiff, RD, RE, RZ, frz_ne, frz_all, *] <;> rfl) (by simp (disch := omega) only [RA, ↓reduceIte, Nat.reduceEqDiff, RD, RE, RZ, frz_ne, frz_all, *] <;> rfl) (by simp (disch := omega) only [RA, ↓reduceIte, Nat.reduceEqDiff, RD, RE, RZ, frz_ne, frz_all, *] <;> rfl) (by simp (disch := omega) only [RA, ↓reduceIte, Nat.reduceEqDiff, RD, RE, RZ, frz_ne, frz_all, *] <;> rfl) (by simp (disch := omega) only [RA, ↓reduceIte, Nat.reduceEqDiff, RD, RE, RZ, frz_ne, frz_all, *] <;> rfl))
    · refine hX _ _ ?_
      obtain rfl : i = n := by omega
      refine T_rseq fun Kr hKr => ?_
      simp (disch := omega) only [RA, ↓reduceIte, Nat.reduceEqDiff, RD, g5]
      refine hKr _ _ ?_
      clear hKr Kr
      try simp only [RN, reduceIte]
      try refine T_e rfl ?_
      refine bodyQ_ret (by simp (disch := omega) only [RA, ↓reduceIte, Nat.reduceEqDiff, RD, resAll, resOf, g5]; rfl) GhV.refl ?_
      simp only [tup]
      rw [hsc]
      exact ⟨1, rfl, rfl⟩
theorem l01Cycles_spec {x : Bool} {p : List Nat} {n : Nat} {H : BH} {K : Value → BH → Prop} (hb : By 16 p) (hp : Perm p n) (hK : K (Fz (cyc p n).length 1 ((cyc p n).map FN)) H) : CallX x F_spec_l01Cycles [PL p, I n] H K :=
  callRZ (by (simp only [RH])) NNL_FN (by simp) (l01Cycles_run hb hp) hK
end Go.Bm

/- Lists put behind lists. -/
set_option linter.unusedVariables false
set_option linter.unusedSimpArgs false
namespace Go.Bm
open Go Go.Am

section
variable {H : BH} {b bytes : Nat}
end
end Go.Bm

/- Draws: a source of numbers. What it draws is not followed, but its range. -/
set_option linter.unusedVariables false
set_option linter.unusedSimpArgs false
namespace Go.Bm
open Go Go.Am

section
variable {code : List Nat} {a b : Nat} {h : Int} {H : BH}
end
end Go.Bm

