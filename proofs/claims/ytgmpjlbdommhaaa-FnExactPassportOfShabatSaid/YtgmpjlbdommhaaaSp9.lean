/- Inverses in the field; division; common divisors. -/
import Derived.Test.YtgmpjlbdommhaaaSp8
import Derived.KernelRfl
set_option linter.unusedVariables false
set_option linter.unusedSimpArgs false
namespace Go.Am
open Go

/-! ### Inverses -/
def invF : Nat → Nat → Int → Int → Int
  | 0, _, out, _ => out
  | n + 1, k, out, sq => if k = 0 then out else invF n (k / 2) (if k % 2 = 1 then md (out * sq) else out) (md (sq * sq))
def inv (x : Int) : Int := invF 14 10005 1 x
theorem invF_zero (n : Nat) (out sq : Int) : invF n 0 out sq = out := by cases n <;> simp [invF]
/-- The same over natural numbers. -/
def invN : Nat → Nat → Nat → Nat → Nat
  | 0, _, out, _ => out
  | n + 1, k, out, sq => bif Nat.beq k 0 then out else invN n (k / 2) (bif Nat.beq (k % 2) 1 then (out * sq) % 10007 else out) ((sq * sq) % 10007)
theorem md_nat (n : Nat) : md (n : Int) = ((n % 10007 : Nat) : Int) := by unfold md; omega
theorem invF_nat : ∀ (n k out sq : Nat), invF n k out sq = ((invN n k out sq : Nat) : Int)
  | 0, _, _, _ => rfl
  | n + 1, k, out, sq => by
    simp only [invF, invN]
    have hb : ∀ a b : Nat, Nat.beq a b = decide (a = b) := fun a b => by
      by_cases h : a = b
      · subst h; simp
      · rw [decide_eq_false h]
        exact Bool.eq_false_iff.2 fun e => h (Nat.eq_of_beq_eq_true e)
    rw [hb, hb]
    by_cases h : k = 0
    · simp [h]
    · rw [if_neg h]
      have e1 : md ((sq : Int) * (sq : Int)) = ((sq * sq % 10007 : Nat) : Int) := by rw [← Int.natCast_mul, md_nat]
      have e2 : md ((out : Int) * (sq : Int)) = ((out * sq % 10007 : Nat) : Int) := by rw [← Int.natCast_mul, md_nat]
      rw [e1, e2]
      by_cases h2 : k % 2 = 1
      · simp only [h2, if_true, h, decide_true, decide_false, cond_true, cond_false]
        exact invF_nat n _ _ _
      · simp only [h2, if_false, h, decide_false, cond_false]
        exact invF_nat n _ _ _
def invAll : Nat → Nat → Bool
  | 0, s => Nat.beq (s % 10007) 0 || Nat.beq (s * invN 14 10005 1 s % 10007) 1
  | d + 1, s => invAll d s && invAll d (s + 2 ^ d)
theorem invAll_at : ∀ (d s : Nat), invAll d s = true → ∀ i, i < 2 ^ d → (Nat.beq ((s + i) % 10007) 0 || Nat.beq ((s + i) * invN 14 10005 1 (s + i) % 10007) 1) = true
  | 0, s, h, i, hi => by
    have : i = 0 := by simpa using hi
    subst this
    exact h
  | d + 1, s, h, i, hi => by
    simp only [invAll, Bool.and_eq_true] at h
    by_cases h2 : i < 2 ^ d
    · exact invAll_at d s h.1 i h2
    · have := invAll_at d (s + 2 ^ d) h.2 (i - 2 ^ d) (by rw [Nat.pow_succ] at hi; omega)
      rwa [show s + 2 ^ d + (i - 2 ^ d) = s + i by omega] at this
theorem invAll_ok : invAll 14 0 = true := by kernel_rfl
theorem inv_lo (x : Int) (h : 0 ≤ x) : 0 ≤ inv x := by
  obtain ⟨n, rfl⟩ := Int.eq_ofNat_of_zero_le h
  show 0 ≤ invF 14 10005 ((1 : Nat) : Int) (n : Int)
  rw [invF_nat]; omega
theorem invF_hi : ∀ (n k : Nat) (out sq : Int), 0 ≤ out ∧ out ≤ 10006 → 0 ≤ invF n k out sq ∧ invF n k out sq ≤ 10006
  | 0, _, _, _, h => h
  | n + 1, k, out, sq, h => by
    simp only [invF]
    split
    · exact h
    · refine invF_hi n _ _ _ ?_
      split
      · exact ⟨md_lo _, md_hi _⟩
      · exact h
theorem inv_bd (x : Int) : 0 ≤ inv x ∧ inv x ≤ 10006 := invF_hi _ _ _ _ (by omega)
theorem inv_mul {x : Int} (h1 : 1 ≤ x) (h2 : x ≤ 10006) : md (x * inv x) = 1 := by
  obtain ⟨n, rfl⟩ := Int.eq_ofNat_of_zero_le (show 0 ≤ x by omega)
  have h := invAll_at 14 0 invAll_ok n (by omega)
  rw [Nat.zero_add] at h
  have hi : inv (n : Int) = ((invN 14 10005 1 n : Nat) : Int) := invF_nat 14 10005 1 n
  rw [hi, ← Int.natCast_mul, md_nat]
  simp only [Bool.or_eq_true] at h
  rcases h with h | h
  · have := Nat.eq_of_beq_eq_true h; omega
  · rw [Nat.eq_of_beq_eq_true h]; rfl

theorem l06Inverse_spec {x : Int} {H : AHeap} {K : Value → AHeap → Prop} (h1 : 0 ≤ x) (h2 : x ≤ 10007) (hK : K (I (inv x)) H) : CallT F_spec_l06Inverse [I x] H K := by
  refine CallT_body Γ_spec_l06Inverse ?_
  simp only [A_spec_l06Inverse, T_aiff]
  refine T_rseq fun Kr hKr => ?_
  simp (disch := omega) only [RF, RO, RC, bodyQ, resAll, resOf, tup, ↓reduceIte, Nat.reduceEqDiff, Nat.reduceSub, Nat.reduceAdd, Nat.reduceMul, Nat.reduceLT, Nat.reduceLeDiff, Int.reduceLE, Int.reduceLT, Int.reduceEq, Int.reduceNeg, Int.reduceToNat, Int.reduceMul, Int.reduceAdd, Int.reduceSub, Int.reduceBEq, Int.reduceBNe, reduceCtorEq, RD]
  refine hKr _ _ ?_
  clear hKr Kr
  try simp only [RN, if_true, if_false, Bool.false_eq_true, if_pos, reduceIte]
  refine T_rseq fun Kr hKr => ?_
  simp (disch := omega) only [RF, RO, RC, bodyQ, resAll, resOf, tup, ↓reduceIte, Nat.reduceEqDiff, Nat.reduceSub, Nat.reduceAdd, Nat.reduceMul, Nat.reduceLT, Nat.reduceLeDiff, Int.reduceLE, Int.reduceLT, Int.reduceEq, Int.reduceNeg, Int.reduceToNat, Int.reduceMul, Int.reduceAdd, Int.reduceSub, Int.reduceBEq, Int.reduceBNe, reduceCtorEq, RD]
  refine hKr _ _ ?_
  clear hKr Kr
  try simp only [RN, if_true, if_false, Bool.false_eq_true, if_pos, reduceIte]
  refine T_rseq fun Kr hKr => ?_
  simp (disch := omega) only [RF, RO, RC, bodyQ, resAll, resOf, tup, ↓reduceIte, Nat.reduceEqDiff, Nat.reduceSub, Nat.reduceAdd, Nat.reduceMul, Nat.reduceLT, Nat.reduceLeDiff, Int.reduceLE, Int.reduceLT, Int.reduceEq, Int.reduceNeg, Int.reduceToNat, Int.reduceMul, Int.reduceAdd, Int.reduceSub, Int.reduceBEq, Int.reduceBNe, reduceCtorEq, RD]
  refine hKr _ _ ?_
  clear hKr Kr
  try simp only [RN, if_true, if_false, Bool.false_eq_true, if_pos, reduceIte]
  refine T_wloop (fun n f H' => ∃ (k : Nat) (out sq : Int), H' = H ∧ f 3 = I out ∧ f 4 = I sq ∧ f 5 = I k ∧ k < 2 ^ n ∧ k ≤ 10005 ∧ invF n k out sq = inv x ∧ (0 ≤ out ∧ out ≤ 10007) ∧ 0 ≤ sq ∧ sq ≤ 10007) (14) ?_ ?_
  · exact ⟨10005, 1, x, rfl, by simp [RF], by simp [RF], by simp [RF], by decide, by omega, rfl, by omega, h1, h2⟩
  · rintro n f H' R ⟨k, out, sq, rfl, h3, h4, h5, hk, hk2, hi, ho, hs⟩ hN hX hR
    simp only [A_spec_l06Inverse.l0, T_aiff]
    refine T_rseq fun Kr hKr => ?_
    simp (disch := omega) only [RF, RO, RC, bodyQ, resAll, resOf, tup, ↓reduceIte, Nat.reduceEqDiff, Nat.reduceSub, Nat.reduceAdd, Nat.reduceMul, Nat.reduceLT, Nat.reduceLeDiff, Int.reduceLE, Int.reduceLT, Int.reduceEq, Int.reduceNeg, Int.reduceToNat, Int.reduceMul, Int.reduceAdd, Int.reduceSub, Int.reduceBEq, Int.reduceBNe, reduceCtorEq, RD, h5]
    refine hKr _ _ ?_
    clear hKr Kr
    try simp only [RN, if_true, if_false, Bool.false_eq_true, if_pos, reduceIte]
    by_cases hk0 : 0 < k
    · refine T_cseq (t := true) (by simp (disch := omega) only [RF, RO, RC, bodyQ, resAll, resOf, tup, ↓reduceIte, Nat.reduceEqDiff, Nat.reduceSub, Nat.reduceAdd, Nat.reduceMul, Nat.reduceLT, Nat.reduceLeDiff, Int.reduceLE, Int.reduceLT, Int.reduceEq, Int.reduceNeg, Int.reduceToNat, Int.reduceMul, Int.reduceAdd, Int.reduceSub, Int.reduceBEq, Int.reduceBNe, reduceCtorEq, decT, decF]) ?_
      try simp only [RN, if_true, if_false, Bool.false_eq_true, if_pos, reduceIte]
      first | refine T_bfree rfl ?_ | refine T_bfree' rfl ?_
      try simp only [RN, if_true, if_false, Bool.false_eq_true, if_pos, reduceIte]
      have ht : ((k : Nat) : Int).tmod 2 = ((k % 2 : Nat) : Int) := (Int.ofNat_tmod k 2).symm
      have hd : ((k : Nat) : Int).tdiv 2 = ((k / 2 : Nat) : Int) := (Int.ofNat_tdiv k 2).symm
      obtain ⟨n, rfl⟩ : ∃ m, n = m + 1 := ⟨n - 1, by cases n with | zero => simp at hk; omega | succ n => rfl⟩
      simp only [invF] at hi
      rw [if_neg (by omega)] at hi
      have hsq := mulb hs.1 (by omega) hs.1 (by omega)
      have hos := mulb ho.1 (by omega) hs.1 (by omega)
      have hfin : ∀ (f' : Fr) (out' : Int), f' 3 = I out' → f' 4 = I sq → f' 5 = I k → out' = (if k % 2 = 1 then md (out * sq) else out) → (0 ≤ out' ∧ out' ≤ 10007) → T (ACode.seq A_spec_l06Inverse.r7 A_spec_l06Inverse.r4) R f' H' := by
        intro f' out' h3 h4 h5 he hb
        refine T_rseq fun Kr hKr => ?_
        simp (disch := omega) only [RF, RO, RC, bodyQ, resAll, resOf, tup, ↓reduceIte, Nat.reduceEqDiff, Nat.reduceSub, Nat.reduceAdd, Nat.reduceMul, Nat.reduceLT, Nat.reduceLeDiff, Int.reduceLE, Int.reduceLT, Int.reduceEq, Int.reduceNeg, Int.reduceToNat, Int.reduceMul, Int.reduceAdd, Int.reduceSub, Int.reduceBEq, Int.reduceBNe, reduceCtorEq, RD, h4]
        refine l06Mod_spec (by omega) (by omega) ?_
        simp (disch := omega) only [RF, RO, RC, bodyQ, resAll, resOf, tup, ↓reduceIte, Nat.reduceEqDiff, Nat.reduceSub, Nat.reduceAdd, Nat.reduceMul, Nat.reduceLT, Nat.reduceLeDiff, Int.reduceLE, Int.reduceLT, Int.reduceEq, Int.reduceNeg, Int.reduceToNat, Int.reduceMul, Int.reduceAdd, Int.reduceSub, Int.reduceBEq, Int.reduceBNe, reduceCtorEq, RD]
        refine hKr _ _ ?_
        clear hKr Kr
        try simp only [blkQ, thenQ, loopQ]
        try simp only [RN, if_true, if_false, Bool.false_eq_true, if_pos, reduceIte]
        refine T_reg_k fun Kr hKr => ?_
        simp (disch := omega) only [RF, RO, RC, bodyQ, resAll, resOf, tup, ↓reduceIte, Nat.reduceEqDiff, Nat.reduceSub, Nat.reduceAdd, Nat.reduceMul, Nat.reduceLT, Nat.reduceLeDiff, Int.reduceLE, Int.reduceLT, Int.reduceEq, Int.reduceNeg, Int.reduceToNat, Int.reduceMul, Int.reduceAdd, Int.reduceSub, Int.reduceBEq, Int.reduceBNe, reduceCtorEq, RD, h5, hd]
        refine hKr _ _ ?_
        clear hKr Kr
        exact hN n _ _ (by omega) ⟨k / 2, out', md (sq * sq), rfl, by simp [RF, h3], by simp [RF], by simp [RF], by rw [Nat.pow_succ] at hk; omega, by omega, by rw [he]; exact hi, hb, md_lo _, by have := md_hi (sq * sq); omega⟩
      refine T_rseq fun Kr hKr => ?_
      simp (disch := omega) only [RF, RO, RC, bodyQ, resAll, resOf, tup, ↓reduceIte, Nat.reduceEqDiff, Nat.reduceSub, Nat.reduceAdd, Nat.reduceMul, Nat.reduceLT, Nat.reduceLeDiff, Int.reduceLE, Int.reduceLT, Int.reduceEq, Int.reduceNeg, Int.reduceToNat, Int.reduceMul, Int.reduceAdd, Int.reduceSub, Int.reduceBEq, Int.reduceBNe, reduceCtorEq, RD, h5, ht]
      refine hKr _ _ ?_
      clear hKr Kr
      try simp only [RN, if_true, if_false, Bool.false_eq_true, if_pos, reduceIte]
      by_cases hm : k % 2 = 1
      · refine T_cseq (t := true) (by simp (disch := omega) only [RF, RO, RC, bodyQ, resAll, resOf, tup, ↓reduceIte, Nat.reduceEqDiff, Nat.reduceSub, Nat.reduceAdd, Nat.reduceMul, Nat.reduceLT, Nat.reduceLeDiff, Int.reduceLE, Int.reduceLT, Int.reduceEq, Int.reduceNeg, Int.reduceToNat, Int.reduceMul, Int.reduceAdd, Int.reduceSub, Int.reduceBEq, Int.reduceBNe, reduceCtorEq, decT, decF, hm]) ?_
        try simp only [RN, if_true, if_false, Bool.false_eq_true, if_pos, reduceIte]
        refine T_rseq fun Kr hKr => ?_
        simp (disch := omega) only [RF, RO, RC, bodyQ, resAll, resOf, tup, ↓reduceIte, Nat.reduceEqDiff, Nat.reduceSub, Nat.reduceAdd, Nat.reduceMul, Nat.reduceLT, Nat.reduceLeDiff, Int.reduceLE, Int.reduceLT, Int.reduceEq, Int.reduceNeg, Int.reduceToNat, Int.reduceMul, Int.reduceAdd, Int.reduceSub, Int.reduceBEq, Int.reduceBNe, reduceCtorEq, RD, h3, h4]
        refine l06Mod_spec (by omega) (by omega) ?_
        simp (disch := omega) only [RF, RO, RC, bodyQ, resAll, resOf, tup, ↓reduceIte, Nat.reduceEqDiff, Nat.reduceSub, Nat.reduceAdd, Nat.reduceMul, Nat.reduceLT, Nat.reduceLeDiff, Int.reduceLE, Int.reduceLT, Int.reduceEq, Int.reduceNeg, Int.reduceToNat, Int.reduceMul, Int.reduceAdd, Int.reduceSub, Int.reduceBEq, Int.reduceBNe, reduceCtorEq, RD]
        refine hKr _ _ ?_
        clear hKr Kr
        try simp only [blkQ, thenQ, loopQ]
        try simp only [RN, if_true, if_false, Bool.false_eq_true, if_pos, reduceIte]
        exact hfin _ (md (out * sq)) (by simp [RF]) (by simp [RF, h4]) (by simp [RF, h5]) (by rw [if_pos hm]) ⟨md_lo _, by have := md_hi (out * sq); omega⟩
      · refine T_cseq (t := false) (by simp (disch := omega) only [RF, RO, RC, bodyQ, resAll, resOf, tup, ↓reduceIte, Nat.reduceEqDiff, Nat.reduceSub, Nat.reduceAdd, Nat.reduceMul, Nat.reduceLT, Nat.reduceLeDiff, Int.reduceLE, Int.reduceLT, Int.reduceEq, Int.reduceNeg, Int.reduceToNat, Int.reduceMul, Int.reduceAdd, Int.reduceSub, Int.reduceBEq, Int.reduceBNe, reduceCtorEq, decT, decF, hm]) ?_
        try simp only [RN, if_true, if_false, Bool.false_eq_true, if_pos, reduceIte]
        exact hfin _ out (by simp [RF, h3]) (by simp [RF, h4]) (by simp [RF, h5]) (by rw [if_neg hm]) ho
    · refine T_cseq (t := false) (by simp (disch := omega) only [RF, RO, RC, bodyQ, resAll, resOf, tup, ↓reduceIte, Nat.reduceEqDiff, Nat.reduceSub, Nat.reduceAdd, Nat.reduceMul, Nat.reduceLT, Nat.reduceLeDiff, Int.reduceLE, Int.reduceLT, Int.reduceEq, Int.reduceNeg, Int.reduceToNat, Int.reduceMul, Int.reduceAdd, Int.reduceSub, Int.reduceBEq, Int.reduceBNe, reduceCtorEq, decT, decF]) ?_
      try simp only [RN, if_true, if_false, Bool.false_eq_true, if_pos, reduceIte]
      refine hX _ _ ?_
      have : k = 0 := by omega
      subst this
      rw [invF_zero] at hi
      subst hi
      refine T_rseq fun Kr hKr => ?_
      simp (disch := omega) only [RF, RO, RC, bodyQ, resAll, resOf, tup, ↓reduceIte, Nat.reduceEqDiff, Nat.reduceSub, Nat.reduceAdd, Nat.reduceMul, Nat.reduceLT, Nat.reduceLeDiff, Int.reduceLE, Int.reduceLT, Int.reduceEq, Int.reduceNeg, Int.reduceToNat, Int.reduceMul, Int.reduceAdd, Int.reduceSub, Int.reduceBEq, Int.reduceBNe, reduceCtorEq, RD, h3]
      refine hKr _ _ ?_
      clear hKr Kr
      try simp only [RN, if_true, if_false, Bool.false_eq_true, if_pos, reduceIte]
      refine ⟨_, rfl, ?_⟩
      simp only [RF, ev_t, ev_c, tup, ↓reduceIte, Nat.reduceEqDiff]
      exact hK
theorem inverse_spec {x : Int} {H : AHeap} {K : Value → AHeap → Prop} (h1 : 0 ≤ x) (h2 : x ≤ 10007) (hK : K (I (inv x)) H) : CallT F_impl_inverse [I x] H K := by
  refine CallT_body Γ_impl_inverse ?_
  simp only [A_impl_inverse, T_aiff]
  refine T_rseq fun Kr hKr => ?_
  simp (disch := omega) only [RF, RO, RC, bodyQ, resAll, resOf, tup, ↓reduceIte, Nat.reduceEqDiff, Nat.reduceSub, Nat.reduceAdd, Nat.reduceMul, Nat.reduceLT, Nat.reduceLeDiff, Int.reduceLE, Int.reduceLT, Int.reduceEq, Int.reduceNeg, Int.reduceToNat, Int.reduceMul, Int.reduceAdd, Int.reduceSub, Int.reduceBEq, Int.reduceBNe, reduceCtorEq, RD]
  refine hKr _ _ ?_
  clear hKr Kr
  try simp only [RN, if_true, if_false, Bool.false_eq_true, if_pos, reduceIte]
  refine T_rseq fun Kr hKr => ?_
  simp (disch := omega) only [RF, RO, RC, bodyQ, resAll, resOf, tup, ↓reduceIte, Nat.reduceEqDiff, Nat.reduceSub, Nat.reduceAdd, Nat.reduceMul, Nat.reduceLT, Nat.reduceLeDiff, Int.reduceLE, Int.reduceLT, Int.reduceEq, Int.reduceNeg, Int.reduceToNat, Int.reduceMul, Int.reduceAdd, Int.reduceSub, Int.reduceBEq, Int.reduceBNe, reduceCtorEq, RD]
  refine hKr _ _ ?_
  clear hKr Kr
  try simp only [RN, if_true, if_false, Bool.false_eq_true, if_pos, reduceIte]
  refine T_rseq fun Kr hKr => ?_
  simp (disch := omega) only [RF, RO, RC, bodyQ, resAll, resOf, tup, ↓reduceIte, Nat.reduceEqDiff, Nat.reduceSub, Nat.reduceAdd, Nat.reduceMul, Nat.reduceLT, Nat.reduceLeDiff, Int.reduceLE, Int.reduceLT, Int.reduceEq, Int.reduceNeg, Int.reduceToNat, Int.reduceMul, Int.reduceAdd, Int.reduceSub, Int.reduceBEq, Int.reduceBNe, reduceCtorEq, RD]
  refine hKr _ _ ?_
  clear hKr Kr
  try simp only [RN, if_true, if_false, Bool.false_eq_true, if_pos, reduceIte]
  refine T_wloop (fun n f H' => ∃ (k : Nat) (out sq : Int), H' = H ∧ f 3 = I out ∧ f 4 = I sq ∧ f 5 = I k ∧ k < 2 ^ n ∧ k ≤ 10005 ∧ invF n k out sq = inv x ∧ (0 ≤ out ∧ out ≤ 10007) ∧ 0 ≤ sq ∧ sq ≤ 10007) (14) ?_ ?_
  · exact ⟨10005, 1, x, rfl, by simp [RF], by simp [RF], by simp [RF], by decide, by omega, rfl, by omega, h1, h2⟩
  · rintro n f H' R ⟨k, out, sq, rfl, h3, h4, h5, hk, hk2, hi, ho, hs⟩ hN hX hR
    simp only [A_impl_inverse.l0, T_aiff]
    refine T_rseq fun Kr hKr => ?_
    simp (disch := omega) only [RF, RO, RC, bodyQ, resAll, resOf, tup, ↓reduceIte, Nat.reduceEqDiff, Nat.reduceSub, Nat.reduceAdd, Nat.reduceMul, Nat.reduceLT, Nat.reduceLeDiff, Int.reduceLE, Int.reduceLT, Int.reduceEq, Int.reduceNeg, Int.reduceToNat, Int.reduceMul, Int.reduceAdd, Int.reduceSub, Int.reduceBEq, Int.reduceBNe, reduceCtorEq, RD, h5]
    refine hKr _ _ ?_
    clear hKr Kr
    try simp only [RN, if_true, if_false, Bool.false_eq_true, if_pos, reduceIte]
    by_cases hk0 : 0 < k
    · refine T_cseq (t := true) (by simp (disch := omega) only [RF, RO, RC, bodyQ, resAll, resOf, tup, ↓reduceIte, Nat.reduceEqDiff, Nat.reduceSub, Nat.reduceAdd, Nat.reduceMul, Nat.reduceLT, Nat.reduceLeDiff, Int.reduceLE, Int.reduceLT, Int.reduceEq, Int.reduceNeg, Int.reduceToNat, Int.reduceMul, Int.reduceAdd, Int.reduceSub, Int.reduceBEq, Int.reduceBNe, reduceCtorEq, decT, decF]) ?_
      try simp only [RN, if_true, if_false, Bool.false_eq_true, if_pos, reduceIte]
      first | refine T_bfree rfl ?_ | refine T_bfree' rfl ?_
      try simp only [RN, if_true, if_false, Bool.false_eq_true, if_pos, reduceIte]
      have ht : ((k : Nat) : Int).tmod 2 = ((k % 2 : Nat) : Int) := (Int.ofNat_tmod k 2).symm
      have hd : ((k : Nat) : Int).tdiv 2 = ((k / 2 : Nat) : Int) := (Int.ofNat_tdiv k 2).symm
      obtain ⟨n, rfl⟩ : ∃ m, n = m + 1 := ⟨n - 1, by cases n with | zero => simp at hk; omega | succ n => rfl⟩
      simp only [invF] at hi
      rw [if_neg (by omega)] at hi
      have hsq := mulb hs.1 (by omega) hs.1 (by omega)
      have hos := mulb ho.1 (by omega) hs.1 (by omega)
      have hfin : ∀ (f' : Fr) (out' : Int), f' 3 = I out' → f' 4 = I sq → f' 5 = I k → out' = (if k % 2 = 1 then md (out * sq) else out) → (0 ≤ out' ∧ out' ≤ 10007) → T (ACode.seq A_impl_inverse.r7 A_impl_inverse.r4) R f' H' := by
        intro f' out' h3 h4 h5 he hb
        refine T_rseq fun Kr hKr => ?_
        simp (disch := omega) only [RF, RO, RC, bodyQ, resAll, resOf, tup, ↓reduceIte, Nat.reduceEqDiff, Nat.reduceSub, Nat.reduceAdd, Nat.reduceMul, Nat.reduceLT, Nat.reduceLeDiff, Int.reduceLE, Int.reduceLT, Int.reduceEq, Int.reduceNeg, Int.reduceToNat, Int.reduceMul, Int.reduceAdd, Int.reduceSub, Int.reduceBEq, Int.reduceBNe, reduceCtorEq, RD, h4, tmodm]
        refine hKr _ _ ?_
        clear hKr Kr
        try simp only [RN, if_true, if_false, Bool.false_eq_true, if_pos, reduceIte]
        refine T_reg_k fun Kr hKr => ?_
        simp (disch := omega) only [RF, RO, RC, bodyQ, resAll, resOf, tup, ↓reduceIte, Nat.reduceEqDiff, Nat.reduceSub, Nat.reduceAdd, Nat.reduceMul, Nat.reduceLT, Nat.reduceLeDiff, Int.reduceLE, Int.reduceLT, Int.reduceEq, Int.reduceNeg, Int.reduceToNat, Int.reduceMul, Int.reduceAdd, Int.reduceSub, Int.reduceBEq, Int.reduceBNe, reduceCtorEq, RD, h5, hd]
        refine hKr _ _ ?_
        clear hKr Kr
        exact hN n _ _ (by omega) ⟨k / 2, out', md (sq * sq), rfl, by simp [RF, h3], by simp [RF], by simp [RF], by rw [Nat.pow_succ] at hk; omega, by omega, by rw [he]; exact hi, hb, md_lo _, by have := md_hi (sq * sq); omega⟩
      refine T_rseq fun Kr hKr => ?_
      simp (disch := omega) only [RF, RO, RC, bodyQ, resAll, resOf, tup, ↓reduceIte, Nat.reduceEqDiff, Nat.reduceSub, Nat.reduceAdd, Nat.reduceMul, Nat.reduceLT, Nat.reduceLeDiff, Int.reduceLE, Int.reduceLT, Int.reduceEq, Int.reduceNeg, Int.reduceToNat, Int.reduceMul, Int.reduceAdd, Int.reduceSub, Int.reduceBEq, Int.reduceBNe, reduceCtorEq, RD, h5, ht]
      refine hKr _ _ ?_
      clear hKr Kr
      try simp only [RN, if_true, if_false, Bool.false_eq_true, if_pos, reduceIte]
      by_cases hm : k % 2 = 1
      · refine T_cseq (t := true) (by simp (disch := omega) only [RF, RO, RC, bodyQ, resAll, resOf, tup, ↓reduceIte, Nat.reduceEqDiff, Nat.reduceSub, Nat.reduceAdd, Nat.reduceMul, Nat.reduceLT, Nat.reduceLeDiff, Int.reduceLE, Int.reduceLT, Int.reduceEq, Int.reduceNeg, Int.reduceToNat, Int.reduceMul, Int.reduceAdd, Int.reduceSub, Int.reduceBEq, Int.reduceBNe, reduceCtorEq, decT, decF, hm]) ?_
        try simp only [RN, if_true, if_false, Bool.false_eq_true, if_pos, reduceIte]
        refine T_rseq fun Kr hKr => ?_
        simp (disch := omega) only [RF, RO, RC, bodyQ, resAll, resOf, tup, ↓reduceIte, Nat.reduceEqDiff, Nat.reduceSub, Nat.reduceAdd, Nat.reduceMul, Nat.reduceLT, Nat.reduceLeDiff, Int.reduceLE, Int.reduceLT, Int.reduceEq, Int.reduceNeg, Int.reduceToNat, Int.reduceMul, Int.reduceAdd, Int.reduceSub, Int.reduceBEq, Int.reduceBNe, reduceCtorEq, RD, h3, h4, tmodm]
        refine hKr _ _ ?_
        clear hKr Kr
        try simp only [RN, if_true, if_false, Bool.false_eq_true, if_pos, reduceIte]
        exact hfin _ (md (out * sq)) (by simp [RF]) (by simp [RF, h4]) (by simp [RF, h5]) (by rw [if_pos hm]) ⟨md_lo _, by have := md_hi (out * sq); omega⟩
      · refine T_cseq (t := false) (by simp (disch := omega) only [RF, RO, RC, bodyQ, resAll, resOf, tup, ↓reduceIte, Nat.reduceEqDiff, Nat.reduceSub, Nat.reduceAdd, Nat.reduceMul, Nat.reduceLT, Nat.reduceLeDiff, Int.reduceLE, Int.reduceLT, Int.reduceEq, Int.reduceNeg, Int.reduceToNat, Int.reduceMul, Int.reduceAdd, Int.reduceSub, Int.reduceBEq, Int.reduceBNe, reduceCtorEq, decT, decF, hm]) ?_
        try simp only [RN, if_true, if_false, Bool.false_eq_true, if_pos, reduceIte]
        exact hfin _ out (by simp [RF, h3]) (by simp [RF, h4]) (by simp [RF, h5]) (by rw [if_neg hm]) ho
    · refine T_cseq (t := false) (by simp (disch := omega) only [RF, RO, RC, bodyQ, resAll, resOf, tup, ↓reduceIte, Nat.reduceEqDiff, Nat.reduceSub, Nat.reduceAdd, Nat.reduceMul, Nat.reduceLT, Nat.reduceLeDiff, Int.reduceLE, Int.reduceLT, Int.reduceEq, Int.reduceNeg, Int.reduceToNat, Int.reduceMul, Int.reduceAdd, Int.reduceSub, Int.reduceBEq, Int.reduceBNe, reduceCtorEq, decT, decF]) ?_
      try simp only [RN, if_true, if_false, Bool.false_eq_true, if_pos, reduceIte]
      refine hX _ _ ?_
      have : k = 0 := by omega
      subst this
      rw [invF_zero] at hi
      subst hi
      refine T_rseq fun Kr hKr => ?_
      simp (disch := omega) only [RF, RO, RC, bodyQ, resAll, resOf, tup, ↓reduceIte, Nat.reduceEqDiff, Nat.reduceSub, Nat.reduceAdd, Nat.reduceMul, Nat.reduceLT, Nat.reduceLeDiff, Int.reduceLE, Int.reduceLT, Int.reduceEq, Int.reduceNeg, Int.reduceToNat, Int.reduceMul, Int.reduceAdd, Int.reduceSub, Int.reduceBEq, Int.reduceBNe, reduceCtorEq, RD, h3]
      refine hKr _ _ ?_
      clear hKr Kr
      try simp only [RN, if_true, if_false, Bool.false_eq_true, if_pos, reduceIte]
      refine ⟨_, rfl, ?_⟩
      simp only [RF, ev_t, ev_c, tup, ↓reduceIte, Nat.reduceEqDiff]
      exact hK
end Go.Am
