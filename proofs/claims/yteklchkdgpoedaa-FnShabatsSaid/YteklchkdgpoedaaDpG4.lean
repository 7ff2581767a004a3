/- SpH, SpI, DpMb, DpMh, SpL, SpM, SpN, SpO, SpP, SpQ -/
import Derived.Test.YteklchkdgpoedaaAmS2
import Derived.Test.YteklchkdgpoedaaDpG1
import Derived.Test.YteklchkdgpoedaaDpG3
/- Shabat polynomials: the laws' functions. -/
set_option linter.unusedVariables false
set_option linter.unusedSimpArgs false
namespace Go.Am
open Go

def tcode (f : List Int) (a b : Int) : Int := if pcode f [a, b] = 0 then if a = b then 2 else 0 else pcode f [a, b]
theorem tcode_zero {f : List Int} {a b : Int} (h : tcode f a b = 0) : Poly f ∧ 2 ≤ f.length ∧ (0 ≤ a ∧ a ≤ 10006) ∧ (0 ≤ b ∧ b ≤ 10006) ∧ a ≠ b := by
  unfold tcode at h
  by_cases h1 : pcode f [a, b] = 0
  · rw [if_pos h1] at h
    have hp := pcode_zero h1
    by_cases h2 : a = b
    · rw [if_pos h2] at h; omega
    · exact ⟨hp.1, hp.2.2, hp.2.1 0 (by simp), hp.2.1 1 (by simp), h2⟩
  · rw [if_neg h1] at h; exact absurd h h1
theorem l06Two_spec {H : AHeap} {v : Value} {xs : List Int} {a b : Int} {K : Value → AHeap → Prop} (hx : IsI H v xs) (hl : xs.length < 2 ^ 62) (hK : ∀ H', Ext H H' → K (I (tcode xs a b)) H') : CallT F_spec_l06Two [v, I a, I b] H K := by
  have hE := Ext.alloc H [I a, I b]
  refine CallT_body Γ_spec_l06Two ?_; simp only [A_spec_l06Two, T_aiff]
  refine T_rseq fun Kr hKr => ?_; simp (disch := omega) only [RF, RO, RC, tup, ↓reduceIte, Nat.reduceEqDiff, RD]; refine hKr _ _ ?_; clear hKr Kr; try simp only [RN, Bool.false_eq_true, reduceIte]
  refine T_rseq fun Kr hKr => ?_; simp (disch := omega) only [RF, RO, RC, tup, ↓reduceIte, Nat.reduceEqDiff, RD]
  refine l06Code_spec (hx.ext hE) hl (own_two H a b).is (by simp) ?_
  simp (disch := omega) only [RF, RO, RC, tup, ↓reduceIte, Nat.reduceEqDiff, RD]
  refine hKr _ _ ?_; clear hKr Kr; (try simp only [blkQ, thenQ, loopQ]); try simp only [RN, Bool.false_eq_true, reduceIte]
  by_cases hc : pcode xs [a, b] = 0
  · by_cases hab : a = b
    · subst hab
      refine T_rseq fun Kr hKr => ?_; simp (disch := omega) only [RF, RO, RC, tup, ↓reduceIte, Nat.reduceEqDiff, RD, hc]; refine hKr _ _ ?_; clear hKr Kr; try simp only [RN, Bool.false_eq_true, reduceIte]
      refine T_cseq (t := true) (by simp (disch := omega) only [RF, RO, RC, tup, ↓reduceIte, Nat.reduceEqDiff, decT, decF]) ?_; try simp only [RN, Bool.false_eq_true, reduceIte]
      refine T_rseq fun Kr hKr => ?_; simp (disch := omega) only [RF, RO, RC, tup, ↓reduceIte, Nat.reduceEqDiff, RD]; refine hKr _ _ ?_; clear hKr Kr; try simp only [RN, Bool.false_eq_true, reduceIte]
      refine T_rseq fun Kr hKr => ?_; simp (disch := omega) only [RF, RO, RC, tup, ↓reduceIte, Nat.reduceEqDiff, RD]; refine hKr _ _ ?_; clear hKr Kr; try simp only [RN, Bool.false_eq_true, reduceIte]
      refine ⟨_, rfl, ?_⟩; simp only [RF, ev_t, ev_c, tup, ↓reduceIte, Nat.reduceEqDiff]
      have := hK _ hE
      simpa only [tcode, hc, if_true] using this
    · refine T_rseq fun Kr hKr => ?_; simp (disch := omega) only [RF, RO, RC, tup, ↓reduceIte, Nat.reduceEqDiff, RD, hc, hab]; refine hKr _ _ ?_; clear hKr Kr; try simp only [RN, Bool.false_eq_true, reduceIte]
      refine T_cseq (t := false) (by simp (disch := omega) only [RF, RO, RC, tup, ↓reduceIte, Nat.reduceEqDiff, decT, decF]) ?_; try simp only [RN, Bool.false_eq_true, reduceIte]
      refine T_rseq fun Kr hKr => ?_; simp (disch := omega) only [RF, RO, RC, tup, ↓reduceIte, Nat.reduceEqDiff, RD, hc]; refine hKr _ _ ?_; clear hKr Kr; try simp only [RN, Bool.false_eq_true, reduceIte]
      refine ⟨_, rfl, ?_⟩; simp only [RF, ev_t, ev_c, tup, ↓reduceIte, Nat.reduceEqDiff]
      have := hK _ hE
      simpa only [tcode, hc, hab, if_true, if_false] using this
  · refine T_rseq fun Kr hKr => ?_; simp (disch := omega) only [RF, RO, RC, tup, ↓reduceIte, Nat.reduceEqDiff, RD, hc]; refine hKr _ _ ?_; clear hKr Kr; try simp only [RN, Bool.false_eq_true, reduceIte]
    refine T_cseq (t := false) (by simp (disch := omega) only [RF, RO, RC, tup, ↓reduceIte, Nat.reduceEqDiff, decT, decF]) ?_; try simp only [RN, Bool.false_eq_true, reduceIte]
    refine T_rseq fun Kr hKr => ?_; simp (disch := omega) only [RF, RO, RC, tup, ↓reduceIte, Nat.reduceEqDiff, RD]; refine hKr _ _ ?_; clear hKr Kr; try simp only [RN, Bool.false_eq_true, reduceIte]
    refine ⟨_, rfl, ?_⟩; simp only [RF, ev_t, ev_c, tup, ↓reduceIte, Nat.reduceEqDiff]
    have := hK _ hE
    simpa only [tcode, hc, if_false] using this
theorem shabatCode_spec {H : AHeap} {v : Value} {xs : List Int} {a b : Int} {K : Value → AHeap → Prop} (hx : IsI H v xs) (hl : xs.length < 2 ^ 62) (hK : ∀ H', Ext H H' → K (I (tcode xs a b)) H') : CallT F_impl_shabatCode [v, I a, I b] H K := by
  have hE := Ext.alloc H [I a, I b]
  refine CallT_body Γ_impl_shabatCode ?_; simp only [A_impl_shabatCode, T_aiff]
  refine T_rseq fun Kr hKr => ?_; simp (disch := omega) only [RF, RO, RC, tup, ↓reduceIte, Nat.reduceEqDiff, RD]; refine hKr _ _ ?_; clear hKr Kr; try simp only [RN, Bool.false_eq_true, reduceIte]
  refine T_rseq fun Kr hKr => ?_; simp (disch := omega) only [RF, RO, RC, tup, ↓reduceIte, Nat.reduceEqDiff, RD]
  refine polynomialCode_spec (hx.ext hE) hl (own_two H a b).is (by simp) ?_
  simp (disch := omega) only [RF, RO, RC, tup, ↓reduceIte, Nat.reduceEqDiff, RD]
  refine hKr _ _ ?_; clear hKr Kr; (try simp only [blkQ, thenQ, loopQ]); try simp only [RN, Bool.false_eq_true, reduceIte]
  by_cases hc : pcode xs [a, b] = 0
  · refine T_rseq fun Kr hKr => ?_; simp (disch := omega) only [RF, RO, RC, tup, ↓reduceIte, Nat.reduceEqDiff, RD, hc]; refine hKr _ _ ?_; clear hKr Kr; try simp only [RN, Bool.false_eq_true, reduceIte]
    refine T_cseq (t := false) (by simp (disch := omega) only [RF, RO, RC, tup, ↓reduceIte, Nat.reduceEqDiff, decT, decF]) ?_; try simp only [RN, Bool.false_eq_true, reduceIte]
    by_cases hab : a = b
    · subst hab
      refine T_rseq fun Kr hKr => ?_; simp (disch := omega) only [RF, RO, RC, tup, ↓reduceIte, Nat.reduceEqDiff, RD]; refine hKr _ _ ?_; clear hKr Kr; try simp only [RN, Bool.false_eq_true, reduceIte]
      refine T_cseq (t := true) (by simp (disch := omega) only [RF, RO, RC, tup, ↓reduceIte, Nat.reduceEqDiff, decT, decF]) ?_; try simp only [RN, Bool.false_eq_true, reduceIte]
      refine T_rseq fun Kr hKr => ?_; simp (disch := omega) only [RF, RO, RC, tup, ↓reduceIte, Nat.reduceEqDiff, RD]; refine hKr _ _ ?_; clear hKr Kr; try simp only [RN, Bool.false_eq_true, reduceIte]
      refine ⟨_, rfl, ?_⟩; simp only [RF, ev_t, ev_c, tup, ↓reduceIte, Nat.reduceEqDiff]
      have := hK _ hE
      simpa only [tcode, hc, if_true] using this
    · refine T_rseq fun Kr hKr => ?_; simp (disch := omega) only [RF, RO, RC, tup, ↓reduceIte, Nat.reduceEqDiff, RD, hab]; refine hKr _ _ ?_; clear hKr Kr; try simp only [RN, Bool.false_eq_true, reduceIte]
      refine T_cseq (t := false) (by simp (disch := omega) only [RF, RO, RC, tup, ↓reduceIte, Nat.reduceEqDiff, decT, decF]) ?_; try simp only [RN, Bool.false_eq_true, reduceIte]
      refine T_rseq fun Kr hKr => ?_; simp (disch := omega) only [RF, RO, RC, tup, ↓reduceIte, Nat.reduceEqDiff, RD]; refine hKr _ _ ?_; clear hKr Kr; try simp only [RN, Bool.false_eq_true, reduceIte]
      refine ⟨_, rfl, ?_⟩; simp only [RF, ev_t, ev_c, tup, ↓reduceIte, Nat.reduceEqDiff]
      have := hK _ hE
      simpa only [tcode, hc, hab, if_true, if_false] using this
  · refine T_rseq fun Kr hKr => ?_; simp (disch := omega) only [RF, RO, RC, tup, ↓reduceIte, Nat.reduceEqDiff, RD]; refine hKr _ _ ?_; clear hKr Kr; try simp only [RN, Bool.false_eq_true, reduceIte]
    refine T_cseq (t := true) (by simp (disch := omega) only [RF, RO, RC, tup, ↓reduceIte, Nat.reduceEqDiff, decT, decF, hc]) ?_; try simp only [RN, Bool.false_eq_true, reduceIte]
    refine T_rseq fun Kr hKr => ?_; simp (disch := omega) only [RF, RO, RC, tup, ↓reduceIte, Nat.reduceEqDiff, RD]; refine hKr _ _ ?_; clear hKr Kr; try simp only [RN, Bool.false_eq_true, reduceIte]
    refine ⟨_, rfl, ?_⟩; simp only [RF, ev_t, ev_c, tup, ↓reduceIte, Nat.reduceEqDiff]
    have := hK _ hE
    simpa only [tcode, hc, if_false] using this
def shab (xs : List Int) (a b : Int) : Bool := decide ((mults xs a).length + (mults xs b).length = xs.length)
theorem addL (m n k : Nat) : ((m : Int) + (n : Int) = (k : Int)) = (m + n = k) := propext ⟨fun h => by omega, fun h => by omega⟩
theorem l06Shabat_spec {H : AHeap} {v : Value} {xs : List Int} {a b : Int} {K : Value → AHeap → Prop} (hx : IsI H v xs) (hrx : Red xs) (h2 : 2 ≤ xs.length) (hl : xs.length ≤ 17) (ha : 0 ≤ a ∧ a ≤ 10006) (hb : 0 ≤ b ∧ b ≤ 10006)
    (hK : ∀ H', Ext H H' → K (.bool (shab xs a b)) H') : CallT F_spec_l06Shabat [v, I a, I b] H K := by
  obtain ⟨sa, se, rfl⟩ := hx.len
  have m1 := mults_len hrx h2 hl a
  have m2 := mults_len hrx h2 hl b
  refine CallT_body Γ_spec_l06Shabat ?_; simp only [A_spec_l06Shabat, T_aiff]
  refine T_rseq fun Kr hKr => ?_; simp (disch := omega) only [RF, RO, RC, tup, ↓reduceIte, Nat.reduceEqDiff, RD]; refine hKr _ _ ?_; clear hKr Kr; try simp only [RN, Bool.false_eq_true, reduceIte]
  refine T_rseq fun Kr hKr => ?_; simp (disch := omega) only [RF, RO, RC, tup, ↓reduceIte, Nat.reduceEqDiff, RD]
  refine l06Multiplicities_spec hx hrx h2 hl ha.1 ha.2 fun p H1 he1 ho1 => ?_
  obtain ⟨pa, pe, rfl⟩ := ho1.len
  simp (disch := omega) only [RF, RO, RC, tup, ↓reduceIte, Nat.reduceEqDiff, RD]
  refine l06Multiplicities_spec (hx.ext he1) hrx h2 hl hb.1 hb.2 fun q H2 he2 ho2 => ?_
  obtain ⟨qa, qe, rfl⟩ := ho2.len
  simp (disch := omega) only [RF, RO, RC, tup, ↓reduceIte, Nat.reduceEqDiff, RD, addL]
  refine hKr _ _ ?_; clear hKr Kr; (try simp only [blkQ, thenQ, loopQ]); try simp only [RN, Bool.false_eq_true, reduceIte]
  refine ⟨_, rfl, ?_⟩; simp only [RF, ev_t, ev_c, tup, ↓reduceIte, Nat.reduceEqDiff]
  exact hK _ (he1.trans' he2)
theorem bsV_3 {z : Value} {H : AHeap} {a b c : Option Addr} {n e n' e' n'' e'' : Nat} : bsV 1 3 [z] [(0, 1, .slice a n e), (1, 1, .slice b n' e'), (2, 1, .slice c n'' e'')] H = some (S H.n 0 3 1, H.alloc [.slice a n e, .slice b n' e', .slice c n'' e'']) := rfl
/-- Three slices in a row. -/
structure Pass (lo : Nat) (H : AHeap) (r : Value) (one two three : List Int) : Prop where
  row : ∃ b p q s m1 m2 m3 rest, r = S b 0 3 1 ∧ lo ≤ b ∧ b < H.n ∧ H.get b = some ⟨[p, q, s] ++ rest, true⟩ ∧ OwnI lo m1 H p one ∧ OwnI m1 m2 H q two ∧ OwnI m2 m3 H s three ∧ lo ≤ m1 ∧ m1 ≤ m2 ∧ m2 ≤ m3 ∧ m3 ≤ b
theorem shabat_spec {H : AHeap} {v : Value} {xs : List Int} {a b : Int} {K : Value → AHeap → Prop} (hx : IsI H v xs) (hrx : Red xs) (h2 : 2 ≤ xs.length) (hl : xs.length ≤ 17) (ha : 0 ≤ a ∧ a ≤ 10006) (hb : 0 ≤ b ∧ b ≤ 10006)
    (hK : ∀ r H', Ext H H' → Pass H.n H' r (mults xs a) (mults xs b) [(xs.length : Int) - 1] → K (.tuple ⟨[r, .bool (shab xs a b)]⟩) H') : CallT F_impl_shabat [v, I a, I b] H K := by
  obtain ⟨sa, se, rfl⟩ := hx.len
  have m1 := mults_len hrx h2 hl a
  have m2 := mults_len hrx h2 hl b
  refine CallT_body Γ_impl_shabat ?_; simp only [A_impl_shabat, T_aiff]
  refine T_rseq fun Kr hKr => ?_; simp (disch := omega) only [RF, RO, RC, tup, ↓reduceIte, Nat.reduceEqDiff, RD]; refine hKr _ _ ?_; clear hKr Kr; try simp only [RN, Bool.false_eq_true, reduceIte]
  refine T_rseq fun Kr hKr => ?_; simp (disch := omega) only [RF, RO, RC, tup, ↓reduceIte, Nat.reduceEqDiff, RD]
  refine multiplicities_spec hx hrx h2 hl ha.1 ha.2 fun p H1 he1 ho1 => ?_
  obtain ⟨pa, pe, rfl⟩ := ho1.len
  simp (disch := omega) only [RF, RO, RC, tup, ↓reduceIte, Nat.reduceEqDiff, RD]
  refine multiplicities_spec (hx.ext he1) hrx h2 hl hb.1 hb.2 fun q H2 he2 ho2 => ?_
  obtain ⟨qa, qe, rfl⟩ := ho2.len
  simp (disch := omega) only [RF, RO, RC, tup, ↓reduceIte, Nat.reduceEqDiff, RD]
  refine hKr _ _ ?_; clear hKr Kr; (try simp only [blkQ, thenQ, loopQ]); try simp only [RN, Bool.false_eq_true, reduceIte]
  have hE3 := Ext.alloc H2 [I ((xs.length : Int) - 1)]
  have hE4 := Ext.alloc (H2.alloc [I ((xs.length : Int) - 1)]) [.slice pa (mults xs a).length pe, .slice qa (mults xs b).length qe, S H2.n 0 1 1]
  refine T_rseq fun Kr hKr => ?_; simp (disch := omega) only [RF, RO, RC, tup, ↓reduceIte, Nat.reduceEqDiff, RD, bsV_3, addL]; refine hKr _ _ ?_; clear hKr Kr; try simp only [RN, Bool.false_eq_true, reduceIte]
  refine ⟨_, rfl, ?_⟩; simp only [RF, ev_t, ev_c, tup, ↓reduceIte, Nat.reduceEqDiff]
  refine hK _ _ (((he1.trans' he2).trans' hE3).trans' hE4) ⟨(H2.alloc [I ((xs.length : Int) - 1)]).n, _, _, _, H1.n, H2.n, (H2.alloc [I ((xs.length : Int) - 1)]).n, [], rfl, Nat.le_trans (Nat.le_trans he1.n he2.n) (Nat.le_succ _), Nat.lt_succ_self _, get_alloc_same _ _, ((ho1.ext he2).ext hE3).ext hE4, (ho2.ext hE3).ext hE4, (own_one H2 _).ext hE4, he1.n, he2.n, Nat.le_succ _, Nat.le_refl _⟩
def resIsShabat (xs : List Int) (a b : Int) : Bool × Int := if tcode xs a b = 0 then (shab xs a b, 0) else (false, tcode xs a b)
theorem IsShabat_spec {H : AHeap} {v : Value} {xs : List Int} {a b : Int} {K : Value → AHeap → Prop} (hx : IsI H v xs) (hl : xs.length < 2 ^ 62) (hb1 : -9223372036854775808 ≤ a ∧ a < 9223372036854775808) (hb2 : -9223372036854775808 ≤ b ∧ b < 9223372036854775808)
    (hK : ∀ H', Ext H H' → K (.tuple ⟨[.bool (resIsShabat xs a b).1, I (resIsShabat xs a b).2]⟩) H') : CallT F_spec_IsShabat [v, I a, I b] H K := by
  refine CallT_body Γ_spec_IsShabat ?_; simp only [A_spec_IsShabat, T_aiff]
  refine T_rseq fun Kr hKr => ?_; simp (disch := omega) only [RF, RO, RC, tup, ↓reduceIte, Nat.reduceEqDiff, RD]; refine hKr _ _ ?_; clear hKr Kr; try simp only [RN, Bool.false_eq_true, reduceIte]
  refine T_rseq fun Kr hKr => ?_; simp (disch := omega) only [RF, RO, RC, tup, ↓reduceIte, Nat.reduceEqDiff, reduceCtorEq, RD]
  refine l06Two_spec hx hl fun H1 he1 => ?_
  simp (disch := omega) only [RF, RO, RC, tup, ↓reduceIte, Nat.reduceEqDiff, RD]
  refine hKr _ _ ?_; clear hKr Kr; (try simp only [blkQ, thenQ, loopQ]); try simp only [RN, Bool.false_eq_true, reduceIte]
  by_cases hc : tcode xs a b = 0
  · simp only [resIsShabat, hc, if_true] at hK
    have hp := tcode_zero hc
    refine T_rseq fun Kr hKr => ?_; simp (disch := omega) only [RF, RO, RC, tup, ↓reduceIte, Nat.reduceEqDiff, RD, hc]; refine hKr _ _ ?_; clear hKr Kr; try simp only [RN, Bool.false_eq_true, reduceIte]
    refine T_cseq (t := false) (by simp (disch := omega) only [RF, RO, RC, tup, ↓reduceIte, Nat.reduceEqDiff, decT, decF, hc]) ?_; try simp only [RN, Bool.false_eq_true, reduceIte]
    refine T_rseq fun Kr hKr => ?_; simp (disch := omega) only [RF, RO, RC, tup, ↓reduceIte, Nat.reduceEqDiff, reduceCtorEq, RD]
    refine l06Shabat_spec (hx.ext he1) hp.1.red hp.2.1 hp.1.2.1 hp.2.2.1 hp.2.2.2.1 fun H2 he2 => ?_
    simp (disch := omega) only [RF, RO, RC, tup, ↓reduceIte, Nat.reduceEqDiff, RD]
    refine hKr _ _ ?_; clear hKr Kr; (try simp only [blkQ, thenQ, loopQ]); try simp only [RN, Bool.false_eq_true, reduceIte]
    refine ⟨_, rfl, ?_⟩; simp only [RF, ev_t, ev_c, tup, ↓reduceIte, Nat.reduceEqDiff]
    exact hK _ (he1.trans' he2)
  · simp only [resIsShabat, hc, if_false] at hK
    refine T_rseq fun Kr hKr => ?_; simp (disch := omega) only [RF, RO, RC, tup, ↓reduceIte, Nat.reduceEqDiff, RD]; refine hKr _ _ ?_; clear hKr Kr; try simp only [RN, Bool.false_eq_true, reduceIte]
    refine T_cseq (t := true) (by simp (disch := omega) only [RF, RO, RC, tup, ↓reduceIte, Nat.reduceEqDiff, decT, decF, hc]) ?_; try simp only [RN, Bool.false_eq_true, reduceIte]
    refine T_rseq fun Kr hKr => ?_; simp (disch := omega) only [RF, RO, RC, tup, ↓reduceIte, Nat.reduceEqDiff, RD]; refine hKr _ _ ?_; clear hKr Kr; try simp only [RN, Bool.false_eq_true, reduceIte]
    refine ⟨_, rfl, ?_⟩; simp only [RF, ev_t, ev_c, tup, ↓reduceIte, Nat.reduceEqDiff]
    exact hK _ he1
theorem impl_IsShabat_spec {H : AHeap} {v : Value} {xs : List Int} {a b : Int} {K : Value → AHeap → Prop} (hx : IsI H v xs) (hl : xs.length < 2 ^ 62) (hb1 : -9223372036854775808 ≤ a ∧ a < 9223372036854775808) (hb2 : -9223372036854775808 ≤ b ∧ b < 9223372036854775808)
    (hK : ∀ H', Ext H H' → K (.tuple ⟨[.bool (resIsShabat xs a b).1, I (resIsShabat xs a b).2]⟩) H') : CallT F_impl_IsShabat [v, I a, I b] H K := by
  refine CallT_body Γ_impl_IsShabat ?_; simp only [A_impl_IsShabat, T_aiff]
  refine T_rseq fun Kr hKr => ?_; simp (disch := omega) only [RF, RO, RC, tup, ↓reduceIte, Nat.reduceEqDiff, RD]; refine hKr _ _ ?_; clear hKr Kr; try simp only [RN, Bool.false_eq_true, reduceIte]
  refine T_rseq fun Kr hKr => ?_; simp (disch := omega) only [RF, RO, RC, tup, ↓reduceIte, Nat.reduceEqDiff, reduceCtorEq, RD]
  refine shabatCode_spec hx hl fun H1 he1 => ?_
  simp (disch := omega) only [RF, RO, RC, tup, ↓reduceIte, Nat.reduceEqDiff, RD]
  refine hKr _ _ ?_; clear hKr Kr; (try simp only [blkQ, thenQ, loopQ]); try simp only [RN, Bool.false_eq_true, reduceIte]
  by_cases hc : tcode xs a b = 0
  · simp only [resIsShabat, hc, if_true] at hK
    have hp := tcode_zero hc
    refine T_rseq fun Kr hKr => ?_; simp (disch := omega) only [RF, RO, RC, tup, ↓reduceIte, Nat.reduceEqDiff, RD, hc]; refine hKr _ _ ?_; clear hKr Kr; try simp only [RN, Bool.false_eq_true, reduceIte]
    refine T_cseq (t := false) (by simp (disch := omega) only [RF, RO, RC, tup, ↓reduceIte, Nat.reduceEqDiff, decT, decF, hc]) ?_; try simp only [RN, Bool.false_eq_true, reduceIte]
    refine T_rseq fun Kr hKr => ?_; simp (disch := omega) only [RF, RO, RC, tup, ↓reduceIte, Nat.reduceEqDiff, reduceCtorEq, RD]
    refine shabat_spec (hx.ext he1) hp.1.red hp.2.1 hp.1.2.1 hp.2.2.1 hp.2.2.2.1 fun r H2 he2 _ => ?_
    simp (disch := omega) only [RF, RO, RC, tup, ↓reduceIte, Nat.reduceEqDiff, RD]
    refine hKr _ _ ?_; clear hKr Kr; (try simp only [blkQ, thenQ, loopQ]); try simp only [RN, Bool.false_eq_true, reduceIte]
    refine T_rseq fun Kr hKr => ?_; simp (disch := omega) only [RF, RO, RC, tup, ↓reduceIte, Nat.reduceEqDiff, RD]; refine hKr _ _ ?_; clear hKr Kr; try simp only [RN, Bool.false_eq_true, reduceIte]
    refine ⟨_, rfl, ?_⟩; simp only [RF, ev_t, ev_c, tup, ↓reduceIte, Nat.reduceEqDiff]
    exact hK _ (he1.trans' he2)
  · simp only [resIsShabat, hc, if_false] at hK
    refine T_rseq fun Kr hKr => ?_; simp (disch := omega) only [RF, RO, RC, tup, ↓reduceIte, Nat.reduceEqDiff, RD]; refine hKr _ _ ?_; clear hKr Kr; try simp only [RN, Bool.false_eq_true, reduceIte]
    refine T_cseq (t := true) (by simp (disch := omega) only [RF, RO, RC, tup, ↓reduceIte, Nat.reduceEqDiff, decT, decF, hc]) ?_; try simp only [RN, Bool.false_eq_true, reduceIte]
    refine T_rseq fun Kr hKr => ?_; simp (disch := omega) only [RF, RO, RC, tup, ↓reduceIte, Nat.reduceEqDiff, RD]; refine hKr _ _ ?_; clear hKr Kr; try simp only [RN, Bool.false_eq_true, reduceIte]
    refine ⟨_, rfl, ?_⟩; simp only [RF, ev_t, ev_c, tup, ↓reduceIte, Nat.reduceEqDiff]
    exact hK _ he1
end Go.Am

/- Compositions. -/
set_option linter.unusedVariables false
set_option linter.unusedSimpArgs false
namespace Go.Am
open Go

def comp (f g : List Int) : List Int := f.foldr (fun a out => padd (ptimes out g) (trim [a]) 1) []
theorem comp_cons (a : Int) (f g : List Int) : comp (a :: f) g = padd (ptimes (comp f g) g) (trim [a]) 1 := rfl
theorem comp_red (f g : List Int) : Red (comp f g) := by
  cases f with
  | nil => exact .nil
  | cons a f => exact red_padd _ _ _
theorem comp_len {g : List Int} (hg : g.length ≤ 17) : ∀ f : List Int, (comp f g).length ≤ 16 * f.length + 1
  | [] => by simp [comp]
  | a :: f => by
    have ih := comp_len hg f
    rw [comp_cons]
    have h1 := padd_len (ptimes (comp f g) g) (trim [a]) 1
    have h2 := ptimes_len (comp f g) g
    have h3 := trim_le [a]
    simp only [List.length_cons, List.length_nil] at h3 ⊢
    omega
theorem plain_one (xs : List Int) (a : Int) : padd xs [a] 1 = padd xs (trim [a]) 1 := by
  refine Red.ext (red_padd _ _ _) (red_padd _ _ _) fun i => ?_
  rw [el_padd, el_padd, el_trim]

theorem l06Compose_spec {H : AHeap} {v u : Value} {xs ys : List Int} {K : Value → AHeap → Prop} (hx : IsI H v xs) (hpx : Poly xs) (hy : IsI H u ys) (hpy : Poly ys)
    (hK : ∀ v' H', Ext H H' → OwnI H.n H'.n H' v' (comp xs ys) → K v' H') : CallT F_spec_l06Compose [v, u] H K := by
  obtain ⟨a, e, rfl⟩ := hx.len
  have l1 := hpx.2.1
  have l2 := hpy.2.1
  refine CallT_body Γ_spec_l06Compose ?_; simp only [A_spec_l06Compose, T_aiff]
  refine T_rseq fun Kr hKr => ?_; simp (disch := omega) only [RF, RO, RC, tup, ↓reduceIte, Nat.reduceEqDiff, RD]; refine hKr _ _ ?_; clear hKr Kr; try simp only [RN, Bool.false_eq_true, reduceIte]
  refine T_rseq fun Kr hKr => ?_; simp (disch := omega) only [RF, RO, RC, tup, ↓reduceIte, Nat.reduceEqDiff, RD]; refine hKr _ _ ?_; clear hKr Kr; try simp only [RN, Bool.false_eq_true, reduceIte]
  refine T_rseq fun Kr hKr => ?_; simp (disch := omega) only [RF, RO, RC, tup, ↓reduceIte, Nat.reduceEqDiff, RD]; refine hKr _ _ ?_; clear hKr Kr; try simp only [RN, Bool.false_eq_true, reduceIte]
  refine T_wloop (fun n f H' => ∃ w, n ≤ xs.length ∧ Ext H H' ∧ f 0 = .slice a xs.length e ∧ f 1 = u ∧ f 5 = w ∧ f 6 = I ((n : Int) - 1) ∧ OwnI H.n H'.n H' w (comp (xs.drop n) ys)) (xs.length) ?_ ?_
  · exact ⟨S H.n 0 0 1, Nat.le_refl _, Ext.alloc _ _, by simp [RF], by simp [RF], by simp [RF], by simp [RF], by rw [List.drop_length]; exact own_empty H⟩
  · rintro n f H' R ⟨w, hk, he, h0, h1, h5, h6, ho⟩ hN hX hR
    simp only [A_spec_l06Compose.l0, T_aiff]
    refine T_rseq fun Kr hKr => ?_; simp (disch := omega) only [RF, RO, RC, tup, ↓reduceIte, Nat.reduceEqDiff, RD, h0, h6]; refine hKr _ _ ?_; clear hKr Kr; try simp only [RN, Bool.false_eq_true, reduceIte]
    by_cases hlt : 0 < n
    · refine T_cseq (t := true) (by simp (disch := omega) only [RF, RO, RC, tup, ↓reduceIte, Nat.reduceEqDiff, decT, decF]) ?_; try simp only [RN, Bool.false_eq_true, reduceIte]
      (first | refine T_bfree rfl ?_ | refine T_bfree' rfl ?_); try simp only [RN, Bool.false_eq_true, reduceIte]
      have hi : (n : Int) - 1 = ((n - 1 : Nat) : Int) := by omega
      have hn1 : n - 1 < xs.length := by omega
      have hcl := comp_len l2 (xs.drop n)
      rw [List.length_drop] at hcl
      have hfk := hpx.fit (n - 1) hn1
      obtain ⟨b, o, blk, heq, hb, hg, hlen, hel⟩ := hx.pos (by omega)
      cases heq
      refine T_rseq fun Kr hKr => ?_; simp (disch := omega) only [RF, RO, RC, tup, ↓reduceIte, Nat.reduceEqDiff, RD, h0, h1, h5]
      refine l06Times_spec ho.is (comp_red _ _).fit (by omega) (hy.ext he) hpy.fit (by omega) fun p H1 he1 ho1 => ?_
      have hg1 : H1.get b = some blk := by rw [(he.trans' he1).get b hb]; exact hg
      simp (disch := omega) only [RF, RO, RC, tup, ↓reduceIte, Nat.reduceEqDiff, RD, he1, h0, h6, hi, hn1, hg1, hel]
      refine l06Trim_spec (own_one' H1 (el xs (n - 1))) (by simp) fun q H2 he2 ho2 => ?_
      simp (disch := omega) only [RF, RO, RC, tup, ↓reduceIte, Nat.reduceEqDiff, RD, he2]
      have h3 := trim_le [el xs (n - 1)]
      have h4 := ptimes_len (comp (xs.drop n) ys) ys
      simp only [List.length_cons, List.length_nil] at h3
      refine l06Add_spec ((ho1.ext (Ext.alloc H1 _)).ext he2).is (red_ptimes _ _).fit (by omega) ho2.is (fun i hi => by rw [el_trim]; exact fit_one _ (by omega) i (by simp; omega)) (by omega) (by omega) (by omega) fun z H3 he3 ho3 => ?_
      simp (disch := omega) only [RF, RO, RC, tup, ↓reduceIte, Nat.reduceEqDiff, RD, he3]
      refine hKr _ _ ?_; clear hKr Kr; (try simp only [blkQ, thenQ, loopQ]); try simp only [RN, Bool.false_eq_true, reduceIte]
      have hE := ((he1.trans' (Ext.alloc H1 [I (el xs (n - 1))])).trans' he2).trans' he3
      refine T_reg_k fun Kr hKr => ?_; simp (disch := omega) only [RF, RO, RC, tup, ↓reduceIte, Nat.reduceEqDiff, RD, h6]; refine hKr _ _ ?_; clear hKr Kr
      refine hN (n - 1) _ _ (by omega) ⟨z, by omega, he.trans' hE, by simp [RF, h0], by simp [RF, h1], by simp [RF], by simp [RF]; omega, ?_⟩
      rw [drop_el hn1, comp_cons, Nat.sub_add_cancel (by omega)]
      exact ho3.weak (Nat.le_trans he.n (Nat.le_trans he1.n (Nat.le_trans (Nat.le_succ _) he2.n))) (Nat.le_refl _)
    · refine T_cseq (t := false) (by simp (disch := omega) only [RF, RO, RC, tup, ↓reduceIte, Nat.reduceEqDiff, decT, decF]) ?_; try simp only [RN, Bool.false_eq_true, reduceIte]
      refine hX _ _ ?_
      refine T_rseq fun Kr hKr => ?_; simp (disch := omega) only [RF, RO, RC, tup, ↓reduceIte, Nat.reduceEqDiff, RD, h5]; refine hKr _ _ ?_; clear hKr Kr; try simp only [RN, Bool.false_eq_true, reduceIte]
      refine ⟨_, rfl, ?_⟩; simp only [RF, ev_t, ev_c, tup, ↓reduceIte, Nat.reduceEqDiff]
      have : n = 0 := by omega
      subst this
      exact hK _ _ he (by simpa using ho)
def resComposePolynomials (xs ys : List Int) : List Int × Int := if Poly xs ∧ Poly ys then if 16 < ((xs.length : Int) - 1) * ((ys.length : Int) - 1) then ([], 3) else (comp xs ys, 0) else ([], 1)
theorem prod_bd {m n : Nat} (hm : m ≤ 17) (hn : n ≤ 17) : -1000 ≤ ((m : Int) - 1) * ((n : Int) - 1) ∧ ((m : Int) - 1) * ((n : Int) - 1) ≤ 1000 ∧ (¬ (1 < m ∧ 1 < n) → ¬ 16 < ((m : Int) - 1) * ((n : Int) - 1)) := by
  have key : ∀ m : Nat, m < 18 → ∀ n : Nat, n < 18 → -1000 ≤ ((m : Int) - 1) * ((n : Int) - 1) ∧ ((m : Int) - 1) * ((n : Int) - 1) ≤ 1000 ∧ (¬ (1 < m ∧ 1 < n) → ¬ 16 < ((m : Int) - 1) * ((n : Int) - 1)) := by decide +kernel
  exact key m (by omega) n (by omega)
theorem impl_ComposePolynomials_spec {H : AHeap} {v u : Value} {xs ys : List Int} {K : Value → AHeap → Prop} (hx : IsI H v xs) (hl : xs.length < 2 ^ 62) (hy : IsI H u ys) (hly : ys.length < 2 ^ 62)
    (hK : ∀ v' H', Ext H H' → OwnI H.n H'.n H' v' (resComposePolynomials xs ys).1 → K (.tuple ⟨[v', I (resComposePolynomials xs ys).2]⟩) H') : CallT F_impl_ComposePolynomials [v, u] H K := by
  obtain ⟨a, e, rfl⟩ := hx.len
  obtain ⟨a', e', rfl⟩ := hy.len
  refine CallT_body Γ_impl_ComposePolynomials ?_; simp only [A_impl_ComposePolynomials, T_aiff]
  refine T_rseq fun Kr hKr => ?_; simp (disch := omega) only [RF, RO, RC, tup, ↓reduceIte, Nat.reduceEqDiff, reduceCtorEq, RD]; refine hKr _ _ ?_; clear hKr Kr; try simp only [RN, Bool.false_eq_true, reduceIte]
  refine T_rseq fun Kr hKr => ?_; simp (disch := omega) only [RF, RO, RC, tup, ↓reduceIte, Nat.reduceEqDiff, RD]
  refine impl_IsPolynomial_spec hx hl ?_
  by_cases hp : Poly xs
  · rw [decide_eq_true hp]
    simp (disch := omega) only [RF, RO, RC, tup, ↓reduceIte, Nat.reduceEqDiff, RD]
    refine impl_IsPolynomial_spec hy hly ?_
    by_cases hq : Poly ys
    · rw [decide_eq_true hq]
      have l1 := hp.2.1
      have l2 := hq.2.1
      have hpb := prod_bd l1 l2
      have hw1 : IntKind.i64.wrap ((xs.length : Int) - 1) = (xs.length : Int) - 1 := w64 (by omega) (by omega)
      have hw2 : IntKind.i64.wrap ((ys.length : Int) - 1) = (ys.length : Int) - 1 := w64 (by omega) (by omega)
      have hw3 : IntKind.i64.wrap (((xs.length : Int) - 1) * ((ys.length : Int) - 1)) = ((xs.length : Int) - 1) * ((ys.length : Int) - 1) := w64 (by omega) (by omega)
      simp only [resComposePolynomials, hp, hq, and_self, if_true] at hK
      simp (disch := omega) only [RF, RO, RC, tup, ↓reduceIte, Nat.reduceEqDiff, RD]
      refine hKr _ _ ?_; clear hKr Kr; (try simp only [blkQ, thenQ, loopQ]); try simp only [RN, if_true, if_false, Bool.false_eq_true, if_pos, reduceIte]
      refine T_cseq (t := false) (by simp (disch := omega) only [RF, RO, RC, tup, ↓reduceIte, Nat.reduceEqDiff, decT, decF]) ?_; try simp only [RN, Bool.false_eq_true, reduceIte]
      by_cases hbig : 16 < ((xs.length : Int) - 1) * ((ys.length : Int) - 1)
      · rw [if_pos hbig] at hK
        refine T_rseq fun Kr hKr => ?_; simp (disch := omega) only [RF, RO, RC, tup, ↓reduceIte, Nat.reduceEqDiff, reduceCtorEq, RD, hw1, hw2, hw3, hbig]; refine hKr _ _ ?_; clear hKr Kr; try simp only [RN, Bool.false_eq_true, reduceIte]
        refine T_cseq (t := true) (by simp (disch := omega) only [RF, RO, RC, tup, ↓reduceIte, Nat.reduceEqDiff, decT, decF]) ?_; try simp only [RN, Bool.false_eq_true, reduceIte]
        refine T_rseq fun Kr hKr => ?_; simp (disch := omega) only [RF, RO, RC, tup, ↓reduceIte, Nat.reduceEqDiff, reduceCtorEq, RD]; refine hKr _ _ ?_; clear hKr Kr; try simp only [RN, Bool.false_eq_true, reduceIte]
        refine ⟨_, rfl, ?_⟩; simp only [RF, ev_t, ev_c, tup, ↓reduceIte, Nat.reduceEqDiff]
        exact hK _ _ (Ext.refl' _) .nil
      · rw [if_neg hbig] at hK
        refine T_rseq fun Kr hKr => ?_; simp (disch := omega) only [RF, RO, RC, tup, ↓reduceIte, Nat.reduceEqDiff, reduceCtorEq, RD, hw1, hw2, hw3, hbig]; refine hKr _ _ ?_; clear hKr Kr; try simp only [RN, Bool.false_eq_true, reduceIte]
        refine T_cseq (t := false) (by simp (disch := omega) only [RF, RO, RC, tup, ↓reduceIte, Nat.reduceEqDiff, decT, decF]) ?_; try simp only [RN, Bool.false_eq_true, reduceIte]
        refine T_rseq fun Kr hKr => ?_; simp (disch := omega) only [RF, RO, RC, tup, ↓reduceIte, Nat.reduceEqDiff, reduceCtorEq, RD]; refine hKr _ _ ?_; clear hKr Kr; try simp only [RN, Bool.false_eq_true, reduceIte]
        refine T_rseq fun Kr hKr => ?_; simp (disch := omega) only [RF, RO, RC, tup, ↓reduceIte, Nat.reduceEqDiff, reduceCtorEq, RD]; refine hKr _ _ ?_; clear hKr Kr; try simp only [RN, Bool.false_eq_true, reduceIte]
        refine T_wloop (fun n f H' => ∃ w, n ≤ xs.length ∧ Ext H H' ∧ f 0 = .slice a xs.length e ∧ f 1 = .slice a' ys.length e' ∧ f 6 = w ∧ f 7 = I ((n : Int) - 1) ∧ OwnI H.n H'.n H' w (comp (xs.drop n) ys)) (xs.length) ?_ ?_
        · exact ⟨S H.n 0 0 1, Nat.le_refl _, Ext.alloc _ _, by simp [RF], by simp [RF], by simp [RF], by simp [RF], by rw [List.drop_length]; exact own_empty H⟩
        · rintro n f H' R ⟨w, hk, he, h0, h1, h5, h6, ho⟩ hN hX hR
          simp only [A_impl_ComposePolynomials.l0, T_aiff]
          refine T_rseq fun Kr hKr => ?_; simp (disch := omega) only [RF, RO, RC, tup, ↓reduceIte, Nat.reduceEqDiff, RD, h0, h6]; refine hKr _ _ ?_; clear hKr Kr; try simp only [RN, Bool.false_eq_true, reduceIte]
          by_cases hlt : 0 < n
          · refine T_cseq (t := true) (by simp (disch := omega) only [RF, RO, RC, tup, ↓reduceIte, Nat.reduceEqDiff, decT, decF]) ?_; try simp only [RN, Bool.false_eq_true, reduceIte]
            (first | refine T_bfree rfl ?_ | refine T_bfree' rfl ?_); try simp only [RN, Bool.false_eq_true, reduceIte]
            have hi : (n : Int) - 1 = ((n - 1 : Nat) : Int) := by omega
            have hn1 : n - 1 < xs.length := by omega
            have hcl := comp_len l2 (xs.drop n)
            rw [List.length_drop] at hcl
            have hfk := hp.fit (n - 1) hn1
            obtain ⟨b, o, blk, heq, hb, hg, hlen, hel⟩ := hx.pos (by omega)
            cases heq
            refine T_rseq fun Kr hKr => ?_; simp (disch := omega) only [RF, RO, RC, tup, ↓reduceIte, Nat.reduceEqDiff, RD, h0, h1, h5]
            refine times_spec ho.is (comp_red _ _).fit (by omega) (hy.ext he) hq.fit (by omega) fun p H1 he1 ho1 => ?_
            have hg1 : H1.get b = some blk := by rw [(he.trans' he1).get b hb]; exact hg
            simp (disch := omega) only [RF, RO, RC, tup, ↓reduceIte, Nat.reduceEqDiff, RD, he1, h0, h6, hi, hn1, hg1, hel]
            have h4 := ptimes_len (comp (xs.drop n) ys) ys
            refine addAll_spec (ho1.ext (Ext.alloc H1 _)).is (red_ptimes _ _).fit (by omega) (own_one' H1 (el xs (n - 1))) (fit_one _ (by omega)) (by simp) fun z H3 he3 ho3 => ?_
            simp (disch := omega) only [RF, RO, RC, tup, ↓reduceIte, Nat.reduceEqDiff, RD, he3]
            refine hKr _ _ ?_; clear hKr Kr; (try simp only [blkQ, thenQ, loopQ]); try simp only [RN, if_true, if_false, Bool.false_eq_true, if_pos, reduceIte]
            rw [plain_one] at ho3
            have hE := (he1.trans' (Ext.alloc H1 [I (el xs (n - 1))])).trans' he3
            refine T_reg_k fun Kr hKr => ?_; simp (disch := omega) only [RF, RO, RC, tup, ↓reduceIte, Nat.reduceEqDiff, RD, h6]; refine hKr _ _ ?_; clear hKr Kr
            refine hN (n - 1) _ _ (by omega) ⟨z, by omega, he.trans' hE, by simp [RF, h0], by simp [RF, h1], by simp [RF], by simp [RF]; omega, ?_⟩
            rw [drop_el hn1, comp_cons, Nat.sub_add_cancel (by omega)]
            exact ho3.weak (Nat.le_trans he.n (Nat.le_trans he1.n (Nat.le_succ _))) (Nat.le_refl _)
          · refine T_cseq (t := false) (by simp (disch := omega) only [RF, RO, RC, tup, ↓reduceIte, Nat.reduceEqDiff, decT, decF]) ?_; try simp only [RN, Bool.false_eq_true, reduceIte]
            refine hX _ _ ?_
            refine T_rseq fun Kr hKr => ?_; simp (disch := omega) only [RF, RO, RC, tup, ↓reduceIte, Nat.reduceEqDiff, RD, h5]; refine hKr _ _ ?_; clear hKr Kr; try simp only [RN, Bool.false_eq_true, reduceIte]
            refine ⟨_, rfl, ?_⟩; simp only [RF, ev_t, ev_c, tup, ↓reduceIte, Nat.reduceEqDiff]
            have : n = 0 := by omega
            subst this
            exact hK _ _ he (by simpa using ho)
    · rw [decide_eq_false hq]
      simp only [resComposePolynomials, hq, and_false, if_false] at hK
      simp (disch := omega) only [RF, RO, RC, tup, ↓reduceIte, Nat.reduceEqDiff, RD]
      refine hKr _ _ ?_; clear hKr Kr; (try simp only [blkQ, thenQ, loopQ]); try simp only [RN, if_true, if_false, Bool.false_eq_true, if_pos, reduceIte]
      refine T_cseq (t := true) (by simp (disch := omega) only [RF, RO, RC, tup, ↓reduceIte, Nat.reduceEqDiff, decT, decF]) ?_; try simp only [RN, Bool.false_eq_true, reduceIte]
      refine T_rseq fun Kr hKr => ?_; simp (disch := omega) only [RF, RO, RC, tup, ↓reduceIte, Nat.reduceEqDiff, reduceCtorEq, RD]; refine hKr _ _ ?_; clear hKr Kr; try simp only [RN, Bool.false_eq_true, reduceIte]
      refine ⟨_, rfl, ?_⟩; simp only [RF, ev_t, ev_c, tup, ↓reduceIte, Nat.reduceEqDiff]
      exact hK _ _ (Ext.refl' _) .nil
  · rw [decide_eq_false hp]
    simp only [resComposePolynomials, hp, false_and, if_false] at hK
    simp (disch := omega) only [RF, RO, RC, tup, ↓reduceIte, Nat.reduceEqDiff, RD]
    refine hKr _ _ ?_; clear hKr Kr; (try simp only [blkQ, thenQ, loopQ]); try simp only [RN, if_true, if_false, Bool.false_eq_true, if_pos, reduceIte]
    refine T_cseq (t := true) (by simp (disch := omega) only [RF, RO, RC, tup, ↓reduceIte, Nat.reduceEqDiff, decT, decF]) ?_; try simp only [RN, Bool.false_eq_true, reduceIte]
    refine T_rseq fun Kr hKr => ?_; simp (disch := omega) only [RF, RO, RC, tup, ↓reduceIte, Nat.reduceEqDiff, reduceCtorEq, RD]; refine hKr _ _ ?_; clear hKr Kr; try simp only [RN, Bool.false_eq_true, reduceIte]
    refine ⟨_, rfl, ?_⟩; simp only [RF, ev_t, ev_c, tup, ↓reduceIte, Nat.reduceEqDiff]
    exact hK _ _ (Ext.refl' _) .nil
end Go.Am

/- Derivatives of products, values of sums and products (plain). -/
set_option linter.unusedVariables false
set_option linter.unusedSimpArgs false
namespace Go.Am
open Go

def dfn (x : Nat → Int) (i : Nat) : Int := x (i + 1) * ((i : Int) + 1)
theorem cvp_der {x y : Nat → Int} {n : Nat} : ∀ k, k ≤ n → ((n : Int) + 1) * cvp x y (k + 1) (n + 1) = cvp (dfn x) y k n + cvp x (dfn y) (k + 1) n
  | 0, _ => by
    simp only [cvp, Nat.zero_le, if_true, Nat.sub_zero, dfn]
    rw [Int.zero_add, Int.zero_add, Int.zero_add, Int.mul_comm, Int.mul_assoc]
  | k + 1, hk => by
    have ih := cvp_der (x := x) (y := y) (n := n) k (by omega)
    rw [cvp, Int.mul_add, ih, if_pos (by omega)]
    rw [show cvp (dfn x) y (k + 1) n = cvp (dfn x) y k n + dfn x k * y (n - k) by rw [cvp, if_pos (by omega)]]
    rw [show cvp x (dfn y) (k + 1 + 1) n = cvp x (dfn y) (k + 1) n + x (k + 1) * dfn y (n - (k + 1)) by rw [cvp, if_pos (by omega)]]
    have h1 : n + 1 - (k + 1) = n - k := by omega
    have h2 : n - (k + 1) + 1 = n - k := by omega
    have h3 : ((n : Int) + 1) = ((k : Int) + 1) + (((n - (k + 1) : Nat) : Int) + 1) := by omega
    rw [h1, dfn, dfn, h2, h3, Int.add_mul]
    have e1 : ((k : Int) + 1) * (x (k + 1) * y (n - k)) = x (k + 1) * ((k : Int) + 1) * y (n - k) := by rw [← Int.mul_assoc, Int.mul_comm (_ + 1)]
    have e2 : (((n - (k + 1) : Nat) : Int) + 1) * (x (k + 1) * y (n - k)) = x (k + 1) * (y (n - k) * (((n - (k + 1) : Nat) : Int) + 1)) := by rw [Int.mul_comm, Int.mul_assoc]
    rw [e1, e2]
    omega
/-- The rule of the product, coefficient by coefficient. -/
theorem cv_der (x y : Nat → Int) (n : Nat) : ((n : Int) + 1) * cv x y (n + 1) = cv (dfn x) y n + cv x (dfn y) n := by
  unfold cv
  have h := cvp_der (x := x) (y := y) (n := n) n (Nat.le_refl _)
  rw [show cvp x y (n + 1 + 1) (n + 1) = cvp x y (n + 1) (n + 1) + x (n + 1) * y 0 by rw [cvp, if_pos (Nat.le_refl _), Nat.sub_self], Int.mul_add, h]
  rw [show cvp (dfn x) y (n + 1) n = cvp (dfn x) y n n + dfn x n * y 0 by rw [cvp, if_pos (Nat.le_refl _), Nat.sub_self], dfn]
  have : ((n : Int) + 1) * (x (n + 1) * y 0) = x (n + 1) * ((n : Int) + 1) * y 0 := by rw [← Int.mul_assoc, Int.mul_comm (_ + 1)]
  rw [this]
  omega
theorem md_md (a : Int) : md (md a) = md a := by unfold md; omega
theorem md_mul_l (a b : Int) : md (md a * b) = md (a * b) := by
  unfold md
  rw [Int.mul_emod (a % 10007), Int.emod_emod_of_dvd _ (Int.dvd_refl _), ← Int.mul_emod]
theorem md_mul_r (a b : Int) : md (a * md b) = md (a * b) := by rw [Int.mul_comm, md_mul_l, Int.mul_comm]
theorem md_add_r (a b : Int) : md (a + md b) = md (a + b) := by unfold md; omega
theorem cvp_md {x y x' y' : Nat → Int} (hx : ∀ i, md (x i) = md (x' i)) (hy : ∀ i, md (y i) = md (y' i)) (n : Nat) : ∀ k, md (cvp x y k n) = md (cvp x' y' k n)
  | 0 => rfl
  | k + 1 => by
    have ih := cvp_md hx hy n k
    rw [cvp, cvp]
    by_cases h : k ≤ n
    · rw [if_pos h, if_pos h, ← md_add, ih, md_add, ← md_add_r, ← md_mul_l, hx, md_mul_l, ← md_mul_r, hy, md_mul_r, md_add_r]
    · rw [if_neg h, if_neg h, Int.add_zero, Int.add_zero, ih]
theorem cv_md {x y x' y' : Nat → Int} (hx : ∀ i, md (x i) = md (x' i)) (hy : ∀ i, md (y i) = md (y' i)) (n : Nat) : md (cv x y n) = md (cv x' y' n) := cvp_md hx hy n (n + 1)
/-- The derivative of a product. -/
theorem slope_ptimes (f g : List Int) : slope (ptimes f g) = padd (ptimes (slope f) g) (ptimes f (slope g)) 1 := by
  refine Red.ext (red_slope _) (red_padd _ _ _) fun i => ?_
  have h1 : md (cv (el (slope f)) (el g) i) = md (cv (dfn (el f)) (el g) i) := cv_md (fun i => by rw [el_slope, md_md]; rfl) (fun _ => rfl) i
  have h2 : md (cv (el f) (el (slope g)) i) = md (cv (el f) (dfn (el g)) i) := cv_md (fun _ => rfl) (fun i => by rw [el_slope, md_md]; rfl) i
  have h3 := cv_der (el f) (el g) i
  rw [el_slope, el_padd, el_ptimes, el_ptimes, el_ptimes, md_mul_l, Int.one_mul, md_add, md_add_r, ← md_add, h1, md_add, ← md_add_r, h2, md_add_r, ← h3, Int.mul_comm]
/-! ### Values -/
end Go.Am

/- Polynomials over the field: products, divisors, and that multiplicities go down (plain). -/
set_option linter.unusedVariables false
set_option linter.unusedSimpArgs false
namespace Go.Am
open Go

theorem cv_at0 (x y : Nat → Int) : cv x y 0 = x 0 * y 0 := by simp [cv, cvp]
theorem cvp_left {x y : Nat → Int} {n : Nat} : ∀ k, cvp x y (k + 1) (n + 1) = x 0 * y (n + 1) + cvp (fun i => x (i + 1)) y k n
  | 0 => by simp [cvp]
  | k + 1 => by
    have ih := cvp_left (x := x) (y := y) (n := n) k
    rw [cvp, ih, cvp, Int.add_assoc]
    congr 2
    by_cases h : k ≤ n
    · rw [if_pos (by omega), if_pos h, Nat.add_sub_add_right]
    · rw [if_neg (by omega), if_neg h]
theorem cv_left (x y : Nat → Int) (n : Nat) : cv x y (n + 1) = x 0 * y (n + 1) + cv (fun i => x (i + 1)) y n := cvp_left (n + 1)
theorem cvp_right {x y : Nat → Int} {n : Nat} : ∀ k, k ≤ n + 1 → cvp x y k (n + 1) = cvp x (fun i => y (i + 1)) k n
  | 0, _ => rfl
  | k + 1, h => by
    rw [cvp, cvp, cvp_right k (by omega), if_pos (by omega), if_pos (by omega), show n + 1 - k = n - k + 1 by omega]
theorem cv_right (x y : Nat → Int) (n : Nat) : cv x y (n + 1) = cv x (fun i => y (i + 1)) n + x (n + 1) * y 0 := by
  show cvp x y (n + 1 + 1) (n + 1) = _
  rw [cvp, cvp_right (n + 1) (Nat.le_refl _), if_pos (Nat.le_refl _), Nat.sub_self]
  rfl
theorem cv_comm (x y : Nat → Int) : ∀ n, cv x y n = cv y x n := by
  intro n
  induction n generalizing x y with
  | zero => rw [cv_at0, cv_at0, Int.mul_comm]
  | succ n ih => rw [cv_right, ih, cv_left, Int.add_comm, Int.mul_comm (y 0)]
theorem cv_lin (x x2 y : Nat → Int) (c : Int) : ∀ n, cv (fun i => x i + c * x2 i) y n = cv x y n + c * cv x2 y n := by
  intro n
  induction n generalizing x x2 with
  | zero => rw [cv_at0, cv_at0, cv_at0, Int.add_mul, Int.mul_assoc]
  | succ n ih =>
    have := ih (fun i => x (i + 1)) (fun i => x2 (i + 1))
    rw [cv_left, cv_left, cv_left, this, Int.add_mul, Int.mul_add, Int.mul_assoc]
    omega
theorem cv_assoc (x y z : Nat → Int) : ∀ n, cv (cv x y) z n = cv x (cv y z) n := by
  intro n
  induction n generalizing x y z with
  | zero => rw [cv_at0, cv_at0, cv_at0, cv_at0, Int.mul_assoc]
  | succ n ih =>
    have e : (fun i => cv x y (i + 1)) = fun i => (cv (fun i => x (i + 1)) y) i + x 0 * (fun i => y (i + 1)) i := by
      funext i
      rw [cv_left, Int.add_comm]
    rw [cv_left, e, cv_lin, ih, cv_at0, cv_left x, cv_left y, Int.mul_add, Int.mul_assoc]
    omega
theorem ptimes_comm (a b : List Int) : ptimes a b = ptimes b a := Red.ext (red_ptimes _ _) (red_ptimes _ _) fun i => by rw [el_ptimes, el_ptimes, cv_comm]
theorem ptimes_assoc (a b c : List Int) : ptimes (ptimes a b) c = ptimes a (ptimes b c) := Red.ext (red_ptimes _ _) (red_ptimes _ _) fun i => by
  rw [el_ptimes, el_ptimes, cv_md (x' := cv (el a) (el b)) (y' := el c) (fun i => by rw [el_ptimes, md_md]) (fun _ => rfl), cv_md (x := el a) (x' := el a) (y := el (ptimes b c)) (y' := cv (el b) (el c)) (fun _ => rfl) (fun i => by rw [el_ptimes, md_md]), cv_assoc]
theorem md_lin (A B k : Int) : md (md A + k * md B) = md (A + k * B) := by rw [md_add, ← md_add_r, md_mul_r, md_add_r]
theorem padd_ptimes (a b c : List Int) (k : Int) : ptimes (padd b c k) a = padd (ptimes b a) (ptimes c a) k := Red.ext (red_ptimes _ _) (red_padd _ _ _) fun i => by
  rw [el_ptimes, el_padd, el_ptimes, el_ptimes, cv_md (x' := fun i => el b i + k * el c i) (y' := el a) (fun i => by rw [el_padd, md_md]) (fun _ => rfl), cv_lin, md_lin]
theorem ptimes_padd (a b c : List Int) (k : Int) : ptimes a (padd b c k) = padd (ptimes a b) (ptimes a c) k := by
  rw [ptimes_comm, padd_ptimes, ptimes_comm b, ptimes_comm c]
theorem one_ptimes {a : List Int} (h : Red a) : ptimes [1] a = a := Red.ext (red_ptimes _ _) h fun i => by
  have hb := h.1 i
  rw [ptimes_comm, el_ptimes, cv_one _ _ _ (el_one _)]
  show md (el a i * 1) = _
  rw [Int.mul_one, md_id hb.1 hb.2]
theorem ptimes_one {a : List Int} (h : Red a) : ptimes a [1] = a := by rw [ptimes_comm, one_ptimes h]
theorem ptimes_nil (a : List Int) : ptimes [] a = [] := by simp [ptimes]
/-- Degrees add up. -/
theorem ptimes_deg {a b : List Int} (ha : Red a) (hb : Red b) (ha0 : 0 < a.length) (hb0 : 0 < b.length) : (ptimes a b).length = a.length + b.length - 1 := by
  have hle := ptimes_len a b
  rcases Nat.lt_or_ge (ptimes a b).length (a.length + b.length - 1) with h | h
  · exfalso
    have h1 := el_ptimes a b (a.length + b.length - 2)
    rw [el_out (by omega), ← cvp_all (L := a.length) _ fun j hj => el_out hj] at h1
    obtain ⟨m, hm⟩ : ∃ m, a.length = m + 1 := ⟨a.length - 1, by omega⟩
    rw [hm, cvp, cvp_nought m fun j hj hn => by rw [el_out (xs := b) (by omega), Int.mul_zero], if_pos (by omega), Int.zero_add] at h1
    have t1 := ha.top ha0
    have t2 := hb.top hb0
    refine md_prime t1 t2 ?_
    unfold top
    rw [show a.length - 1 = m by omega, show b.length - 1 = m + 1 + b.length - 2 - m by omega]
    exact h1.symm
  · omega
theorem len0 {a : List Int} (h : a.length = 0) : a = [] := List.eq_nil_of_length_eq_zero h
theorem ptimes_cancel {a b w : List Int} (ha : Red a) (hb : Red b) (hw : Red w) (hw0 : 0 < w.length) (h : ptimes a w = ptimes b w) : a = b := by
  have h1 : ptimes (padd a b (-1)) w = [] := by
    rw [padd_ptimes, h]
    refine Red.ext (red_padd _ _ _) .nil fun i => ?_
    rw [el_padd]
    have : el [] i = 0 := by simp [el]
    rw [this]
    unfold md
    omega
  have h2 : (padd a b (-1)).length = 0 := by
    rcases Nat.eq_zero_or_pos (padd a b (-1)).length with h0 | h0
    · exact h0
    · have := ptimes_deg (red_padd a b (-1)) hw h0 hw0
      rw [h1] at this
      simp at this
      omega
  refine Red.ext ha hb fun i => ?_
  have h3 := el_padd a b (-1) i
  rw [el_out (by omega)] at h3
  have b1 := ha.1 i
  have b2 := hb.1 i
  unfold md at h3
  omega
/-! ### Ideals -/
structure Ideal (P : List Int → Prop) : Prop where
  red : ∀ {a}, P a → Red a
  add : ∀ {a b}, P a → P b → P (padd a b 1)
  sub : ∀ {a b}, P a → P b → P (padd a b (-1))
  mul : ∀ {a} q, P a → P (ptimes q a)
theorem el_pad0c {n : Nat} {c : Int} {g : List Int} : ∀ i, cv (el (pad0 n [c])) (el g) i = c * el (pad0 n g) i := by
  induction n with
  | zero =>
    intro i
    show cv (el [c]) (el g) i = c * el g i
    rw [cv_comm, cv_one _ _ _ (fun j hj => el_one c j hj), Int.mul_comm]
    rfl
  | succ n ih =>
    intro i
    have e0 : ∀ g : List Int, el (pad0 (n + 1) g) 0 = 0 := fun g => rfl
    have es : ∀ (g : List Int) i, el (pad0 (n + 1) g) (i + 1) = el (pad0 n g) i := fun g i => by simp [pad0, List.replicate_succ, el]
    cases i with
    | zero => rw [cv_at0, e0, e0]; simp
    | succ i =>
      rw [cv_left, e0, Int.zero_mul, Int.zero_add, es]
      have : (fun i => el (pad0 (n + 1) [c]) (i + 1)) = el (pad0 n [c]) := funext (es [c])
      rw [this, ih]
theorem dstep_is (r g : List Int) (c : Int) : dstep r g c = padd r (ptimes (pad0 (r.length - g.length) [c]) g) (-1) := Red.ext (red_padd _ _ _) (red_padd _ _ _) fun i => by
  rw [dstep, el_padd, el_padd, el_ptimes, el_pad0c, Int.neg_mul, Int.neg_mul, Int.one_mul]
  unfold md
  omega
theorem dstep_back {r g : List Int} {c : Int} (hr : Red r) : r = padd (dstep r g c) (ptimes (pad0 (r.length - g.length) [c]) g) 1 := Red.ext hr (red_padd _ _ _) fun i => by
  have hb := hr.1 i
  rw [dstep_is, el_padd, el_padd, Int.one_mul]
  generalize el (ptimes _ g) i = z
  unfold md
  omega
theorem Ideal.rem {P : List Int → Prop} (hP : Ideal P) {g : List Int} (hg : P g) (hg0 : 0 < g.length) : ∀ (n : Nat) (f : List Int), f.length ≤ n → P f → P (rem f g)
  | n, f, hn, hf => by
    by_cases h : f.length < g.length
    · rw [rem_small h]; exact hf
    · have hd := dstep_len (hP.red hf) (hP.red hg) hg0 (by omega)
      rw [rem_step (hP.red hf) (hP.red hg) hg0 (by omega)]
      match n, hn with
      | 0, hn => omega
      | n + 1, hn => exact hP.rem hg hg0 n (dstep f g (lastq f g)) (by omega) (by rw [dstep_is]; exact hP.sub hf (hP.mul _ hg))
theorem Ideal.unrem {P : List Int → Prop} (hP : Ideal P) {g : List Int} (hg : P g) (hg0 : 0 < g.length) : ∀ (n : Nat) (f : List Int), f.length ≤ n → Red f → P (Am.rem f g) → P f
  | n, f, hn, hf, hr => by
    by_cases h : f.length < g.length
    · rw [rem_small h] at hr; exact hr
    · have hd := dstep_len hf (hP.red hg) hg0 (by omega)
      rw [rem_step hf (hP.red hg) hg0 (by omega)] at hr
      match n, hn with
      | 0, hn => omega
      | n + 1, hn =>
        have := hP.unrem hg hg0 n (dstep f g (lastq f g)) (by omega) (red_padd _ _ _) hr
        rw [dstep_back (g := g) (c := lastq f g) hf]
        exact hP.add this (hP.mul _ hg)
theorem Ideal.euclid {P : List Int → Prop} (hP : Ideal P) : ∀ (n : Nat) (f g : List Int), g.length ≤ n → P f → P g → P (euclid f g)
  | n, f, g, hn, hf, hg => by
    by_cases h : g.length = 0
    · rw [euclid_nil h]; exact hf
    · have hr := rem_red (hP.red hg) (by omega) f.length f (Nat.le_refl _) (hP.red hf)
      rw [euclid_step (hP.red hf) (hP.red hg) (by omega)]
      match n, hn with
      | 0, hn => omega
      | n + 1, hn => exact hP.euclid n g _ (by omega) hg (hP.rem hg (by omega) f.length f (Nat.le_refl _) hf)
theorem Ideal.nil {P : List Int → Prop} (hP : Ideal P) {f : List Int} (hf : P f) : P [] := by
  have := hP.mul [] hf
  rwa [ptimes_nil] at this
theorem Ideal.uneuclid {P : List Int → Prop} (hP : Ideal P) : ∀ (n : Nat) (f g : List Int), g.length ≤ n → Red f → Red g → P (Am.euclid f g) → P f ∧ P g
  | n, f, g, hn, hf, hg, he => by
    by_cases h : g.length = 0
    · rw [euclid_nil h] at he
      rw [len0 h]
      exact ⟨he, hP.nil he⟩
    · have hr := rem_red hg (by omega) f.length f (Nat.le_refl _) hf
      rw [euclid_step hf hg (by omega)] at he
      match n, hn with
      | 0, hn => omega
      | n + 1, hn =>
        have h1 := hP.uneuclid n g _ (by omega) hg hr.1 he
        exact ⟨hP.unrem h1.1 (by omega) f.length f (Nat.le_refl _) hf h1.2, h1.1⟩
/-- Multiples of d. -/
def Mul (d f : List Int) : Prop := ∃ q, Red q ∧ f = ptimes q d
theorem Mul.ideal (d : List Int) : Ideal (Mul d) where
  red := fun ⟨q, _, h⟩ => h ▸ red_ptimes _ _
  add := fun ⟨q, _, h⟩ ⟨r, _, k⟩ => ⟨padd q r 1, red_padd _ _ _, by rw [h, k, padd_ptimes]⟩
  sub := fun ⟨q, _, h⟩ ⟨r, _, k⟩ => ⟨padd q r (-1), red_padd _ _ _, by rw [h, k, padd_ptimes]⟩
  mul := fun q ⟨r, _, h⟩ => ⟨ptimes q r, red_ptimes _ _, by rw [h, ptimes_assoc]⟩
theorem Mul.self {d : List Int} (h : Red d) : Mul d d := ⟨[1], red_1, (one_ptimes h).symm⟩
/-- Sums of multiples of two. -/
def Two (f g x : List Int) : Prop := ∃ a b, Red a ∧ Red b ∧ x = padd (ptimes a f) (ptimes b g) 1
theorem padd_swap {A B C D : List Int} {k : Int} (hk : k = 1 ∨ k = -1) : padd (padd A B 1) (padd C D 1) k = padd (padd A C k) (padd B D k) 1 := Red.ext (red_padd _ _ _) (red_padd _ _ _) fun i => by
  simp only [el_padd]
  rcases hk with rfl | rfl <;> unfold md <;> omega
theorem Two.ideal (f g : List Int) : Ideal (Two f g) where
  red := fun ⟨_, _, _, _, h⟩ => h ▸ red_padd _ _ _
  add := fun ⟨a, b, _, _, h⟩ ⟨c, d, _, _, k⟩ => ⟨padd a c 1, padd b d 1, red_padd _ _ _, red_padd _ _ _, by rw [h, k, padd_ptimes, padd_ptimes, padd_swap (.inl rfl)]⟩
  sub := fun ⟨a, b, _, _, h⟩ ⟨c, d, _, _, k⟩ => ⟨padd a c (-1), padd b d (-1), red_padd _ _ _, red_padd _ _ _, by rw [h, k, padd_ptimes, padd_ptimes, padd_swap (.inr rfl)]⟩
  mul := fun q ⟨a, b, _, _, h⟩ => ⟨ptimes q a, ptimes q b, red_ptimes _ _, red_ptimes _ _, by rw [h, ptimes_padd, ptimes_assoc, ptimes_assoc]⟩
theorem padd_nil {f : List Int} (h : Red f) : padd f [] 1 = f := Red.ext (red_padd _ _ _) h fun i => by
  have hb := h.1 i
  have : el [] i = 0 := by simp [el]
  rw [el_padd, this]
  unfold md
  omega
theorem nil_padd {f : List Int} (h : Red f) : padd [] f 1 = f := Red.ext (red_padd _ _ _) h fun i => by
  have hb := h.1 i
  have : el [] i = 0 := by simp [el]
  rw [el_padd, this]
  unfold md
  omega
theorem Two.l {f g : List Int} (hf : Red f) : Two f g f := ⟨[1], [], red_1, .nil, by rw [one_ptimes hf, ptimes_nil, padd_nil hf]⟩
theorem Two.r {f g : List Int} (hg : Red g) : Two f g g := ⟨[], [1], .nil, red_1, by rw [one_ptimes hg, ptimes_nil, nil_padd hg]⟩
theorem Ideal.monic {P : List Int → Prop} (hP : Ideal P) {f : List Int} (hf : P f) : P (monic f) := by
  rw [← monic_is (hP.red hf), ptimes_comm]
  exact hP.mul _ hf
theorem Ideal.unmonic {P : List Int → Prop} (hP : Ideal P) {f : List Int} (hf : Red f) (h0 : 0 < f.length) (h : P (Am.monic f)) : P f := by
  have ht := hf.top h0
  have hi := inv_mul ht.1 ht.2
  have e : f = ptimes [top f] (Am.monic f) := Red.ext hf (red_ptimes _ _) fun i => by
    have hb := hf.1 i
    have h2 : el [] i = 0 := by simp [el]
    rw [ptimes_comm, el_ptimes, cv_one _ _ _ (el_one _), Am.monic, el_padd, h2, Int.zero_add]
    show _ = md (md (inv (top f) * el f i) * top f)
    rw [md_mul_l, Int.mul_comm, ← Int.mul_assoc, ← md_mul_l, hi, Int.one_mul, md_id hb.1 hb.2]
  rw [e]
  exact hP.mul _ h
/-- A common divisor divides, and is a sum of multiples. -/
theorem common_two {f g : List Int} (hf : Red f) (hg : Red g) : Two f g (common f g) :=
  (Two.ideal f g).monic ((Two.ideal f g).euclid _ f g (Nat.le_refl _) (.l hf) (.r hg))
theorem common_mul {f g : List Int} (hf : Red f) (hg : Red g) (hl : f.length < 1000 ∧ g.length < 1000) (h0 : 0 < f.length ∨ 0 < g.length) : Mul (common f g) f ∧ Mul (common f g) g := by
  have he := euclid_red _ f g (Nat.le_refl _) hf hg hl
  have hp := he.2.2 h0
  have hI := Mul.ideal (common f g)
  exact hI.uneuclid _ f g (Nat.le_refl _) hf hg (hI.unmonic he.1 hp (Mul.self (red_padd _ _ _)))
theorem padd_move {X Y Z : List Int} (hy : Red Y) (h : padd X Y 1 = Z) : Y = padd Z X (-1) := Red.ext hy (red_padd _ _ _) fun i => by
  have hb := hy.1 i
  rw [← h, el_padd, el_padd]
  unfold md
  omega
/-- The numbers of roots with greater and greater multiplicities go down. -/
theorem counts_down {f h w : List Int} (hf : Red f) (h2 : 2 ≤ f.length) (hl : f.length ≤ 17) (eh : h = common f (slope f)) (hh : 2 ≤ h.length) (ew : w = common h (slope h)) :
    (h.length : Int) - w.length ≤ (f.length : Int) - h.length := by
  have c1 := common_slope hf h2 hl
  rw [← eh] at c1
  have c2 := common_slope c1.1 hh (by omega)
  rw [← ew] at c2
  have s1 := slope_len f
  have s2 := slope_len h
  obtain ⟨⟨u, ru, eu⟩, s, rs, es⟩ := common_mul hf (red_slope f) ⟨by omega, by omega⟩ (.inl (by omega))
  rw [← eh] at eu es
  obtain ⟨⟨v, rv, ev⟩, t, rt, et⟩ := common_mul c1.1 (red_slope h) ⟨by omega, by omega⟩ (.inl (by omega))
  rw [← ew] at ev et
  obtain ⟨a, b, ra, rb, eab⟩ := common_two c1.1 (red_slope h)
  rw [← ew] at eab
  have k1 : padd (ptimes a v) (ptimes b t) 1 = [1] := by
    refine ptimes_cancel (red_padd _ _ _) red_1 c2.1 c2.2.1 ?_
    rw [padd_ptimes, ptimes_assoc, ptimes_assoc, ← ev, ← et, ← eab, one_ptimes c2.1]
  have k2 : ptimes u (slope h) = ptimes (padd s (slope u) (-1)) h := by
    have e1 := slope_ptimes u h
    rw [← eu, es] at e1
    rw [padd_ptimes]
    exact padd_move (red_ptimes _ _) e1.symm
  generalize padd s (slope u) (-1) = z at k2
  have k3 : ptimes u t = ptimes z v := by
    refine ptimes_cancel (red_ptimes _ _) (red_ptimes _ _) c2.1 c2.2.1 ?_
    rw [ptimes_assoc, ptimes_assoc, ← et, ← ev, k2]
  have k4 : u = ptimes (padd (ptimes u a) (ptimes b z) 1) v := by
    have e1 : ptimes u [1] = u := ptimes_one ru
    rw [← k1, ptimes_padd, ← ptimes_assoc, ← ptimes_assoc, ptimes_comm u b, ptimes_assoc b u t, k3, ← ptimes_assoc, ← padd_ptimes] at e1
    exact e1.symm
  have u0 : 0 < u.length := by
    rcases Nat.eq_zero_or_pos u.length with h0 | h0
    · rw [len0 h0, ptimes_nil] at eu
      rw [eu] at h2
      simp at h2
    · exact h0
  have v0 : 0 < v.length := by
    rcases Nat.eq_zero_or_pos v.length with h0 | h0
    · rw [len0 h0, ptimes_nil] at ev
      rw [ev] at hh
      simp at hh
    · exact h0
  have y0 : 0 < (padd (ptimes u a) (ptimes b z) 1).length := by
    rcases Nat.eq_zero_or_pos (padd (ptimes u a) (ptimes b z) 1).length with h0 | h0
    · rw [len0 h0, ptimes_nil] at k4
      rw [k4] at u0
      simp at u0
    · exact h0
  have d1 := ptimes_deg ru c1.1 u0 (by omega)
  have d2 := ptimes_deg rv c2.1 v0 (by omega)
  have d3 := ptimes_deg (red_padd (ptimes u a) (ptimes b z) 1) rv y0 v0
  rw [← eu] at d1
  rw [← ev] at d2
  rw [← k4] at d3
  omega
theorem counts_desc : ∀ (n : Nat) (f : List Int), f.length ≤ n → Red f → f.length ≤ 17 → ∀ i, i + 1 < (counts f).length → el (counts f) (i + 1) ≤ el (counts f) i
  | n, f, hn, hf, hl, i, hi => by
    by_cases h : f.length ≤ 1
    · rw [counts_end h] at hi; simp at hi
    · have hc := common_slope hf (by omega) hl
      have hs := counts_step hf (by omega) hl
      match n, hn with
      | 0, hn => omega
      | n + 1, hn =>
        rw [hs] at hi ⊢
        simp only [List.length_cons] at hi
        cases i with
        | zero =>
          by_cases h1 : (common f (slope f)).length ≤ 1
          · rw [counts_end h1] at hi; simp at hi
          · rw [el_cons_zero, el_cons_succ, counts_step hc.1 (by omega) (by omega), el_cons_zero]
            exact counts_down hf (by omega) hl rfl (by omega) rfl
        | succ i =>
          rw [el_cons_succ, el_cons_succ]
          exact counts_desc n _ (by omega) hc.1 (by omega) i (by omega)
/-! ### Sums -/
def lsum : List Int → Int
  | [] => 0
  | a :: l => a + lsum l
theorem lsum_app (a b : List Int) : lsum (a ++ b) = lsum a + lsum b := by
  induction a with
  | nil => simp [lsum]
  | cons x a ih => simp only [List.cons_append, lsum, ih]; omega
theorem lsum_rep (n : Nat) (k : Int) : lsum (List.replicate n k) = n * k := by
  induction n with
  | zero => simp [lsum]
  | succ n ih => rw [List.replicate_succ, lsum, ih, show ((n + 1 : Nat) : Int) = (n : Int) + 1 by omega, Int.add_mul, Int.one_mul]; omega
theorem counts_sum : ∀ (n : Nat) (f : List Int), f.length ≤ n → Red f → 1 ≤ f.length → f.length ≤ 17 → lsum (counts f) = (f.length : Int) - 1
  | n, f, hn, hf, h1, hl => by
    by_cases h : f.length ≤ 1
    · rw [counts_end h, lsum]; omega
    · have hc := common_slope hf (by omega) hl
      rw [counts_step hf (by omega) hl, lsum]
      match n, hn with
      | 0, hn => omega
      | n + 1, hn => rw [counts_sum n _ (by omega) hc.1 (by omega) (by omega)]; omega
/-- What is told by the last j of them. -/
theorem expand_sum {cs : List Int} (hd : ∀ i, i + 1 < cs.length → el cs (i + 1) ≤ el cs i) (hp : ∀ i, i < cs.length → 1 ≤ el cs i) : ∀ j, j ≤ cs.length →
    lsum (expand cs j) = lsum (cs.drop (cs.length - j)) + el cs (cs.length - j) * ((cs.length - j : Nat) : Int)
  | 0, _ => by
    rw [Nat.sub_zero, List.drop_length, el_out (Nat.le_refl _)]
    simp [expand, lsum]
  | j + 1, hj => by
    have ih := expand_sum hd hp j (by omega)
    obtain ⟨k, hk⟩ : ∃ k, cs.length - (j + 1) = k := ⟨_, rfl⟩
    have e1 : cs.length - j = k + 1 := by omega
    have e2 : cs.length - 1 - j = k := by omega
    have hle : el cs (k + 1) ≤ el cs k := by
      by_cases h : k + 1 < cs.length
      · exact hd k h
      · rw [el_out (by omega)]; have := hp k (by omega); omega
    rw [e1] at ih
    simp only [expand]
    rw [lsum_app, ih, lsum_rep, hk, e1, e2, drop_el (show k < cs.length by omega), lsum]
    rw [show (((el cs k - el cs (k + 1)).toNat : Nat) : Int) = el cs k - el cs (k + 1) by omega, show ((k + 1 : Nat) : Int) = (k : Int) + 1 by omega]
    rw [Int.sub_mul, Int.mul_add, Int.mul_add]
    omega
theorem mults_sum {f : List Int} (hf : Red f) (h2 : 2 ≤ f.length) (hl : f.length ≤ 17) (v : Int) : lsum (mults f v) = (f.length : Int) - 1 := by
  have hs := shiftBy_len hf h2 v
  have hr : Red (shiftBy f v) := red_padd _ _ _
  have hb := counts_bd _ (shiftBy f v) (Nat.le_refl _) hr (by omega)
  have hd := counts_desc _ (shiftBy f v) (Nat.le_refl _) hr (by omega)
  have h := expand_sum hd (fun i hi => (hb.2.2 i hi).1) _ (Nat.le_refl _)
  rw [Nat.sub_self, List.drop_zero, counts_sum _ _ (Nat.le_refl _) hr (by omega) (by omega), hs] at h
  unfold mults
  simpa using h
/-- Its numbers go down from at most the number of counts. -/
theorem expand_in {cs : List Int} : ∀ j, j ≤ cs.length → (∀ x ∈ expand cs j, ((cs.length - j : Nat) : Int) < x ∧ x ≤ cs.length) ∧ (expand cs j).Pairwise (fun a b => b ≤ a)
  | 0, _ => ⟨fun x hx => by simp [expand] at hx, by simp [expand]⟩
  | j + 1, hj => by
    have ih := expand_in (cs := cs) j (by omega)
    refine ⟨fun x hx => ?_, ?_⟩
    · simp only [expand] at hx
      rcases List.mem_append.1 hx with hx | hx
      · have := ih.1 x hx; omega
      · have := List.eq_of_mem_replicate hx; omega
    · simp only [expand]
      refine List.pairwise_append.2 ⟨ih.2, ?_, fun a ha b hb => ?_⟩
      · exact List.pairwise_replicate.2 (.inr (Int.le_refl _))
      · have h1 := ih.1 a ha
        have h2 := List.eq_of_mem_replicate hb
        omega
theorem mults_in {f : List Int} (hf : Red f) (h2 : 2 ≤ f.length) (hl : f.length ≤ 17) (v : Int) : (∀ x ∈ mults f v, 1 ≤ x) ∧ (mults f v).Pairwise (fun a b => b ≤ a) := by
  have h := expand_in (cs := counts (shiftBy f v)) _ (Nat.le_refl _)
  exact ⟨fun x hx => by have := h.1 x hx; omega, h.2⟩
end Go.Am

/- Rows of slices: the laws' helpers over slices of slices. -/
set_option linter.unusedVariables false
set_option linter.unusedSimpArgs false
namespace Go.Am
open Go

def rowAt (xss : List (List Int)) (i : Nat) : List Int := xss.getD i []
def valAt (vs : List Value) (i : Nat) : Value := vs.getD i undef
/-- A slice of slices of one's own, of the blocks lo to hi: the rows lie in order between r 0, r 1, .., the list of them before or behind. -/
def OwnSS (lo hi : Nat) (H : AHeap) (v : Value) (xss : List (List Int)) : Prop :=
  (v = .slice none 0 0 ∧ xss = []) ∨ ∃ (b : Nat) (vs rest : List Value) (r : Nat → Nat), v = S b 0 xss.length 1 ∧ lo ≤ b ∧ b < hi ∧ b < H.n ∧ H.get b = some ⟨vs ++ rest, true⟩ ∧ vs.length = xss.length ∧ (b < r 0 ∨ r xss.length ≤ b) ∧ lo ≤ r 0 ∧ r xss.length ≤ hi ∧
    ∀ i, i < xss.length → r i ≤ r (i + 1) ∧ OwnI (r i) (r (i + 1)) H (valAt vs i) (rowAt xss i)
theorem mono_r {r : Nat → Nat} {n : Nat} (h : ∀ i, i < n → r i ≤ r (i + 1)) : ∀ j i, i ≤ j → j ≤ n → r i ≤ r j
  | 0, i, hi, _ => by have : i = 0 := by omega
                      subst this; exact Nat.le_refl _
  | j + 1, i, hi, hj => by
    by_cases e : i = j + 1
    · subst e; exact Nat.le_refl _
    · exact Nat.le_trans (mono_r h j i (by omega) (by omega)) (h j (by omega))
section
variable {lo hi : Nat} {H H' : AHeap} {v : Value} {xss : List (List Int)}
theorem OwnSS.len (h : OwnSS lo hi H v xss) : ∃ a e, v = .slice a xss.length e := by
  rcases h with ⟨rfl, rfl⟩ | ⟨b, vs, rest, r, rfl, _⟩
  · exact ⟨_, _, rfl⟩
  · exact ⟨_, _, rfl⟩
theorem OwnSS.nil : OwnSS lo hi H (.slice none 0 0) [] := .inl ⟨rfl, rfl⟩
theorem OwnSS.pos (h : OwnSS lo hi H v xss) (hp : 0 < xss.length) : ∃ (b : Nat) (vs rest : List Value) (r : Nat → Nat), v = S b 0 xss.length 1 ∧ lo ≤ b ∧ b < hi ∧ b < H.n ∧ H.get b = some ⟨vs ++ rest, true⟩ ∧ vs.length = xss.length ∧ (b < r 0 ∨ r xss.length ≤ b) ∧ lo ≤ r 0 ∧ r xss.length ≤ hi ∧
    ∀ i, i < xss.length → r i ≤ r (i + 1) ∧ OwnI (r i) (r (i + 1)) H (valAt vs i) (rowAt xss i) := by
  rcases h with ⟨rfl, rfl⟩ | h
  · simp at hp
  · exact h
theorem OwnSS.ext (h : OwnSS lo hi H v xss) (he : Ext H H') : OwnSS lo hi H' v xss := by
  rcases h with h | ⟨b, vs, rest, r, h1, h2, h3, h4, h5, h6, h7, h8, h9, h10⟩
  · exact .inl h
  · exact .inr ⟨b, vs, rest, r, h1, h2, h3, Nat.lt_of_lt_of_le h4 he.n, by rw [he.get b h4]; exact h5, h6, h7, h8, h9, fun i hi => ⟨(h10 i hi).1, (h10 i hi).2.ext he⟩⟩
theorem OwnSS.weak (h : OwnSS lo hi H v xss) {lo' hi' : Nat} (hn : lo' ≤ lo) (hh : hi ≤ hi') : OwnSS lo' hi' H v xss := by
  rcases h with h | ⟨b, vs, rest, r, h1, h2, h3, h4, h5, h6, h7, h8, h9, h10⟩
  · exact .inl h
  · exact .inr ⟨b, vs, rest, r, h1, Nat.le_trans hn h2, Nat.lt_of_lt_of_le h3 hh, h4, h5, h6, h7, Nat.le_trans hn h8, Nat.le_trans h9 hh, h10⟩
theorem OwnSS.out {lo' hi' : Nat} (h : OwnSS lo hi H v xss) (he : Out lo' hi' H H') (hd : hi ≤ lo' ∨ hi' ≤ lo) : OwnSS lo hi H' v xss := by
  rcases h with h | ⟨b, vs, rest, r, h1, h2, h3, h4, h5, h6, h7, h8, h9, h10⟩
  · exact .inl h
  · refine .inr ⟨b, vs, rest, r, h1, h2, h3, Nat.lt_of_lt_of_le h4 he.n, by rw [he.get b h4 (by omega)]; exact h5, h6, h7, h8, h9, fun i hi => ⟨(h10 i hi).1, (h10 i hi).2.out he ?_⟩⟩
    have m1 := mono_r (fun i hi => (h10 i hi).1) i 0 (by omega) (by omega)
    have m2 := mono_r (fun i hi => (h10 i hi).1) xss.length (i + 1) (by omega) (Nat.le_refl _)
    omega
end

end Go.Am

/- Rows of slices: marks. -/
set_option linter.unusedVariables false
set_option linter.unusedSimpArgs false
namespace Go.Am
open Go

end Go.Am

/- Passports of Shabat polynomials: the law's functions. -/
set_option linter.unusedVariables false
set_option linter.unusedSimpArgs false
namespace Go.Am
open Go

theorem Pass.own {lo : Nat} {H : AHeap} {v : Value} {one two three : List Int} (h : Pass lo H v one two three) : OwnSS lo H.n H v [one, two, three] := by
  obtain ⟨b, p, q, s, m1, m2, m3, rest, rfl, h1, h2, h3, h4, h5, h6, h7, h8, h9, h10⟩ := h.row
  refine .inr ⟨b, [p, q, s], rest, fun i => match i with | 0 => lo | 1 => m1 | 2 => m2 | _ => m3, rfl, h1, h2, h2, h3, rfl, .inr h10, Nat.le_refl _, ?_, fun i hi => ?_⟩
  · show m3 ≤ H.n
    omega
  · match i with
    | 0 => exact ⟨h7, h4⟩
    | 1 => exact ⟨h8, h5⟩
    | 2 => exact ⟨h9, h6⟩
    | i + 3 => simp at hi; omega
def resPassportOfShabat (xs : List Int) (a b : Int) : List (List Int) × Int :=
  if tcode xs a b = 0 then if shab xs a b = true then ([mults xs a, mults xs b, [(xs.length : Int) - 1]], 0) else ([], 5) else ([], tcode xs a b)
theorem PassportOfShabat_spec {H : AHeap} {v : Value} {xs : List Int} {a b : Int} {K : Value → AHeap → Prop} (hx : IsI H v xs) (hl : xs.length < 2 ^ 62) (hb1 : -9223372036854775808 ≤ a ∧ a < 9223372036854775808) (hb2 : -9223372036854775808 ≤ b ∧ b < 9223372036854775808)
    (hK : ∀ r H', Ext H H' → OwnSS H.n H'.n H' r (resPassportOfShabat xs a b).1 → K (.tuple ⟨[r, I (resPassportOfShabat xs a b).2]⟩) H') : CallT F_spec_PassportOfShabat [v, I a, I b] H K := by
  refine CallT_body Γ_spec_PassportOfShabat ?_; simp only [A_spec_PassportOfShabat, T_aiff]
  refine T_rseq fun Kr hKr => ?_; simp (disch := omega) only [RF, RO, RC, tup, ↓reduceIte, Nat.reduceEqDiff, Int.reduceEq, RD]; refine hKr _ _ ?_; clear hKr Kr; try simp only [RN, Bool.false_eq_true, reduceIte]
  refine T_rseq fun Kr hKr => ?_; simp (disch := omega) only [RF, RO, RC, tup, ↓reduceIte, Nat.reduceEqDiff, RD]
  refine l06Two_spec hx hl fun H1 he1 => ?_
  simp (disch := omega) only [RF, RO, RC, tup, ↓reduceIte, Nat.reduceEqDiff, RD]
  refine hKr _ _ ?_; clear hKr Kr; (try simp only [blkQ, thenQ, loopQ]); try simp only [RN, Bool.false_eq_true, reduceIte]
  by_cases hc : tcode xs a b = 0
  · simp only [resPassportOfShabat, hc, if_true] at hK
    have hp := tcode_zero hc
    obtain ⟨sa, se, rfl⟩ := hx.len
    have hx1 := hx.ext he1
    refine T_rseq fun Kr hKr => ?_; simp (disch := omega) only [RF, RO, RC, tup, ↓reduceIte, Nat.reduceEqDiff, RD, hc]
    refine l06Shabat_spec hx1 hp.1.red hp.2.1 hp.1.2.1 hp.2.2.1 hp.2.2.2.1 fun H2 he2 => ?_
    by_cases hs : shab xs a b = true
    · rw [if_pos hs] at hK
      rw [hs]
      simp (disch := omega) only [RF, RO, RC, tup, ↓reduceIte, Nat.reduceEqDiff, RD]
      refine hKr _ _ ?_; clear hKr Kr; (try simp only [blkQ, thenQ, loopQ]); try simp only [RN, Bool.false_eq_true, reduceIte]
      refine T_cseq (t := false) (by simp (disch := omega) only [RF, RO, RC, tup, ↓reduceIte, Nat.reduceEqDiff, decT, decF]) ?_; try simp only [RN, Bool.false_eq_true, reduceIte]
      refine T_rseq fun Kr hKr => ?_; simp (disch := omega) only [RF, RO, RC, tup, ↓reduceIte, Nat.reduceEqDiff, Int.reduceEq, RD]; refine hKr _ _ ?_; clear hKr Kr; try simp only [RN, Bool.false_eq_true, reduceIte]
      refine T_cseq (t := false) (by simp (disch := omega) only [RF, RO, RC, tup, ↓reduceIte, Nat.reduceEqDiff, decT, decF]) ?_; try simp only [RN, Bool.false_eq_true, reduceIte]
      have hx2 := hx1.ext he2
      have m1 := mults_len hp.1.red hp.2.1 hp.1.2.1 a
      have m2 := mults_len hp.1.red hp.2.1 hp.1.2.1 b
      have l17 := hp.1.2.1
      refine T_rseq fun Kr hKr => ?_; simp (disch := omega) only [RF, RO, RC, tup, ↓reduceIte, Nat.reduceEqDiff, RD]
      refine l06Multiplicities_spec hx2 hp.1.red hp.2.1 hp.1.2.1 hp.2.2.1.1 hp.2.2.1.2 fun p H3 he3 ho3 => ?_
      obtain ⟨pa, pe, rfl⟩ := ho3.len
      simp (disch := omega) only [RF, RO, RC, tup, ↓reduceIte, Nat.reduceEqDiff, RD]
      refine l06Multiplicities_spec (hx2.ext he3) hp.1.red hp.2.1 hp.1.2.1 hp.2.2.2.1.1 hp.2.2.2.1.2 fun q H4 he4 ho4 => ?_
      obtain ⟨qa, qe, rfl⟩ := ho4.len
      simp (disch := omega) only [RF, RO, RC, tup, ↓reduceIte, Nat.reduceEqDiff, RD, bsV_3]
      refine hKr _ _ ?_; clear hKr Kr; (try simp only [blkQ, thenQ, loopQ]); try simp only [RN, Bool.false_eq_true, reduceIte]
      refine ⟨_, rfl, ?_⟩; simp only [RF, ev_t, ev_c, tup, ↓reduceIte, Nat.reduceEqDiff]
      have hE3 := Ext.alloc H4 [I ((xs.length : Int) - 1)]
      have hE4 := Ext.alloc (H4.alloc [I ((xs.length : Int) - 1)]) [.slice pa (mults xs a).length pe, .slice qa (mults xs b).length qe, S H4.n 0 1 1]
      have hE12 := he1.trans' he2
      refine hK _ _ ((((hE12.trans' he3).trans' he4).trans' hE3).trans' hE4) (Pass.own ⟨(H4.alloc [I ((xs.length : Int) - 1)]).n, _, _, _, H3.n, H4.n, (H4.alloc [I ((xs.length : Int) - 1)]).n, [], rfl, Nat.le_trans (Nat.le_trans (Nat.le_trans hE12.n he3.n) he4.n) (Nat.le_succ _), Nat.lt_succ_self _, get_alloc_same _ _, (((ho3.weak hE12.n (Nat.le_refl _)).ext he4).ext hE3).ext hE4, (ho4.ext hE3).ext hE4, (own_one H4 _).ext hE4, Nat.le_trans hE12.n he3.n, he4.n, Nat.le_succ _, Nat.le_refl _⟩)
    · rw [if_neg hs] at hK
      rw [show shab xs a b = false by simpa using hs]
      simp (disch := omega) only [RF, RO, RC, tup, ↓reduceIte, Nat.reduceEqDiff, RD]
      refine hKr _ _ ?_; clear hKr Kr; (try simp only [blkQ, thenQ, loopQ]); try simp only [RN, Bool.false_eq_true, reduceIte]
      refine T_cseq (t := true) (by simp (disch := omega) only [RF, RO, RC, tup, ↓reduceIte, Nat.reduceEqDiff, decT, decF]) ?_; try simp only [RN, Bool.false_eq_true, reduceIte]
      refine T_rseq fun Kr hKr => ?_; simp (disch := omega) only [RF, RO, RC, tup, ↓reduceIte, Nat.reduceEqDiff, Int.reduceEq, RD]; refine hKr _ _ ?_; clear hKr Kr; try simp only [RN, Bool.false_eq_true, reduceIte]
      refine T_rseq fun Kr hKr => ?_; simp (disch := omega) only [RF, RO, RC, tup, ↓reduceIte, Nat.reduceEqDiff, Int.reduceEq, RD]; refine hKr _ _ ?_; clear hKr Kr; try simp only [RN, Bool.false_eq_true, reduceIte]
      refine T_cseq (t := true) (by simp (disch := omega) only [RF, RO, RC, tup, ↓reduceIte, Nat.reduceEqDiff, decT, decF]) ?_; try simp only [RN, Bool.false_eq_true, reduceIte]
      refine T_rseq fun Kr hKr => ?_; simp (disch := omega) only [RF, RO, RC, tup, ↓reduceIte, Nat.reduceEqDiff, Int.reduceEq, RD]; refine hKr _ _ ?_; clear hKr Kr; try simp only [RN, Bool.false_eq_true, reduceIte]
      refine ⟨_, rfl, ?_⟩; simp only [RF, ev_t, ev_c, tup, ↓reduceIte, Nat.reduceEqDiff]
      exact hK _ _ (he1.trans' he2) .nil
  · simp only [resPassportOfShabat, hc, if_false] at hK
    refine T_rseq fun Kr hKr => ?_; simp (disch := omega) only [RF, RO, RC, tup, ↓reduceIte, Nat.reduceEqDiff, RD, hc]; refine hKr _ _ ?_; clear hKr Kr; try simp only [RN, Bool.false_eq_true, reduceIte]
    refine T_cseq (t := false) (by simp (disch := omega) only [RF, RO, RC, tup, ↓reduceIte, Nat.reduceEqDiff, decT, decF]) ?_; try simp only [RN, Bool.false_eq_true, reduceIte]
    refine T_rseq fun Kr hKr => ?_; simp (disch := omega) only [RF, RO, RC, tup, ↓reduceIte, Nat.reduceEqDiff, Int.reduceEq, RD]; refine hKr _ _ ?_; clear hKr Kr; try simp only [RN, Bool.false_eq_true, reduceIte]
    refine T_cseq (t := true) (by simp (disch := omega) only [RF, RO, RC, tup, ↓reduceIte, Nat.reduceEqDiff, decT, decF, hc]) ?_; try simp only [RN, Bool.false_eq_true, reduceIte]
    refine T_rseq fun Kr hKr => ?_; simp (disch := omega) only [RF, RO, RC, tup, ↓reduceIte, Nat.reduceEqDiff, Int.reduceEq, RD]; refine hKr _ _ ?_; clear hKr Kr; try simp only [RN, Bool.false_eq_true, reduceIte]
    refine ⟨_, rfl, ?_⟩; simp only [RF, ev_t, ev_c, tup, ↓reduceIte, Nat.reduceEqDiff]
    exact hK _ _ he1 .nil
theorem impl_PassportOfShabat_spec {H : AHeap} {v : Value} {xs : List Int} {a b : Int} {K : Value → AHeap → Prop} (hx : IsI H v xs) (hl : xs.length < 2 ^ 62) (hb1 : -9223372036854775808 ≤ a ∧ a < 9223372036854775808) (hb2 : -9223372036854775808 ≤ b ∧ b < 9223372036854775808)
    (hK : ∀ r H', Ext H H' → OwnSS H.n H'.n H' r (resPassportOfShabat xs a b).1 → K (.tuple ⟨[r, I (resPassportOfShabat xs a b).2]⟩) H') : CallT F_impl_PassportOfShabat [v, I a, I b] H K := by
  refine CallT_body Γ_impl_PassportOfShabat ?_; simp only [A_impl_PassportOfShabat, T_aiff]
  refine T_rseq fun Kr hKr => ?_; simp (disch := omega) only [RF, RO, RC, tup, ↓reduceIte, Nat.reduceEqDiff, RD]; refine hKr _ _ ?_; clear hKr Kr; try simp only [RN, Bool.false_eq_true, reduceIte]
  refine T_rseq fun Kr hKr => ?_; simp (disch := omega) only [RF, RO, RC, tup, ↓reduceIte, Nat.reduceEqDiff, reduceCtorEq, RD]
  refine shabatCode_spec hx hl fun H1 he1 => ?_
  simp (disch := omega) only [RF, RO, RC, tup, ↓reduceIte, Nat.reduceEqDiff, RD]
  refine hKr _ _ ?_; clear hKr Kr; (try simp only [blkQ, thenQ, loopQ]); try simp only [RN, Bool.false_eq_true, reduceIte]
  by_cases hc : tcode xs a b = 0
  · simp only [resPassportOfShabat, hc, if_true] at hK
    have hp := tcode_zero hc
    refine T_rseq fun Kr hKr => ?_; simp (disch := omega) only [RF, RO, RC, tup, ↓reduceIte, Nat.reduceEqDiff, RD, hc]; refine hKr _ _ ?_; clear hKr Kr; try simp only [RN, Bool.false_eq_true, reduceIte]
    refine T_cseq (t := false) (by simp (disch := omega) only [RF, RO, RC, tup, ↓reduceIte, Nat.reduceEqDiff, decT, decF, hc]) ?_; try simp only [RN, Bool.false_eq_true, reduceIte]
    refine T_rseq fun Kr hKr => ?_; simp (disch := omega) only [RF, RO, RC, tup, ↓reduceIte, Nat.reduceEqDiff, reduceCtorEq, RD]
    refine shabat_spec (hx.ext he1) hp.1.red hp.2.1 hp.1.2.1 hp.2.2.1 hp.2.2.2.1 fun r H2 he2 hr => ?_
    simp (disch := omega) only [RF, RO, RC, tup, ↓reduceIte, Nat.reduceEqDiff, RD]
    refine hKr _ _ ?_; clear hKr Kr; (try simp only [blkQ, thenQ, loopQ]); try simp only [RN, Bool.false_eq_true, reduceIte]
    by_cases hs : shab xs a b = true
    · rw [if_pos hs] at hK
      refine T_rseq fun Kr hKr => ?_; simp (disch := omega) only [RF, RO, RC, tup, ↓reduceIte, Nat.reduceEqDiff, RD, hs]; refine hKr _ _ ?_; clear hKr Kr; try simp only [RN, Bool.false_eq_true, reduceIte]
      refine T_cseq (t := false) (by simp (disch := omega) only [RF, RO, RC, tup, ↓reduceIte, Nat.reduceEqDiff, decT, decF]) ?_; try simp only [RN, Bool.false_eq_true, reduceIte]
      refine T_rseq fun Kr hKr => ?_; simp (disch := omega) only [RF, RO, RC, tup, ↓reduceIte, Nat.reduceEqDiff, RD]; refine hKr _ _ ?_; clear hKr Kr; try simp only [RN, Bool.false_eq_true, reduceIte]
      refine ⟨_, rfl, ?_⟩; simp only [RF, ev_t, ev_c, tup, ↓reduceIte, Nat.reduceEqDiff]
      exact hK _ _ (he1.trans' he2) (hr.own.weak he1.n (Nat.le_refl _))
    · rw [if_neg hs] at hK
      have hs' : shab xs a b = false := by simpa using hs
      refine T_rseq fun Kr hKr => ?_; simp (disch := omega) only [RF, RO, RC, tup, ↓reduceIte, Nat.reduceEqDiff, RD, hs']; refine hKr _ _ ?_; clear hKr Kr; try simp only [RN, Bool.false_eq_true, reduceIte]
      refine T_cseq (t := true) (by simp (disch := omega) only [RF, RO, RC, tup, ↓reduceIte, Nat.reduceEqDiff, decT, decF]) ?_; try simp only [RN, Bool.false_eq_true, reduceIte]
      refine T_rseq fun Kr hKr => ?_; simp (disch := omega) only [RF, RO, RC, tup, ↓reduceIte, Nat.reduceEqDiff, RD]; refine hKr _ _ ?_; clear hKr Kr; try simp only [RN, Bool.false_eq_true, reduceIte]
      refine ⟨_, rfl, ?_⟩; simp only [RF, ev_t, ev_c, tup, ↓reduceIte, Nat.reduceEqDiff]
      exact hK _ _ (he1.trans' he2) .nil
  · simp only [resPassportOfShabat, hc, if_false] at hK
    refine T_rseq fun Kr hKr => ?_; simp (disch := omega) only [RF, RO, RC, tup, ↓reduceIte, Nat.reduceEqDiff, RD, hc]; refine hKr _ _ ?_; clear hKr Kr; try simp only [RN, Bool.false_eq_true, reduceIte]
    refine T_cseq (t := true) (by simp (disch := omega) only [RF, RO, RC, tup, ↓reduceIte, Nat.reduceEqDiff, decT, decF, hc]) ?_; try simp only [RN, Bool.false_eq_true, reduceIte]
    refine T_rseq fun Kr hKr => ?_; simp (disch := omega) only [RF, RO, RC, tup, ↓reduceIte, Nat.reduceEqDiff, RD]; refine hKr _ _ ?_; clear hKr Kr; try simp only [RN, Bool.false_eq_true, reduceIte]
    refine ⟨_, rfl, ?_⟩; simp only [RF, ev_t, ev_c, tup, ↓reduceIte, Nat.reduceEqDiff]
    exact hK _ _ he1 .nil
end Go.Am

/- Types of trees: factorials, and how often numbers are repeated. -/
set_option linter.unusedVariables false
set_option linter.unusedSimpArgs false
namespace Go.Am
open Go

def fact : Nat → Int
  | 0 => 1
  | n + 1 => fact n * ((n : Int) + 1)
theorem fact_pos : ∀ n, 1 ≤ fact n
  | 0 => by decide
  | n + 1 => by
    have ih := fact_pos n
    have := Int.mul_le_mul ih (show (1 : Int) ≤ (n : Int) + 1 by omega) (by omega) (by omega)
    show 1 ≤ fact n * _
    omega
theorem fact_bd {n : Nat} (h : n ≤ 17) : fact n ≤ 400000000000000 := by
  have key : ∀ n, n < 18 → fact n ≤ 400000000000000 := by decide +kernel
  exact key n (by omega)
theorem factorial_spec {n : Nat} {H : AHeap} {K : Value → AHeap → Prop} (hn : n ≤ 15) (hK : K (I (fact n)) H) : CallT F_impl_factorial [I n] H K := by
  refine CallT_body Γ_impl_factorial ?_; simp only [A_impl_factorial, T_aiff]
  refine T_rseq fun Kr hKr => ?_; simp (disch := omega) only [RF, RO, RC, tup, ↓reduceIte, Nat.reduceEqDiff, RD]; refine hKr _ _ ?_; clear hKr Kr; try simp only [RN, Bool.false_eq_true, reduceIte]
  refine T_rseq fun Kr hKr => ?_; simp (disch := omega) only [RF, RO, RC, tup, ↓reduceIte, Nat.reduceEqDiff, RD]; refine hKr _ _ ?_; clear hKr Kr; try simp only [RN, Bool.false_eq_true, reduceIte]
  refine T_rseq fun Kr hKr => ?_; simp (disch := omega) only [RF, RO, RC, tup, ↓reduceIte, Nat.reduceEqDiff, RD]; refine hKr _ _ ?_; clear hKr Kr; try simp only [RN, Bool.false_eq_true, reduceIte]
  refine T_wloop (fun m f H' => ∃ j, 1 ≤ j ∧ m = n + 1 - j ∧ (j ≤ n ∨ j = 1) ∧ H' = H ∧ f 0 = I n ∧ f 4 = I ((j + 1 : Nat) : Int) ∧ f 3 = I (fact j)) (n) ?_ ?_
  · exact ⟨1, by omega, by omega, .inr rfl, rfl, by simp [RF], by simp [RF], by simp [RF, fact]⟩
  · rintro m f H' R ⟨j, hj, rfl, hjn, rfl, h0, h4, h3⟩ hN hX hR
    simp only [A_impl_factorial.l0, T_aiff]
    refine T_rseq fun Kr hKr => ?_; simp (disch := omega) only [RF, RO, RC, tup, ↓reduceIte, Nat.reduceEqDiff, RD, h0, h4]; refine hKr _ _ ?_; clear hKr Kr; try simp only [RN, Bool.false_eq_true, reduceIte]
    by_cases hlt : j + 1 ≤ n
    · refine T_cseq (t := true) (by simp (disch := omega) only [RF, RO, RC, tup, ↓reduceIte, Nat.reduceEqDiff, decT, decF]) ?_; try simp only [RN, Bool.false_eq_true, reduceIte]
      (first | refine T_bfree rfl ?_ | refine T_bfree' rfl ?_); try simp only [RN, Bool.false_eq_true, reduceIte]
      have hb := fact_bd (n := j + 1) (by omega)
      have hp := fact_pos (j + 1)
      have hff : fact j * ((j + 1 : Nat) : Int) = fact (j + 1) := by show _ = fact j * ((j : Int) + 1); congr 1
      refine T_rseq fun Kr hKr => ?_; simp (disch := omega) only [RF, RO, RC, tup, ↓reduceIte, Nat.reduceEqDiff, RD, h3, h4, hff]; refine hKr _ _ ?_; clear hKr Kr; try simp only [RN, Bool.false_eq_true, reduceIte]
      refine T_reg_k fun Kr hKr => ?_; simp (disch := omega) only [RF, RO, RC, tup, ↓reduceIte, Nat.reduceEqDiff, RD, h4]; refine hKr _ _ ?_; clear hKr Kr
      exact hN (n + 1 - (j + 1)) _ _ (by omega) ⟨j + 1, by omega, rfl, .inl (by omega), rfl, by simp [RF, h0], by simp [RF], by simp [RF]⟩
    · refine T_cseq (t := false) (by simp (disch := omega) only [RF, RO, RC, tup, ↓reduceIte, Nat.reduceEqDiff, decT, decF]) ?_; try simp only [RN, Bool.false_eq_true, reduceIte]
      refine hX _ _ ?_
      refine T_rseq fun Kr hKr => ?_; simp (disch := omega) only [RF, RO, RC, tup, ↓reduceIte, Nat.reduceEqDiff, RD, h3]; refine hKr _ _ ?_; clear hKr Kr; try simp only [RN, Bool.false_eq_true, reduceIte]
      refine ⟨_, rfl, ?_⟩; simp only [RF, ev_t, ev_c, tup, ↓reduceIte, Nat.reduceEqDiff]
      have : fact j = fact n := by
        by_cases e : j = n
        · rw [e]
        · have h1 : j = 1 := by omega
          have h2 : n = 0 := by omega
          rw [h1, h2]; rfl
      rw [this]
      exact hK
end Go.Am

/- Types of trees: how often numbers are repeated; sums. -/
set_option linter.unusedVariables false
set_option linter.unusedSimpArgs false
namespace Go.Am
open Go

/-- How many equal numbers end at a place. -/
def rn (xs : List Int) : Nat → Nat
  | 0 => 1
  | i + 1 => if el xs (i + 1) = el xs i then rn xs i + 1 else 1
theorem rn_bd (xs : List Int) : ∀ i, 1 ≤ rn xs i ∧ rn xs i ≤ i + 1
  | 0 => by simp [rn]
  | i + 1 => by
    have := rn_bd xs i
    simp only [rn]
    split <;> omega
def eqs (xs : List Int) : Nat → Int
  | 0 => 1
  | i + 1 => eqs xs i * (rn xs i : Int)
theorem eqs_bd (xs : List Int) : ∀ n, 1 ≤ eqs xs n ∧ eqs xs n ≤ fact n
  | 0 => by simp [eqs, fact]
  | n + 1 => by
    have ih := eqs_bd xs n
    have hr := rn_bd xs n
    have h1 := Int.mul_le_mul ih.1 (show (1 : Int) ≤ (rn xs n : Int) by omega) (by omega) (by omega)
    have h2 := Int.mul_le_mul ih.2 (show (rn xs n : Int) ≤ (n : Int) + 1 by omega) (by omega) (by have := fact_pos n; omega)
    show 1 ≤ eqs xs n * _ ∧ eqs xs n * _ ≤ fact n * ((n : Int) + 1)
    omega
theorem repeated_spec {H : AHeap} {v : Value} {xs : List Int} {K : Value → AHeap → Prop} (hx : IsI H v xs) (hl : xs.length ≤ 16) (hK : K (I (eqs xs xs.length)) H) : CallT F_impl_repeated [v] H K := by
  obtain ⟨a, e, rfl⟩ := hx.len
  refine CallT_body Γ_impl_repeated ?_; simp only [A_impl_repeated, T_aiff]
  refine T_rseq fun Kr hKr => ?_; simp (disch := omega) only [RF, RO, RC, tup, ↓reduceIte, Nat.reduceEqDiff, Int.reduceLT, reduceCtorEq, RD]; refine hKr _ _ ?_; clear hKr Kr; try simp only [RN, Bool.false_eq_true, reduceIte]
  refine T_rseq fun Kr hKr => ?_; simp (disch := omega) only [RF, RO, RC, tup, ↓reduceIte, Nat.reduceEqDiff, Int.reduceLT, reduceCtorEq, RD]; refine hKr _ _ ?_; clear hKr Kr; try simp only [RN, Bool.false_eq_true, reduceIte]
  refine T_rseq fun Kr hKr => ?_; simp (disch := omega) only [RF, RO, RC, tup, ↓reduceIte, Nat.reduceEqDiff, Int.reduceLT, reduceCtorEq, RD]; refine hKr _ _ ?_; clear hKr Kr; try simp only [RN, Bool.false_eq_true, reduceIte]
  refine T_wloop (fun n f H' => ∃ k, k ≤ xs.length ∧ n = xs.length - k ∧ H' = H ∧ f 0 = .slice a xs.length e ∧ f 7 = .slice a xs.length e ∧ f 8 = I xs.length ∧ f 3 = I (eqs xs k) ∧ f 4 = I (if k = 0 then 0 else (rn xs (k - 1) : Int)) ∧ f 9 = I k) (xs.length) ?_ ?_
  · exact ⟨0, by omega, by omega, rfl, by simp [RF], by simp [RF], by simp [RF], by simp [RF, eqs], by simp [RF], by simp [RF]⟩
  · rintro n f H' R ⟨k, hk, rfl, rfl, h0, h7, h8, h3, h4, h9⟩ hN hX hR
    simp only [A_impl_repeated.l0, T_aiff]
    refine T_rseq fun Kr hKr => ?_; simp (disch := omega) only [RF, RO, RC, tup, ↓reduceIte, Nat.reduceEqDiff, RD, h8, h9]; refine hKr _ _ ?_; clear hKr Kr; try simp only [RN, Bool.false_eq_true, reduceIte]
    by_cases hlt : k < xs.length
    · refine T_cseq (t := true) (by simp (disch := omega) only [RF, RO, RC, tup, ↓reduceIte, Nat.reduceEqDiff, decT, decF]) ?_; try simp only [RN, Bool.false_eq_true, reduceIte]
      (first | refine T_bfree rfl ?_ | refine T_bfree' rfl ?_); try simp only [RN, Bool.false_eq_true, reduceIte]
      obtain ⟨b, o, blk, heq, hb, hg, hlen, hel⟩ := hx.pos (by omega)
      cases heq
      refine T_rseq fun Kr hKr => ?_; simp (disch := omega) only [RF, RO, RC, tup, ↓reduceIte, Nat.reduceEqDiff, RD, h7, h9, hlt, hg, hel]; refine hKr _ _ ?_; clear hKr Kr; try simp only [RN, Bool.false_eq_true, reduceIte]
      have hfin : ∀ (f' : Fr), f' 0 = S b o xs.length 1 → f' 7 = S b o xs.length 1 → f' 8 = I xs.length → f' 3 = I (eqs xs k) → f' 4 = I (rn xs k : Int) → f' 9 = I k → T (ACode.seq A_impl_repeated.r8 A_impl_repeated.r9) R f' H' := by
        intro f' h0 h7 h8 h3 h4 h9
        have hb1 := eqs_bd xs (k + 1)
        have hb2 := fact_bd (n := k + 1) (by omega)
        have hee : eqs xs k * (rn xs k : Int) = eqs xs (k + 1) := rfl
        refine T_rseq fun Kr hKr => ?_; simp (disch := omega) only [RF, RO, RC, tup, ↓reduceIte, Nat.reduceEqDiff, RD, h3, h4, hee]; refine hKr _ _ ?_; clear hKr Kr; try simp only [RN, Bool.false_eq_true, reduceIte]
        refine T_reg_k fun Kr hKr => ?_; simp (disch := omega) only [RF, RO, RC, tup, ↓reduceIte, Nat.reduceEqDiff, RD, h9]; refine hKr _ _ ?_; clear hKr Kr
        exact hN (xs.length - (k + 1)) _ _ (by omega) ⟨k + 1, by omega, rfl, rfl, by simp [RF, h0], by simp [RF, h7], by simp [RF, h8], by simp [RF], by simp [RF, h4], by simp [RF]⟩
      by_cases hk0 : k = 0
      · subst hk0
        refine T_rseq fun Kr hKr => ?_; simp (disch := omega) only [RF, RO, RC, tup, ↓reduceIte, Nat.reduceEqDiff, Int.reduceLT, reduceCtorEq, RD]; refine hKr _ _ ?_; clear hKr Kr; try simp only [RN, Bool.false_eq_true, reduceIte]
        refine T_cseq (t := false) (by simp (disch := omega) only [RF, RO, RC, tup, ↓reduceIte, Nat.reduceEqDiff, decT, decF]) ?_; try simp only [RN, Bool.false_eq_true, reduceIte]
        refine T_rseq fun Kr hKr => ?_; simp (disch := omega) only [RF, RO, RC, tup, ↓reduceIte, Nat.reduceEqDiff, Int.reduceLT, reduceCtorEq, RD]; refine hKr _ _ ?_; clear hKr Kr; try simp only [RN, Bool.false_eq_true, reduceIte]
        exact hfin _ (by simp [RF, h0]) (by simp [RF, h7]) (by simp [RF, h8]) (by simp [RF, h3]) (by simp [RF, rn]) (by simp [RF, h9])
      · obtain ⟨j, rfl⟩ : ∃ j, k = j + 1 := ⟨k - 1, by omega⟩
        have hj : ((j + 1 : Nat) : Int) - 1 = (j : Int) := by omega
        have hjl : j < xs.length := by omega
        have hr := rn_bd xs j
        simp only [Nat.add_sub_cancel, if_neg hk0] at h4
        refine T_rseq fun Kr hKr => ?_; simp (disch := omega) only [RF, RO, RC, tup, ↓reduceIte, Nat.reduceEqDiff, RD, h0, hj, hjl, hg, hel]; refine hKr _ _ ?_; clear hKr Kr; try simp only [RN, Bool.false_eq_true, reduceIte]
        by_cases hq : el xs (j + 1) = el xs j
        · refine T_cseq (t := true) (by simp (disch := omega) only [RF, RO, RC, tup, ↓reduceIte, Nat.reduceEqDiff, decT, decF, hq]) ?_; try simp only [RN, Bool.false_eq_true, reduceIte]
          refine T_rseq fun Kr hKr => ?_; simp (disch := omega) only [RF, RO, RC, tup, ↓reduceIte, Nat.reduceEqDiff, RD, h4]; refine hKr _ _ ?_; clear hKr Kr; try simp only [RN, Bool.false_eq_true, reduceIte]
          exact hfin _ (by simp [RF, h0]) (by simp [RF, h7]) (by simp [RF, h8]) (by simp [RF, h3]) (by simp [RF, rn, hq]) (by simp [RF, h9])
        · refine T_cseq (t := false) (by simp (disch := omega) only [RF, RO, RC, tup, ↓reduceIte, Nat.reduceEqDiff, decT, decF, hq]) ?_; try simp only [RN, Bool.false_eq_true, reduceIte]
          refine T_rseq fun Kr hKr => ?_; simp (disch := omega) only [RF, RO, RC, tup, ↓reduceIte, Nat.reduceEqDiff, Int.reduceLT, reduceCtorEq, RD]; refine hKr _ _ ?_; clear hKr Kr; try simp only [RN, Bool.false_eq_true, reduceIte]
          exact hfin _ (by simp [RF, h0]) (by simp [RF, h7]) (by simp [RF, h8]) (by simp [RF, h3]) (by simp [RF, rn, hq]) (by simp [RF, h9])
    · refine T_cseq (t := false) (by simp (disch := omega) only [RF, RO, RC, tup, ↓reduceIte, Nat.reduceEqDiff, decT, decF]) ?_; try simp only [RN, Bool.false_eq_true, reduceIte]
      refine hX _ _ ?_
      refine T_rseq fun Kr hKr => ?_; simp (disch := omega) only [RF, RO, RC, tup, ↓reduceIte, Nat.reduceEqDiff, RD, h3]; refine hKr _ _ ?_; clear hKr Kr; try simp only [RN, Bool.false_eq_true, reduceIte]
      refine ⟨_, rfl, ?_⟩; simp only [RF, ev_t, ev_c, tup, ↓reduceIte, Nat.reduceEqDiff]
      have : k = xs.length := by omega
      subst this
      exact hK
end Go.Am

/- Types of trees: sums. -/
set_option linter.unusedVariables false
set_option linter.unusedSimpArgs false
namespace Go.Am
open Go

def okAt (xs : List Int) (k : Nat) : Prop := 1 ≤ el xs k ∧ el xs k ≤ 16 ∧ (0 < k → el xs k ≤ el xs (k - 1))
instance (xs : List Int) (k : Nat) : Decidable (okAt xs k) := by unfold okAt; infer_instance
def Ty (xs : List Int) : Prop := ∀ i, i < xs.length → okAt xs i
instance (xs : List Int) : Decidable (Ty xs) := by unfold Ty; infer_instance
def sm (xs : List Int) : Nat → Int
  | 0 => 0
  | i + 1 => sm xs i + el xs i
theorem sm_lo {xs : List Int} {n : Nat} (h : ∀ i, i < n → okAt xs i) : (n : Int) ≤ sm xs n := by
  induction n with
  | zero => exact Int.le_refl _
  | succ n ih =>
    have h1 := ih fun i hi => h i (by omega)
    have h2 := (h n (by omega)).1
    show _ ≤ sm xs n + el xs n
    omega
theorem sm_mono {xs : List Int} (h : Ty xs) : ∀ n k, k ≤ n → n ≤ xs.length → sm xs k ≤ sm xs n
  | 0, k, hk, _ => by have : k = 0 := by omega
                      subst this; exact Int.le_refl _
  | n + 1, k, hk, hn => by
    by_cases e : k = n + 1
    · subst e; exact Int.le_refl _
    · have h1 := sm_mono h n k (by omega) (by omega)
      have h2 := (h n (by omega)).1
      show _ ≤ sm xs n + el xs n
      omega
def sot (xs : List Int) : Int := if Ty xs ∧ sm xs xs.length ≤ 16 then sm xs xs.length else 0
theorem sumOfType_spec {H : AHeap} {v : Value} {xs : List Int} {K : Value → AHeap → Prop} (hx : IsI H v xs) (hl : xs.length ≤ 2000000) (hK : K (I (sot xs)) H) : CallT F_impl_sumOfType [v] H K := by
  obtain ⟨a, e, rfl⟩ := hx.len
  refine CallT_body Γ_impl_sumOfType ?_; simp only [A_impl_sumOfType, T_aiff]
  refine T_rseq fun Kr hKr => ?_; simp (disch := omega) only [RF, RO, RC, tup, ↓reduceIte, Nat.reduceEqDiff, Int.reduceLT, reduceCtorEq, RD]; refine hKr _ _ ?_; clear hKr Kr; try simp only [RN, Bool.false_eq_true, reduceIte]
  refine T_rseq fun Kr hKr => ?_; simp (disch := omega) only [RF, RO, RC, tup, ↓reduceIte, Nat.reduceEqDiff, Int.reduceLT, reduceCtorEq, RD]; refine hKr _ _ ?_; clear hKr Kr; try simp only [RN, Bool.false_eq_true, reduceIte]
  refine T_rseq fun Kr hKr => ?_; simp (disch := omega) only [RF, RO, RC, tup, ↓reduceIte, Nat.reduceEqDiff, Int.reduceLT, reduceCtorEq, RD]; refine hKr _ _ ?_; clear hKr Kr; try simp only [RN, Bool.false_eq_true, reduceIte]
  refine T_wloop (fun n f H' => ∃ k, k ≤ xs.length ∧ n = xs.length - k ∧ H' = H ∧ f 0 = .slice a xs.length e ∧ f 6 = .slice a xs.length e ∧ f 7 = I xs.length ∧ f 3 = I (sm xs k) ∧ f 8 = I k ∧ (∀ i, i < k → okAt xs i) ∧ sm xs k ≤ 16) (xs.length) ?_ ?_
  · exact ⟨0, by omega, by omega, rfl, by simp [RF], by simp [RF], by simp [RF], by simp [RF, sm], by simp [RF], by simp, by simp [sm]⟩
  · rintro n f H' R ⟨k, hk, rfl, rfl, h0, h6, h7, h3, h8, hok, hs⟩ hN hX hR
    simp only [A_impl_sumOfType.l0, T_aiff]
    have hlo := sm_lo hok
    refine T_rseq fun Kr hKr => ?_; simp (disch := omega) only [RF, RO, RC, tup, ↓reduceIte, Nat.reduceEqDiff, RD, h7, h8]; refine hKr _ _ ?_; clear hKr Kr; try simp only [RN, Bool.false_eq_true, reduceIte]
    by_cases hlt : k < xs.length
    · refine T_cseq (t := true) (by simp (disch := omega) only [RF, RO, RC, tup, ↓reduceIte, Nat.reduceEqDiff, decT, decF]) ?_; try simp only [RN, Bool.false_eq_true, reduceIte]
      (first | refine T_bfree rfl ?_ | refine T_bfree' rfl ?_); try simp only [RN, Bool.false_eq_true, reduceIte]
      obtain ⟨b, o, blk, heq, hb, hg, hlen, hel⟩ := hx.pos (by omega)
      cases heq
      refine T_rseq fun Kr hKr => ?_; simp (disch := omega) only [RF, RO, RC, tup, ↓reduceIte, Nat.reduceEqDiff, RD, h6, h8, hlt, hg, hel]; refine hKr _ _ ?_; clear hKr Kr; try simp only [RN, Bool.false_eq_true, reduceIte]
      have hbad : ∀ (c : ACode) (f' : Fr), ¬ okAt xs k → T (ACode.seq A_impl_sumOfType.r6 (.seq .ret c)) R f' H' := by
        intro c f' hno
        refine T_rseq fun Kr hKr => ?_; simp (disch := omega) only [RF, RO, RC, tup, ↓reduceIte, Nat.reduceEqDiff, Int.reduceLT, reduceCtorEq, RD]; refine hKr _ _ ?_; clear hKr Kr; try simp only [RN, Bool.false_eq_true, reduceIte]
        refine hR _ _ ?_
        refine ⟨_, rfl, ?_⟩; simp only [RF, ev_t, ev_c, tup, ↓reduceIte, Nat.reduceEqDiff]
        have : ¬ (Ty xs ∧ sm xs xs.length ≤ 16) := fun h => hno (h.1 k hlt)
        simpa only [sot, this, if_false] using hK
      have hgood : ∀ f' : Fr, f' 0 = S b o xs.length 1 → f' 6 = S b o xs.length 1 → f' 7 = I xs.length → f' 3 = I (sm xs k) → f' 8 = I k → f' 5 = I (el xs k) → okAt xs k → T (ACode.seq A_impl_sumOfType.r7 (.seq (.seq A_impl_sumOfType.r8 (.cond (.t 36) (.seq A_impl_sumOfType.r9 .ret) .skip)) A_impl_sumOfType.r10)) R f' H' := by
        intro f' h0 h6 h7 h3 h8 h5 ho
        have h1 := ho.1
        have h2 := ho.2.1
        have hss : sm xs k + el xs k = sm xs (k + 1) := rfl
        refine T_rseq fun Kr hKr => ?_; simp (disch := omega) only [RF, RO, RC, tup, ↓reduceIte, Nat.reduceEqDiff, RD, h3, h5, hss]; refine hKr _ _ ?_; clear hKr Kr; try simp only [RN, Bool.false_eq_true, reduceIte]
        refine T_rseq fun Kr hKr => ?_; simp (disch := omega) only [RF, RO, RC, tup, ↓reduceIte, Nat.reduceEqDiff, Int.reduceLT, reduceCtorEq, RD]; refine hKr _ _ ?_; clear hKr Kr; try simp only [RN, Bool.false_eq_true, reduceIte]
        by_cases hbig : 16 < sm xs (k + 1)
        · refine T_cseq (t := true) (by simp (disch := omega) only [RF, RO, RC, tup, ↓reduceIte, Nat.reduceEqDiff, decT, decF]) ?_; try simp only [RN, Bool.false_eq_true, reduceIte]
          refine T_rseq fun Kr hKr => ?_; simp (disch := omega) only [RF, RO, RC, tup, ↓reduceIte, Nat.reduceEqDiff, Int.reduceLT, reduceCtorEq, RD]; refine hKr _ _ ?_; clear hKr Kr; try simp only [RN, Bool.false_eq_true, reduceIte]
          refine hR _ _ ?_
          refine ⟨_, rfl, ?_⟩; simp only [RF, ev_t, ev_c, tup, ↓reduceIte, Nat.reduceEqDiff]
          have : ¬ (Ty xs ∧ sm xs xs.length ≤ 16) := fun h => by have := sm_mono h.1 xs.length (k + 1) (by omega) (Nat.le_refl _); omega
          simpa only [sot, this, if_false] using hK
        · refine T_cseq (t := false) (by simp (disch := omega) only [RF, RO, RC, tup, ↓reduceIte, Nat.reduceEqDiff, decT, decF]) ?_; try simp only [RN, Bool.false_eq_true, reduceIte]
          refine T_reg_k fun Kr hKr => ?_; simp (disch := omega) only [RF, RO, RC, tup, ↓reduceIte, Nat.reduceEqDiff, RD, h8]; refine hKr _ _ ?_; clear hKr Kr
          refine hN (xs.length - (k + 1)) _ _ (by omega) ⟨k + 1, by omega, rfl, rfl, by simp [RF, h0], by simp [RF, h6], by simp [RF, h7], by simp [RF], by simp [RF], fun i hi => ?_, by omega⟩
          by_cases e : i = k
          · subst e; exact ho
          · exact hok i (by omega)
      by_cases c1 : el xs k < 1
      · refine T_rseq fun Kr hKr => ?_; simp (disch := omega) only [RF, RO, RC, tup, ↓reduceIte, Nat.reduceEqDiff, RD]; refine hKr _ _ ?_; clear hKr Kr; try simp only [RN, Bool.false_eq_true, reduceIte]
        refine T_cseq (t := true) (by simp (disch := omega) only [RF, RO, RC, tup, ↓reduceIte, Nat.reduceEqDiff, decT, decF]) ?_; try simp only [RN, Bool.false_eq_true, reduceIte]
        exact hbad _ _ fun h => by have := h.1; omega
      · by_cases c2 : 16 < el xs k
        · refine T_rseq fun Kr hKr => ?_; simp (disch := omega) only [RF, RO, RC, tup, ↓reduceIte, Nat.reduceEqDiff, RD]; refine hKr _ _ ?_; clear hKr Kr; try simp only [RN, Bool.false_eq_true, reduceIte]
          refine T_cseq (t := true) (by simp (disch := omega) only [RF, RO, RC, tup, ↓reduceIte, Nat.reduceEqDiff, decT, decF]) ?_; try simp only [RN, Bool.false_eq_true, reduceIte]
          exact hbad _ _ fun h => by have := h.2.1; omega
        · by_cases hk0 : k = 0
          · subst hk0
            refine T_rseq fun Kr hKr => ?_; simp (disch := omega) only [RF, RO, RC, tup, ↓reduceIte, Nat.reduceEqDiff, Int.reduceLT, reduceCtorEq, RD]; refine hKr _ _ ?_; clear hKr Kr; try simp only [RN, Bool.false_eq_true, reduceIte]
            refine T_cseq (t := false) (by simp (disch := omega) only [RF, RO, RC, tup, ↓reduceIte, Nat.reduceEqDiff, decT, decF]) ?_; try simp only [RN, Bool.false_eq_true, reduceIte]
            exact hgood _ (by simp [RF, h0]) (by simp [RF, h6]) (by simp [RF, h7]) (by simp [RF, h3]) (by simp [RF, h8]) (by simp [RF]) ⟨by omega, by omega, fun h => by omega⟩
          · obtain ⟨j, rfl⟩ : ∃ j, k = j + 1 := ⟨k - 1, by omega⟩
            have hj : ((j + 1 : Nat) : Int) - 1 = (j : Int) := by omega
            have hjl : j < xs.length := by omega
            by_cases c3 : el xs j < el xs (j + 1)
            · refine T_rseq fun Kr hKr => ?_; simp (disch := omega) only [RF, RO, RC, tup, ↓reduceIte, Nat.reduceEqDiff, reduceCtorEq, RD, h0, hj, hjl, hg, hel]; refine hKr _ _ ?_; clear hKr Kr; try simp only [RN, Bool.false_eq_true, reduceIte]
              refine T_cseq (t := true) (by simp (disch := omega) only [RF, RO, RC, tup, ↓reduceIte, Nat.reduceEqDiff, decT, decF]) ?_; try simp only [RN, Bool.false_eq_true, reduceIte]
              exact hbad _ _ fun h => by have := h.2.2 (by omega); simp only [Nat.add_sub_cancel] at this; omega
            · refine T_rseq fun Kr hKr => ?_; simp (disch := omega) only [RF, RO, RC, tup, ↓reduceIte, Nat.reduceEqDiff, reduceCtorEq, RD, h0, hj, hjl, hg, hel]; refine hKr _ _ ?_; clear hKr Kr; try simp only [RN, Bool.false_eq_true, reduceIte]
              refine T_cseq (t := false) (by simp (disch := omega) only [RF, RO, RC, tup, ↓reduceIte, Nat.reduceEqDiff, decT, decF]) ?_; try simp only [RN, Bool.false_eq_true, reduceIte]
              exact hgood _ (by simp [RF, h0]) (by simp [RF, h6]) (by simp [RF, h7]) (by simp [RF, h3]) (by simp [RF, h8]) (by simp [RF]) ⟨by omega, by omega, fun h => by simp only [Nat.add_sub_cancel]; omega⟩
    · refine T_cseq (t := false) (by simp (disch := omega) only [RF, RO, RC, tup, ↓reduceIte, Nat.reduceEqDiff, decT, decF]) ?_; try simp only [RN, Bool.false_eq_true, reduceIte]
      refine hX _ _ ?_
      refine T_rseq fun Kr hKr => ?_; simp (disch := omega) only [RF, RO, RC, tup, ↓reduceIte, Nat.reduceEqDiff, RD, h3]; refine hKr _ _ ?_; clear hKr Kr; try simp only [RN, Bool.false_eq_true, reduceIte]
      refine ⟨_, rfl, ?_⟩; simp only [RF, ev_t, ev_c, tup, ↓reduceIte, Nat.reduceEqDiff]
      have : k = xs.length := by omega
      subst this
      have : Ty xs ∧ sm xs xs.length ≤ 16 := ⟨hok, hs⟩
      simpa only [sot, this, and_self, if_true] using hK
end Go.Am

