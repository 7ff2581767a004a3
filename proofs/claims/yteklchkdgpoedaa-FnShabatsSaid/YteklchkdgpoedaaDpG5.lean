/- SpR, SpS, SpU, DpMi, SpJ, DpMk, SpK, DpMa, DpMc, DpMd, DpMe -/
import Derived.KernelRfl
import Derived.Test.YteklchkdgpoedaaBmL
import Derived.Test.YteklchkdgpoedaaDpG0
import Derived.Test.YteklchkdgpoedaaDpG3
import Derived.Test.YteklchkdgpoedaaDpG4
/- Types of trees: the program's own test; counts. -/
set_option linter.unusedVariables false
set_option linter.unusedSimpArgs false
namespace Go.Am
open Go

def okTypes (xs ys : List Int) : Prop := Ty xs ∧ Ty ys ∧ sm xs xs.length = sm ys ys.length ∧ 1 ≤ sm xs xs.length ∧ sm xs xs.length ≤ 16
instance (xs ys : List Int) : Decidable (okTypes xs ys) := by unfold okTypes; infer_instance
theorem okTypes_sot {xs ys : List Int} : (0 < sot xs ∧ sot xs ≤ 16 ∧ sot ys = sot xs) ↔ okTypes xs ys := by
  unfold okTypes sot
  by_cases h1 : Ty xs ∧ sm xs xs.length ≤ 16
  · rw [if_pos h1]
    by_cases h2 : Ty ys ∧ sm ys ys.length ≤ 16
    · rw [if_pos h2]
      exact ⟨fun h => ⟨h1.1, h2.1, h.2.2.symm, by omega, h1.2⟩, fun h => ⟨by omega, by omega, h.2.2.1.symm⟩⟩
    · rw [if_neg h2]
      exact ⟨fun h => by omega, fun h => absurd ⟨h.2.1, by omega⟩ h2⟩
  · rw [if_neg h1]
    exact ⟨fun h => by omega, fun h => absurd ⟨h.1, h.2.2.2.2⟩ h1⟩
theorem okTypes_len {xs ys : List Int} (h : okTypes xs ys) : 1 ≤ xs.length ∧ xs.length ≤ 16 ∧ 1 ≤ ys.length ∧ ys.length ≤ 16 := by
  have h1 := sm_lo h.1
  have h2 := sm_lo h.2.1
  obtain ⟨_, _, h3, h4, h5⟩ := h
  have e1 : 1 ≤ xs.length := by
    rcases Nat.eq_zero_or_pos xs.length with e | e
    · rw [e] at h4; simp [sm] at h4
    · exact e
  have e2 : 1 ≤ ys.length := by
    rcases Nat.eq_zero_or_pos ys.length with e | e
    · rw [e] at h3; simp [sm] at h3; omega
    · exact e
  omega
theorem areTypes_spec {H : AHeap} {v u : Value} {xs ys : List Int} {K : Value → AHeap → Prop} (hx : IsI H v xs) (hl : xs.length ≤ 2000000) (hy : IsI H u ys) (hly : ys.length ≤ 2000000) (hK : K (.bool (decide (okTypes xs ys))) H) : CallT F_impl_areTypes [v, u, I 16] H K := by
  have hiff := @okTypes_sot xs ys
  refine CallT_body Γ_impl_areTypes ?_; simp only [A_impl_areTypes, T_aiff]
  refine T_rseq fun Kr hKr => ?_; simp (disch := omega) only [RF, RO, RC, tup, ↓reduceIte, Nat.reduceEqDiff, RD]; refine hKr _ _ ?_; clear hKr Kr; try simp only [RN, Bool.false_eq_true, reduceIte]
  refine T_rseq fun Kr hKr => ?_; simp (disch := omega) only [RF, RO, RC, tup, ↓reduceIte, Nat.reduceEqDiff, RD]
  refine sumOfType_spec hx hl ?_
  simp (disch := omega) only [RF, RO, RC, tup, ↓reduceIte, Nat.reduceEqDiff, RD]
  refine hKr _ _ ?_; clear hKr Kr; (try simp only [blkQ, thenQ, loopQ]); try simp only [RN, Bool.false_eq_true, reduceIte]
  by_cases h1 : 0 < sot xs
  · by_cases h2 : sot xs ≤ 16
    · refine T_rseq fun Kr hKr => ?_; simp (disch := omega) only [RF, RO, RC, tup, ↓reduceIte, Nat.reduceEqDiff, RD]
      refine sumOfType_spec hy hly ?_
      by_cases h3 : sot ys = sot xs
      · simp (disch := omega) only [RF, RO, RC, tup, ↓reduceIte, Nat.reduceEqDiff, RD, h3]
        refine hKr _ _ ?_; clear hKr Kr; (try simp only [blkQ, thenQ, loopQ]); try simp only [RN, Bool.false_eq_true, reduceIte]
        refine ⟨_, rfl, ?_⟩; simp only [RF, ev_t, ev_c, tup, ↓reduceIte, Nat.reduceEqDiff]
        have : okTypes xs ys := hiff.1 ⟨h1, h2, h3⟩
        simpa [this] using hK
      · simp (disch := omega) only [RF, RO, RC, tup, ↓reduceIte, Nat.reduceEqDiff, RD, h3]
        refine hKr _ _ ?_; clear hKr Kr; (try simp only [blkQ, thenQ, loopQ]); try simp only [RN, Bool.false_eq_true, reduceIte]
        refine ⟨_, rfl, ?_⟩; simp only [RF, ev_t, ev_c, tup, ↓reduceIte, Nat.reduceEqDiff]
        have : ¬ okTypes xs ys := fun h => h3 (hiff.2 h).2.2
        simpa [this] using hK
    · refine T_rseq fun Kr hKr => ?_; simp (disch := omega) only [RF, RO, RC, tup, ↓reduceIte, Nat.reduceEqDiff, RD]; refine hKr _ _ ?_; clear hKr Kr; try simp only [RN, Bool.false_eq_true, reduceIte]
      refine ⟨_, rfl, ?_⟩; simp only [RF, ev_t, ev_c, tup, ↓reduceIte, Nat.reduceEqDiff]
      have : ¬ okTypes xs ys := fun h => h2 (hiff.2 h).2.1
      simpa [this] using hK
  · refine T_rseq fun Kr hKr => ?_; simp (disch := omega) only [RF, RO, RC, tup, ↓reduceIte, Nat.reduceEqDiff, RD]; refine hKr _ _ ?_; clear hKr Kr; try simp only [RN, Bool.false_eq_true, reduceIte]
    refine ⟨_, rfl, ?_⟩; simp only [RF, ev_t, ev_c, tup, ↓reduceIte, Nat.reduceEqDiff]
    have : ¬ okTypes xs ys := fun h => h1 (hiff.2 h).1
    simpa [this] using hK
def countN (xs ys : List Int) : Int := sm xs xs.length * fact (xs.length - 1) * fact (ys.length - 1)
def countD (xs ys : List Int) : Int := eqs xs xs.length * eqs ys ys.length
def resCountRooted (xs ys : List Int) : Int × Int :=
  if okTypes xs ys then if (xs.length : Int) + (ys.length : Int) = sm xs xs.length + 1 then ((countN xs ys).tdiv (countD xs ys), 0) else (0, 0) else (0, 2)
theorem fact_two {a b : Nat} (h : a + b ≤ 17) : fact a * fact b ≤ 400000000000000 := by
  have key : ∀ a : Nat, a < 18 → ∀ b : Nat, b < 18 → a + b ≤ 17 → fact a * fact b ≤ 400000000000000 := by decide +kernel
  exact key a (by omega) b (by omega) h
end Go.Am

/- Counts of rooted trees: the program's own. -/
set_option linter.unusedVariables false
set_option linter.unusedSimpArgs false
namespace Go.Am
open Go

theorem sot_ok {xs ys : List Int} (h : okTypes xs ys) : sot xs = sm xs xs.length := by
  unfold sot
  rw [if_pos ⟨h.1, h.2.2.2.2⟩]
theorem count_bd {xs ys : List Int} (h : okTypes xs ys) (hpq : (xs.length : Int) + (ys.length : Int) = sm xs xs.length + 1) :
    (0 ≤ sm xs xs.length * fact (xs.length - 1) ∧ sm xs xs.length * fact (xs.length - 1) ≤ 10000000000000000) ∧ (0 ≤ countN xs ys ∧ countN xs ys ≤ 10000000000000000) ∧ (1 ≤ countD xs ys ∧ countD xs ys ≤ 400000000000000) ∧
    (0 ≤ (countN xs ys).tdiv (countD xs ys) ∧ (countN xs ys).tdiv (countD xs ys) ≤ 10000000000000000) := by
  have hl := okTypes_len h
  obtain ⟨_, _, h3, h4, h5⟩ := h
  have f1 := fact_pos (xs.length - 1)
  have f2 := fact_pos (ys.length - 1)
  have f3 := fact_bd (n := xs.length - 1) (by omega)
  have ft := fact_two (a := xs.length - 1) (b := ys.length - 1) (by omega)
  have fq := fact_two (a := xs.length) (b := ys.length) (by omega)
  have e1 := eqs_bd xs xs.length
  have e2 := eqs_bd ys ys.length
  have g1 := fact_pos xs.length
  have a1 : 0 ≤ sm xs xs.length * fact (xs.length - 1) := Int.mul_nonneg (by omega) (by omega)
  have a2 : sm xs xs.length * fact (xs.length - 1) ≤ 16 * 400000000000000 := Int.mul_le_mul h5 f3 (by omega) (by omega)
  have b1 : 0 ≤ fact (xs.length - 1) * fact (ys.length - 1) := Int.mul_nonneg (by omega) (by omega)
  have b2 : countN xs ys = sm xs xs.length * (fact (xs.length - 1) * fact (ys.length - 1)) := by rw [countN, Int.mul_assoc]
  have b3 : 0 ≤ countN xs ys := by rw [b2]; exact Int.mul_nonneg (by omega) b1
  have b4 : countN xs ys ≤ 16 * 400000000000000 := by rw [b2]; exact Int.mul_le_mul h5 ft b1 (by omega)
  have d1 : 1 * 1 ≤ countD xs ys := Int.mul_le_mul e1.1 e2.1 (by omega) (by omega)
  have d2 : countD xs ys ≤ fact xs.length * fact ys.length := Int.mul_le_mul e1.2 e2.2 (by omega) (by omega)
  have q1 : (countN xs ys).tdiv (countD xs ys) = countN xs ys / countD xs ys := Int.tdiv_eq_ediv_of_nonneg b3
  have q2 : 0 ≤ countN xs ys / countD xs ys := Int.ediv_nonneg b3 (by omega)
  have q3 : countN xs ys / countD xs ys ≤ countN xs ys := Int.ediv_le_self _ b3
  refine ⟨⟨a1, by omega⟩, ⟨b3, by omega⟩, ⟨by omega, by omega⟩, ?_⟩
  rw [q1]
  omega
theorem ifz' {α : Type} {a b : α} {D : Int} (h : 1 ≤ D) : (if D = 0 then a else b) = b := if_neg (by omega)
theorem impl_CountRooted_spec {H : AHeap} {v u : Value} {xs ys : List Int} {K : Value → AHeap → Prop} (hx : IsI H v xs) (hl : xs.length ≤ 1048576) (hy : IsI H u ys) (hly : ys.length ≤ 1048576)
    (hK : ∀ H', Ext H H' → K (.tuple ⟨[I (resCountRooted xs ys).1, I (resCountRooted xs ys).2]⟩) H') : CallT F_impl_CountRooted [v, u] H K := by
  obtain ⟨a, e, rfl⟩ := hx.len
  obtain ⟨a', e', rfl⟩ := hy.len
  have hK' := hK H (Ext.refl' H)
  refine CallT_body Γ_impl_CountRooted ?_; simp only [A_impl_CountRooted, T_aiff]
  refine T_rseq fun Kr hKr => ?_; simp (disch := omega) only [RF, RO, RC, tup, ↓reduceIte, Nat.reduceEqDiff, RD]; refine hKr _ _ ?_; clear hKr Kr; try simp only [RN, Bool.false_eq_true, reduceIte]
  refine T_rseq fun Kr hKr => ?_; simp (disch := omega) only [RF, RO, RC, tup, ↓reduceIte, Nat.reduceEqDiff, reduceCtorEq, RD]
  refine areTypes_spec hx (by omega) hy (by omega) ?_
  by_cases hok : okTypes xs ys
  · rw [decide_eq_true hok]
    simp only [resCountRooted, hok, if_true] at hK'
    have hlen := okTypes_len hok
    have hb := hok.2.2.2
    simp (disch := omega) only [RF, RO, RC, tup, ↓reduceIte, Nat.reduceEqDiff, RD]
    refine hKr _ _ ?_; clear hKr Kr; (try simp only [blkQ, thenQ, loopQ]); try simp only [RN, Bool.false_eq_true, reduceIte]
    refine T_cseq (t := false) (by simp (disch := omega) only [RF, RO, RC, tup, ↓reduceIte, Nat.reduceEqDiff, decT, decF]) ?_; try simp only [RN, Bool.false_eq_true, reduceIte]
    refine T_rseq fun Kr hKr => ?_; simp (disch := omega) only [RF, RO, RC, tup, ↓reduceIte, Nat.reduceEqDiff, reduceCtorEq, RD]
    refine sumOfType_spec hx (by omega) ?_
    rw [sot_ok hok]
    simp (disch := omega) only [RF, RO, RC, tup, ↓reduceIte, Nat.reduceEqDiff, RD]
    refine hKr _ _ ?_; clear hKr Kr; (try simp only [blkQ, thenQ, loopQ]); try simp only [RN, Bool.false_eq_true, reduceIte]
    by_cases hpq : (xs.length : Int) + (ys.length : Int) = sm xs xs.length + 1
    · rw [if_pos hpq] at hK'
      have hc := count_bd hok hpq
      have hp1 : (xs.length : Int) - 1 = ((xs.length - 1 : Nat) : Int) := by omega
      have hq1 : (ys.length : Int) - 1 = ((ys.length - 1 : Nat) : Int) := by omega
      refine T_rseq fun Kr hKr => ?_; simp (disch := omega) only [RF, RO, RC, tup, ↓reduceIte, Nat.reduceEqDiff, RD]; refine hKr _ _ ?_; clear hKr Kr; try simp only [RN, Bool.false_eq_true, reduceIte]
      refine T_cseq (t := false) (by simp (disch := omega) only [RF, RO, RC, tup, ↓reduceIte, Nat.reduceEqDiff, decT, decF]) ?_; try simp only [RN, Bool.false_eq_true, reduceIte]
      refine T_rseq fun Kr hKr => ?_; simp (disch := omega) only [RF, RO, RC, tup, ↓reduceIte, Nat.reduceEqDiff, RD, hp1, hq1]
      refine factorial_spec (by omega) ?_
      simp (disch := omega) only [RF, RO, RC, tup, ↓reduceIte, Nat.reduceEqDiff, RD, hp1, hq1]
      refine factorial_spec (by omega) ?_
      have hN : sm xs xs.length * fact (xs.length - 1) * fact (ys.length - 1) = countN xs ys := rfl
      have hD : eqs xs xs.length * eqs ys ys.length = countD xs ys := rfl
      simp (disch := omega) only [RF, RO, RC, tup, ↓reduceIte, Nat.reduceEqDiff, RD, hp1, hq1, hN]
      refine repeated_spec hx (by omega) ?_
      simp (disch := omega) only [RF, RO, RC, tup, ↓reduceIte, Nat.reduceEqDiff, RD, hN]
      refine repeated_spec hy (by omega) ?_
      simp (disch := omega) only [RF, RO, RC, tup, ↓reduceIte, Nat.reduceEqDiff, RD, hN, hD, ifz']
      refine hKr _ _ ?_; clear hKr Kr; (try simp only [blkQ, thenQ, loopQ]); try simp only [RN, Bool.false_eq_true, reduceIte]
      refine ⟨_, rfl, ?_⟩; simp only [RF, ev_t, ev_c, tup, ↓reduceIte, Nat.reduceEqDiff]
      exact hK'
    · rw [if_neg hpq] at hK'
      refine T_rseq fun Kr hKr => ?_; simp (disch := omega) only [RF, RO, RC, tup, ↓reduceIte, Nat.reduceEqDiff, RD, hpq]; refine hKr _ _ ?_; clear hKr Kr; try simp only [RN, Bool.false_eq_true, reduceIte]
      refine T_cseq (t := true) (by simp (disch := omega) only [RF, RO, RC, tup, ↓reduceIte, Nat.reduceEqDiff, decT, decF]) ?_; try simp only [RN, Bool.false_eq_true, reduceIte]
      refine T_rseq fun Kr hKr => ?_; simp (disch := omega) only [RF, RO, RC, tup, ↓reduceIte, Nat.reduceEqDiff, RD]; refine hKr _ _ ?_; clear hKr Kr; try simp only [RN, Bool.false_eq_true, reduceIte]
      refine ⟨_, rfl, ?_⟩; simp only [RF, ev_t, ev_c, tup, ↓reduceIte, Nat.reduceEqDiff]
      exact hK'
  · rw [decide_eq_false hok]
    simp only [resCountRooted, hok, if_false] at hK'
    simp (disch := omega) only [RF, RO, RC, tup, ↓reduceIte, Nat.reduceEqDiff, RD]
    refine hKr _ _ ?_; clear hKr Kr; (try simp only [blkQ, thenQ, loopQ]); try simp only [RN, Bool.false_eq_true, reduceIte]
    refine T_cseq (t := true) (by simp (disch := omega) only [RF, RO, RC, tup, ↓reduceIte, Nat.reduceEqDiff, decT, decF]) ?_; try simp only [RN, Bool.false_eq_true, reduceIte]
    refine T_rseq fun Kr hKr => ?_; simp (disch := omega) only [RF, RO, RC, tup, ↓reduceIte, Nat.reduceEqDiff, RD]; refine hKr _ _ ?_; clear hKr Kr; try simp only [RN, Bool.false_eq_true, reduceIte]
    refine ⟨_, rfl, ?_⟩; simp only [RF, ev_t, ev_c, tup, ↓reduceIte, Nat.reduceEqDiff]
    exact hK'
end Go.Am

/- Counts of rooted trees: the reference's own. -/
set_option linter.unusedVariables false
set_option linter.unusedSimpArgs false
namespace Go.Am
open Go

/-- The sums so far: those of the lists before are done, those behind are 0. -/
def sums (xs ys : List Int) (q i : Nat) : List Value := if q = 0 then [I (sm xs i), I 0] else if q = 1 then [I (sm xs xs.length), I (sm ys i)] else [I (sm xs xs.length), I (sm ys ys.length)]
end Go.Am

/- Passports of Shabat polynomials are those of trees, of which there are some (plain). -/
set_option linter.unusedVariables false
set_option linter.unusedSimpArgs false
namespace Go.Am
open Go

theorem el_memI {xs : List Int} {i : Nat} (h : i < xs.length) : el xs i ∈ xs := by simp [el, List.getD, h]
theorem lsum_drop {xs : List Int} : ∀ n, n ≤ xs.length → lsum (xs.take n) = sm xs n
  | 0, _ => rfl
  | n + 1, h => by
    rw [show xs.take (n + 1) = xs.take n ++ [el xs n] by rw [List.take_succ_eq_append_getElem (by omega)]; simp [el, List.getD, show n < xs.length by omega], lsum_app, lsum_drop n (by omega), lsum, lsum, sm]
    omega
theorem lsum_sm (xs : List Int) : lsum xs = sm xs xs.length := by
  have := lsum_drop (xs := xs) xs.length (Nat.le_refl _)
  rwa [List.take_length] at this
theorem sumK_sm (xs : List Int) : ∀ n, Go.Bm.sumK xs n = sm xs n
  | 0 => rfl
  | n + 1 => by rw [Go.Bm.sumK, sm, sumK_sm xs n]
theorem sumI_l (xs : List Int) : Go.Bm.sumI xs = lsum xs := by rw [Go.Bm.sumI, sumK_sm, lsum_sm]
theorem sm_ge {xs : List Int} (h : ∀ x ∈ xs, 1 ≤ x) : ∀ n, n ≤ xs.length → (n : Int) ≤ sm xs n ∧ ∀ i, i < n → el xs i ≤ sm xs n
  | 0, _ => by simp [sm]
  | n + 1, hn => by
    have ih := sm_ge h n (by omega)
    have h1 := h _ (el_memI (show n < xs.length by omega))
    rw [sm]
    refine ⟨by omega, fun i hi => ?_⟩
    by_cases e : i = n
    · subst e; omega
    · have := ih.2 i (by omega); omega
theorem desc_el {xs : List Int} (h : xs.Pairwise fun a b => b ≤ a) {i j : Nat} (hij : i < j) (hj : j < xs.length) : el xs j ≤ el xs i := by
  have := List.pairwise_iff_getElem.1 h i j (by omega) hj hij
  simpa [el, List.getD, show i < xs.length by omega, hj] using this
theorem ty_of {xs : List Int} (h1 : ∀ x ∈ xs, 1 ≤ x) (hd : xs.Pairwise fun a b => b ≤ a) (hs : lsum xs ≤ 16) : Ty xs := fun i hi => by
  have h2 := (sm_ge h1 _ (Nat.le_refl _)).2 i hi
  rw [lsum_sm] at hs
  exact ⟨h1 _ (el_memI hi), by omega, fun h0 => desc_el hd (by omega) hi⟩
theorem typeP_of {xs : List Int} (h1 : ∀ x ∈ xs, 1 ≤ x) (hd : xs.Pairwise fun a b => b ≤ a) (hs : lsum xs ≤ 16) (h0 : 1 ≤ lsum xs) : Go.Bm.TypeP xs := by
  have h2 := (sm_ge h1 _ (Nat.le_refl _)).1
  have h3 := ty_of h1 hd hs
  rw [← lsum_sm] at h2
  refine ⟨⟨?_, by omega⟩, fun i hi => ⟨⟨(h3 i hi).1, (h3 i hi).2.1⟩, fun h => (h3 i hi).2.2 h⟩, by rw [sumI_l]; exact hs⟩
  rcases Nat.eq_zero_or_pos xs.length with h | h
  · rw [List.eq_nil_of_length_eq_zero h, lsum] at h0; omega
  · exact h
/-- Its passport is one of a sphere. -/
theorem shab_pass {f : List Int} {a b : Int} (hf : Poly f) (h2 : 2 ≤ f.length) (hs : shab f a b = true) :
    Go.Bm.PassP [mults f a, mults f b, [(f.length : Int) - 1]] ∧ ((mults f a).length : Int) + (mults f b).length = lsum (mults f a) + 1 := by
  have hl := hf.2.1
  have a1 := mults_sum hf.red h2 hl a
  have b1 := mults_sum hf.red h2 hl b
  obtain ⟨a2, a3⟩ := mults_in hf.red h2 hl a
  obtain ⟨b2, b3⟩ := mults_in hf.red h2 hl b
  have c1 : lsum [(f.length : Int) - 1] = (f.length : Int) - 1 := by simp [lsum]
  have hs' : (mults f a).length + (mults f b).length = f.length := of_decide_eq_true hs
  refine ⟨⟨rfl, fun i hi => ?_⟩, by omega⟩
  have t1 := typeP_of a2 a3 (by omega) (by omega)
  have t2 := typeP_of b2 b3 (by omega) (by omega)
  have t3 : Go.Bm.TypeP [(f.length : Int) - 1] := typeP_of (fun x hx => by rw [List.mem_singleton] at hx; omega) (by simp) (by omega) (by omega)
  match i with
  | 0 => exact ⟨t1, rfl⟩
  | 1 => exact ⟨t2, by rw [sumI_l, sumI_l]; show lsum (mults f b) = lsum (mults f a); omega⟩
  | 2 => exact ⟨t3, by rw [sumI_l, sumI_l]; show lsum [(f.length : Int) - 1] = lsum (mults f a); omega⟩
  | i + 3 => omega
/-! ### Some trees -/
/-- Numbers that are all the same, or so many repetitions less. -/
theorem rn_full {xs : List Int} : ∀ n, rn xs n = n + 1 → ∀ i, i ≤ n → el xs i = el xs n
  | 0, _, i, hi => by rw [show i = 0 by omega]
  | n + 1, h, i, hi => by
    by_cases e : el xs (n + 1) = el xs n
    · rw [rn, if_pos e] at h
      by_cases ei : i = n + 1
      · rw [ei]
      · rw [rn_full n (by omega) i (by omega), e]
    · rw [rn, if_neg e] at h
      omega
theorem eqs_few {xs : List Int} : ∀ n, (∀ i, i ≤ n → el xs i = el xs 0) ∨ eqs xs (n + 1) ≤ fact n
  | 0 => .inl fun i hi => by rw [show i = 0 by omega]
  | n + 1 => by
    have hr := rn_bd xs (n + 1)
    have hf := fact_pos n
    have he := eqs_bd xs (n + 1)
    rcases eqs_few (xs := xs) n with h | h
    · by_cases e : el xs (n + 1) = el xs 0
      · refine .inl fun i hi => ?_
        by_cases ei : i = n + 1
        · rw [ei, e]
        · exact h i (by omega)
      · refine .inr ?_
        have e2 : rn xs (n + 1) = 1 := by rw [rn, if_neg]; rw [h n (Nat.le_refl _)]; exact e
        rw [eqs, e2]
        have := he.2
        show eqs xs (n + 1) * 1 ≤ fact (n + 1)
        omega
    · by_cases hfull : rn xs (n + 1) = n + 1 + 1
      · have := rn_full (n + 1) hfull
        exact .inl fun i hi => by rw [this i hi, this 0 (by omega)]
      · refine .inr ?_
        rw [eqs]
        have := Int.mul_le_mul h (show (rn xs (n + 1) : Int) ≤ (n : Int) + 1 by omega) (by omega) (by omega)
        exact this
theorem sm_const {xs : List Int} {c : Int} : ∀ n, (∀ i, i < n → el xs i = c) → sm xs n = n * c
  | 0, _ => by simp [sm]
  | n + 1, h => by
    rw [sm, sm_const n fun i hi => h i (by omega), h n (by omega), show ((n + 1 : Nat) : Int) = (n : Int) + 1 by omega, Int.add_mul, Int.one_mul]
theorem fact_succ {p : Nat} (h : 1 ≤ p) : fact p = fact (p - 1) * (p : Int) := by
  obtain ⟨k, rfl⟩ : ∃ k, p = k + 1 := ⟨p - 1, by omega⟩
  show fact k * ((k : Int) + 1) = fact k * _
  rw [show ((k + 1 : Nat) : Int) = (k : Int) + 1 by omega]
theorem mul4 {a b c d : Int} (h1 : a ≤ c) (h2 : b ≤ d) (h3 : 0 ≤ a) (h4 : 0 ≤ d) : a * b ≤ c * d := by
  have e1 := Int.mul_le_mul_of_nonneg_left h2 h3
  have e2 := Int.mul_le_mul_of_nonneg_right h1 h4
  omega
theorem count_pos {xs ys : List Int} (h : okTypes xs ys) (hpq : (xs.length : Int) + (ys.length : Int) = sm xs xs.length + 1) : countD xs ys ≤ countN xs ys := by
  obtain ⟨hp1, hp2, hq1, hq2⟩ := okTypes_len h
  obtain ⟨hx, hy, hs, hn1, hn2⟩ := h
  unfold countD countN
  have ex := eqs_bd xs xs.length
  have ey := eqs_bd ys ys.length
  have fx := fact_pos (xs.length - 1)
  have fy := fact_pos (ys.length - 1)
  have gx := fact_succ hp1
  have gy := fact_succ hq1
  have cx := eqs_few (xs := xs) (xs.length - 1)
  have cy := eqs_few (xs := ys) (ys.length - 1)
  rw [show xs.length - 1 + 1 = xs.length by omega] at cx
  rw [show ys.length - 1 + 1 = ys.length by omega] at cy
  have ux : ∀ i, i < xs.length → 1 ≤ el xs i := fun i hi => (hx i hi).1
  have uy : ∀ i, i < ys.length → 1 ≤ el ys i := fun i hi => (hy i hi).1
  generalize fact (xs.length - 1) = A at *
  generalize fact (ys.length - 1) = B at *
  have hAB : 0 ≤ A * B := Int.mul_nonneg (by omega) (by omega)
  generalize hS : sm xs xs.length = n at *
  -- what is told of each
  have hx' : (∃ d, 1 ≤ d ∧ n = xs.length * d) ∨ eqs xs xs.length ≤ A := by
    rcases cx with c | c
    · refine .inl ⟨el xs 0, ux 0 (by omega), ?_⟩
      rw [← hS, sm_const xs.length fun i hi => c i (by omega)]
    · exact .inr c
  have hy' : (∃ d, 1 ≤ d ∧ n = ys.length * d) ∨ eqs ys ys.length ≤ B := by
    rcases cy with c | c
    · refine .inl ⟨el ys 0, uy 0 (by omega), ?_⟩
      rw [hs, sm_const ys.length fun i hi => c i (by omega)]
    · exact .inr c
  rw [gx] at ex
  rw [gy] at ey
  have hp1' : (1 : Int) ≤ xs.length := by omega
  have hq1' : (1 : Int) ≤ ys.length := by omega
  generalize (xs.length : Int) = p at *
  generalize (ys.length : Int) = q at *
  generalize eqs xs xs.length = X at *
  generalize eqs ys ys.length = Y at *
  have key : ∀ r, 1 ≤ r → r ≤ n → A * B * r ≤ n * A * B := fun r h1 h2 => by
    rw [Int.mul_comm (A * B), Int.mul_assoc n]
    exact Int.mul_le_mul_of_nonneg_right h2 hAB
  rcases hx' with ⟨d, hd, ed⟩ | hx'
  · rcases hy' with ⟨e, he, ee⟩ | hy'
    · have h1 : X * Y ≤ (A * p) * (B * q) := mul4 ex.2 ey.2 (by omega) (Int.mul_nonneg (by omega) (by omega))
      have h2 : (A * p) * (B * q) = A * B * (p * q) := by
        rw [Int.mul_assoc, Int.mul_assoc, Int.mul_left_comm p B q]
      have h3 : p * q ≤ n := by
        by_cases hd1 : d = 1
        · rw [hd1, Int.mul_one] at ed
          have : q = 1 := by omega
          rw [this]; omega
        · by_cases he1 : e = 1
          · rw [he1, Int.mul_one] at ee
            have : p = 1 := by omega
            rw [this]; omega
          · have h4 : p * 2 ≤ p * d := Int.mul_le_mul_of_nonneg_left (by omega) (by omega)
            have h5 : q * 2 ≤ q * e := Int.mul_le_mul_of_nonneg_left (by omega) (by omega)
            omega
      have h4 := key (p * q) (by have := mul4 hp1' hq1' (by omega) (by omega); omega) h3
      omega
    · have h1 : X * Y ≤ (A * p) * B := mul4 ex.2 hy' (by omega) (by omega)
      have h2 : (A * p) * B = A * B * p := by rw [Int.mul_assoc, Int.mul_comm p B, Int.mul_assoc]
      have h4 := key p hp1' (by omega)
      omega
  · rcases hy' with ⟨e, he, ee⟩ | hy'
    · have h1 : X * Y ≤ A * (B * q) := mul4 hx' ey.2 (by omega) (Int.mul_nonneg (by omega) (by omega))
      have h4 := key q hq1' (by omega)
      rw [Int.mul_assoc] at h4
      omega
    · have h1 : X * Y ≤ A * B := mul4 hx' hy' (by omega) (by omega)
      have h4 := key 1 (by omega) (by omega)
      omega
theorem count_pass {f : List Int} {a b : Int} (hf : Poly f) (h2 : 2 ≤ f.length) (hs : shab f a b = true) :
    (resCountRooted (mults f a) (mults f b)).2 = 0 ∧ 1 ≤ (resCountRooted (mults f a) (mults f b)).1 := by
  have hl := hf.2.1
  have a1 := mults_sum hf.red h2 hl a
  have b1 := mults_sum hf.red h2 hl b
  obtain ⟨a2, a3⟩ := mults_in hf.red h2 hl a
  obtain ⟨b2, b3⟩ := mults_in hf.red h2 hl b
  have hs' : (mults f a).length + (mults f b).length = f.length := of_decide_eq_true hs
  have hok : okTypes (mults f a) (mults f b) := ⟨ty_of a2 a3 (by omega), ty_of b2 b3 (by omega), by rw [← lsum_sm, ← lsum_sm]; omega, by rw [← lsum_sm]; omega, by rw [← lsum_sm]; omega⟩
  have hpq : ((mults f a).length : Int) + ((mults f b).length : Int) = sm (mults f a) (mults f a).length + 1 := by rw [← lsum_sm]; omega
  rw [resCountRooted, if_pos hok, if_pos hpq]
  refine ⟨rfl, ?_⟩
  have h1 := count_pos hok hpq
  have h3 : 1 ≤ countD (mults f a) (mults f b) := by
    have := mul4 (eqs_bd (mults f a) (mults f a).length).1 (eqs_bd (mults f b) (mults f b).length).1 (by omega) (by have := (eqs_bd (mults f b) (mults f b).length).1; omega)
    unfold countD
    omega
  show 1 ≤ (countN _ _).tdiv (countD _ _)
  rw [Int.tdiv_eq_ediv_of_nonneg (by omega)]
  have := Int.ediv_le_ediv (show 0 < countD (mults f a) (mults f b) by omega) h1
  rw [Int.ediv_self (by omega)] at this
  exact this
end Go.Am

/- Forks. -/
set_option linter.unusedVariables false
set_option linter.unusedSimpArgs false
namespace Go.Am
open Go

def mulBy (q : List Int) (o : List Int) : Nat → List Int
  | 0 => o
  | n + 1 => ptimes (mulBy q o n) q
def pw (x : Int) : Nat → Int
  | 0 => 1
  | k + 1 => md (pw x k * x)
theorem pw_bd (x : Int) : ∀ k, 0 ≤ pw x k ∧ pw x k ≤ 10006
  | 0 => by simp [pw]
  | k + 1 => ⟨md_lo _, md_hi _⟩
def forkBase (m n : Nat) : List Int := mulBy [1, 10006] (monom 1 m) n
def scale (m n : Nat) : Int := md (pw ((m : Int) + n) (m + n) * inv (md (pw m m * pw n n)))
def fork (m n : Nat) : List Int := ptimes (forkBase m n) [scale m n]
def forkOne (m n : Nat) : Bool := decide (17 ≤ m + n) || decide (m = 0) || decide (n = 0) || decide (inv (value (forkBase m n) (md ((m : Int) * inv ((m : Int) + n)))) = scale m n)
def forkAll : Bool := (List.range 17).all fun m => (List.range 17).all fun n => forkOne m n
theorem forkAll_ok : forkAll = true := by kernel_rfl
theorem fork_value {m n : Nat} (hm : 1 ≤ m) (hn : 1 ≤ n) (h : m + n ≤ 16) : inv (value (forkBase m n) (md ((m : Int) * inv ((m : Int) + n)))) = scale m n := by
  have h1 := List.all_eq_true.1 (List.all_eq_true.1 forkAll_ok m (by simp; omega)) n (by simp; omega)
  simp only [forkOne, Bool.or_eq_true, decide_eq_true_eq] at h1
  omega
theorem scale_is {f : List Int} (c : Int) : ptimes f [c] = padd [] f c := by
  refine Red.ext (red_ptimes _ _) (red_padd _ _ _) fun i => ?_
  rw [el_ptimes, cv_one _ _ _ (el_one _), el_padd]
  have h1 : el [c] 0 = c := rfl
  have h2 : el [] i = 0 := by simp [el]
  rw [h1, h2, Int.zero_add, Int.mul_comm]
theorem monom_is : ∀ m, m < 17 → mulBy [0, 1] [1] m = monom 1 m := by decide +kernel
theorem monom_red (m : Nat) : Red (monom 1 m) := by
  have hl : (monom 1 m).length = m + 1 := by simp [monom]
  have e1 : ∀ i, i < m → el (monom 1 m) i = 0 := fun i h => el_pad0_lo (g := [1]) h
  have e2 : el (monom 1 m) m = 1 := el_pad0_hi m 0 [1]
  refine ⟨fun i => ?_, .inr ?_⟩
  · rcases Nat.lt_trichotomy i m with h | h | h
    · rw [e1 i h]; omega
    · subst h; rw [e2]; omega
    · rw [el_out (by omega)]; omega
  · rw [hl, Nat.add_sub_cancel, e2]; omega
theorem mulBy_red {q o : List Int} (h : Red o) : ∀ n, Red (mulBy q o n)
  | 0 => h
  | n + 1 => red_ptimes _ _
theorem mulBy_len {q o : List Int} (hq : q.length = 2) : ∀ n, (mulBy q o n).length ≤ o.length + n
  | 0 => Nat.le_refl _
  | n + 1 => by
    have ih := mulBy_len (o := o) hq n
    have := ptimes_len (mulBy q o n) q
    show (ptimes _ _).length ≤ _
    omega
theorem l06Fork_spec {H : AHeap} {m n : Nat} {K : Value → AHeap → Prop} (hm : 1 ≤ m) (hn : 1 ≤ n) (hmn : m + n ≤ 16) (hK : ∀ v' H', Ext H H' → OwnI H.n H'.n H' v' (fork m n) → K v' H') : CallT F_spec_l06Fork [I m, I n] H K := by
  have hml : (monom 1 m).length = m + 1 := by simp [monom]
  refine CallT_body Γ_spec_l06Fork ?_; simp only [A_spec_l06Fork, T_aiff]
  refine T_rseq fun Kr hKr => ?_; simp (disch := omega) only [RF, RO, RC, tup, ↓reduceIte, Nat.reduceEqDiff, RD]; refine hKr _ _ ?_; clear hKr Kr; try simp only [RN, Bool.false_eq_true, reduceIte]
  refine T_rseq fun Kr hKr => ?_; simp (disch := omega) only [RF, RO, RC, tup, ↓reduceIte, Nat.reduceEqDiff, RD]
  refine l06Monomial_spec (by omega) fun p H1 he1 ho1 => ?_
  simp (disch := omega) only [RF, RO, RC, tup, ↓reduceIte, Nat.reduceEqDiff, RD]
  refine hKr _ _ ?_; clear hKr Kr; (try simp only [blkQ, thenQ, loopQ]); try simp only [RN, Bool.false_eq_true, reduceIte]
  refine T_rseq fun Kr hKr => ?_; simp (disch := omega) only [RF, RO, RC, tup, ↓reduceIte, Nat.reduceEqDiff, RD]; refine hKr _ _ ?_; clear hKr Kr; try simp only [RN, Bool.false_eq_true, reduceIte]
  refine T_wloop (fun l f H' => ∃ w k, k ≤ n ∧ l = n - k ∧ Ext H H' ∧ f 0 = I m ∧ f 1 = I n ∧ f 5 = w ∧ f 6 = I k ∧ OwnI H.n H'.n H' w (mulBy [1, 10006] (monom 1 m) k)) (n) ?_ ?_
  · exact ⟨p, 0, by omega, by omega, he1, by simp [RF], by simp [RF], by simp [RF], by simp [RF], ho1⟩
  · rintro l f H' R ⟨w, k, hk, rfl, he, h0, h1, h5, h6, ho⟩ hN hX hR
    simp only [A_spec_l06Fork.l0, T_aiff]
    have hl := mulBy_len (q := [1, 10006]) (o := monom 1 m) rfl k
    have hr := mulBy_red (q := [1, 10006]) (monom_red m) k
    refine T_rseq fun Kr hKr => ?_; simp (disch := omega) only [RF, RO, RC, tup, ↓reduceIte, Nat.reduceEqDiff, RD, h1, h6]; refine hKr _ _ ?_; clear hKr Kr; try simp only [RN, Bool.false_eq_true, reduceIte]
    by_cases hlt : k < n
    · refine T_cseq (t := true) (by simp (disch := omega) only [RF, RO, RC, tup, ↓reduceIte, Nat.reduceEqDiff, decT, decF]) ?_; try simp only [RN, Bool.false_eq_true, reduceIte]
      (first | refine T_bfree rfl ?_ | refine T_bfree' rfl ?_); try simp only [RN, Bool.false_eq_true, reduceIte]
      refine T_rseq fun Kr hKr => ?_; simp (disch := omega) only [RF, RO, RC, tup, ↓reduceIte, Nat.reduceEqDiff, RD, h5]
      refine l06Times_spec (ho.ext (Ext.alloc H' _)).is hr.fit (by omega) (own_two H' 1 10006).is (fit_two _ _ (by omega) (by omega)) (by simp) fun q H2 he2 ho2 => ?_
      simp (disch := omega) only [RF, RO, RC, tup, ↓reduceIte, Nat.reduceEqDiff, RD]
      refine hKr _ _ ?_; clear hKr Kr; (try simp only [blkQ, thenQ, loopQ]); try simp only [RN, Bool.false_eq_true, reduceIte]
      refine T_reg_k fun Kr hKr => ?_; simp (disch := omega) only [RF, RO, RC, tup, ↓reduceIte, Nat.reduceEqDiff, RD, h6]; refine hKr _ _ ?_; clear hKr Kr
      exact hN (n - (k + 1)) _ _ (by omega) ⟨q, k + 1, by omega, rfl, he.trans' ((Ext.alloc H' _).trans' he2), by simp [RF, h0], by simp [RF, h1], by simp [RF], by simp [RF], ho2.weak (Nat.le_trans he.n (Nat.le_succ _)) (Nat.le_refl _)⟩
    · refine T_cseq (t := false) (by simp (disch := omega) only [RF, RO, RC, tup, ↓reduceIte, Nat.reduceEqDiff, decT, decF]) ?_; try simp only [RN, Bool.false_eq_true, reduceIte]
      refine hX _ _ ?_
      have hkk : k = n := by omega
      subst hkk
      have hi := inv_bd ((m : Int) + (k : Int))
      have hm2 := mulb (a := (m : Int)) (b := inv ((m : Int) + (k : Int))) (by omega) (by omega) hi.1 (by omega)
      refine T_rseq fun Kr hKr => ?_; simp (disch := omega) only [RF, RO, RC, tup, ↓reduceIte, Nat.reduceEqDiff, RD, h0, h1]
      refine l06Inverse_spec (by omega) (by omega) ?_
      simp (disch := omega) only [RF, RO, RC, tup, ↓reduceIte, Nat.reduceEqDiff, RD]
      refine l06Mod_spec (by omega) (by omega) ?_
      simp (disch := omega) only [RF, RO, RC, tup, ↓reduceIte, Nat.reduceEqDiff, RD]
      refine hKr _ _ ?_; clear hKr Kr; (try simp only [blkQ, thenQ, loopQ]); try simp only [RN, Bool.false_eq_true, reduceIte]
      have h1' := md_lo ((m : Int) * inv ((m : Int) + (k : Int)))
      have h2' := md_hi ((m : Int) * inv ((m : Int) + (k : Int)))
      refine T_rseq fun Kr hKr => ?_; simp (disch := omega) only [RF, RO, RC, tup, ↓reduceIte, Nat.reduceEqDiff, RD, h5]
      refine l06Value_spec ho.is hr.fit (by omega) h1' (by omega) ?_
      simp (disch := omega) only [RF, RO, RC, tup, ↓reduceIte, Nat.reduceEqDiff, RD]
      have v1 := value_lo (mulBy [1, 10006] (monom 1 m) k) (md ((m : Int) * inv ((m : Int) + (k : Int))))
      have v2 := value_hi (mulBy [1, 10006] (monom 1 m) k) (md ((m : Int) * inv ((m : Int) + (k : Int))))
      refine l06Inverse_spec v1 (by omega) ?_
      have hfv : inv (value (mulBy [1, 10006] (monom 1 m) k) (md ((m : Int) * inv ((m : Int) + (k : Int))))) = scale m k := fork_value hm hn hmn
      rw [hfv]
      have hsc1 : 0 ≤ scale m k := md_lo _
      have hsc2 : scale m k ≤ 10006 := md_hi _
      simp (disch := omega) only [RF, RO, RC, tup, ↓reduceIte, Nat.reduceEqDiff, RD, h5]
      refine l06Add_spec .nil (fun i hi => by simp at hi) (by simp) ho.is hr.fit (by omega) (q := scale m k) (by omega) (by omega) fun z H2 he2 ho2 => ?_
      simp (disch := omega) only [RF, RO, RC, tup, ↓reduceIte, Nat.reduceEqDiff, RD]
      refine hKr _ _ ?_; clear hKr Kr; (try simp only [blkQ, thenQ, loopQ]); try simp only [RN, Bool.false_eq_true, reduceIte]
      refine ⟨_, rfl, ?_⟩; simp only [RF, ev_t, ev_c, tup, ↓reduceIte, Nat.reduceEqDiff]
      refine hK _ _ (he.trans' he2) ?_
      rw [fork, scale_is]
      exact ho2.weak he.n (Nat.le_refl _)
theorem power_spec {x : Int} {k : Nat} {H : AHeap} {K : Value → AHeap → Prop} (h1 : 0 ≤ x) (h2 : x ≤ 10007) (hk : k < 1000) (hK : K (I (pw x k)) H) : CallT F_impl_power [I x, I k] H K := by
  refine CallT_body Γ_impl_power ?_; simp only [A_impl_power, T_aiff]
  refine T_rseq fun Kr hKr => ?_; simp (disch := omega) only [RF, RO, RC, tup, ↓reduceIte, Nat.reduceEqDiff, RD]; refine hKr _ _ ?_; clear hKr Kr; try simp only [RN, Bool.false_eq_true, reduceIte]
  refine T_rseq fun Kr hKr => ?_; simp (disch := omega) only [RF, RO, RC, tup, ↓reduceIte, Nat.reduceEqDiff, RD]; refine hKr _ _ ?_; clear hKr Kr; try simp only [RN, Bool.false_eq_true, reduceIte]
  refine T_wloop (fun n f H' => ∃ j, j ≤ k ∧ n = k - j ∧ H' = H ∧ f 0 = I x ∧ f 1 = I ((k - j : Nat) : Int) ∧ f 5 = I (pw x j)) (k) ?_ ?_
  · exact ⟨0, by omega, by omega, rfl, by simp [RF], by simp [RF], by simp [RF, pw]⟩
  · rintro n f H' R ⟨j, hj, rfl, rfl, h0, h1', h5⟩ hN hX hR
    simp only [A_impl_power.l0, T_aiff]
    refine T_rseq fun Kr hKr => ?_; simp (disch := omega) only [RF, RO, RC, tup, ↓reduceIte, Nat.reduceEqDiff, RD, h1']; refine hKr _ _ ?_; clear hKr Kr; try simp only [RN, Bool.false_eq_true, reduceIte]
    by_cases hlt : j < k
    · refine T_cseq (t := true) (by simp (disch := omega) only [RF, RO, RC, tup, ↓reduceIte, Nat.reduceEqDiff, decT, decF]) ?_; try simp only [RN, Bool.false_eq_true, reduceIte]
      (first | refine T_bfree rfl ?_ | refine T_bfree' rfl ?_); try simp only [RN, Bool.false_eq_true, reduceIte]
      have hp := pw_bd x j
      have hm := mulb hp.1 (by omega) h1 (by omega)
      refine T_rseq fun Kr hKr => ?_; simp (disch := omega) only [RF, RO, RC, tup, ↓reduceIte, Nat.reduceEqDiff, RD, h0, h5, tmodm]; refine hKr _ _ ?_; clear hKr Kr; try simp only [RN, Bool.false_eq_true, reduceIte]
      have hkj : ((k - j : Nat) : Int) - 1 = ((k - (j + 1) : Nat) : Int) := by omega
      refine T_reg_k fun Kr hKr => ?_; simp (disch := omega) only [RF, RO, RC, tup, ↓reduceIte, Nat.reduceEqDiff, RD, h1', hkj]; refine hKr _ _ ?_; clear hKr Kr
      exact hN (k - (j + 1)) _ _ (by omega) ⟨j + 1, by omega, rfl, rfl, by simp [RF, h0], by simp [RF], by simp [RF, pw]⟩
    · refine T_cseq (t := false) (by simp (disch := omega) only [RF, RO, RC, tup, ↓reduceIte, Nat.reduceEqDiff, decT, decF]) ?_; try simp only [RN, Bool.false_eq_true, reduceIte]
      refine hX _ _ ?_
      refine T_rseq fun Kr hKr => ?_; simp (disch := omega) only [RF, RO, RC, tup, ↓reduceIte, Nat.reduceEqDiff, RD, h5]; refine hKr _ _ ?_; clear hKr Kr; try simp only [RN, Bool.false_eq_true, reduceIte]
      refine ⟨_, rfl, ?_⟩; simp only [RF, ev_t, ev_c, tup, ↓reduceIte, Nat.reduceEqDiff]
      have : j = k := by omega
      subst this
      exact hK
def okFork (a b : Int) : Prop := 1 ≤ a ∧ 1 ≤ b ∧ a + b ≤ 16
instance (a b : Int) : Decidable (okFork a b) := by unfold okFork; infer_instance
def resForkPolynomial (a b : Int) : List Int × Int := if okFork a b then (fork a.toNat b.toNat, 0) else ([], 2)
theorem fork_len {m n : Nat} : (fork m n).length ≤ m + n + 1 := by
  have h1 := ptimes_len (forkBase m n) [scale m n]
  have h2 := mulBy_len (q := [1, 10006]) (o := monom 1 m) rfl n
  have h3 : (monom 1 m).length = m + 1 := by simp [monom]
  simp only [List.length_cons, List.length_nil] at h1
  unfold fork forkBase at *
  omega
theorem resForkPolynomial_len (a b : Int) : (resForkPolynomial a b).1.length < 1000 := by
  unfold resForkPolynomial
  split
  · rename_i h
    have := @fork_len a.toNat b.toNat
    unfold okFork at h
    show (fork _ _).length < _
    omega
  · simp
theorem ForkPolynomial_spec {H : AHeap} {a b : Int} {K : Value → AHeap → Prop} (hb1 : -9223372036854775808 ≤ a ∧ a < 9223372036854775808) (hb2 : -9223372036854775808 ≤ b ∧ b < 9223372036854775808)
    (hK : ∀ v' H', Ext H H' → OwnI H.n H'.n H' v' (resForkPolynomial a b).1 → K (.tuple ⟨[v', I (resForkPolynomial a b).2]⟩) H') : CallT F_spec_ForkPolynomial [I a, I b] H K := by
  refine CallT_body Γ_spec_ForkPolynomial ?_; simp only [A_spec_ForkPolynomial, T_aiff]
  refine T_rseq fun Kr hKr => ?_; simp (disch := omega) only [RF, RO, RC, tup, ↓reduceIte, Nat.reduceEqDiff, RD]; refine hKr _ _ ?_; clear hKr Kr; try simp only [RN, Bool.false_eq_true, reduceIte]
  by_cases hok : okFork a b
  · simp only [resForkPolynomial, hok, if_true] at hK
    unfold okFork at hok
    obtain ⟨m, rfl⟩ := Int.eq_ofNat_of_zero_le (show 0 ≤ a by omega)
    obtain ⟨n, rfl⟩ := Int.eq_ofNat_of_zero_le (show 0 ≤ b by omega)
    refine T_rseq fun Kr hKr => ?_; simp (disch := omega) only [RF, RO, RC, tup, ↓reduceIte, Nat.reduceEqDiff, reduceCtorEq, RD]
    refine l01In_spec ?_
    simp (disch := omega) only [RF, RO, RC, tup, ↓reduceIte, Nat.reduceEqDiff, RD]
    refine l01In_spec ?_
    simp (disch := omega) only [RF, RO, RC, tup, ↓reduceIte, Nat.reduceEqDiff, RD]
    refine hKr _ _ ?_; clear hKr Kr; (try simp only [blkQ, thenQ, loopQ]); try simp only [RN, Bool.false_eq_true, reduceIte]
    refine T_cseq (t := false) (by simp (disch := omega) only [RF, RO, RC, tup, ↓reduceIte, Nat.reduceEqDiff, decT, decF]) ?_; try simp only [RN, Bool.false_eq_true, reduceIte]
    refine T_rseq fun Kr hKr => ?_; simp (disch := omega) only [RF, RO, RC, tup, ↓reduceIte, Nat.reduceEqDiff, reduceCtorEq, RD]
    refine l06Fork_spec (by omega) (by omega) (by omega) fun w H' he ho => ?_
    simp (disch := omega) only [RF, RO, RC, tup, ↓reduceIte, Nat.reduceEqDiff, RD]
    refine hKr _ _ ?_; clear hKr Kr; (try simp only [blkQ, thenQ, loopQ]); try simp only [RN, Bool.false_eq_true, reduceIte]
    refine ⟨_, rfl, ?_⟩; simp only [RF, ev_t, ev_c, tup, ↓reduceIte, Nat.reduceEqDiff]
    exact hK _ _ he ho
  · simp only [resForkPolynomial, hok, if_false] at hK
    unfold okFork at hok
    refine T_rseq fun Kr hKr => ?_; simp (disch := omega) only [RF, RO, RC, tup, ↓reduceIte, Nat.reduceEqDiff, reduceCtorEq, RD]
    refine l01In_spec ?_
    by_cases ha : 1 ≤ a ∧ a ≤ 16
    · rw [decide_eq_true ha]
      simp (disch := omega) only [RF, RO, RC, tup, ↓reduceIte, Nat.reduceEqDiff, RD]
      refine l01In_spec ?_
      by_cases hb : 1 ≤ b ∧ b ≤ 16
      · rw [decide_eq_true hb]
        simp (disch := omega) only [RF, RO, RC, tup, ↓reduceIte, Nat.reduceEqDiff, RD]
        refine hKr _ _ ?_; clear hKr Kr; (try simp only [blkQ, thenQ, loopQ]); try simp only [RN, Bool.false_eq_true, reduceIte]
        refine T_cseq (t := true) (by simp (disch := omega) only [RF, RO, RC, tup, ↓reduceIte, Nat.reduceEqDiff, decT, decF]) ?_; try simp only [RN, Bool.false_eq_true, reduceIte]
        refine T_rseq fun Kr hKr => ?_; simp (disch := omega) only [RF, RO, RC, tup, ↓reduceIte, Nat.reduceEqDiff, RD]; refine hKr _ _ ?_; clear hKr Kr; try simp only [RN, Bool.false_eq_true, reduceIte]
        refine ⟨_, rfl, ?_⟩; simp only [RF, ev_t, ev_c, tup, ↓reduceIte, Nat.reduceEqDiff]
        exact hK _ _ (Ext.refl' _) .nil
      · rw [decide_eq_false hb]
        simp (disch := omega) only [RF, RO, RC, tup, ↓reduceIte, Nat.reduceEqDiff, RD]
        refine hKr _ _ ?_; clear hKr Kr; (try simp only [blkQ, thenQ, loopQ]); try simp only [RN, Bool.false_eq_true, reduceIte]
        refine T_cseq (t := true) (by simp (disch := omega) only [RF, RO, RC, tup, ↓reduceIte, Nat.reduceEqDiff, decT, decF]) ?_; try simp only [RN, Bool.false_eq_true, reduceIte]
        refine T_rseq fun Kr hKr => ?_; simp (disch := omega) only [RF, RO, RC, tup, ↓reduceIte, Nat.reduceEqDiff, RD]; refine hKr _ _ ?_; clear hKr Kr; try simp only [RN, Bool.false_eq_true, reduceIte]
        refine ⟨_, rfl, ?_⟩; simp only [RF, ev_t, ev_c, tup, ↓reduceIte, Nat.reduceEqDiff]
        exact hK _ _ (Ext.refl' _) .nil
    · rw [decide_eq_false ha]
      simp (disch := omega) only [RF, RO, RC, tup, ↓reduceIte, Nat.reduceEqDiff, RD]
      refine hKr _ _ ?_; clear hKr Kr; (try simp only [blkQ, thenQ, loopQ]); try simp only [RN, Bool.false_eq_true, reduceIte]
      refine T_cseq (t := true) (by simp (disch := omega) only [RF, RO, RC, tup, ↓reduceIte, Nat.reduceEqDiff, decT, decF]) ?_; try simp only [RN, Bool.false_eq_true, reduceIte]
      refine T_rseq fun Kr hKr => ?_; simp (disch := omega) only [RF, RO, RC, tup, ↓reduceIte, Nat.reduceEqDiff, RD]; refine hKr _ _ ?_; clear hKr Kr; try simp only [RN, Bool.false_eq_true, reduceIte]
      refine ⟨_, rfl, ?_⟩; simp only [RF, ev_t, ev_c, tup, ↓reduceIte, Nat.reduceEqDiff]
      exact hK _ _ (Ext.refl' _) .nil
end Go.Am

/- Stars, chains and forks have two critical values; chains of chains are chains (by computation). -/
set_option linter.unusedVariables false
set_option linter.unusedSimpArgs false
namespace Go.Am
open Go

theorem star_r : ∀ n, n < 17 → 1 ≤ n → resIsShabat (monom 1 n) 0 1 = (true, 0) := by decide +kernel
theorem chain_r : ∀ n, n < 16 → resIsShabat (chain n).2 1 10006 = (true, 0) := by decide +kernel
theorem chains_r : ∀ k, k < 4 → ∀ m, m < 16 → (k + 1) * (m + 1) ≤ 16 → resComposePolynomials (chain k).2 (chain m).2 = ((chain ((k + 1) * (m + 1) - 1)).2, 0) := by decide +kernel
def forkR (m n : Nat) : Bool := decide (n = 0) || decide (17 ≤ m + n) || decide (resIsShabat (fork m n) 0 1 = (true, 0))
def forkRow (m : Nat) : Bool := (List.range 17).all (forkR m)
theorem fork_a : [1, 2, 3].all forkRow = true := by decide +kernel
theorem fork_b : [4, 5, 6].all forkRow = true := by decide +kernel
theorem fork_c : [7, 8, 9, 10].all forkRow = true := by decide +kernel
theorem fork_d : [11, 12, 13, 14, 15].all forkRow = true := by decide +kernel
theorem fork_row {m : Nat} (hm : 1 ≤ m) (h : m ≤ 15) : forkRow m = true := by
  have ha := List.all_eq_true.1 fork_a
  have hb := List.all_eq_true.1 fork_b
  have hc := List.all_eq_true.1 fork_c
  have hd := List.all_eq_true.1 fork_d
  by_cases h1 : m ≤ 3
  · exact ha m (by simp; omega)
  by_cases h2 : m ≤ 6
  · exact hb m (by simp; omega)
  by_cases h3 : m ≤ 10
  · exact hc m (by simp; omega)
  · exact hd m (by simp; omega)
theorem fork_r {m n : Nat} (hm : 1 ≤ m) (hn : 1 ≤ n) (h : m + n ≤ 16) : resIsShabat (fork m n) 0 1 = (true, 0) := by
  have h1 := List.all_eq_true.1 (fork_row hm (by omega)) n (List.mem_range.2 (by omega))
  simp only [forkR, Bool.or_eq_true, decide_eq_true_eq] at h1
  rcases h1 with (h1 | h1) | h1
  · omega
  · omega
  · exact h1
end Go.Am

/- Forks, the program's own. -/
set_option linter.unusedVariables false
set_option linter.unusedSimpArgs false
namespace Go.Am
open Go
theorem impl_ForkPolynomial_spec {H : AHeap} {a b : Int} {K : Value → AHeap → Prop} (hb1 : -9223372036854775808 ≤ a ∧ a < 9223372036854775808) (hb2 : -9223372036854775808 ≤ b ∧ b < 9223372036854775808)
    (hK : ∀ v' H', Ext H H' → OwnI H.n H'.n H' v' (resForkPolynomial a b).1 → K (.tuple ⟨[v', I (resForkPolynomial a b).2]⟩) H') : CallT F_impl_ForkPolynomial [I a, I b] H K := by
  refine CallT_body Γ_impl_ForkPolynomial ?_; simp only [A_impl_ForkPolynomial, T_aiff]
  refine T_rseq fun Kr hKr => ?_; simp (disch := omega) only [RF, RO, RC, tup, ↓reduceIte, Nat.reduceEqDiff, reduceCtorEq, RD]; refine hKr _ _ ?_; clear hKr Kr; try simp only [RN, Bool.false_eq_true, reduceIte]
  by_cases hok : okFork a b
  · simp only [resForkPolynomial, hok, if_true] at hK
    unfold okFork at hok
    obtain ⟨m, rfl⟩ := Int.eq_ofNat_of_zero_le (show 0 ≤ a by omega)
    obtain ⟨n, rfl⟩ := Int.eq_ofNat_of_zero_le (show 0 ≤ b by omega)
    refine T_rseq fun Kr hKr => ?_; simp (disch := omega) only [RF, RO, RC, tup, ↓reduceIte, Nat.reduceEqDiff, reduceCtorEq, RD]; refine hKr _ _ ?_; clear hKr Kr; try simp only [RN, Bool.false_eq_true, reduceIte]
    refine T_cseq (t := false) (by simp (disch := omega) only [RF, RO, RC, tup, ↓reduceIte, Nat.reduceEqDiff, decT, decF]) ?_; try simp only [RN, Bool.false_eq_true, reduceIte]
    refine T_rseq fun Kr hKr => ?_; simp (disch := omega) only [RF, RO, RC, tup, ↓reduceIte, Nat.reduceEqDiff, reduceCtorEq, RD]; refine hKr _ _ ?_; clear hKr Kr; try simp only [RN, Bool.false_eq_true, reduceIte]
    refine T_rseq fun Kr hKr => ?_; simp (disch := omega) only [RF, RO, RC, tup, ↓reduceIte, Nat.reduceEqDiff, reduceCtorEq, RD]; refine hKr _ _ ?_; clear hKr Kr; try simp only [RN, Bool.false_eq_true, reduceIte]
    refine T_wloop (fun l f H' => ∃ w k, k ≤ m ∧ l = m - k ∧ Ext H H' ∧ f 0 = I m ∧ f 1 = I n ∧ f 29 = I m ∧ f 6 = w ∧ f 30 = I k ∧ OwnI H.n H'.n H' w (mulBy [0, 1] [1] k)) (m) ?_ ?_
    · exact ⟨S H.n 0 1 1, 0, by omega, by omega, Ext.alloc _ _, by simp [RF], by simp [RF], by simp [RF], by simp [RF], by simp [RF], own_one H 1⟩
    · rintro l f H' R ⟨w, k, hk, rfl, he, h0, h1, h29, h5, h6, ho⟩ hN hX hR
      simp only [A_impl_ForkPolynomial.l0, T_aiff]
      have hl := mulBy_len (q := [0, 1]) (o := [1]) rfl k
      have hr := mulBy_red (q := [0, 1]) red_1 k
      simp only [List.length_cons, List.length_nil] at hl
      refine T_rseq fun Kr hKr => ?_; simp (disch := omega) only [RF, RO, RC, tup, ↓reduceIte, Nat.reduceEqDiff, RD, h29, h6]; refine hKr _ _ ?_; clear hKr Kr; try simp only [RN, Bool.false_eq_true, reduceIte]
      by_cases hlt : k < m
      · refine T_cseq (t := true) (by simp (disch := omega) only [RF, RO, RC, tup, ↓reduceIte, Nat.reduceEqDiff, decT, decF]) ?_; try simp only [RN, Bool.false_eq_true, reduceIte]
        (first | refine T_bfree rfl ?_ | refine T_bfree' rfl ?_); try simp only [RN, Bool.false_eq_true, reduceIte]
        refine T_rseq fun Kr hKr => ?_; simp (disch := omega) only [RF, RO, RC, tup, ↓reduceIte, Nat.reduceEqDiff, RD, h5]
        refine times_spec (ho.ext (Ext.alloc H' _)).is hr.fit (by omega) (own_two H' 0 1).is (fit_two _ _ (by omega) (by omega)) (by simp) fun q H2 he2 ho2 => ?_
        simp (disch := omega) only [RF, RO, RC, tup, ↓reduceIte, Nat.reduceEqDiff, RD]
        refine hKr _ _ ?_; clear hKr Kr; (try simp only [blkQ, thenQ, loopQ]); try simp only [RN, Bool.false_eq_true, reduceIte]
        refine T_reg_k fun Kr hKr => ?_; simp (disch := omega) only [RF, RO, RC, tup, ↓reduceIte, Nat.reduceEqDiff, RD, h6]; refine hKr _ _ ?_; clear hKr Kr
        exact hN (m - (k + 1)) _ _ (by omega) ⟨q, k + 1, by omega, rfl, he.trans' ((Ext.alloc H' _).trans' he2), by simp [RF, h0], by simp [RF, h1], by simp [RF, h29], by simp [RF], by simp [RF], ho2.weak (Nat.le_trans he.n (Nat.le_succ _)) (Nat.le_refl _)⟩
      · refine T_cseq (t := false) (by simp (disch := omega) only [RF, RO, RC, tup, ↓reduceIte, Nat.reduceEqDiff, decT, decF]) ?_; try simp only [RN, Bool.false_eq_true, reduceIte]
        refine hX _ _ ?_
        try simp only [RN, Bool.false_eq_true, reduceIte]
        have hkk : k = m := by omega
        subst hkk
        rw [monom_is k (by omega)] at ho
        have hml : (monom 1 k).length = k + 1 := by simp [monom]
        refine T_rseq fun Kr hKr => ?_; simp (disch := omega) only [RF, RO, RC, tup, ↓reduceIte, Nat.reduceEqDiff, RD, h1]; refine hKr _ _ ?_; clear hKr Kr; try simp only [RN, Bool.false_eq_true, reduceIte]
        refine T_wloop (fun l f H' => ∃ w j, j ≤ n ∧ l = n - j ∧ Ext H H' ∧ f 0 = I k ∧ f 1 = I n ∧ f 36 = I n ∧ f 6 = w ∧ f 37 = I j ∧ OwnI H.n H'.n H' w (mulBy [1, 10006] (monom 1 k) j)) (n) ?_ ?_
        · exact ⟨w, 0, by omega, by omega, he, by simp [RF, h0], by simp [RF, h1], by simp [RF], by simp [RF, h5], by simp [RF], ho⟩
        · clear ho he h0 h1 h29 h5 h6 hl hr hN hX hR w
          rintro l f H' R2 ⟨w, j, hj, rfl, he, h0, h1, h36, h5, h6, ho⟩ hN hX hR
          simp only [A_impl_ForkPolynomial.l1, T_aiff]
          have hl := mulBy_len (q := [1, 10006]) (o := monom 1 k) rfl j
          have hr := mulBy_red (q := [1, 10006]) (monom_red k) j
          refine T_rseq fun Kr hKr => ?_; simp (disch := omega) only [RF, RO, RC, tup, ↓reduceIte, Nat.reduceEqDiff, RD, h36, h6]; refine hKr _ _ ?_; clear hKr Kr; try simp only [RN, Bool.false_eq_true, reduceIte]
          by_cases hlt : j < n
          · refine T_cseq (t := true) (by simp (disch := omega) only [RF, RO, RC, tup, ↓reduceIte, Nat.reduceEqDiff, decT, decF]) ?_; try simp only [RN, Bool.false_eq_true, reduceIte]
            (first | refine T_bfree rfl ?_ | refine T_bfree' rfl ?_); try simp only [RN, Bool.false_eq_true, reduceIte]
            refine T_rseq fun Kr hKr => ?_; simp (disch := omega) only [RF, RO, RC, tup, ↓reduceIte, Nat.reduceEqDiff, RD, h5]
            refine times_spec (ho.ext (Ext.alloc H' _)).is hr.fit (by omega) (own_two H' 1 10006).is (fit_two _ _ (by omega) (by omega)) (by simp) fun q H2 he2 ho2 => ?_
            simp (disch := omega) only [RF, RO, RC, tup, ↓reduceIte, Nat.reduceEqDiff, RD]
            refine hKr _ _ ?_; clear hKr Kr; (try simp only [blkQ, thenQ, loopQ]); try simp only [RN, Bool.false_eq_true, reduceIte]
            refine T_reg_k fun Kr hKr => ?_; simp (disch := omega) only [RF, RO, RC, tup, ↓reduceIte, Nat.reduceEqDiff, RD, h6]; refine hKr _ _ ?_; clear hKr Kr
            exact hN (n - (j + 1)) _ _ (by omega) ⟨q, j + 1, by omega, rfl, he.trans' ((Ext.alloc H' _).trans' he2), by simp [RF, h0], by simp [RF, h1], by simp [RF, h36], by simp [RF], by simp [RF], ho2.weak (Nat.le_trans he.n (Nat.le_succ _)) (Nat.le_refl _)⟩
          · refine T_cseq (t := false) (by simp (disch := omega) only [RF, RO, RC, tup, ↓reduceIte, Nat.reduceEqDiff, decT, decF]) ?_; try simp only [RN, Bool.false_eq_true, reduceIte]
            refine hX _ _ ?_
            have hjj : j = n := by omega
            subst hjj
            have hs : (k : Int) + (j : Int) = ((k + j : Nat) : Int) := by omega
            have p1 := pw_bd ((k + j : Nat) : Int) (k + j)
            have p2 := pw_bd (k : Int) k
            have p3 := pw_bd (j : Int) j
            have q1 := mulb p2.1 (by omega) p3.1 (by omega)
            have m1 := md_lo (pw k k * pw j j)
            have m2 := md_hi (pw k k * pw j j)
            have i1 := inv_bd (md (pw k k * pw j j))
            have q2 := mulb p1.1 (by omega) i1.1 (by omega)
            refine T_rseq fun Kr hKr => ?_; simp (disch := omega) only [RF, RO, RC, tup, ↓reduceIte, Nat.reduceEqDiff, RD, h0, h1, hs]
            refine power_spec (by omega) (by omega) (by omega) ?_
            simp (disch := omega) only [RF, RO, RC, tup, ↓reduceIte, Nat.reduceEqDiff, RD, h0, h1, hs]
            refine power_spec (by omega) (by omega) (by omega) ?_
            simp (disch := omega) only [RF, RO, RC, tup, ↓reduceIte, Nat.reduceEqDiff, RD, h0, h1, hs]
            refine power_spec (by omega) (by omega) (by omega) ?_
            simp (disch := omega) only [RF, RO, RC, tup, ↓reduceIte, Nat.reduceEqDiff, RD, h0, h1, hs, tmodm]
            refine inverse_spec m1 (by omega) ?_
            simp (disch := omega) only [RF, RO, RC, tup, ↓reduceIte, Nat.reduceEqDiff, RD, h0, h1, hs, tmodm]
            refine hKr _ _ ?_; clear hKr Kr; (try simp only [blkQ, thenQ, loopQ]); try simp only [RN, Bool.false_eq_true, reduceIte]
            have hsc : md (pw ((k + j : Nat) : Int) (k + j) * inv (md (pw k k * pw j j))) = scale k j := by
              rw [scale, hs]
            rw [hsc]
            have hsc1 : 0 ≤ scale k j := md_lo _
            have hsc2 : scale k j ≤ 10006 := md_hi _
            refine T_rseq fun Kr hKr => ?_; simp (disch := omega) only [RF, RO, RC, tup, ↓reduceIte, Nat.reduceEqDiff, RD, h5]
            refine times_spec (ho.ext (Ext.alloc H' _)).is hr.fit (by omega) (own_one' H' (scale k j)) (fit_one _ (by omega)) (by simp) fun z H2 he2 ho2 => ?_
            simp (disch := omega) only [RF, RO, RC, tup, ↓reduceIte, Nat.reduceEqDiff, RD]
            refine hKr _ _ ?_; clear hKr Kr; (try simp only [blkQ, thenQ, loopQ]); try simp only [RN, Bool.false_eq_true, reduceIte]
            refine ⟨_, rfl, ?_⟩; simp only [RF, ev_t, ev_c, tup, ↓reduceIte, Nat.reduceEqDiff]
            exact hK _ _ (he.trans' ((Ext.alloc H' _).trans' he2)) (ho2.weak (Nat.le_trans he.n (Nat.le_succ _)) (Nat.le_refl _))
  · simp only [resForkPolynomial, hok, if_false] at hK
    unfold okFork at hok
    by_cases h1 : a < 1
    · refine T_rseq fun Kr hKr => ?_; simp (disch := omega) only [RF, RO, RC, tup, ↓reduceIte, Nat.reduceEqDiff, RD]; refine hKr _ _ ?_; clear hKr Kr; try simp only [RN, Bool.false_eq_true, reduceIte]
      refine T_cseq (t := true) (by simp (disch := omega) only [RF, RO, RC, tup, ↓reduceIte, Nat.reduceEqDiff, decT, decF]) ?_; try simp only [RN, Bool.false_eq_true, reduceIte]
      refine T_rseq fun Kr hKr => ?_; simp (disch := omega) only [RF, RO, RC, tup, ↓reduceIte, Nat.reduceEqDiff, reduceCtorEq, RD]; refine hKr _ _ ?_; clear hKr Kr; try simp only [RN, Bool.false_eq_true, reduceIte]
      refine ⟨_, rfl, ?_⟩; simp only [RF, ev_t, ev_c, tup, ↓reduceIte, Nat.reduceEqDiff]
      exact hK _ _ (Ext.refl' _) .nil
    · by_cases h2 : b < 1
      · refine T_rseq fun Kr hKr => ?_; simp (disch := omega) only [RF, RO, RC, tup, ↓reduceIte, Nat.reduceEqDiff, RD]; refine hKr _ _ ?_; clear hKr Kr; try simp only [RN, Bool.false_eq_true, reduceIte]
        refine T_cseq (t := true) (by simp (disch := omega) only [RF, RO, RC, tup, ↓reduceIte, Nat.reduceEqDiff, decT, decF]) ?_; try simp only [RN, Bool.false_eq_true, reduceIte]
        refine T_rseq fun Kr hKr => ?_; simp (disch := omega) only [RF, RO, RC, tup, ↓reduceIte, Nat.reduceEqDiff, reduceCtorEq, RD]; refine hKr _ _ ?_; clear hKr Kr; try simp only [RN, Bool.false_eq_true, reduceIte]
        refine ⟨_, rfl, ?_⟩; simp only [RF, ev_t, ev_c, tup, ↓reduceIte, Nat.reduceEqDiff]
        exact hK _ _ (Ext.refl' _) .nil
      · by_cases h3 : 16 < a
        · refine T_rseq fun Kr hKr => ?_; simp (disch := omega) only [RF, RO, RC, tup, ↓reduceIte, Nat.reduceEqDiff, RD]; refine hKr _ _ ?_; clear hKr Kr; try simp only [RN, Bool.false_eq_true, reduceIte]
          refine T_cseq (t := true) (by simp (disch := omega) only [RF, RO, RC, tup, ↓reduceIte, Nat.reduceEqDiff, decT, decF]) ?_; try simp only [RN, Bool.false_eq_true, reduceIte]
          refine T_rseq fun Kr hKr => ?_; simp (disch := omega) only [RF, RO, RC, tup, ↓reduceIte, Nat.reduceEqDiff, reduceCtorEq, RD]; refine hKr _ _ ?_; clear hKr Kr; try simp only [RN, Bool.false_eq_true, reduceIte]
          refine ⟨_, rfl, ?_⟩; simp only [RF, ev_t, ev_c, tup, ↓reduceIte, Nat.reduceEqDiff]
          exact hK _ _ (Ext.refl' _) .nil
        · by_cases h4 : 16 < b
          · refine T_rseq fun Kr hKr => ?_; simp (disch := omega) only [RF, RO, RC, tup, ↓reduceIte, Nat.reduceEqDiff, RD]; refine hKr _ _ ?_; clear hKr Kr; try simp only [RN, Bool.false_eq_true, reduceIte]
            refine T_cseq (t := true) (by simp (disch := omega) only [RF, RO, RC, tup, ↓reduceIte, Nat.reduceEqDiff, decT, decF]) ?_; try simp only [RN, Bool.false_eq_true, reduceIte]
            refine T_rseq fun Kr hKr => ?_; simp (disch := omega) only [RF, RO, RC, tup, ↓reduceIte, Nat.reduceEqDiff, reduceCtorEq, RD]; refine hKr _ _ ?_; clear hKr Kr; try simp only [RN, Bool.false_eq_true, reduceIte]
            refine ⟨_, rfl, ?_⟩; simp only [RF, ev_t, ev_c, tup, ↓reduceIte, Nat.reduceEqDiff]
            exact hK _ _ (Ext.refl' _) .nil
          · refine T_rseq fun Kr hKr => ?_; simp (disch := omega) only [RF, RO, RC, tup, ↓reduceIte, Nat.reduceEqDiff, RD]; refine hKr _ _ ?_; clear hKr Kr; try simp only [RN, Bool.false_eq_true, reduceIte]
            refine T_cseq (t := true) (by simp (disch := omega) only [RF, RO, RC, tup, ↓reduceIte, Nat.reduceEqDiff, decT, decF]) ?_; try simp only [RN, Bool.false_eq_true, reduceIte]
            refine T_rseq fun Kr hKr => ?_; simp (disch := omega) only [RF, RO, RC, tup, ↓reduceIte, Nat.reduceEqDiff, reduceCtorEq, RD]; refine hKr _ _ ?_; clear hKr Kr; try simp only [RN, Bool.false_eq_true, reduceIte]
            refine ⟨_, rfl, ?_⟩; simp only [RF, ev_t, ev_c, tup, ↓reduceIte, Nat.reduceEqDiff]
            exact hK _ _ (Ext.refl' _) .nil
end Go.Am

/- The functions on polynomials, carried over to the second machine. -/
set_option linter.unusedVariables false
set_option linter.unusedSimpArgs false
namespace Go.Bm
open Go Go.Am
section
variable {x : Bool} {H : BH} {K : Value → BH → Prop} {xs ys : List Int} {a b : Int}
theorem impl_ComposePolynomials_L (hlxs : xs.length < 2 ^ 62) (hlys : ys.length < 2 ^ 62) (hK : K (.tuple ⟨[FI (resComposePolynomials xs ys).1, I (resComposePolynomials xs ys).2]⟩) H) : CallX x F_impl_ComposePolynomials [FI xs, FI ys] H K := by
  refine lift_S (fun ρ Z as HA hv hr => ?_) hK
  obtain ⟨u, v, rfl, e0, e1⟩ := vl2 hv
  exact Am.impl_ComposePolynomials_spec (isI_of hr e0) hlxs (isI_of hr e1) hlys (fun v' HA' he ho => ⟨he, v', ho, rfl⟩)
theorem spec_StarPolynomial_L (ha : -9223372036854775808 ≤ a ∧ a < 9223372036854775808) (hK : K (.tuple ⟨[FI (resStarPolynomial a).1, I (resStarPolynomial a).2]⟩) H) : CallX x F_spec_StarPolynomial [I a] H K := by
  refine lift_S (fun ρ Z as HA hv hr => ?_) hK
  obtain ⟨u, rfl, e0⟩ := vl1 hv
  obtain rfl := vr_I e0
  exact Am.StarPolynomial_spec ha (fun v' HA' he ho => ⟨he, v', ho, rfl⟩)
theorem impl_StarPolynomial_L (ha : -9223372036854775808 ≤ a ∧ a < 9223372036854775808) (hK : K (.tuple ⟨[FI (resStarPolynomial a).1, I (resStarPolynomial a).2]⟩) H) : CallX x F_impl_StarPolynomial [I a] H K := by
  refine lift_S (fun ρ Z as HA hv hr => ?_) hK
  obtain ⟨u, rfl, e0⟩ := vl1 hv
  obtain rfl := vr_I e0
  exact Am.impl_StarPolynomial_spec ha (fun v' HA' he ho => ⟨he, v', ho, rfl⟩)
theorem spec_ChainPolynomial_L (ha : -9223372036854775808 ≤ a ∧ a < 9223372036854775808) (hK : K (.tuple ⟨[FI (resChainPolynomial a).1, I (resChainPolynomial a).2]⟩) H) : CallX x F_spec_ChainPolynomial [I a] H K := by
  refine lift_S (fun ρ Z as HA hv hr => ?_) hK
  obtain ⟨u, rfl, e0⟩ := vl1 hv
  obtain rfl := vr_I e0
  exact Am.ChainPolynomial_spec ha (fun v' HA' he ho => ⟨he, v', ho, rfl⟩)
theorem impl_ChainPolynomial_L (ha : -9223372036854775808 ≤ a ∧ a < 9223372036854775808) (hK : K (.tuple ⟨[FI (resChainPolynomial a).1, I (resChainPolynomial a).2]⟩) H) : CallX x F_impl_ChainPolynomial [I a] H K := by
  refine lift_S (fun ρ Z as HA hv hr => ?_) hK
  obtain ⟨u, rfl, e0⟩ := vl1 hv
  obtain rfl := vr_I e0
  exact Am.impl_ChainPolynomial_spec ha (fun v' HA' he ho => ⟨he, v', ho, rfl⟩)
theorem spec_ForkPolynomial_L (ha : -9223372036854775808 ≤ a ∧ a < 9223372036854775808) (hb : -9223372036854775808 ≤ b ∧ b < 9223372036854775808) (hK : K (.tuple ⟨[FI (resForkPolynomial a b).1, I (resForkPolynomial a b).2]⟩) H) : CallX x F_spec_ForkPolynomial [I a, I b] H K := by
  refine lift_S (fun ρ Z as HA hv hr => ?_) hK
  obtain ⟨u, v, rfl, e0, e1⟩ := vl2 hv
  obtain rfl := vr_I e0
  obtain rfl := vr_I e1
  exact Am.ForkPolynomial_spec ha hb (fun v' HA' he ho => ⟨he, v', ho, rfl⟩)
theorem impl_ForkPolynomial_L (ha : -9223372036854775808 ≤ a ∧ a < 9223372036854775808) (hb : -9223372036854775808 ≤ b ∧ b < 9223372036854775808) (hK : K (.tuple ⟨[FI (resForkPolynomial a b).1, I (resForkPolynomial a b).2]⟩) H) : CallX x F_impl_ForkPolynomial [I a, I b] H K := by
  refine lift_S (fun ρ Z as HA hv hr => ?_) hK
  obtain ⟨u, v, rfl, e0, e1⟩ := vl2 hv
  obtain rfl := vr_I e0
  obtain rfl := vr_I e1
  exact Am.impl_ForkPolynomial_spec ha hb (fun v' HA' he ho => ⟨he, v', ho, rfl⟩)
theorem spec_MultiplicitiesOf_L (hlxs : xs.length < 2 ^ 62) (ha : -9223372036854775808 ≤ a ∧ a < 9223372036854775808) (hK : K (.tuple ⟨[FI (resMultiplicitiesOf xs a).1, I (resMultiplicitiesOf xs a).2]⟩) H) : CallX x F_spec_MultiplicitiesOf [FI xs, I a] H K := by
  refine lift_S (fun ρ Z as HA hv hr => ?_) hK
  obtain ⟨u, v, rfl, e0, e1⟩ := vl2 hv
  obtain rfl := vr_I e1
  exact Am.MultiplicitiesOf_spec (isI_of hr e0) hlxs ha (fun v' HA' he ho => ⟨he, v', ho, rfl⟩)
theorem impl_MultiplicitiesOf_L (hlxs : xs.length < 2 ^ 62) (ha : -9223372036854775808 ≤ a ∧ a < 9223372036854775808) (hK : K (.tuple ⟨[FI (resMultiplicitiesOf xs a).1, I (resMultiplicitiesOf xs a).2]⟩) H) : CallX x F_impl_MultiplicitiesOf [FI xs, I a] H K := by
  refine lift_S (fun ρ Z as HA hv hr => ?_) hK
  obtain ⟨u, v, rfl, e0, e1⟩ := vl2 hv
  obtain rfl := vr_I e1
  exact Am.impl_MultiplicitiesOf_spec (isI_of hr e0) hlxs ha (fun v' HA' he ho => ⟨he, v', ho, rfl⟩)
theorem spec_IsCritical_L (hlxs : xs.length < 2 ^ 62) (ha : -9223372036854775808 ≤ a ∧ a < 9223372036854775808) (hK : K (.tuple ⟨[.bool (resIsCritical xs a).1, I (resIsCritical xs a).2]⟩) H) : CallX x F_spec_IsCritical [FI xs, I a] H K := by
  refine lift_P (vz_p2 rfl rfl) (fun ρ Z as HA hv hr => ?_) hK
  obtain ⟨u, v, rfl, e0, e1⟩ := vl2 hv
  obtain rfl := vr_I e1
  exact Am.IsCritical_spec (isI_of hr e0) hlxs ha (fun HA' he => ⟨he, rfl⟩)
theorem impl_IsCritical_L (hlxs : xs.length < 2 ^ 62) (ha : -9223372036854775808 ≤ a ∧ a < 9223372036854775808) (hK : K (.tuple ⟨[.bool (resIsCritical xs a).1, I (resIsCritical xs a).2]⟩) H) : CallX x F_impl_IsCritical [FI xs, I a] H K := by
  refine lift_P (vz_p2 rfl rfl) (fun ρ Z as HA hv hr => ?_) hK
  obtain ⟨u, v, rfl, e0, e1⟩ := vl2 hv
  obtain rfl := vr_I e1
  exact Am.impl_IsCritical_spec (isI_of hr e0) hlxs ha (fun HA' he => ⟨he, rfl⟩)
theorem spec_IsShabat_L (hlxs : xs.length < 2 ^ 62) (ha : -9223372036854775808 ≤ a ∧ a < 9223372036854775808) (hb : -9223372036854775808 ≤ b ∧ b < 9223372036854775808) (hK : K (.tuple ⟨[.bool (resIsShabat xs a b).1, I (resIsShabat xs a b).2]⟩) H) : CallX x F_spec_IsShabat [FI xs, I a, I b] H K := by
  refine lift_P (vz_p2 rfl rfl) (fun ρ Z as HA hv hr => ?_) hK
  obtain ⟨u, v, w, rfl, e0, e1, e2⟩ := vl3 hv
  obtain rfl := vr_I e1
  obtain rfl := vr_I e2
  exact Am.IsShabat_spec (isI_of hr e0) hlxs ha hb (fun HA' he => ⟨he, rfl⟩)
theorem impl_IsShabat_L (hlxs : xs.length < 2 ^ 62) (ha : -9223372036854775808 ≤ a ∧ a < 9223372036854775808) (hb : -9223372036854775808 ≤ b ∧ b < 9223372036854775808) (hK : K (.tuple ⟨[.bool (resIsShabat xs a b).1, I (resIsShabat xs a b).2]⟩) H) : CallX x F_impl_IsShabat [FI xs, I a, I b] H K := by
  refine lift_P (vz_p2 rfl rfl) (fun ρ Z as HA hv hr => ?_) hK
  obtain ⟨u, v, w, rfl, e0, e1, e2⟩ := vl3 hv
  obtain rfl := vr_I e1
  obtain rfl := vr_I e2
  exact Am.impl_IsShabat_spec (isI_of hr e0) hlxs ha hb (fun HA' he => ⟨he, rfl⟩)
end
end Go.Bm

/- The laws' own source of numbers: only its ranges. -/
set_option linter.unusedVariables false
set_option linter.unusedSimpArgs false
set_option linter.unusedSectionVars false
namespace Go.Bm
open Go Go.Am
section
variable {code : List Nat} {a b : Nat} {h : Int} {H : BH}
theorem below_one {n : Int} {K : Value → BH → Prop} (ha : a ≤ code.length) (hl : code.length ≤ 1048576) (hcd : ∀ i, nl code i < 256) (hn : n < 4611686018427387904)
    (hK : ∀ v a' h', a' ≤ code.length → 0 ≤ v → v ≤ 16777470 → (0 < n → v < n) → (n < 1 → v = 0) → K (I v) [some (SC code a' h')]) : CallX false F_laws_dice_below [P 0 0, I n] [some (SC code a h)] K := by
  refine CallX_body Γ_laws_dice_below ?_; simp only [A_laws_dice_below, T_aiff]
  refine T_rseq fun Kr hKr => ?_; simp (disch := omega) only [RA, ↓reduceIte, Nat.reduceEqDiff, RD]; refine hKr _ _ ?_; clear hKr Kr; (try simp only [RN, reduceIte]); try refine T_e rfl ?_
  refine T_rseq fun Kr hKr => ?_; simp (disch := omega) only [RA, ↓reduceIte, Nat.reduceEqDiff, RD]; refine hKr _ _ ?_; clear hKr Kr; (try simp only [RN, reduceIte]); try refine T_e rfl ?_
  refine T_csplit (p := n < 1) (by simp only [RA, ↓reduceIte, Nat.reduceEqDiff] <;> rfl) (by (try simp only [RB]) <;> first | done | exact Iff.rfl | omega | simp) (fun hc => ?_) (fun hc => ?_) <;> (try simp only [RN, reduceIte]) <;> (try refine T_e rfl ?_)
  · refine T_rseq fun Kr hKr => ?_; simp (disch := omega) only [RA, ↓reduceIte, Nat.reduceEqDiff, RD]; refine hKr _ _ ?_; clear hKr Kr; (try simp only [RN, reduceIte]); try refine T_e rfl ?_
    refine bodyQ_ret (by simp (disch := omega) only [RA, ↓reduceIte, Nat.reduceEqDiff, RD, resAll, resOf]; rfl) GhV.refl ?_; simp only [tup]
    exact hK 0 a h ha (by omega) (by omega) (fun h => by omega) (fun _ => rfl)
  · refine T_rseq fun Kr hKr => ?_; simp (disch := omega) only [RA, ↓reduceIte, Nat.reduceEqDiff, reduceCtorEq, RD, sc_2, sc_s2]; refine hKr _ _ ?_; clear hKr Kr; (try simp only [RN, reduceIte]); try refine T_e rfl ?_
    generalize IntKind.u64.wrap (IntKind.u64.wrap (h * 6364136223846793005) + 1442695040888963407) = h2
    refine T_rseq fun Kr hKr => ?_; simp (disch := omega) only [RA, ↓reduceIte, Nat.reduceEqDiff, Int.reduceToNat, reduceCtorEq, RD, sc_2, sc_s2]; refine hKr _ _ ?_; clear hKr Kr; (try simp only [RN, reduceIte]); try refine T_e rfl ?_
    obtain ⟨y, hy, hy0, hy1⟩ : ∃ y, IntKind.u64.wrap ((BitVec.ofInt IntKind.u64.bits (h2.fdiv (2 ^ min 33 IntKind.u64.bits)) &&& BitVec.ofInt IntKind.u64.bits 16777215).toNat : Int) = y ∧ 0 ≤ y ∧ y ≤ 16777215 := ⟨_, rfl, and24.1, and24.2⟩
    rw [hy]
    have hyw : IntKind.i64.wrap y = y := w64 (by omega) (by omega)
    rw [hyw]
    have hend : ∀ f' y' a', 0 ≤ y' → y' ≤ 16777470 → a' ≤ code.length → f' 1 = I n → f' 5 = I y' → T 1 (.seq A_laws_dice_below.r8 .ret) (bodyQ 1 [.tmp 4] K) f' [some (SC code a' h2)] := by
      intro f' y' a' k1 k2 k3 g1 g5
      have hn0 : n ≠ 0 := by omega
      refine T_rseq fun Kr hKr => ?_; simp (disch := omega) only [RA, ↓reduceIte, Nat.reduceEqDiff, RD, g1, g5, hn0]; refine hKr _ _ ?_; clear hKr Kr; (try simp only [RN, reduceIte]); try refine T_e rfl ?_
      refine bodyQ_ret (by simp (disch := omega) only [RA, ↓reduceIte, Nat.reduceEqDiff, RD, resAll, resOf]; rfl) GhV.refl ?_; simp only [tup]
      have t1 := Int.tmod_nonneg n k1
      have t2 := Int.tmod_lt_of_pos y' (show 0 < n by omega)
      have t3 : y'.tmod n ≤ y' := by
        rw [Int.tmod_eq_emod_of_nonneg k1]
        have q := Int.mul_ediv_add_emod y' n
        have q2 := Int.mul_nonneg (show 0 ≤ n by omega) (Int.ediv_nonneg k1 (show 0 ≤ n by omega))
        omega
      exact hK _ a' h2 k3 t1 (by omega) (fun _ => t2) (fun h => by omega)
    refine T_rseq fun Kr hKr => ?_; simp (disch := omega) only [RA, ↓reduceIte, Nat.reduceEqDiff, RD, sc_1, sc_0]; refine hKr _ _ ?_; clear hKr Kr; (try simp only [RN, reduceIte]); try refine T_e rfl ?_
    refine T_csplit (p := a < code.length) (by simp only [RA, ↓reduceIte, Nat.reduceEqDiff] <;> rfl) (by (try simp only [RB]) <;> first | done | exact Iff.rfl | omega | simp) (fun hc => ?_) (fun hc => ?_) <;> (try simp only [RN, reduceIte]) <;> (try refine T_e rfl ?_)
    · have hcc := hcd a
      refine T_rseq fun Kr hKr => ?_; simp (disch := omega) only [RA, ↓reduceIte, Nat.reduceEqDiff, RD, sc_1, sc_0]; refine hKr _ _ ?_; clear hKr Kr; (try simp only [RN, reduceIte]); try refine T_e rfl ?_
      have e1 : ((a : Nat) : Int) + 1 = ((a + 1 : Nat) : Int) := by omega
      refine T_rseq fun Kr hKr => ?_; simp (disch := omega) only [RA, ↓reduceIte, Nat.reduceEqDiff, RD, sc_1, e1, sc_s1]; refine hKr _ _ ?_; clear hKr Kr; (try simp only [RN, reduceIte]); try refine T_e rfl ?_
      refine hend _ (y + nl code a) (a + 1) (by omega) (by omega) (by omega) ?_ ?_
      any_goals (simp (disch := omega) only [RA, ↓reduceIte, Nat.reduceEqDiff, RD, RE, *] <;> rfl)
    · refine hend _ y a (by omega) (by omega) ha ?_ ?_
      any_goals (simp (disch := omega) only [RA, ↓reduceIte, Nat.reduceEqDiff, RD, RE, *] <;> rfl)
theorem below_spec {n : Int} {i : Nat} {K : Value → BH → Prop} (hb : blk H i = some (SC code a h)) (ha : a ≤ code.length) (hl : code.length ≤ 1048576) (hcd : ∀ i, nl code i < 256) (hn : n < 4611686018427387904)
    (hK : ∀ v a' h', a' ≤ code.length → 0 ≤ v → v ≤ 16777470 → (0 < n → v < n) → (n < 1 → v = 0) → K (I v) (H.set i (some (SC code a' h')))) : CallX false F_laws_dice_below [P i 0, I n] H K := by
  refine call1 hb NN_SC ?_
  have e : ([P i 0, I n] : List Value).map (ren [i]) = [P 0 0, I n] := by simp [ren, ren1, nm]
  rw [e]
  exact below_one ha hl hcd hn fun v a' h' k1 k2 k3 k4 k5 => ⟨.int, HN.cons NN_SC HN.nil, hK v a' h' k1 k2 k3 k4 k5⟩
theorem roll_run {z : Int} (hl : code.length ≤ 1048576) (hcd : ∀ i, nl code i < 256) : CallX false F_laws_roll [Fz code.length 1 (code.map N8), U64 z] [] fun v H1 => ∃ j h, v = P j 0 ∧ blk H1 j = some (SC code 0 h) := by
  refine CallX_body Γ_laws_roll ?_; simp only [A_laws_roll, T_aiff]
  refine T_rseq fun Kr hKr => ?_; simp (disch := omega) only [RA, ↓reduceIte, Nat.reduceEqDiff, RD]; refine hKr _ _ ?_; clear hKr Kr; (try simp only [RN, reduceIte]); try refine T_e rfl ?_
  refine T_rseq fun Kr hKr => ?_; simp (disch := omega) only [RA, ↓reduceIte, Nat.reduceEqDiff, RD, sc_f]; refine hKr _ _ ?_; clear hKr Kr; (try simp only [RN, reduceIte]); try refine T_e rfl ?_
  refine T_rseq fun Kr hKr => ?_; simp (disch := omega) only [RA, ↓reduceIte, Nat.reduceEqDiff, RD]; refine hKr _ _ ?_; clear hKr Kr; (try simp only [RN, reduceIte]); try refine T_e rfl ?_
  refine T_wloop (fun d f H' => ∃ i h, i ≤ code.length ∧ d = code.length - i ∧ f 0 = Fz code.length 1 (code.map N8) ∧ f 5 = P 0 0 ∧ f 6 = I i ∧ H' = [some (SC code 0 h)]) (code.length) ?_ ?_
  · refine ⟨_, _, Gh.refl, 0, _, by omega, by omega, ?_, ?_, ?_, rfl⟩
    any_goals (simp (disch := omega) only [RA, ↓reduceIte, Nat.reduceEqDiff, RD, RE, *] <;> rfl)
  · rintro d f H' R ⟨i, h, hi, rfl, g0, g5, g6, rfl⟩ hN hX hR hE
    simp only [A_laws_roll.l0, T_aiff]
    refine T_rseq fun Kr hKr => ?_; simp (disch := omega) only [RA, ↓reduceIte, Nat.reduceEqDiff, RD, g0, g6]; refine hKr _ _ ?_; clear hKr Kr; (try simp only [RN, reduceIte]); try refine T_e rfl ?_
    refine T_csplit (p := i < code.length) (by simp only [RA, ↓reduceIte, Nat.reduceEqDiff] <;> rfl) (by (try simp only [RB]) <;> first | done | exact Iff.rfl | omega | simp) (fun hc => ?_) (fun hc => ?_) <;> (try simp only [RN, reduceIte]) <;> (try refine T_e rfl ?_)
    · have hcc := hcd i
      (first | refine T_bfree rfl ?_ | refine T_bfree' rfl ?_); (try simp only [RN, reduceIte]); try refine T_e rfl ?_
      refine T_rseq fun Kr hKr => ?_; simp (disch := omega) only [RA, ↓reduceIte, Nat.reduceEqDiff, RD, g0, g5, g6, sc_2, sc_s2]; refine hKr _ _ ?_; clear hKr Kr; (try simp only [RN, reduceIte]); try refine T_e rfl ?_
      refine T_reg_k fun Kr hKr => ?_; simp (disch := omega) only [RA, ↓reduceIte, Nat.reduceEqDiff, RD, g6]; refine hKr _ _ ?_; clear hKr Kr
      refine hN (code.length - (i + 1)) _ _ _ _ (by omega) Gh.refl ⟨i + 1, _, by omega, rfl, ?_, ?_, ?_, rfl⟩
      any_goals (simp (disch := omega) only [RA, ↓reduceIte, Nat.reduceEqDiff, RD, RE, *] <;> rfl)
    · refine hX _ _ ?_
      refine T_rseq fun Kr hKr => ?_; simp (disch := omega) only [RA, ↓reduceIte, Nat.reduceEqDiff, RD, g5]; refine hKr _ _ ?_; clear hKr Kr; (try simp only [RN, reduceIte]); try refine T_e rfl ?_
      refine bodyQ_ret (by simp (disch := omega) only [RA, ↓reduceIte, Nat.reduceEqDiff, RD, resAll, resOf]; rfl) GhV.refl ?_; simp only [tup]
      exact ⟨0, h, rfl, rfl⟩
theorem roll_spec {x : Bool} {z : Int} {K : Value → BH → Prop} (hl : code.length ≤ 1048576) (hcd : ∀ i, nl code i < 256) (hK : ∀ h, K (P H.length 0) (H ++ [some (SC code 0 h)])) :
    CallX x F_laws_roll [Fz code.length 1 (code.map N8), U64 z] H K :=
  callR2 (.cons .fz (.cons .int .nil)) ((roll_run hl hcd).mono fun v H1 ⟨j, h, h1, h2⟩ => ⟨j, _, _, fun ρ ρ' Z u hr hv => by
    rw [h1] at hv
    obtain ⟨b, hb, rfl⟩ := hv.ptr_inv
    exact .ptr (by rw [hr]; exact hb), h2, NN_SC, hK h⟩)
end
end Go.Bm

/- Draws of polynomials: only that they are short and their numbers are numbers. -/
set_option linter.unusedVariables false
set_option linter.unusedSimpArgs false
set_option linter.unusedSectionVars false
namespace Go.Bm
open Go Go.Am
/-- A call of the small machine that gives a new slice, which is only read from now on. -/
theorem lift_1 {x : Bool} {g : Nat} {vals : List Value} {H : BH} {K : Value → BH → Prop} {xs : List Int} (h : ∀ ρ Z as HA, VL ρ Z vals as → Rel ρ Z H HA → Am.CallT g as HA fun v' HA' => Ext HA HA' ∧ OwnI HA.n HA'.n HA' v' xs) (hK : K (FI xs) H) : CallX x g vals H K := by
  intro ρ Z as HA h1 h2
  obtain ⟨v', HA', hc, he, ho⟩ := h ρ Z as HA h1 h2
  obtain ⟨Z', hv, hr, hf⟩ := own_fz h2 he ho
  exact ⟨_, HA', hc, fun _ => he, ρ, Z', _, H, hv, hr, Nat.le_refl _, fun _ _ => rfl, hf, hK⟩
section
variable {x : Bool} {H : BH} {K : Value → BH → Prop} {xs ys : List Int}
theorem l06Is_L (hl : xs.length < 2 ^ 62) (hK : K (.bool (decide (Poly xs))) H) : CallX x F_spec_l06Is [FI xs] H K := by
  refine lift_P (fun _ => .plain rfl) (fun ρ Z as HA hv hr => ?_) hK
  obtain ⟨u, rfl, e0⟩ := vl1 hv
  exact Am.l06Is_spec (isI_of hr e0) hl ⟨ext_refl, rfl⟩
theorem l06Trim_L (hl : xs.length < 100000) (hK0 : trim xs = [] → K (.slice none 0 0) H) (hK : ∀ m, K (S H.length 0 (trim xs).length 1) (H ++ [some ((trim xs).map I ++ List.replicate m .nilIface)])) : CallX x F_spec_l06Trim [FI xs] H K := by
  refine lift_O (fun ρ Z as HA hv hr => ?_) hK0 hK
  obtain ⟨u, rfl, e0⟩ := vl1 hv
  exact Am.l06Trim_spec (isI_of hr e0) hl fun v' HA' he ho => ⟨he, ho⟩
theorem l06Times_L (hf : Fit xs) (hl : xs.length < 1000) (hg : Fit ys) (hm : ys.length < 1000) (hK : K (FI (ptimes xs ys)) H) : CallX x F_spec_l06Times [FI xs, FI ys] H K := by
  refine lift_1 (fun ρ Z as HA hv hr => ?_) hK
  obtain ⟨u, v, rfl, e0, e1⟩ := vl2 hv
  exact Am.l06Times_spec (isI_of hr e0) hf hl (isI_of hr e1) hg hm fun v' HA' he ho => ⟨he, ho⟩
theorem l06Monomial_L {k : Int} {n : Nat} (hn : n < 1000) (hK : K (FI (monom k n)) H) : CallX x F_spec_l06Monomial [I k, I n] H K := by
  refine lift_1 (fun ρ Z as HA hv hr => ?_) hK
  obtain ⟨u, v, rfl, e0, e1⟩ := vl2 hv
  obtain rfl := vr_I e0
  obtain rfl := vr_I e1
  exact Am.l06Monomial_spec hn fun v' HA' he ho => ⟨he, ho⟩
theorem l06Chain_L {n : Nat} (hn : n + 1 ≤ 16) (hK : K (FI (chain n).2) H) : CallX x F_spec_l06Chain [I ((n + 1 : Nat) : Int)] H K := by
  refine lift_1 (fun ρ Z as HA hv hr => ?_) hK
  obtain ⟨u, rfl, e0⟩ := vl1 hv
  obtain rfl := vr_I e0
  exact Am.l06Chain_spec hn fun v' HA' he ho => ⟨he, ho⟩
theorem l06Fork_L {m n : Nat} (hm : 1 ≤ m) (hn : 1 ≤ n) (hmn : m + n ≤ 16) (hK : K (FI (fork m n)) H) : CallX x F_spec_l06Fork [I m, I n] H K := by
  refine lift_1 (fun ρ Z as HA hv hr => ?_) hK
  obtain ⟨u, v, rfl, e0, e1⟩ := vl2 hv
  obtain rfl := vr_I e0
  obtain rfl := vr_I e1
  exact Am.l06Fork_spec hm hn hmn fun v' HA' he ho => ⟨he, ho⟩
theorem l06Compose_L (hf : Poly xs) (hg : Poly ys) (hK : K (FI (comp xs ys)) H) : CallX x F_spec_l06Compose [FI xs, FI ys] H K := by
  refine lift_1 (fun ρ Z as HA hv hr => ?_) hK
  obtain ⟨u, v, rfl, e0, e1⟩ := vl2 hv
  exact Am.l06Compose_spec (isI_of hr e0) hf (isI_of hr e1) hg fun v' HA' he ho => ⟨he, ho⟩
end
section
variable {code : List Nat} {a : Nat} {h : Int} {H : BH}
theorem l06DrawValue_one {K : Value → BH → Prop} (ha : a ≤ code.length) (hl : code.length ≤ 1048576) (hcd : ∀ i, nl code i < 256)
    (hK : ∀ v a' h', a' ≤ code.length → 0 ≤ v → v ≤ 10007 → K (I v) [some (SC code a' h')]) : CallX false F_spec_l06DrawValue [P 0 0] [some (SC code a h)] K := by
  refine CallX_body Γ_spec_l06DrawValue ?_; simp only [A_spec_l06DrawValue, T_aiff]
  refine T_rseq fun Kr hKr => ?_; simp (disch := omega) only [RA, ↓reduceIte, Nat.reduceEqDiff, RD]; refine hKr _ _ ?_; clear hKr Kr; (try simp only [RN, reduceIte]); try refine T_e rfl ?_
  refine T_rseq fun Kr hKr => ?_; simp (disch := omega) only [RA, ↓reduceIte, Nat.reduceEqDiff, reduceCtorEq, RD]
  refine l01Next_spec (i := 0) rfl ha hl hcd (by omega) fun v a1 h1 k1 k2 k3 k4 k5 => ?_
  have hv := k4 (by omega)
  simp (disch := omega) only [RA, ↓reduceIte, Nat.reduceEqDiff, Nat.reduceLeDiff, reduceCtorEq, RD]
  refine l01Next_spec (i := 0) rfl k1 hl hcd (by omega) fun w a2 h2 m1 m2 m3 m4 m5 => ?_
  have hw := m4 (by omega)
  simp (disch := omega) only [RA, ↓reduceIte, Nat.reduceEqDiff, Nat.reduceLeDiff, reduceCtorEq, RD]
  refine callFz 1 rfl (by simp only [RH]) ?_; simp only [RZ, frz_all ]
  refine l01Pick_spec (xs := [0, 0, 1, 1, 10006, v, w]) (i := 0) rfl m1 hl hcd (by simp) (by simp) fun j a3 h3 hj hA => ?_
  have hm := el_mem hj
  generalize el [0, 0, 1, 1, 10006, v, w] j = y at hm ⊢
  have hy : 0 ≤ y ∧ y ≤ 10007 := by simp at hm; omega
  simp (disch := omega) only [RA, ↓reduceIte, Nat.reduceEqDiff, Nat.reduceLeDiff, reduceCtorEq, RD]
  refine hKr _ _ ?_; clear hKr Kr; (try simp only [blkQ, thenQ, loopQ]); (try simp only [RN, reduceIte]); try refine T_e rfl ?_
  refine bodyQ_ret (by simp (disch := omega) only [RA, ↓reduceIte, Nat.reduceEqDiff, RD, resAll, resOf, hl]; rfl) (GhV.nrm [0] rfl rfl (by simp only [RH, NNL_SC]) (by simp only [tup, RH])) ?_; simp only [tup]
  exact hK y _ _ hA hy.1 hy.2
end
end Go.Bm

/- Draws of polynomials: l06Draw. -/
set_option linter.unusedVariables false
set_option linter.unusedSimpArgs false
set_option linter.unusedSectionVars false
namespace Go.Bm
open Go Go.Am
theorem bApp_nil {H : BH} {c bytes : Nat} {v : Value} (h : blk H c = some [v]) (h1 : one2 v = true) (hb : bytes ≤ 140737488355328) : bAppend 1 bytes (.slice none 0 0) (S c 0 1 1) H = some (S H.length 0 1 1, H ++ [some [v]]) := by
  simp [bAppend, newC, h, hb]
theorem app1_J {H : BH} {b bytes cn : Nat} {xs : List Int} {y : Int} {r : List Value} (h : (xs.length + 1) * bytes ≤ 140737488355328) : app1 (some [.int .i64 y]) (some (xs.map I ++ r)) H b xs.length bytes cn = some (S H.length 0 (xs.length + 1) 1, (H.set b none) ++ [some ((xs ++ [y]).map I)]) := by
  simp only [app1]
  rw [if_pos ⟨by simp, h, rfl⟩]
  simp
/-- A result that is one's own is only read from now on; of the memory the source is kept. -/
theorem ret_own {M : BH} {j m : Nat} {ys : List Int} {c0 : List Value} (h0 : blk M 0 = some c0) (hj : blk M j = some (ys.map I ++ List.replicate m .nilIface)) (hj0 : j ≠ 0) (hn : HN M) : GhV 1 (S j 0 ys.length 1) M (FI ys) [some c0] := by
  have hjl := blk_lt hj
  have hN : NNL (ys.map I ++ List.replicate m .nilIface) := hn j _ hj
  have s1 := GhV.fz (k := 1) (v := S j 0 ys.length 1) hj hN
  have e1 : frzT j (ys.map I ++ List.replicate m .nilIface) (S j 0 ys.length 1) = FI ys := by
    simp [frzT, frz]
  rw [e1] at s1
  have hn2 : HN (M.set j none) := fun i cs hc => by
    rw [blk_setN hjl] at hc
    split at hc
    · cases hc
    · exact hn i cs hc
  have s2 := GhV.norm (k := 1) (v := FI ys) [0] (by simp) (fun i hi => by rw [show i = 0 by omega]; rfl) hn2 NN.fz
  have e2 : ([0] : List Nat).map (blk (M.set j none)) = [some c0] := by
    simp only [List.map_cons, List.map_nil]
    rw [blk_setN hjl, if_neg (Ne.symm hj0), h0]
  rw [e2] at s2
  exact s1.trans s2
section
variable {code : List Nat} {a : Nat} {h : Int} {H : BH}
theorem l06Draw_one {most : Nat} {K : Value → BH → Prop} (ha : a ≤ code.length) (hl : code.length ≤ 1048576) (hcd : ∀ i, nl code i < 256) (hm : most ≤ 17)
    (hK : ∀ xs a' h', a' ≤ code.length → xs.length ≤ 20 → (∀ y ∈ xs, -1 ≤ y ∧ y ≤ 10007) → K (FI xs) [some (SC code a' h')]) : CallX false F_spec_l06Draw [P 0 0, I most] [some (SC code a h)] K := by
  refine CallX_body Γ_spec_l06Draw ?_; simp only [A_spec_l06Draw, T_aiff]
  refine T_rseq fun Kr hKr => ?_; simp (disch := omega) only [RA, ↓reduceIte, Nat.reduceEqDiff, Nat.reduceLeDiff, RD]; refine hKr _ _ ?_; clear hKr Kr; (try simp only [RN, reduceIte]); try refine T_e rfl ?_
  refine T_rseq fun Kr hKr => ?_; simp (disch := omega) only [RA, ↓reduceIte, Nat.reduceEqDiff, Nat.reduceLeDiff, RD]; refine hKr _ _ ?_; clear hKr Kr; (try simp only [RN, reduceIte]); try refine T_e rfl ?_
  refine T_rseq fun Kr hKr => ?_; simp (disch := omega) only [RA, ↓reduceIte, Nat.reduceEqDiff, RD]
  refine l01Next_spec (i := 0) rfl ha hl hcd (by omega) fun v a1 h1 k1 k2 k3 k4 k5 => ?_
  have hv := k4 (by omega)
  obtain ⟨c, rfl⟩ : ∃ c : Nat, v = c := ⟨v.toNat, by omega⟩
  simp (disch := omega) only [RA, ↓reduceIte, Nat.reduceEqDiff, Nat.reduceAdd, Nat.reduceLeDiff, RD]
  refine hKr _ _ ?_; clear hKr Kr; (try simp only [blkQ, thenQ, loopQ]); (try simp only [RN, reduceIte]); try refine T_e rfl ?_
  refine T_wloop (fun mm f H' => ∃ (xs : List Int) (a : Nat) (h : Int), mm + xs.length ≤ 18 ∧ a ≤ code.length ∧ (∀ y ∈ xs, (-1 : Int) ≤ y ∧ y ≤ 10007) ∧ f 0 = P 0 0 ∧ f 5 = S 1 0 xs.length 1 ∧ f 6 = I (mm : Nat) ∧ H' = [some (SC code a h), some (xs.map I)]) (c) ?_ ?_
  · refine ⟨_, _, Gh.refl, [], a1, h1, by simp; omega, k1, by simp, ?_, ?_, ?_, rfl⟩
    any_goals (simp (disch := omega) only [RA, ↓reduceIte, Nat.reduceEqDiff, RD, RE, *] <;> rfl)
  · rintro mm f H' R ⟨xs, a, h, hmx, ha, hxs, g0, g5, g6, rfl⟩ hN hX hR hE
    simp only [A_spec_l06Draw.l0, T_aiff]
    refine T_rseq fun Kr hKr => ?_; simp (disch := omega) only [RA, ↓reduceIte, Nat.reduceEqDiff, RD, g6]; refine hKr _ _ ?_; clear hKr Kr; (try simp only [RN, reduceIte]); try refine T_e rfl ?_
    refine T_csplit (p := 0 < mm) (by simp only [RA, ↓reduceIte, Nat.reduceEqDiff] <;> rfl) (by (try simp only [RB]) <;> first | done | exact Iff.rfl | omega | simp) (fun hc => ?_) (fun hc => ?_) <;> (try simp only [RN, reduceIte]) <;> (try refine T_e rfl ?_)
    · have hmm : 0 < mm := by assumption
      obtain ⟨q, rfl⟩ : ∃ q, mm = q + 1 := ⟨mm - 1, by omega⟩
      have hnext : ∀ f' (y : Int) a' h', -1 ≤ y ∧ y ≤ 10007 → a' ≤ code.length → f' 0 = P 0 0 → f' 5 = S 1 0 (xs.length + 1) 1 → f' 6 = I ((q + 1 : Nat) : Int) → T 1 A_spec_l06Draw.r4 R f' [some (SC code a' h'), some ((xs ++ [y]).map I)] := by
        clear g0 g5 g6
        intro f' y a' h' hy hA g0 g5 g6
        have e1 : ((q + 1 : Nat) : Int) - 1 = (q : Nat) := by omega
        refine T_reg_k fun Kr hKr => ?_; simp (disch := omega) only [RA, ↓reduceIte, Nat.reduceEqDiff, RD, g6, e1]; refine hKr _ _ ?_; clear hKr Kr
        refine hN q _ _ _ _ (by omega) Gh.refl ⟨xs ++ [y], a', h', by simp; omega, hA, fun z hz => ?_, ?_, ?_, ?_, rfl⟩
        any_goals (simp (disch := omega) only [RA, ↓reduceIte, Nat.reduceEqDiff, RD, RE, *] <;> rfl)
        all_goals first
          | (rcases List.mem_append.1 hz with hz | hz
             · exact hxs z hz
             · rw [List.mem_singleton] at hz; rw [hz]; exact hy)
          | (rw [List.length_append, List.length_singleton]; exact (by simp (disch := omega) only [RA, ↓reduceIte, Nat.reduceEqDiff, Nat.reduceAdd, Nat.reduceMul, Int.reduceToNat, Nat.reduceLT, reduceCtorEq, RD, RE, *] <;> rfl))
      (first | refine T_bfree rfl ?_ | refine T_bfree' rfl ?_); (try simp only [RN, reduceIte]); try refine T_e rfl ?_
      refine T_rseq fun Kr hKr => ?_; simp (disch := omega) only [RA, ↓reduceIte, Nat.reduceEqDiff, reduceCtorEq, RD, g0, g5]
      refine l01Next_spec (i := 0) rfl ha hl hcd (by omega) fun v a1 h1 k1 k2 k3 k4 k5 => ?_
      have hv := k4 (by omega)
      simp (disch := omega) only [RA, ↓reduceIte, Nat.reduceEqDiff, reduceCtorEq, RD, g0]
      refine l01Next_spec (i := 0) rfl k1 hl hcd (by omega) fun w a2 h2 m1 m2 m3 m4 m5 => ?_
      have hw := m4 (by omega)
      simp (disch := omega) only [RA, ↓reduceIte, Nat.reduceEqDiff, Nat.reduceAdd, Nat.reduceLeDiff, RD]
      refine callFz 2 rfl (by simp only [RH]) ?_; simp only [RZ, frz_all ]
      refine l01Pick_spec (xs := [0, 0, 1, v, w]) (i := 0) rfl m1 hl hcd (by simp) (by simp) fun j a3 h3 hj hA => ?_
      have hm := el_mem hj
      generalize el [0, 0, 1, v, w] j = y at hm ⊢
      have hy : -1 ≤ y ∧ y ≤ 10007 := by simp at hm; omega
      simp (disch := omega) only [RA, ↓reduceIte, Nat.reduceEqDiff, Nat.reduceAdd, Nat.reduceLeDiff, RD]
      refine hKr _ _ ?_; clear hKr Kr; (try simp only [blkQ, thenQ, loopQ]); (try simp only [RN, reduceIte]); try refine T_e rfl ?_
      refine T_gh (Gh.nrm [0, 4] rfl rfl (by simp only [RH, NNL_SC])) ?_
      refine hnext _ y a3 h3 hy hA ?_ ?_ ?_
      any_goals (simp (disch := omega) only [RA, ↓reduceIte, Nat.reduceEqDiff, RD, RE, *] <;> rfl)
    · refine hX _ _ ?_
      have hmem : ∀ z ∈ trim xs, -1 ≤ z ∧ z ≤ 10007 := fun z hz => hxs z (List.mem_of_mem_take hz)
      have htl : (trim xs).length ≤ 18 := by have := trim_le xs; omega
      have hend : ∀ f' M j (ys : List Int) m a h, a ≤ code.length → ys.length ≤ 20 → (∀ y ∈ ys, (-1 : Int) ≤ y ∧ y ≤ 10007) → blk M 0 = some (SC code a h) → blk M j = some (ys.map I ++ List.replicate m .nilIface) → j ≠ 0 → HN M → f' 5 = S j 0 ys.length 1 → T 1 (.seq A_spec_l06Draw.r12 .ret) (bodyQ 1 [.tmp 4] K) f' M := by
        clear g0 g5 g6
        intro f' M j ys m a h hA hy1 hy2 h0 hj hj0 hn g5
        refine T_rseq fun Kr hKr => ?_; simp (disch := omega) only [RA, ↓reduceIte, Nat.reduceEqDiff, RD, g5]; refine hKr _ _ ?_; clear hKr Kr; (try simp only [RN, reduceIte]); try refine T_e rfl ?_
        refine bodyQ_ret (vs := [S j 0 ys.length 1]) ?_ (ret_own h0 hj hj0 hn) ?_
        · simp (disch := omega) only [RA, ↓reduceIte, Nat.reduceEqDiff, resAll, resOf]
        · exact hK ys a h hA hy1 hy2
      have hfl : xs.length * 1 = (xs.map I).length := by simp
      refine T_rseq fun Kr hKr => ?_; simp (disch := omega) only [RA, ↓reduceIte, Nat.reduceEqDiff, RD, g5]
      refine callFz 1 rfl (by simp only [RH]) ?_; simp only [RZ, frz_all hfl]
      refine l06Trim_L (xs := xs) (by omega) (fun h0 => ?_) fun m => ?_
      · simp (disch := omega) only [RA, ↓reduceIte, Nat.reduceEqDiff, RD]
        refine hKr _ _ ?_; clear hKr Kr; (try simp only [blkQ, thenQ, loopQ]); (try simp only [RN, reduceIte]); try refine T_e rfl ?_
        refine T_rseq fun Kr hKr => ?_; simp (disch := omega) only [RA, ↓reduceIte, Nat.reduceEqDiff, RD, g0]
        refine l01Next_spec (i := 0) rfl ha hl hcd (by omega) fun v a1 h1 k1 k2 k3 k4 k5 => ?_
        have hv := k4 (by omega)
        simp (disch := omega) only [RA, ↓reduceIte, Nat.reduceEqDiff, Nat.reduceAdd, Nat.reduceLeDiff, RD]
        refine hKr _ _ ?_; clear hKr Kr; (try simp only [blkQ, thenQ, loopQ]); (try simp only [RN, reduceIte]); try refine T_e rfl ?_
        have hb0 : ∀ z : Int, bAppend 1 8 (.slice none 0 0) (S 2 0 1 1) [some (SC code a1 h1), none, some [I z]] = some (S 3 0 1 1, [some (SC code a1 h1), none, some [I z], some [I z]]) := fun z => bApp_nil rfl rfl (by omega)
        (first | refine T_bfree rfl ?_ | refine T_bfree' rfl ?_); (try simp only [RN, reduceIte]); try refine T_e rfl ?_
        refine T_rseq fun Kr hKr => ?_; simp (disch := omega) only [RA, ↓reduceIte, Nat.reduceEqDiff, Nat.reduceLeDiff, RD]; refine hKr _ _ ?_; clear hKr Kr; (try simp only [RN, reduceIte]); try refine T_e rfl ?_
        refine T_csplit (p := v = 0) (by simp only [RA, ↓reduceIte, Nat.reduceEqDiff] <;> rfl) (by (try simp only [RB]) <;> first | done | exact Iff.rfl | omega | simp) (fun hc => ?_) (fun hc => ?_) <;> (try simp only [RN, reduceIte]) <;> (try refine T_e rfl ?_)
        · refine T_rseq fun Kr hKr => ?_; simp (disch := omega) only [RA, ↓reduceIte, Nat.reduceEqDiff, Nat.reduceAdd, Nat.reduceLeDiff, RD, hb0]; refine hKr _ _ ?_; clear hKr Kr; (try simp only [RN, reduceIte]); try refine T_e rfl ?_
          exact hend _ _ 3 [0] 0 a1 h1 k1 (by simp) (fun y hy => by rw [List.mem_singleton] at hy; omega) rfl rfl (by omega) (by simp only [RH, NNL_SC]) (by simp (disch := omega) only [RA, ↓reduceIte, Nat.reduceEqDiff, RD, RE, *] <;> rfl)
        · refine T_rseq fun Kr hKr => ?_; simp (disch := omega) only [RA, ↓reduceIte, Nat.reduceEqDiff, RD]; refine hKr _ _ ?_; clear hKr Kr; (try simp only [RN, reduceIte]); try refine T_e rfl ?_
          refine T_csplit (p := v = 1) (by simp only [RA, ↓reduceIte, Nat.reduceEqDiff] <;> rfl) (by (try simp only [RB]) <;> first | done | exact Iff.rfl | omega | simp) (fun hc => ?_) (fun hc => ?_) <;> (try simp only [RN, reduceIte]) <;> (try refine T_e rfl ?_)
          · refine T_rseq fun Kr hKr => ?_; simp (disch := omega) only [RA, ↓reduceIte, Nat.reduceEqDiff, Nat.reduceAdd, Nat.reduceLeDiff, Int.reduceNeg, reduceCtorEq, RD, g0]
            refine callFz 2 rfl (by simp only [RH]) ?_; simp only [RZ, frz_all ]
            refine l01Pick_spec (H := [some (SC code a1 h1), none, none]) (h := h1) (xs := [10007, -1]) (i := 0) rfl k1 hl hcd (by simp) (by simp) fun j a3 h3 hj hA => ?_
            have hm2 := el_mem hj
            generalize el [10007, -1] j = y at hm2 ⊢
            have hy : -1 ≤ y ∧ y ≤ 10007 := by simp at hm2; omega
            have hb1 : bAppend 1 8 (.slice none 0 0) (S 3 0 1 1) [some (SC code a3 h3), none, none, some [I y]] = some (S 4 0 1 1, [some (SC code a3 h3), none, none, some [I y], some [I y]]) := bApp_nil rfl rfl (by omega)
            simp (disch := omega) only [RA, ↓reduceIte, Nat.reduceEqDiff, Nat.reduceAdd, Nat.reduceLeDiff, RD, hb1]
            refine hKr _ _ ?_; clear hKr Kr; (try simp only [blkQ, thenQ, loopQ]); (try simp only [RN, reduceIte]); try refine T_e rfl ?_
            exact hend _ _ 4 [y] 0 a3 h3 hA (by simp) (fun z hz => by rw [List.mem_singleton] at hz; rw [hz]; exact hy) rfl rfl (by omega) (by simp only [RH, NNL_SC]) (by simp (disch := omega) only [RA, ↓reduceIte, Nat.reduceEqDiff, RD, RE, *] <;> rfl)
          · refine T_rseq fun Kr hKr => ?_; simp (disch := omega) only [RA, ↓reduceIte, Nat.reduceEqDiff, RD]; refine hKr _ _ ?_; clear hKr Kr; (try simp only [RN, reduceIte]); try refine T_e rfl ?_
            refine bodyQ_ret (vs := [.slice none 0 0]) ?_ (GhV.trans (GhV.nil (k := 1) 1) (GhV.norm (k := 1) [0] (by simp) (fun i hi => by rw [show i = 0 by omega]; rfl) (HN.cons NN_SC (HN.none HN.nil)) NN.fz)) ?_
            · simp (disch := omega) only [RA, ↓reduceIte, Nat.reduceEqDiff, resAll, resOf]
            · exact hK [] a1 h1 k1 (by simp) (by simp)
      · simp (disch := omega) only [RA, ↓reduceIte, Nat.reduceEqDiff, RD]
        refine hKr _ _ ?_; clear hKr Kr; (try simp only [blkQ, thenQ, loopQ]); (try simp only [RN, reduceIte]); try refine T_e rfl ?_
        refine T_rseq fun Kr hKr => ?_; simp (disch := omega) only [RA, ↓reduceIte, Nat.reduceEqDiff, RD, g0]
        refine l01Next_spec (i := 0) rfl ha hl hcd (by omega) fun v a1 h1 k1 k2 k3 k4 k5 => ?_
        have hv := k4 (by omega)
        simp (disch := omega) only [RA, ↓reduceIte, Nat.reduceEqDiff, Nat.reduceAdd, Nat.reduceLeDiff, RD]
        refine hKr _ _ ?_; clear hKr Kr; (try simp only [blkQ, thenQ, loopQ]); (try simp only [RN, reduceIte]); try refine T_e rfl ?_
        (first | refine T_bfree rfl ?_ | refine T_bfree' rfl ?_); (try simp only [RN, reduceIte]); try refine T_e rfl ?_
        refine T_rseq fun Kr hKr => ?_; simp (disch := omega) only [RA, ↓reduceIte, Nat.reduceEqDiff, Nat.reduceLeDiff, RD]; refine hKr _ _ ?_; clear hKr Kr; (try simp only [RN, reduceIte]); try refine T_e rfl ?_
        refine T_csplit (p := v = 0) (by simp only [RA, ↓reduceIte, Nat.reduceEqDiff] <;> rfl) (by (try simp only [RB]) <;> first | done | exact Iff.rfl | omega | simp) (fun hc => ?_) (fun hc => ?_) <;> (try simp only [RN, reduceIte]) <;> (try refine T_e rfl ?_)
        · refine T_rseq fun Kr hKr => ?_; simp (disch := omega) only [RA, ↓reduceIte, Nat.reduceEqDiff, Nat.reduceAdd, Nat.reduceLeDiff, RD, app1_J]; refine hKr _ _ ?_; clear hKr Kr; (try simp only [RN, reduceIte]); try refine T_e rfl ?_
          exact hend _ _ 4 (trim xs ++ [0]) 0 a1 h1 k1 (by simp; omega) (fun y hy => by
            rcases List.mem_append.1 hy with hy | hy
            · exact hmem y hy
            · rw [List.mem_singleton] at hy; omega) rfl (by simp; rfl) (by omega) (by simp only [RH, NNL_SC]) (by simp (disch := omega) only [RA, ↓reduceIte, Nat.reduceEqDiff, RD, RE, *] <;> rfl)
        · refine T_rseq fun Kr hKr => ?_; simp (disch := omega) only [RA, ↓reduceIte, Nat.reduceEqDiff, RD]; refine hKr _ _ ?_; clear hKr Kr; (try simp only [RN, reduceIte]); try refine T_e rfl ?_
          refine T_csplit (p := v = 1) (by simp only [RA, ↓reduceIte, Nat.reduceEqDiff] <;> rfl) (by (try simp only [RB]) <;> first | done | exact Iff.rfl | omega | simp) (fun hc => ?_) (fun hc => ?_) <;> (try simp only [RN, reduceIte]) <;> (try refine T_e rfl ?_)
          · refine T_rseq fun Kr hKr => ?_; simp (disch := omega) only [RA, ↓reduceIte, Nat.reduceEqDiff, Nat.reduceAdd, Nat.reduceLeDiff, Int.reduceNeg, reduceCtorEq, RD, g0]
            refine callFz 3 rfl (by simp only [RH]) ?_; simp only [RZ, frz_all ]
            refine l01Pick_spec (H := [some (SC code a1 h1), none, some ((trim xs).map I ++ List.replicate m .nilIface), none]) (h := h1) (xs := [10007, -1]) (i := 0) rfl k1 hl hcd (by simp) (by simp) fun j a3 h3 hj hA => ?_
            have hm2 := el_mem hj
            generalize el [10007, -1] j = y at hm2 ⊢
            have hy : -1 ≤ y ∧ y ≤ 10007 := by simp at hm2; omega
            simp (disch := omega) only [RA, ↓reduceIte, Nat.reduceEqDiff, Nat.reduceAdd, Nat.reduceLeDiff, RD, app1_J]
            refine hKr _ _ ?_; clear hKr Kr; (try simp only [blkQ, thenQ, loopQ]); (try simp only [RN, reduceIte]); try refine T_e rfl ?_
            exact hend _ _ 5 (trim xs ++ [y]) 0 a3 h3 hA (by simp; omega) (fun z hz => by
              rcases List.mem_append.1 hz with hz | hz
              · exact hmem z hz
              · rw [List.mem_singleton] at hz; rw [hz]; exact hy) rfl (by simp; rfl) (by omega) (by simp only [RH, NNL_SC]) (by simp (disch := omega) only [RA, ↓reduceIte, Nat.reduceEqDiff, RD, RE, *] <;> rfl)
          · exact hend _ _ 2 (trim xs) m a1 h1 k1 (by omega) hmem rfl rfl (by omega) (HN.cons NN_SC (HN.none (HN.cons (.append (.map fun _ => .int) fun c hc => by rw [List.eq_of_mem_replicate hc]; exact NN.junk) HN.nil))) (by simp (disch := omega) only [RA, ↓reduceIte, Nat.reduceEqDiff, RD, RE, *] <;> rfl)
theorem l06Draw_spec {most i : Nat} {K : Value → BH → Prop} (hb : blk H i = some (SC code a h)) (ha : a ≤ code.length) (hl : code.length ≤ 1048576) (hcd : ∀ i, nl code i < 256) (hm : most ≤ 17)
    (hK : ∀ xs a' h', a' ≤ code.length → xs.length ≤ 20 → (∀ y ∈ xs, -1 ≤ y ∧ y ≤ 10007) → K (FI xs) (H.set i (some (SC code a' h')))) : CallX false F_spec_l06Draw [P i 0, I most] H K := by
  refine call1 hb NN_SC ?_
  have e : ([P i 0, I most] : List Value).map (ren [i]) = [P 0 0, I most] := by simp [ren, ren1, nm]
  rw [e]
  exact l06Draw_one ha hl hcd hm fun xs a' h' k1 k2 k3 => ⟨.fz, HN.cons NN_SC HN.nil, hK xs a' h' k1 k2 k3⟩
theorem l06DrawValue_spec {i : Nat} {K : Value → BH → Prop} (hb : blk H i = some (SC code a h)) (ha : a ≤ code.length) (hl : code.length ≤ 1048576) (hcd : ∀ i, nl code i < 256)
    (hK : ∀ v a' h', a' ≤ code.length → 0 ≤ v → v ≤ 10007 → K (I v) (H.set i (some (SC code a' h')))) : CallX false F_spec_l06DrawValue [P i 0] H K := by
  refine call1 hb NN_SC ?_
  have e : ([P i 0] : List Value).map (ren [i]) = [P 0 0] := by simp [ren, ren1, nm]
  rw [e]
  exact l06DrawValue_one ha hl hcd fun v a' h' k1 k2 k3 => ⟨.int, HN.cons NN_SC HN.nil, hK v a' h' k1 k2 k3⟩
end
end Go.Bm

