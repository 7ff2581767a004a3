/- The law of Shabat polynomials. -/
import Derived.Test.YteklchkdgpoedaaDpG6
import Derived.Test.YteklchkdgpoedaaDpG5
import Derived.Test.YteklchkdgpoedaaDpG1
set_option linter.unusedVariables false
set_option linter.unusedSimpArgs false
set_option linter.unusedSectionVars false
namespace Go.Bm
open Go Go.Am

theorem mults_ok {f : List Int} {v : Int} (h : (resMultiplicitiesOf f v).2 = 0) : resMultiplicitiesOf f v = (mults f v, 0) ∧ resIsCritical f v = (decide (1 < el (mults f v) 0), 0) ∧ lsum (mults f v) = (f.length : Int) - 1 ∧ 0 < (mults f v).length ∧ (mults f v).length < 1000 ∧ ∀ i, i < (mults f v).length → 0 ≤ el (mults f v) i ∧ el (mults f v) i ≤ 16 := by
  unfold resMultiplicitiesOf resIsCritical at *
  split at h
  · rename_i hp
    have hz := pcode_zero hp
    have hs := mults_sum hz.1.red hz.2.2 hz.1.2.1 v
    have hi := (mults_in hz.1.red hz.2.2 hz.1.2.1 v).1
    rw [if_pos hp, if_pos hp]
    refine ⟨rfl, rfl, hs, mults_pos hz.1.red hz.2.2 hz.1.2.1 v, mults_len hz.1.red hz.2.2 hz.1.2.1 v, fun i hl => ?_⟩
    have h1 := hi _ (el_memI hl)
    have h2 := (sm_ge hi _ (Nat.le_refl _)).2 i hl
    rw [← lsum_sm, hs] at h2
    have := hz.1.2.1
    omega
  · rename_i hp
    exact absurd h hp
theorem pass_no {g : List Int} {a b : Int} (h : (resPassportOfShabat g a b).2 ≠ 0) : (resPassportOfShabat g a b).1 = [] := by
  unfold resPassportOfShabat at *
  split
  · split
    · rename_i h1 h2; rw [if_pos h1, if_pos h2] at h; exact absurd rfl h
    · rfl
  · rfl
theorem resEp3 {x y z : List Int} (hp : PassP [x, y, z]) : resEp [x, y, z] = ((x.length : Int) + y.length + z.length - lsum x, 0) := by
  rw [resEp, if_pos hp, show sumI (at3 [x, y, z] 0) = lsum x from sumI_l _]
  rfl
theorem pass_ok {g : List Int} {a b : Int} (h : (resPassportOfShabat g a b).2 = 0) : resPassportOfShabat g a b = ([mults g a, mults g b, [(g.length : Int) - 1]], 0) ∧ resIsShabat g a b = (true, 0) ∧ resEp [mults g a, mults g b, [(g.length : Int) - 1]] = (2, 0) ∧ (resCountRooted (mults g a) (mults g b)).2 = 0 ∧ 1 ≤ (resCountRooted (mults g a) (mults g b)).1 ∧ (mults g a).length < 1000 ∧ (mults g b).length < 1000 := by
  by_cases hp : tcode g a b = 0
  · by_cases hs : shab g a b = true
    · have hz := tcode_zero hp
      have h1 := shab_pass hz.1 hz.2.1 hs
      have h2 := count_pass hz.1 hz.2.1 hs
      have h3 := h1.2
      have h4 := mults_sum hz.1.red hz.2.1 hz.1.2.1 a
      have h5 := mults_len hz.1.red hz.2.1 hz.1.2.1 a
      have h6 := mults_len hz.1.red hz.2.1 hz.1.2.1 b
      have h7 := resEp3 h1.1
      have e1 : resPassportOfShabat g a b = ([mults g a, mults g b, [(g.length : Int) - 1]], 0) := by rw [resPassportOfShabat, if_pos hp, if_pos hs]
      have e2 : resIsShabat g a b = (true, 0) := by rw [resIsShabat, if_pos hp, hs]
      have e3 : resEp [mults g a, mults g b, [(g.length : Int) - 1]] = (2, 0) := by
        rw [h7]
        rw [show (([(g.length : Int) - 1] : List Int).length : Int) = 1 from rfl]
        rw [show ((mults g a).length : Int) + (mults g b).length + 1 - lsum (mults g a) = 2 by omega]
      exact ⟨e1, e2, e3, h2.1, h2.2, h5, h6⟩
    · rw [resPassportOfShabat, if_pos hp, if_neg hs] at h
      exact absurd h (by decide)
  · rw [resPassportOfShabat, if_neg hp] at h
    exact absurd h hp
theorem pass_lens {g : List Int} {a b : Int} : (resPassportOfShabat g a b).1.length < 1000 ∧ ∀ xs ∈ (resPassportOfShabat g a b).1, xs.length < 1000 := by
  by_cases h : (resPassportOfShabat g a b).2 = 0
  · obtain ⟨h1, _, _, _, _, h2, h3⟩ := pass_ok h
    rw [h1]
    refine ⟨by simp, fun xs hx => ?_⟩
    simp only [List.mem_cons, List.not_mem_nil, or_false] at hx
    rcases hx with rfl | rfl | rfl
    · exact h2
    · exact h3
    · simp
  · rw [pass_no h]
    simp
theorem star_ok {n : Int} (h : (resStarPolynomial n).2 = 0) : resIsShabat (resStarPolynomial n).1 0 1 = (true, 0) := by
  unfold resStarPolynomial at *
  split at h
  · rename_i hn
    rw [if_pos hn]
    exact star_r n.toNat (by omega) (by omega)
  · simp at h
theorem fork_ok {m n : Int} (h : (resForkPolynomial m n).2 = 0) : resIsShabat (resForkPolynomial m n).1 0 1 = (true, 0) := by
  unfold resForkPolynomial at *
  split at h
  · rename_i hn
    rw [if_pos hn]
    exact fork_r (by have := hn.1; omega) (by have := hn.2.1; omega) (by have := hn.1; have := hn.2.1; have := hn.2.2; omega)
  · simp at h
theorem chain_ok {n : Int} (h : (resChainPolynomial n).2 = 0) : ∃ m : Nat, m < 16 ∧ n = (m : Int) + 1 ∧ resChainPolynomial n = ((chain m).2, 0) ∧ resIsShabat (chain m).2 1 10006 = (true, 0) := by
  unfold resChainPolynomial at *
  split at h
  · rename_i hn
    rw [if_pos hn]
    exact ⟨n.toNat - 1, by omega, by omega, rfl, chain_r _ (by omega)⟩
  · simp at h
theorem chain_is {m : Nat} (h : m < 16) : resChainPolynomial ((m : Int) + 1) = ((chain m).2, 0) := by
  rw [resChainPolynomial, if_pos (by omega)]
  rw [show ((m : Int) + 1).toNat - 1 = m by omega]

def tl57 : ACode := (.seq (.seq A_laws_FnShabats.r57 (.cond (.t 324) (.seq A_laws_FnShabats.r58 .ret) .skip)) (.seq A_laws_FnShabats.r59 (.seq A_laws_FnShabats.r60 (.seq A_laws_FnShabats.r61 .ret))))
def tl55 : ACode := (.seq (.seq A_laws_FnShabats.r55 (.cond (.t 322) (.seq A_laws_FnShabats.r56 .ret) .skip)) tl57)
def tl44 : ACode := (.seq (.seq A_laws_FnShabats.r44 (.cond (.t 251) (.seq A_laws_FnShabats.r45 (.seq A_laws_FnShabats.r46 (.seq (.seq A_laws_FnShabats.r47 (.cond (.t 266) (.seq A_laws_FnShabats.r48 .ret) .skip)) (.seq A_laws_FnShabats.r49 (.cond (.t 270) (.seq A_laws_FnShabats.r50 (.seq A_laws_FnShabats.r51 (.seq A_laws_FnShabats.r52 (.seq A_laws_FnShabats.r53 (.cond (.t 304) (.seq A_laws_FnShabats.r54 .ret) .skip))))) .skip))))) .skip)) tl55)
def tl40 : ACode := (.seq (.seq A_laws_FnShabats.r40 (.cond (.t 238) (.seq A_laws_FnShabats.r41 (.seq A_laws_FnShabats.r42 (.cond (.t 249) (.seq A_laws_FnShabats.r43 .ret) .skip))) .skip)) tl44)
def sh36 : ACode := (.seq A_laws_FnShabats.r36 (.seq (.cond (.t 225) (.seq A_laws_FnShabats.r37 (.seq A_laws_FnShabats.r38 (.cond (.t 236) (.seq A_laws_FnShabats.r39 .ret) .skip))) .skip) tl40))
theorem ext_2 {x y z : Value} : extV 2 (.tuple ⟨[x, y, z]⟩) = some z := rfl
theorem sh55_T {f g : List Int} {v a b : Int} {f' : Fr} {H' : BH} (hf : f.length ≤ 1000) (g3 : f' 3 = FI f) (g5 : f' 5 = FI (resMultiplicitiesOf f v).1) (g6 : f' 6 = I (resMultiplicitiesOf f v).2) (g9 : f' 9 = .bool (resIsCritical f v).1)
    (g16 : f' 16 = .bool (resIsShabat g a b).1) (g20 : f' 20 = FII (resPassportOfShabat g a b).1) (g21 : f' 21 = I (resPassportOfShabat g a b).2) : T 0 tl55 (bodyQ 0 [.tmp 2] fun v _ => v = .bool true) f' H' := by
  have hrest : ∀ f' H', f' 16 = .bool (resIsShabat g a b).1 → f' 20 = FII (resPassportOfShabat g a b).1 → f' 21 = I (resPassportOfShabat g a b).2 → T 0 tl57 (bodyQ 0 [.tmp 2] fun v _ => v = .bool true) f' H' := by
    clear g3 g5 g6 g9 g16 g20 g21 f' H'
    intro f' H' g16 g20 g21
    unfold tl57
    (try simp only [RN, reduceIte]); try refine T_e rfl ?_
    refine T_rseq fun Kr hKr => ?_; simp (disch := omega) only [RA, ↓reduceIte, Nat.reduceEqDiff, RD, g21]; refine hKr _ _ ?_; clear hKr Kr; (try simp only [RN, reduceIte]); try refine T_e rfl ?_
    refine T_csplit (p := (resPassportOfShabat g a b).2 ≠ 0) (by simp only [RA, ↓reduceIte, Nat.reduceEqDiff] <;> rfl) (by (try simp only [RB]) <;> first | done | exact Iff.rfl | omega | simp) (fun hc => ?_) (fun hc => ?_) <;> (try simp only [RN, reduceIte]) <;> (try refine T_e rfl ?_)
    · have e := pass_no (by assumption : (resPassportOfShabat g a b).2 ≠ 0)
      rw [e] at g20
      refine T_rseq fun Kr hKr => ?_; simp (disch := omega) only [RA, ↓reduceIte, Nat.reduceEqDiff, RD, g20]; refine hKr _ _ ?_; clear hKr Kr; (try simp only [RN, reduceIte]); try refine T_e rfl ?_
      refine bodyQ_ret (by simp (disch := omega) only [RA, ↓reduceIte, Nat.reduceEqDiff, RD, resAll, resOf]; rfl) GhV.refl ?_; simp only [tup]
    · have e : (resPassportOfShabat g a b).2 = 0 := by omega
      obtain ⟨e1, e2, e3, e4, e5, e6, e7⟩ := pass_ok e
      rw [e1] at g20
      rw [e2] at g16
      dsimp only at g20 g16
      obtain ⟨P, hP⟩ : ∃ P, P = [mults g a, mults g b, [(g.length : Int) - 1]] := ⟨_, rfl⟩
      have l3 : P.length = 3 := by rw [hP]; rfl
      have p0 : getN none (P.map FI) 0 = some (FI (mults g a)) := by rw [hP]; rfl
      have p1 : getN none (P.map FI) 1 = some (FI (mults g b)) := by rw [hP]; rfl
      have hin : ∀ xs ∈ P, xs.length ≤ 1048576 := fun xs hx => by
        rw [hP] at hx
        simp only [List.mem_cons, List.not_mem_nil, or_false] at hx
        rcases hx with rfl | rfl | rfl
        · omega
        · omega
        · simp
      rw [← hP] at g20 e3
      clear hP
      refine T_rseq fun Kr hKr => ?_; simp (disch := omega) only [RA, ↓reduceIte, Nat.reduceEqDiff, RD, g20]
      refine impl_EulerOfPassport_spec (by omega) hin ?_
      rw [e3]
      simp (disch := omega) only [RA, ↓reduceIte, Nat.reduceEqDiff, RD]
      refine hKr _ _ ?_; clear hKr Kr; (try simp only [blkQ, thenQ, loopQ]); (try simp only [RN, reduceIte]); try refine T_e rfl ?_
      refine T_rseq fun Kr hKr => ?_; simp (disch := omega) only [RA, ↓reduceIte, Nat.reduceEqDiff, Int.reduceToNat, RD, g20, p0, p1]
      refine impl_CountRooted_L (xs := mults g a) (ys := mults g b) (by omega) (by omega) ?_
      rw [e4]
      simp (disch := omega) only [RA, ↓reduceIte, Nat.reduceEqDiff, RD]
      refine hKr _ _ ?_; clear hKr Kr; (try simp only [blkQ, thenQ, loopQ]); (try simp only [RN, reduceIte]); try refine T_e rfl ?_
      have e8 : 0 < (resCountRooted (mults g a) (mults g b)).1 := by omega
      refine T_rseq fun Kr hKr => ?_; simp (disch := omega) only [RA, ↓reduceIte, Nat.reduceEqDiff, RD, g16, e8]; refine hKr _ _ ?_; clear hKr Kr; (try simp only [RN, reduceIte]); try refine T_e rfl ?_
      refine bodyQ_ret (by simp (disch := omega) only [RA, ↓reduceIte, Nat.reduceEqDiff, RD, resAll, resOf]; rfl) GhV.refl ?_; simp only [tup]
  unfold tl55
  (try simp only [RN, reduceIte]); try refine T_e rfl ?_
  by_cases hc : (resMultiplicitiesOf f v).2 = 0
  · obtain ⟨e1, e2, e3, e4, e5, e6⟩ := mults_ok hc
    rw [e1] at g5 g6
    rw [e2] at g9
    dsimp only at g5 g6 g9
    refine T_rseq fun Kr hKr => ?_; simp (disch := omega) only [RA, ↓reduceIte, Nat.reduceEqDiff, RD, g5, g6]
    refine sum_spec (by omega) e6 ?_
    rw [e3]
    simp (disch := omega) only [RA, ↓reduceIte, Nat.reduceEqDiff, RD, g3, g5, g9]
    refine hKr _ _ ?_; clear hKr Kr; (try simp only [blkQ, thenQ, loopQ]); (try simp only [RN, reduceIte]); try refine T_e rfl ?_
    refine T_cseq (t := false) (by simp (disch := omega) only [RA, ↓reduceIte, Nat.reduceEqDiff, RD]) ?_; (try simp only [RN, reduceIte]); try refine T_e rfl ?_
    refine hrest _ _ ?_ ?_ ?_
    any_goals (simp (disch := omega) only [RA, ↓reduceIte, Nat.reduceEqDiff, RD, RE, *] <;> rfl)
  · refine T_rseq fun Kr hKr => ?_; simp (disch := omega) only [RA, ↓reduceIte, Nat.reduceEqDiff, RD, g6, hc]; refine hKr _ _ ?_; clear hKr Kr; (try simp only [RN, reduceIte]); try refine T_e rfl ?_
    refine T_cseq (t := false) (by simp (disch := omega) only [RA, ↓reduceIte, Nat.reduceEqDiff, RD]) ?_; (try simp only [RN, reduceIte]); try refine T_e rfl ?_
    refine hrest _ _ ?_ ?_ ?_
    any_goals (simp (disch := omega) only [RA, ↓reduceIte, Nat.reduceEqDiff, RD, RE, *] <;> rfl)
/-- What the end of the law reads. -/
structure ShF (f g : List Int) (v a b : Int) (f' : Fr) : Prop where
  g3 : f' 3 = FI f
  g5 : f' 5 = FI (resMultiplicitiesOf f v).1
  g6 : f' 6 = I (resMultiplicitiesOf f v).2
  g9 : f' 9 = .bool (resIsCritical f v).1
  g16 : f' 16 = .bool (resIsShabat g a b).1
  g20 : f' 20 = FII (resPassportOfShabat g a b).1
  g21 : f' 21 = I (resPassportOfShabat g a b).2
theorem sh44_T {code : List Nat} {f g : List Int} {v a b m : Int} {f' : Fr} {H' : BH} (hl : code.length ≤ 1048576) (hcd : ∀ i, nl code i < 256) (hf : f.length ≤ 1000) (hs : ShF f g v a b f') (g0 : f' 0 = FB code) (g29 : f' 29 = I m) (g30 : f' 30 = FI (resChainPolynomial m).1) (g31 : f' 31 = I (resChainPolynomial m).2) (hH : H' = []) :
    T 0 tl44 (bodyQ 0 [.tmp 2] fun v _ => v = .bool true) f' H' := by
  obtain ⟨g3, g5, g6, g9, g16, g20, g21⟩ := hs
  subst hH
  unfold tl44
  (try simp only [RN, reduceIte]); try refine T_e rfl ?_
  refine T_rseq fun Kr hKr => ?_; simp (disch := omega) only [RA, ↓reduceIte, Nat.reduceEqDiff, RD, g31]; refine hKr _ _ ?_; clear hKr Kr; (try simp only [RN, reduceIte]); try refine T_e rfl ?_
  refine T_csplit (p := (resChainPolynomial m).2 = 0) (by simp only [RA, ↓reduceIte, Nat.reduceEqDiff] <;> rfl) (by (try simp only [RB]) <;> first | done | exact Iff.rfl | omega | simp) (fun hc => ?_) (fun hc => ?_) <;> (try simp only [RN, reduceIte]) <;> (try refine T_e rfl ?_)
  · obtain ⟨q, hq, rfl, e1, e2⟩ := chain_ok (by assumption : (resChainPolynomial m).2 = 0)
    rw [e1] at g30 g31
    dsimp only at g30 g31
    have l1 := (chain_len q).2
    refine T_rseq fun Kr hKr => ?_; simp (disch := omega) only [RA, ↓reduceIte, Nat.reduceEqDiff, RD, g30]
    refine impl_IsShabat_L (by omega) (by omega) (by omega) ?_
    rw [e2]
    simp (disch := omega) only [RA, ↓reduceIte, Nat.reduceEqDiff, RD]
    refine hKr _ _ ?_; clear hKr Kr; (try simp only [blkQ, thenQ, loopQ]); (try simp only [RN, reduceIte]); try refine T_e rfl ?_
    refine T_rseq fun Kr hKr => ?_; simp (disch := omega) only [RA, ↓reduceIte, Nat.reduceEqDiff, RD, g0]
    refine roll_spec hl hcd fun h => ?_
    simp (disch := omega) only [RA, ↓reduceIte, Nat.reduceEqDiff, RD]
    refine below_spec (i := 0) rfl (Nat.zero_le _) hl hcd (by omega) fun x a' h' k1 k2 k3 k4 k5 => ?_
    have hx := k4 (by omega)
    obtain ⟨k, rfl⟩ : ∃ k : Nat, x = k := ⟨x.toNat, by omega⟩
    have ek : (1 : Int) + k = (k : Int) + 1 := by omega
    simp (disch := omega) only [RA, ↓reduceIte, Nat.reduceEqDiff, RD, ek]
    refine hKr _ _ ?_; clear hKr Kr; (try simp only [blkQ, thenQ, loopQ]); (try simp only [RN, reduceIte]); try refine T_e rfl ?_
    refine T_rseq fun Kr hKr => ?_; simp (disch := omega) only [RA, ↓reduceIte, Nat.reduceEqDiff, RD]; refine hKr _ _ ?_; clear hKr Kr; (try simp only [RN, reduceIte]); try refine T_e rfl ?_
    refine T_cseq (t := false) (by simp (disch := omega) only [RA, ↓reduceIte, Nat.reduceEqDiff, RD]) ?_; (try simp only [RN, reduceIte]); try refine T_e rfl ?_
    have hkm : ((k : Int) + 1) * ((q : Int) + 1) = (((k + 1) * (q + 1) : Nat) : Int) := by simp
    have hp1 : 1 ≤ (k + 1) * (q + 1) := Nat.mul_pos (by omega) (by omega)
    have hp2 : (k + 1) * (q + 1) ≤ 4 * 16 := Nat.mul_le_mul (by omega) (by omega)
    have hw : IntKind.i64.wrap ((((k + 1) * (q + 1) : Nat)) : Int) = (((k + 1) * (q + 1) : Nat) : Int) := w64 (by omega) (by omega)
    refine T_rseq fun Kr hKr => ?_; simp (disch := omega) only [RA, ↓reduceIte, Nat.reduceEqDiff, RD, g29, hkm, hw]; refine hKr _ _ ?_; clear hKr Kr; (try simp only [RN, reduceIte]); try refine T_e rfl ?_
    refine T_csplit (p := (k + 1) * (q + 1) ≤ 16) (by simp only [RA, ↓reduceIte, Nat.reduceEqDiff] <;> rfl) (by (try simp only [RB]) <;> first | done | exact Iff.rfl | omega | simp) (fun hc => ?_) (fun hc => ?_) <;> (try simp only [RN, reduceIte]) <;> (try refine T_e rfl ?_)
    · have hle : (k + 1) * (q + 1) ≤ 16 := by assumption
      have e3 := chains_r k (by omega) q hq hle
      have e4 := chain_is (m := k) (by omega)
      have e5 := chain_is (m := (k + 1) * (q + 1) - 1) (by omega)
      have l2 := (chain_len k).2
      have l3 := (chain_len ((k + 1) * (q + 1) - 1)).2
      have e6 : (((k + 1) * (q + 1) - 1 : Nat) : Int) + 1 = (((k + 1) * (q + 1) : Nat) : Int) := by omega
      rw [e6] at e5
      refine T_rseq fun Kr hKr => ?_; simp (disch := omega) only [RA, ↓reduceIte, Nat.reduceEqDiff, RD]
      refine impl_ChainPolynomial_L (by omega) ?_
      rw [e4]
      simp (disch := omega) only [RA, ↓reduceIte, Nat.reduceEqDiff, RD]
      refine hKr _ _ ?_; clear hKr Kr; (try simp only [blkQ, thenQ, loopQ]); (try simp only [RN, reduceIte]); try refine T_e rfl ?_
      refine T_rseq fun Kr hKr => ?_; simp (disch := omega) only [RA, ↓reduceIte, Nat.reduceEqDiff, RD, g30]
      refine impl_ComposePolynomials_L (by omega) (by omega) ?_
      rw [e3]
      simp (disch := omega) only [RA, ↓reduceIte, Nat.reduceEqDiff, RD]
      refine hKr _ _ ?_; clear hKr Kr; (try simp only [blkQ, thenQ, loopQ]); (try simp only [RN, reduceIte]); try refine T_e rfl ?_
      refine T_rseq fun Kr hKr => ?_; simp (disch := omega) only [RA, ↓reduceIte, Nat.reduceEqDiff, RD, g29, hkm, hw]
      refine impl_ChainPolynomial_L (by omega) ?_
      rw [e5]
      simp (disch := omega) only [RA, ↓reduceIte, Nat.reduceEqDiff, RD]
      refine hKr _ _ ?_; clear hKr Kr; (try simp only [blkQ, thenQ, loopQ]); (try simp only [RN, reduceIte]); try refine T_e rfl ?_
      refine T_rseq fun Kr hKr => ?_; simp (disch := omega) only [RA, ↓reduceIte, Nat.reduceEqDiff, RD]
      refine likeInts_spec (by omega) (by omega) ?_
      rw [decide_eq_true rfl]
      simp (disch := omega) only [RA, ↓reduceIte, Nat.reduceEqDiff, RD]
      refine hKr _ _ ?_; clear hKr Kr; (try simp only [blkQ, thenQ, loopQ]); (try simp only [RN, reduceIte]); try refine T_e rfl ?_
      refine T_cseq (t := false) (by simp (disch := omega) only [RA, ↓reduceIte, Nat.reduceEqDiff, RD]) ?_; (try simp only [RN, reduceIte]); try refine T_e rfl ?_
      refine sh55_T (g := g) (v := v) (a := a) (b := b) hf ?_ ?_ ?_ ?_ ?_ ?_ ?_
      any_goals (simp (disch := omega) only [RA, ↓reduceIte, Nat.reduceEqDiff, RD, RE, *] <;> rfl)
    · refine sh55_T (g := g) (v := v) (a := a) (b := b) hf ?_ ?_ ?_ ?_ ?_ ?_ ?_
      any_goals (simp (disch := omega) only [RA, ↓reduceIte, Nat.reduceEqDiff, RD, RE, *] <;> rfl)
  · refine sh55_T (g := g) (v := v) (a := a) (b := b) hf ?_ ?_ ?_ ?_ ?_ ?_ ?_
    any_goals (simp (disch := omega) only [RA, ↓reduceIte, Nat.reduceEqDiff, RD, RE, *] <;> rfl)
theorem sh40_T {code : List Nat} {f g : List Int} {v a b m y z : Int} {f' : Fr} {H' : BH} (hl : code.length ≤ 1048576) (hcd : ∀ i, nl code i < 256) (hf : f.length ≤ 1000) (hs : ShF f g v a b f') (g0 : f' 0 = FB code) (g29 : f' 29 = I m) (g30 : f' 30 = FI (resChainPolynomial m).1) (g31 : f' 31 = I (resChainPolynomial m).2)
    (g36 : f' 36 = FI (resForkPolynomial y z).1) (g37 : f' 37 = I (resForkPolynomial y z).2) (hH : H' = []) : T 0 tl40 (bodyQ 0 [.tmp 2] fun v _ => v = .bool true) f' H' := by
  obtain ⟨g3, g5, g6, g9, g16, g20, g21⟩ := hs
  have l1 := resForkPolynomial_len y z
  unfold tl40
  (try simp only [RN, reduceIte]); try refine T_e rfl ?_
  refine T_rseq fun Kr hKr => ?_; simp (disch := omega) only [RA, ↓reduceIte, Nat.reduceEqDiff, RD, g37]; refine hKr _ _ ?_; clear hKr Kr; (try simp only [RN, reduceIte]); try refine T_e rfl ?_
  refine T_csplit (p := (resForkPolynomial y z).2 = 0) (by simp only [RA, ↓reduceIte, Nat.reduceEqDiff] <;> rfl) (by (try simp only [RB]) <;> first | done | exact Iff.rfl | omega | simp) (fun hc => ?_) (fun hc => ?_) <;> (try simp only [RN, reduceIte]) <;> (try refine T_e rfl ?_)
  · have e := fork_ok (by assumption : (resForkPolynomial y z).2 = 0)
    refine T_rseq fun Kr hKr => ?_; simp (disch := omega) only [RA, ↓reduceIte, Nat.reduceEqDiff, RD, g36]
    refine impl_IsShabat_L (by omega) (by omega) (by omega) ?_
    rw [e]
    simp (disch := omega) only [RA, ↓reduceIte, Nat.reduceEqDiff, RD]
    refine hKr _ _ ?_; clear hKr Kr; (try simp only [blkQ, thenQ, loopQ]); (try simp only [RN, reduceIte]); try refine T_e rfl ?_
    refine T_rseq fun Kr hKr => ?_; simp (disch := omega) only [RA, ↓reduceIte, Nat.reduceEqDiff, RD]; refine hKr _ _ ?_; clear hKr Kr; (try simp only [RN, reduceIte]); try refine T_e rfl ?_
    refine T_cseq (t := false) (by simp (disch := omega) only [RA, ↓reduceIte, Nat.reduceEqDiff, RD]) ?_; (try simp only [RN, reduceIte]); try refine T_e rfl ?_
    refine sh44_T (g := g) (v := v) (a := a) (b := b) (m := m) hl hcd hf ⟨?_, ?_, ?_, ?_, ?_, ?_, ?_⟩ ?_ ?_ ?_ ?_ hH
    any_goals (simp (disch := omega) only [RA, ↓reduceIte, Nat.reduceEqDiff, RD, RE, *] <;> rfl)
  · refine sh44_T (g := g) (v := v) (a := a) (b := b) (m := m) hl hcd hf ⟨?_, ?_, ?_, ?_, ?_, ?_, ?_⟩ ?_ ?_ ?_ ?_ hH
    any_goals (simp (disch := omega) only [RA, ↓reduceIte, Nat.reduceEqDiff, RD, RE, *] <;> rfl)
theorem sh36_T {code : List Nat} {f g : List Int} {v a b m y z s : Int} {f' : Fr} {H' : BH} (hl : code.length ≤ 1048576) (hcd : ∀ i, nl code i < 256) (hf : f.length ≤ 1000) (hs : ShF f g v a b f') (g0 : f' 0 = FB code) (g29 : f' 29 = I m) (g30 : f' 30 = FI (resChainPolynomial m).1) (g31 : f' 31 = I (resChainPolynomial m).2)
    (g36 : f' 36 = FI (resForkPolynomial y z).1) (g37 : f' 37 = I (resForkPolynomial y z).2) (g25 : f' 25 = FI (resStarPolynomial s).1) (g26 : f' 26 = I (resStarPolynomial s).2) (hH : H' = []) : T 0 sh36 (bodyQ 0 [.tmp 2] fun v _ => v = .bool true) f' H' := by
  obtain ⟨g3, g5, g6, g9, g16, g20, g21⟩ := hs
  have l1 := resStarPolynomial_len s
  unfold sh36
  refine T_rseq fun Kr hKr => ?_; simp (disch := omega) only [RA, ↓reduceIte, Nat.reduceEqDiff, RD, g26]; refine hKr _ _ ?_; clear hKr Kr; (try simp only [RN, reduceIte]); try refine T_e rfl ?_
  refine T_csplit (p := (resStarPolynomial s).2 = 0) (by simp only [RA, ↓reduceIte, Nat.reduceEqDiff] <;> rfl) (by (try simp only [RB]) <;> first | done | exact Iff.rfl | omega | simp) (fun hc => ?_) (fun hc => ?_) <;> (try simp only [RN, reduceIte]) <;> (try refine T_e rfl ?_)
  · have e := star_ok (by assumption : (resStarPolynomial s).2 = 0)
    refine T_rseq fun Kr hKr => ?_; simp (disch := omega) only [RA, ↓reduceIte, Nat.reduceEqDiff, RD, g25]
    refine impl_IsShabat_L (by omega) (by omega) (by omega) ?_
    rw [e]
    simp (disch := omega) only [RA, ↓reduceIte, Nat.reduceEqDiff, RD]
    refine hKr _ _ ?_; clear hKr Kr; (try simp only [blkQ, thenQ, loopQ]); (try simp only [RN, reduceIte]); try refine T_e rfl ?_
    refine T_rseq fun Kr hKr => ?_; simp (disch := omega) only [RA, ↓reduceIte, Nat.reduceEqDiff, RD]; refine hKr _ _ ?_; clear hKr Kr; (try simp only [RN, reduceIte]); try refine T_e rfl ?_
    refine T_cseq (t := false) (by simp (disch := omega) only [RA, ↓reduceIte, Nat.reduceEqDiff, RD]) ?_; (try simp only [RN, reduceIte]); try refine T_e rfl ?_
    refine sh40_T (g := g) (v := v) (a := a) (b := b) (m := m) (y := y) (z := z) hl hcd hf ⟨?_, ?_, ?_, ?_, ?_, ?_, ?_⟩ ?_ ?_ ?_ ?_ ?_ ?_ hH
    any_goals (simp (disch := omega) only [RA, ↓reduceIte, Nat.reduceEqDiff, RD, RE, *] <;> rfl)
  · refine sh40_T (g := g) (v := v) (a := a) (b := b) (m := m) (y := y) (z := z) hl hcd hf ⟨?_, ?_, ?_, ?_, ?_, ?_, ?_⟩ ?_ ?_ ?_ ?_ ?_ ?_ hH
    any_goals (simp (disch := omega) only [RA, ↓reduceIte, Nat.reduceEqDiff, RD, RE, *] <;> rfl)
theorem FnShabats_small {code : List Nat} (hcd : ∀ i, nl code i < 256) :
    CallX false F_laws_FnShabats [FB code] [] fun v _ => v = .bool true := by
  refine CallX_body Γ_laws_FnShabats ?_; simp only [A_laws_FnShabats, T_aiff]
  refine T_rseq fun Kr hKr => ?_; simp (disch := omega) only [RA, ↓reduceIte, Nat.reduceEqDiff, RD]; refine hKr _ _ ?_; clear hKr Kr; (try simp only [RN, reduceIte]); try refine T_e rfl ?_
  refine T_rseq fun Kr hKr => ?_; simp (disch := omega) only [RA, ↓reduceIte, Nat.reduceEqDiff, RD]
  refine big_spec ?_
  simp (disch := omega) only [RA, ↓reduceIte, Nat.reduceEqDiff, RD]
  refine hKr _ _ ?_; clear hKr Kr; (try simp only [blkQ, thenQ, loopQ]); (try simp only [RN, reduceIte]); try refine T_e rfl ?_
  refine T_csplit (p := 4096 < code.length) (by simp only [RA, ↓reduceIte, Nat.reduceEqDiff] <;> rfl) (by (try simp only [RB]) <;> first | done | exact Iff.rfl | omega | simp) (fun hc => ?_) (fun hc => ?_) <;> (try simp only [RN, reduceIte]) <;> (try refine T_e rfl ?_)
  · refine T_rseq fun Kr hKr => ?_; simp (disch := omega) only [RA, ↓reduceIte, Nat.reduceEqDiff, RD]; refine hKr _ _ ?_; clear hKr Kr; (try simp only [RN, reduceIte]); try refine T_e rfl ?_
    refine bodyQ_ret (by simp (disch := omega) only [RA, ↓reduceIte, Nat.reduceEqDiff, RD, resAll, resOf]; rfl) GhV.refl ?_; simp only [tup]
  have hl : code.length ≤ 1048576 := by omega
  refine T_rseq fun Kr hKr => ?_; simp (disch := omega) only [RA, ↓reduceIte, Nat.reduceEqDiff, RD]
  refine spec_DrawMultiplicitiesOf_spec hl hcd fun f v hf hv0 hv1 => ?_
  simp (disch := omega) only [RA, ↓reduceIte, Nat.reduceEqDiff, RD]
  refine hKr _ _ ?_; clear hKr Kr; (try simp only [blkQ, thenQ, loopQ]); (try simp only [RN, reduceIte]); try refine T_e rfl ?_
  refine T_rseq fun Kr hKr => ?_; simp (disch := omega) only [RA, ↓reduceIte, Nat.reduceEqDiff, RD]
  refine impl_MultiplicitiesOf_L (by omega) (by omega) ?_
  simp (disch := omega) only [RA, ↓reduceIte, Nat.reduceEqDiff, RD]
  refine hKr _ _ ?_; clear hKr Kr; (try simp only [blkQ, thenQ, loopQ]); (try simp only [RN, reduceIte]); try refine T_e rfl ?_
  refine T_rseq fun Kr hKr => ?_; simp (disch := omega) only [RA, ↓reduceIte, Nat.reduceEqDiff, RD]
  refine spec_MultiplicitiesOf_L (by omega) (by omega) ?_
  simp (disch := omega) only [RA, ↓reduceIte, Nat.reduceEqDiff, RD]
  refine hKr _ _ ?_; clear hKr Kr; (try simp only [blkQ, thenQ, loopQ]); (try simp only [RN, reduceIte]); try refine T_e rfl ?_
  have m1 := resMultiplicitiesOf_len f v
  refine T_rseq fun Kr hKr => ?_; simp (disch := omega) only [RA, ↓reduceIte, Nat.reduceEqDiff, RD]
  refine likeInts_spec (by omega) (by omega) ?_
  rw [decide_eq_true rfl]
  simp (disch := omega) only [RA, ↓reduceIte, Nat.reduceEqDiff, RD]
  refine hKr _ _ ?_; clear hKr Kr; (try simp only [blkQ, thenQ, loopQ]); (try simp only [RN, reduceIte]); try refine T_e rfl ?_
  refine T_cseq (t := false) (by simp (disch := omega) only [RA, ↓reduceIte, Nat.reduceEqDiff, RD]) ?_; (try simp only [RN, reduceIte]); try refine T_e rfl ?_
  refine T_rseq fun Kr hKr => ?_; simp (disch := omega) only [RA, ↓reduceIte, Nat.reduceEqDiff, RD]
  refine impl_IsCritical_L (by omega) (by omega) ?_
  simp (disch := omega) only [RA, ↓reduceIte, Nat.reduceEqDiff, RD]
  refine hKr _ _ ?_; clear hKr Kr; (try simp only [blkQ, thenQ, loopQ]); (try simp only [RN, reduceIte]); try refine T_e rfl ?_
  refine T_rseq fun Kr hKr => ?_; simp (disch := omega) only [RA, ↓reduceIte, Nat.reduceEqDiff, RD]
  refine spec_IsCritical_L (by omega) (by omega) ?_
  simp (disch := omega) only [RA, ↓reduceIte, Nat.reduceEqDiff, RD]
  refine hKr _ _ ?_; clear hKr Kr; (try simp only [blkQ, thenQ, loopQ]); (try simp only [RN, reduceIte]); try refine T_e rfl ?_
  refine T_rseq fun Kr hKr => ?_; simp (disch := omega) only [RA, ↓reduceIte, Nat.reduceEqDiff, RD]; refine hKr _ _ ?_; clear hKr Kr; (try simp only [RN, reduceIte]); try refine T_e rfl ?_
  refine T_cseq (t := false) (by simp (disch := omega) only [RA, ↓reduceIte, Nat.reduceEqDiff, RD]) ?_; (try simp only [RN, reduceIte]); try refine T_e rfl ?_
  refine T_rseq fun Kr hKr => ?_; simp (disch := omega) only [RA, ↓reduceIte, Nat.reduceEqDiff, RD]
  refine spec_DrawIsShabat_spec hl hcd fun g a b hg ha hb => ?_
  simp (disch := omega) only [RA, ↓reduceIte, Nat.reduceEqDiff, RD, ext_2]
  refine hKr _ _ ?_; clear hKr Kr; (try simp only [blkQ, thenQ, loopQ]); (try simp only [RN, reduceIte]); try refine T_e rfl ?_
  refine T_rseq fun Kr hKr => ?_; simp (disch := omega) only [RA, ↓reduceIte, Nat.reduceEqDiff, RD]
  refine impl_IsShabat_L (by omega) (by omega) (by omega) ?_
  simp (disch := omega) only [RA, ↓reduceIte, Nat.reduceEqDiff, RD]
  refine hKr _ _ ?_; clear hKr Kr; (try simp only [blkQ, thenQ, loopQ]); (try simp only [RN, reduceIte]); try refine T_e rfl ?_
  refine T_rseq fun Kr hKr => ?_; simp (disch := omega) only [RA, ↓reduceIte, Nat.reduceEqDiff, RD]
  refine spec_IsShabat_L (by omega) (by omega) (by omega) ?_
  simp (disch := omega) only [RA, ↓reduceIte, Nat.reduceEqDiff, RD]
  refine hKr _ _ ?_; clear hKr Kr; (try simp only [blkQ, thenQ, loopQ]); (try simp only [RN, reduceIte]); try refine T_e rfl ?_
  refine T_rseq fun Kr hKr => ?_; simp (disch := omega) only [RA, ↓reduceIte, Nat.reduceEqDiff, RD]; refine hKr _ _ ?_; clear hKr Kr; (try simp only [RN, reduceIte]); try refine T_e rfl ?_
  refine T_cseq (t := false) (by simp (disch := omega) only [RA, ↓reduceIte, Nat.reduceEqDiff, RD]) ?_; (try simp only [RN, reduceIte]); try refine T_e rfl ?_
  refine T_rseq fun Kr hKr => ?_; simp (disch := omega) only [RA, ↓reduceIte, Nat.reduceEqDiff, RD]
  refine impl_PassportOfShabat_L (by omega) (by omega) (by omega) ?_
  simp (disch := omega) only [RA, ↓reduceIte, Nat.reduceEqDiff, RD]
  refine hKr _ _ ?_; clear hKr Kr; (try simp only [blkQ, thenQ, loopQ]); (try simp only [RN, reduceIte]); try refine T_e rfl ?_
  refine T_rseq fun Kr hKr => ?_; simp (disch := omega) only [RA, ↓reduceIte, Nat.reduceEqDiff, RD]
  refine spec_PassportOfShabat_L (by omega) (by omega) (by omega) ?_
  simp (disch := omega) only [RA, ↓reduceIte, Nat.reduceEqDiff, RD]
  refine hKr _ _ ?_; clear hKr Kr; (try simp only [blkQ, thenQ, loopQ]); (try simp only [RN, reduceIte]); try refine T_e rfl ?_
  have m2 := pass_lens (g := g) (a := a) (b := b)
  refine T_rseq fun Kr hKr => ?_; simp (disch := omega) only [RA, ↓reduceIte, Nat.reduceEqDiff, RD]
  refine lists9_spec (by omega) (by omega) (fun ys hy => by have := m2.2 ys hy; omega) (fun ys hy => by have := m2.2 ys hy; omega) ?_
  rw [decide_eq_true rfl]
  simp (disch := omega) only [RA, ↓reduceIte, Nat.reduceEqDiff, RD]
  refine hKr _ _ ?_; clear hKr Kr; (try simp only [blkQ, thenQ, loopQ]); (try simp only [RN, reduceIte]); try refine T_e rfl ?_
  refine T_cseq (t := false) (by simp (disch := omega) only [RA, ↓reduceIte, Nat.reduceEqDiff, RD]) ?_; (try simp only [RN, reduceIte]); try refine T_e rfl ?_
  refine T_rseq fun Kr hKr => ?_; simp (disch := omega) only [RA, ↓reduceIte, Nat.reduceEqDiff, RD]
  refine spec_DrawStarPolynomial_spec hl hcd fun s hs0 hs1 => ?_
  simp (disch := omega) only [RA, ↓reduceIte, Nat.reduceEqDiff, RD]
  refine hKr _ _ ?_; clear hKr Kr; (try simp only [blkQ, thenQ, loopQ]); (try simp only [RN, reduceIte]); try refine T_e rfl ?_
  refine T_rseq fun Kr hKr => ?_; simp (disch := omega) only [RA, ↓reduceIte, Nat.reduceEqDiff, RD]
  refine impl_StarPolynomial_L (by omega) ?_
  simp (disch := omega) only [RA, ↓reduceIte, Nat.reduceEqDiff, RD]
  refine hKr _ _ ?_; clear hKr Kr; (try simp only [blkQ, thenQ, loopQ]); (try simp only [RN, reduceIte]); try refine T_e rfl ?_
  refine T_rseq fun Kr hKr => ?_; simp (disch := omega) only [RA, ↓reduceIte, Nat.reduceEqDiff, RD]
  refine spec_StarPolynomial_L (by omega) ?_
  simp (disch := omega) only [RA, ↓reduceIte, Nat.reduceEqDiff, RD]
  refine hKr _ _ ?_; clear hKr Kr; (try simp only [blkQ, thenQ, loopQ]); (try simp only [RN, reduceIte]); try refine T_e rfl ?_
  have m3 := resStarPolynomial_len s
  refine T_rseq fun Kr hKr => ?_; simp (disch := omega) only [RA, ↓reduceIte, Nat.reduceEqDiff, RD]
  refine likeInts_spec (by omega) (by omega) ?_
  rw [decide_eq_true rfl]
  simp (disch := omega) only [RA, ↓reduceIte, Nat.reduceEqDiff, RD]
  refine hKr _ _ ?_; clear hKr Kr; (try simp only [blkQ, thenQ, loopQ]); (try simp only [RN, reduceIte]); try refine T_e rfl ?_
  refine T_cseq (t := false) (by simp (disch := omega) only [RA, ↓reduceIte, Nat.reduceEqDiff, RD]) ?_; (try simp only [RN, reduceIte]); try refine T_e rfl ?_
  refine T_rseq fun Kr hKr => ?_; simp (disch := omega) only [RA, ↓reduceIte, Nat.reduceEqDiff, RD]
  refine spec_DrawChainPolynomial_spec hl hcd fun m hm0 hm1 => ?_
  simp (disch := omega) only [RA, ↓reduceIte, Nat.reduceEqDiff, RD]
  refine hKr _ _ ?_; clear hKr Kr; (try simp only [blkQ, thenQ, loopQ]); (try simp only [RN, reduceIte]); try refine T_e rfl ?_
  refine T_rseq fun Kr hKr => ?_; simp (disch := omega) only [RA, ↓reduceIte, Nat.reduceEqDiff, RD]
  refine impl_ChainPolynomial_L (by omega) ?_
  simp (disch := omega) only [RA, ↓reduceIte, Nat.reduceEqDiff, RD]
  refine hKr _ _ ?_; clear hKr Kr; (try simp only [blkQ, thenQ, loopQ]); (try simp only [RN, reduceIte]); try refine T_e rfl ?_
  refine T_rseq fun Kr hKr => ?_; simp (disch := omega) only [RA, ↓reduceIte, Nat.reduceEqDiff, RD]
  refine spec_ChainPolynomial_L (by omega) ?_
  simp (disch := omega) only [RA, ↓reduceIte, Nat.reduceEqDiff, RD]
  refine hKr _ _ ?_; clear hKr Kr; (try simp only [blkQ, thenQ, loopQ]); (try simp only [RN, reduceIte]); try refine T_e rfl ?_
  have m4 := resChainPolynomial_len m
  refine T_rseq fun Kr hKr => ?_; simp (disch := omega) only [RA, ↓reduceIte, Nat.reduceEqDiff, RD]
  refine likeInts_spec (by omega) (by omega) ?_
  rw [decide_eq_true rfl]
  simp (disch := omega) only [RA, ↓reduceIte, Nat.reduceEqDiff, RD]
  refine hKr _ _ ?_; clear hKr Kr; (try simp only [blkQ, thenQ, loopQ]); (try simp only [RN, reduceIte]); try refine T_e rfl ?_
  refine T_cseq (t := false) (by simp (disch := omega) only [RA, ↓reduceIte, Nat.reduceEqDiff, RD]) ?_; (try simp only [RN, reduceIte]); try refine T_e rfl ?_
  refine T_rseq fun Kr hKr => ?_; simp (disch := omega) only [RA, ↓reduceIte, Nat.reduceEqDiff, RD]
  refine spec_DrawForkPolynomial_spec hl hcd fun y z hy hz => ?_
  simp (disch := omega) only [RA, ↓reduceIte, Nat.reduceEqDiff, RD]
  refine hKr _ _ ?_; clear hKr Kr; (try simp only [blkQ, thenQ, loopQ]); (try simp only [RN, reduceIte]); try refine T_e rfl ?_
  refine T_rseq fun Kr hKr => ?_; simp (disch := omega) only [RA, ↓reduceIte, Nat.reduceEqDiff, RD]
  refine impl_ForkPolynomial_L (by omega) (by omega) ?_
  simp (disch := omega) only [RA, ↓reduceIte, Nat.reduceEqDiff, RD]
  refine hKr _ _ ?_; clear hKr Kr; (try simp only [blkQ, thenQ, loopQ]); (try simp only [RN, reduceIte]); try refine T_e rfl ?_
  refine T_rseq fun Kr hKr => ?_; simp (disch := omega) only [RA, ↓reduceIte, Nat.reduceEqDiff, RD]
  refine spec_ForkPolynomial_L (by omega) (by omega) ?_
  simp (disch := omega) only [RA, ↓reduceIte, Nat.reduceEqDiff, RD]
  refine hKr _ _ ?_; clear hKr Kr; (try simp only [blkQ, thenQ, loopQ]); (try simp only [RN, reduceIte]); try refine T_e rfl ?_
  have m5 := resForkPolynomial_len y z
  refine T_rseq fun Kr hKr => ?_; simp (disch := omega) only [RA, ↓reduceIte, Nat.reduceEqDiff, RD]
  refine likeInts_spec (by omega) (by omega) ?_
  rw [decide_eq_true rfl]
  simp (disch := omega) only [RA, ↓reduceIte, Nat.reduceEqDiff, RD]
  refine hKr _ _ ?_; clear hKr Kr; (try simp only [blkQ, thenQ, loopQ]); (try simp only [RN, reduceIte]); try refine T_e rfl ?_
  refine T_cseq (t := false) (by simp (disch := omega) only [RA, ↓reduceIte, Nat.reduceEqDiff, RD]) ?_; (try simp only [RN, reduceIte]); try refine T_e rfl ?_
  refine sh36_T (g := g) (v := v) (a := a) (b := b) (m := m) (y := y) (z := z) (s := s) hl hcd hf ⟨?_, ?_, ?_, ?_, ?_, ?_, ?_⟩ ?_ ?_ ?_ ?_ ?_ ?_ ?_ ?_ rfl
  any_goals (simp (disch := omega) only [RA, ↓reduceIte, Nat.reduceEqDiff, RD, RE, *] <;> rfl)
end Go.Bm
