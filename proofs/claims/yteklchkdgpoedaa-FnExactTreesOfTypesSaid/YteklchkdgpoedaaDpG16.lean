/- DpNb, DpNc, DpDa, DpDg, DpDb, DpDc, DpDh, DpDd, DpEb, DpDi, DpDj, DpNj, Sp0, Sp1, Sp2, Sp3, Sp4, Sp5, Sp6, Sp7, Sp8, Sp9, SpA, SpB, SpC, SpD, SpE, SpF, SpG, SpH, SpI, SpJ, SpK, DpMa, SpL, SpM, SpN, SpO, SpP, SpQ, SpR, SpS -/
import Derived.KernelRfl
import Derived.Test.YteklchkdgpoedaaAmS
import Derived.Test.YteklchkdgpoedaaAmS2
import Derived.Test.YteklchkdgpoedaaBmL
import Derived.Test.YteklchkdgpoedaaBmQ
import Derived.Test.YteklchkdgpoedaaBmR
import Derived.Test.YteklchkdgpoedaaBmU
import Derived.Test.YteklchkdgpoedaaBmV
import Derived.Test.YteklchkdgpoedaaDpG0
import Derived.Test.YteklchkdgpoedaaDpG1
import Derived.Test.YteklchkdgpoedaaDpG11
import Derived.Test.YteklchkdgpoedaaDpG12
import Derived.Test.YteklchkdgpoedaaDpG13
import Derived.Test.YteklchkdgpoedaaDpG14
import Derived.Test.YteklchkdgpoedaaDpG15
import Derived.Test.YteklchkdgpoedaaDpG2
import Derived.Test.YteklchkdgpoedaaDpG3
import Derived.Test.YteklchkdgpoedaaDpG4
import Derived.Test.YteklchkdgpoedaaDpG6
import Derived.Test.YteklchkdgpoedaaDpG7
import Derived.Test.YteklchkdgpoedaaDpG8
import Derived.Test.YteklchkdgpoedaaDpG9
/- Slices of strings: what laws do with them. -/
set_option linter.unusedVariables false
set_option linter.unusedSimpArgs false
set_option linter.unusedSectionVars false
namespace Go.Bm
open Go Go.Am

def strV (s : List UInt8) : Value := .string (bs s)
def sg (ws : List (List UInt8)) (i : Nat) : List UInt8 := ws.getD i []
abbrev FSt (ws : List (List UInt8)) : Value := Fz ws.length 1 (ws.map strV)
theorem NN_strV {s : List UInt8} : NN (strV s) := .string
theorem NNL_st {ws : List (List UInt8)} : NNL (ws.map strV) := .map fun _ => .string
theorem all_st {ws : List (List UInt8)} : (ws.map strV).all Am.plain = true := by simp [Am.plain, strV]
theorem getN_st {ws : List (List UInt8)} {k : Nat} (h : k < ws.length) : getN none (ws.map strV) k = some (strV (sg ws k)) := by
  simp [getN, h, sg, List.getD]
theorem sb_eq {a b : List UInt8} : aSbin .eql (strV a) (strV b) = some (.bool (decide (a = b))) := by
  rw [← eqS_is]
  rfl
theorem sb_ne {a b : List UInt8} : aSbin .neq (strV a) (strV b) = some (.bool (decide (¬ a = b))) := by
  show some (Value.bool (!(eqS a b))) = _
  rw [eqS_is]
  simp
theorem sb_add {a b : List UInt8} (h : a.length + b.length ≤ 9223372036854775807) : aSbin .add (strV a) (strV b) = some (strV (a ++ b)) := by
  simp only [aSbin, strV, bs_size]
  rw [if_pos h, bs_append]
theorem sb_add109 {a : List UInt8} (h : a.length ≤ 9000000000000000000) : aSbin .add (.string ⟨#[109]⟩) (strV a) = some (strV (109 :: a)) := sb_add (a := [109]) (by rw [List.length_singleton]; omega)
theorem sb_add40 {a : List UInt8} (h : a.length ≤ 9000000000000000000) : aSbin .add (.string ⟨#[40]⟩) (strV a) = some (strV (40 :: a)) := sb_add (a := [40]) (by rw [List.length_singleton]; omega)
theorem sb_add41 {a : List UInt8} (h : a.length ≤ 9000000000000000000) : aSbin .add (.string ⟨#[41]⟩) (strV a) = some (strV (41 :: a)) := sb_add (a := [41]) (by rw [List.length_singleton]; omega)
theorem sb_app40 {a : List UInt8} (h : a.length ≤ 9000000000000000000) : aSbin .add (strV a) (.string ⟨#[40]⟩) = some (strV (a ++ [40])) := sb_add (b := [40]) (by rw [List.length_singleton]; omega)
theorem sb_app41 {a : List UInt8} (h : a.length ≤ 9000000000000000000) : aSbin .add (strV a) (.string ⟨#[41]⟩) = some (strV (a ++ [41])) := sb_add (b := [41]) (by rw [List.length_singleton]; omega)
theorem sb_lt {a b : List UInt8} : aSbin .lss (strV a) (strV b) = some (.bool (ltS a b)) := rfl
theorem st_str {ws : List (List UInt8)} {H : BH} {b o : Nat} {x : List UInt8} (h : o < ws.length) : stO (some (ws.map strV)) H b o 1 (strV x) = some (undef, H.set b (some ((ws.set o x).map strV))) := by
  rw [stO_1 (vs := [strV x]) rfl rfl rfl (by simpa using h), splice_1 h]
theorem app1_st {H : BH} {b bytes cn : Nat} {ws : List (List UInt8)} {y : List UInt8} (h : (ws.length + 1) * bytes ≤ 140737488355328) : app1 (some [strV y]) (some (ws.map strV)) H b ws.length bytes cn = some (S H.length 0 (ws.length + 1) 1, (H.set b none) ++ [some ((ws ++ [y]).map strV)]) := app1_g (g := strV) rfl h
theorem fl1_st {v : Value} {s : List UInt8} : fillL (List.replicate 1 v) [(0, 1, strV s)] = some [strV s] := rfl
theorem sg_set {ws : List (List UInt8)} {i j : Nat} {c : List UInt8} : sg (ws.set i c) j = if j = i ∧ i < ws.length then c else sg ws j := by
  unfold sg
  simp only [List.getD]
  rw [List.getElem?_set]
  by_cases h : i = j
  · subst h
    by_cases h2 : i < ws.length
    · simp [h2]
    · simp [h2]
  · rw [if_neg h, if_neg (fun e => h e.1.symm)]
theorem sg_ext {xs ys : List (List UInt8)} (hl : xs.length = ys.length) (h : ∀ j, j < xs.length → sg xs j = sg ys j) : xs = ys := by
  apply List.ext_getElem hl
  intro j h1 h2
  have := h j (by omega)
  simpa [sg, List.getD, h1, h2] using this
/-- A slice of strings: nil, a block of one's own, or one that is only read. -/
def SlS (H : BH) (v : Value) (xs : List (List UInt8)) : Prop := (v = .slice none 0 0 ∧ xs = []) ∨ (∃ i, v = S i 0 xs.length 1 ∧ blk H i = some (xs.map strV)) ∨ v = FSt xs
theorem SlS.own {H : BH} {i : Nat} {xs : List (List UInt8)} (h : blk H i = some (xs.map strV)) : SlS H (S i 0 xs.length 1) xs := .inr (.inl ⟨i, rfl, h⟩)
theorem SlS.fz {H : BH} {xs : List (List UInt8)} : SlS H (FSt xs) xs := .inr (.inr rfl)
theorem SlS.nil {H : BH} : SlS H (.slice none 0 0) [] := .inl ⟨rfl, rfl⟩
theorem SlS.len {H : BH} {v : Value} {xs : List (List UInt8)} (h : SlS H v xs) : lenW v = some (I xs.length) := by
  rcases h with ⟨rfl, rfl⟩ | ⟨i, rfl, _⟩ | rfl <;> rfl
theorem SlS.get {H : BH} {v : Value} {xs : List (List UInt8)} (h : SlS H v xs) {j : Nat} (hj : j < xs.length) : ∃ p, idxW 1 v (I j) = some p ∧ loadW none H p = some (strV (sg xs j)) := by
  rcases h with ⟨rfl, rfl⟩ | ⟨i, rfl, hb⟩ | rfl
  · simp at hj
  · refine ⟨_, idxW_s (by omega), ?_⟩
    rw [loadW_p, hb, getO_some, getN_st (by omega)]
    simp
  · refine ⟨_, idxW_fz (by omega), ?_⟩
    rw [loadW_fp, getN_st (by omega)]
    simp
theorem eqStringS_spec {v u : Value} {xs ys : List (List UInt8)} {H : BH} {K : Value → BH → Prop} (hv : SlS H v xs) (hu : SlS H u ys) (hl : xs.length < 4611686018427387904) (hl' : ys.length < 4611686018427387904) (hK : K (.bool (decide (xs = ys))) H) :
    CallX false F_laws_eqStringS [v, u] H K := by
  have v1 := hv.len
  have u1 := hu.len
  refine CallX_body Γ_laws_eqStringS ?_; simp only [A_laws_eqStringS, T_aiff]
  refine T_rseq fun Kr hKr => ?_; simp (disch := omega) only [RA, ↓reduceIte, Nat.reduceEqDiff, RD]; refine hKr _ _ ?_; clear hKr Kr; (try simp only [RN, reduceIte]); try refine T_e rfl ?_
  refine T_rseq fun Kr hKr => ?_; simp (disch := omega) only [RA, ↓reduceIte, Nat.reduceEqDiff, RD, v1, u1]; refine hKr _ _ ?_; clear hKr Kr; (try simp only [RN, reduceIte]); try refine T_e rfl ?_
  refine T_csplit (p := ¬ xs.length = ys.length) (by simp only [RA, ↓reduceIte, Nat.reduceEqDiff] <;> rfl) (by (try simp only [RB]) <;> first | done | exact Iff.rfl | omega | simp) (fun hc => ?_) (fun hc => ?_) <;> (try simp only [RN, reduceIte]) <;> (try refine T_e rfl ?_)
  · refine T_rseq fun Kr hKr => ?_; simp (disch := omega) only [RA, ↓reduceIte, Nat.reduceEqDiff, RD]; refine hKr _ _ ?_; clear hKr Kr; (try simp only [RN, reduceIte]); try refine T_e rfl ?_
    refine bodyQ_ret (by simp (disch := omega) only [RA, ↓reduceIte, Nat.reduceEqDiff, RD, resAll, resOf]; rfl) GhV.refl ?_; simp only [tup]
    rw [show decide (xs = ys) = false by simp; intro e; exact hc (by rw [e])] at hK
    exact hK
  have hll := Decidable.not_not.1 hc
  clear hc
  refine T_rseq fun Kr hKr => ?_; simp (disch := omega) only [RA, ↓reduceIte, Nat.reduceEqDiff, RD]; refine hKr _ _ ?_; clear hKr Kr; (try simp only [RN, reduceIte]); try refine T_e rfl ?_
  refine T_wloop (fun m f H' => ∃ i, i ≤ xs.length ∧ m = xs.length - i ∧ (∀ j, j < i → sg xs j = sg ys j) ∧ f 0 = v ∧ f 1 = u ∧ f 5 = I i ∧ H' = H) (xs.length) ?_ ?_
  · refine ⟨_, _, Gh.refl, 0, by omega, by omega, fun j hj => by omega, ?_, ?_, ?_, rfl⟩
    any_goals (simp (disch := omega) only [RA, ↓reduceIte, Nat.reduceEqDiff, RD, RE, *] <;> rfl)
  · rintro m f H' R ⟨i, hi, rfl, he, g0, g1, g5, rfl⟩ hN hX hR hE
    simp only [A_laws_eqStringS.l0, T_aiff]
    refine T_rseq fun Kr hKr => ?_; simp (disch := omega) only [RA, ↓reduceIte, Nat.reduceEqDiff, RD, g0, g5, v1]; refine hKr _ _ ?_; clear hKr Kr; (try simp only [RN, reduceIte]); try refine T_e rfl ?_
    refine T_csplit (p := i < xs.length) (by simp only [RA, ↓reduceIte, Nat.reduceEqDiff] <;> rfl) (by (try simp only [RB]) <;> first | done | exact Iff.rfl | omega | simp) (fun hc => ?_) (fun hc => ?_) <;> (try simp only [RN, reduceIte]) <;> (try refine T_e rfl ?_)
    · obtain ⟨p, p1, p2⟩ := hv.get hc
      obtain ⟨q, q1, q2⟩ := hu.get (show i < ys.length by omega)
      (first | refine T_bfree rfl ?_ | refine T_bfree' rfl ?_); (try simp only [RN, reduceIte]); try refine T_e rfl ?_
      refine T_rseq fun Kr hKr => ?_; simp (disch := omega) only [RA, ↓reduceIte, Nat.reduceEqDiff, RD, g0, g1, g5, p1, p2, q1, q2, sb_ne]; refine hKr _ _ ?_; clear hKr Kr; (try simp only [RN, reduceIte]); try refine T_e rfl ?_
      refine T_csplit (p := ¬ sg xs i = sg ys i) (by simp only [RA, ↓reduceIte, Nat.reduceEqDiff] <;> rfl) (by (try simp only [RB]) <;> first | done | exact Iff.rfl | omega | simp) (fun hc => ?_) (fun hc => ?_) <;> (try simp only [RN, reduceIte]) <;> (try refine T_e rfl ?_)
      · refine T_rseq fun Kr hKr => ?_; simp (disch := omega) only [RA, ↓reduceIte, Nat.reduceEqDiff, RD]; refine hKr _ _ ?_; clear hKr Kr; (try simp only [RN, reduceIte]); try refine T_e rfl ?_
        refine hR _ _ ?_
        refine bodyQ_ret (by simp (disch := omega) only [RA, ↓reduceIte, Nat.reduceEqDiff, RD, resAll, resOf]; rfl) GhV.refl ?_; simp only [tup]
        rw [show decide (xs = ys) = false by simp; intro e; exact hc (by rw [e])] at hK
        exact hK
      have hee := Decidable.not_not.1 hc
      refine T_reg_k fun Kr hKr => ?_; simp (disch := omega) only [RA, ↓reduceIte, Nat.reduceEqDiff, RD, g5]; refine hKr _ _ ?_; clear hKr Kr
      have he' : ∀ j, j < i + 1 → sg xs j = sg ys j := fun j hj => by
        by_cases e : j = i
        · rw [e]; exact hee
        · exact he j (by omega)
      refine hN (xs.length - (i + 1)) _ _ _ _ (by omega) Gh.refl ⟨i + 1, by omega, rfl, he', ?_, ?_, ?_, rfl⟩
      any_goals (simp (disch := omega) only [RA, ↓reduceIte, Nat.reduceEqDiff, RD, RE, *] <;> rfl)
    · refine hX _ _ ?_
      have e : xs = ys := sg_ext hll fun j hj => he j (by omega)
      rw [show decide (xs = ys) = true by simp [e]] at hK
      refine T_rseq fun Kr hKr => ?_; simp (disch := omega) only [RA, ↓reduceIte, Nat.reduceEqDiff, RD]; refine hKr _ _ ?_; clear hKr Kr; (try simp only [RN, reduceIte]); try refine T_e rfl ?_
      refine bodyQ_ret (by simp (disch := omega) only [RA, ↓reduceIte, Nat.reduceEqDiff, RD, resAll, resOf]; rfl) GhV.refl ?_; simp only [tup]
      exact hK
/-! ### Marks -/
/-- The digits of a number, ahead of others. -/
def mtD (k : Nat) (acc : List UInt8) : List UInt8 := if h : k = 0 then acc else mtD (k / 10) (UInt8.ofNat (48 + k % 10) :: acc)
termination_by k
decreasing_by omega
theorem mtD_0 {acc : List UInt8} : mtD 0 acc = acc := by rw [mtD]; rfl
theorem mtD_s {k : Nat} {acc : List UInt8} (h : 0 < k) : mtD k acc = mtD (k / 10) (UInt8.ofNat (48 + k % 10) :: acc) := by
  conv => lhs; rw [mtD]
  rw [dif_neg (by omega)]
def mt (k : Nat) : List UInt8 := if k = 0 then [109, 48] else 109 :: mtD k []
def strW (H : BH) : Value → Option Value
  | .slice (some ⟨b, o, none⟩) n 1 => match blk H b with | some cs => if o + n ≤ cs.length then (bytesL ((cs.drop o).take n)).map fun l => .string ⟨⟨l⟩⟩ else none | none => none
  | .slice none 0 0 => some (.string ⟨#[]⟩)
  | .iface n (.iface 1 (.tuple ⟨cs⟩)) => (bytesL cs).map fun l => .string ⟨⟨l⟩⟩
  | _ => none
theorem strW_o {H : BH} {b o n : Nat} : strW H (S b o n 1) = match blk H b with | some cs => if o + n ≤ cs.length then (bytesL ((cs.drop o).take n)).map fun l => .string ⟨⟨l⟩⟩ else none | none => none := rfl
theorem opsT_strOf {d t : Option Nat} {x : Opd} {r : List AOper} {K : Fr → BH → Prop} {f : Fr} {H : BH} {b o n : Nat} (hx : ev f x = S b o n 1) : opsT d (⟨t, .strOf x, none⟩ :: r) K f H = onV (strW H (S b o n 1)) (contV d t r K f H) :=
  viaV rfl (by simp) (by simp) (by
    simp only [bOp, hx, strW_o]
    cases blk H b with
    | none => rfl
    | some cs =>
      simp only
      by_cases h : o + n ≤ cs.length
      · rw [if_pos h, if_pos h, Option.map_map]; rfl
      · rw [if_neg h, if_neg h]; rfl)
theorem strW_1 {H : BH} {b : Nat} {c : Nat} (h : blk H b = some [.int .u8 (c : Int)]) : strW H (S b 0 1 1) = some (strV [UInt8.ofNat c]) := by
  rw [strW_o, h]
  rfl
theorem mk_dig {q k : Nat} : IntKind.u8.wrap (48 + ((q : Int)).tmod 10) = ((48 + q % 10 : Nat) : Int) := by
  rw [Int.tmod_eq_emod_of_nonneg (by omega)]
  have : 48 + (q : Int) % 10 = ((48 + q % 10 : Nat) : Int) := by omega
  rw [this]
  exact w8 (by omega) (by omega)
theorem markText_spec {x : Bool} {k : Nat} {H : BH} {K : Value → BH → Prop} (hk : k < 4611686018427387904) (hK : K (strV (mt k)) H) : CallX x F_laws_markText [I k] H K := by
  refine callP (.cons .int .nil) ?_
  refine CallX_body Γ_laws_markText ?_; simp only [A_laws_markText, T_aiff]
  refine T_rseq fun Kr hKr => ?_; simp (disch := omega) only [RA, ↓reduceIte, Nat.reduceEqDiff, RD]; refine hKr _ _ ?_; clear hKr Kr; (try simp only [RN, reduceIte]); try refine T_e rfl ?_
  refine T_rseq fun Kr hKr => ?_; simp (disch := omega) only [RA, ↓reduceIte, Nat.reduceEqDiff, RD]; refine hKr _ _ ?_; clear hKr Kr; (try simp only [RN, reduceIte]); try refine T_e rfl ?_
  refine T_csplit (p := k = 0) (by simp only [RA, ↓reduceIte, Nat.reduceEqDiff] <;> rfl) (by (try simp only [RB]) <;> first | done | exact Iff.rfl | omega | simp) (fun hc => ?_) (fun hc => ?_) <;> (try simp only [RN, reduceIte]) <;> (try refine T_e rfl ?_)
  · refine T_rseq fun Kr hKr => ?_; simp (disch := omega) only [RA, ↓reduceIte, Nat.reduceEqDiff, RD]; refine hKr _ _ ?_; clear hKr Kr; (try simp only [RN, reduceIte]); try refine T_e rfl ?_
    refine bodyQ_ret (by simp (disch := omega) only [RA, ↓reduceIte, Nat.reduceEqDiff, RD, resAll, resOf]; rfl) GhV.refl ?_; simp only [tup]
    rw [mt, if_pos hc] at hK
    exact ⟨NN_strV, hK⟩
  rw [mt, if_neg hc] at hK
  refine T_rseq fun Kr hKr => ?_; simp (disch := omega) only [RA, ↓reduceIte, Nat.reduceEqDiff, RD]; refine hKr _ _ ?_; clear hKr Kr; (try simp only [RN, reduceIte]); try refine T_e rfl ?_
  refine T_wloop (fun m f H' => ∃ acc, m + acc.length ≤ k ∧ mtD m acc = mtD k [] ∧ f 0 = I (m : Nat) ∧ f 3 = strV acc ∧ H' = []) (k) ?_ ?_
  · refine ⟨_, _, Gh.refl, [], by simp, rfl, ?_, ?_, rfl⟩
    any_goals (simp (disch := omega) only [RA, ↓reduceIte, Nat.reduceEqDiff, RD, RE, *] <;> rfl)
  · rintro m f H' R ⟨acc, hm, he, g0, g3, rfl⟩ hN hX hR hE
    simp only [A_laws_markText.l0, T_aiff]
    refine T_rseq fun Kr hKr => ?_; simp (disch := omega) only [RA, ↓reduceIte, Nat.reduceEqDiff, RD, g0]; refine hKr _ _ ?_; clear hKr Kr; (try simp only [RN, reduceIte]); try refine T_e rfl ?_
    refine T_csplit (p := 0 < m) (by simp only [RA, ↓reduceIte, Nat.reduceEqDiff] <;> rfl) (by (try simp only [RB]) <;> first | done | exact Iff.rfl | omega | simp) (fun hc => ?_) (fun hc => ?_) <;> (try simp only [RN, reduceIte]) <;> (try refine T_e rfl ?_)
    · have h10 := @mk_dig m m
      have h48 : (48 : Int) + (m : Int).tmod 10 = 48 + (m : Int).tmod 10 := rfl
      have hw : IntKind.i64.wrap (48 + (m : Int).tmod 10) = 48 + (m : Int).tmod 10 := w64 (by have := Int.tmod_nonneg 10 (show (0 : Int) ≤ m by omega); omega) (by have := Int.tmod_lt_of_pos (m : Int) (show (0 : Int) < 10 by omega); omega)
      have hq : (m : Int).tdiv 10 = ((m / 10 : Nat) : Int) := rfl
      have ha : [UInt8.ofNat (48 + m % 10)].length + acc.length ≤ 9223372036854775807 := by rw [List.length_singleton]; omega
      have hb1 : strW [some [.int .u8 ((48 + m % 10 : Nat) : Int)]] (S 0 0 1 1) = some (strV [UInt8.ofNat (48 + m % 10)]) := strW_1 rfl
      (first | refine T_bfree rfl ?_ | refine T_bfree' rfl ?_); (try simp only [RN, reduceIte]); try refine T_e rfl ?_
      refine T_rseq fun Kr hKr => ?_; simp (disch := omega) only [RA, ↓reduceIte, Nat.reduceEqDiff, Nat.reduceLeDiff, Int.reduceEq, reduceCtorEq, RD, g0, g3, hw, h10]
      rw [opsT_strOf (b := 0) (o := 0) (n := 1) rfl, hb1]
      have ha' := sb_add ha
      simp (disch := omega) only [RA, ↓reduceIte, Nat.reduceEqDiff, RD, g3, ha']
      refine hKr _ _ ?_; clear hKr Kr; (try simp only [blkQ, thenQ, loopQ]); (try simp only [RN, reduceIte]); try refine T_e rfl ?_
      refine T_reg_k fun Kr hKr => ?_; simp (disch := omega) only [RA, ↓reduceIte, Nat.reduceEqDiff, Int.reduceEq, reduceCtorEq, RD, g0, hq]; refine hKr _ _ ?_; clear hKr Kr
      rw [mtD_s hc] at he
      refine hN (m / 10) _ _ _ _ (by omega) (Gh.nrm [] rfl rfl (by simp only [RH])) ⟨UInt8.ofNat (48 + m % 10) :: acc, by rw [List.length_cons]; omega, he, ?_, ?_, rfl⟩
      any_goals (simp (disch := omega) only [RA, ↓reduceIte, Nat.reduceEqDiff, RD, RE, *] <;> rfl)
    · refine hX _ _ ?_
      obtain rfl : m = 0 := by omega
      rw [mtD_0] at he
      rw [← he] at hK
      have ha := sb_add109 (a := acc) (by omega)
      refine T_rseq fun Kr hKr => ?_; simp (disch := omega) only [RA, ↓reduceIte, Nat.reduceEqDiff, RD, g3, ha]; refine hKr _ _ ?_; clear hKr Kr; (try simp only [RN, reduceIte]); try refine T_e rfl ?_
      refine bodyQ_ret (by simp (disch := omega) only [RA, ↓reduceIte, Nat.reduceEqDiff, RD, resAll, resOf]; rfl) GhV.refl ?_; simp only [tup]
      exact ⟨NN_strV, hK⟩
end Go.Bm

/- Slices of strings: marked and held, sorted and compacted where they are in order. -/
set_option linter.unusedVariables false
set_option linter.unusedSimpArgs false
set_option linter.unusedSectionVars false
namespace Go.Bm
open Go Go.Am

def mtL (m n : Nat) : List (List UInt8) := (List.range n).map fun i : Nat => mt (m + i)
theorem mtL_len {m n : Nat} : (mtL m n).length = n := by simp [mtL]
theorem mtL_sg {m n i : Nat} (h : i < n) : sg (mtL m n) i = mt (m + i) := by simp [mtL, sg, List.getD, h]
def mtK (ws : List (List UInt8)) (m : Nat) : Nat → List (List UInt8)
  | 0 => ws
  | k + 1 => (mtK ws m k).set k (mt (m + k))
theorem mtK_len {ws : List (List UInt8)} {m k : Nat} : (mtK ws m k).length = ws.length := by
  induction k with
  | zero => rfl
  | succ k ih => simp [mtK, ih]
theorem mtK_sg {ws : List (List UInt8)} {m k i : Nat} (hi : i < ws.length) : sg (mtK ws m k) i = if i < k then mt (m + i) else sg ws i := by
  induction k with
  | zero => rfl
  | succ k ih =>
    rw [mtK, sg_set, mtK_len, ih]
    by_cases e : i = k
    · subst e
      rw [if_pos ⟨rfl, hi⟩, if_pos (by omega)]
    · rw [if_neg (fun h => e h.1)]
      by_cases h : i < k
      · rw [if_pos h, if_pos (by omega)]
      · rw [if_neg h, if_neg (by omega)]
theorem mtK_all {ws : List (List UInt8)} {m : Nat} : mtK ws m ws.length = mtL m ws.length :=
  sg_ext (by rw [mtK_len, mtL_len]) fun j hj => by
    rw [mtK_len] at hj
    rw [mtK_sg hj, if_pos hj, mtL_sg hj]
theorem markStringS_one {ws : List (List UInt8)} {m : Nat} {K : Value → BH → Prop} (hl : ws.length + m < 4611686018427387904) (hK : K (I ((m + ws.length : Nat) : Int)) [some ((mtL m ws.length).map strV)]) :
    CallX false F_laws_markStringS [S 0 0 ws.length 1, I m] [some (ws.map strV)] K := by
  refine CallX_body Γ_laws_markStringS ?_; simp only [A_laws_markStringS, T_aiff]
  refine T_rseq fun Kr hKr => ?_; simp (disch := omega) only [RA, ↓reduceIte, Nat.reduceEqDiff, RD]; refine hKr _ _ ?_; clear hKr Kr; (try simp only [RN, reduceIte]); try refine T_e rfl ?_
  refine T_rseq fun Kr hKr => ?_; simp (disch := omega) only [RA, ↓reduceIte, Nat.reduceEqDiff, RD]; refine hKr _ _ ?_; clear hKr Kr; (try simp only [RN, reduceIte]); try refine T_e rfl ?_
  refine T_wloop (fun d f H' => ∃ i, i ≤ ws.length ∧ d = ws.length - i ∧ f 0 = S 0 0 ws.length 1 ∧ f 1 = I ((m + i : Nat) : Int) ∧ f 5 = I i ∧ H' = [some ((mtK ws m i).map strV)]) (ws.length) ?_ ?_
  · refine ⟨_, _, Gh.refl, 0, by omega, by omega, ?_, ?_, ?_, rfl⟩
    any_goals (simp (disch := omega) only [RA, ↓reduceIte, Nat.reduceEqDiff, RD, RE, *] <;> rfl)
  · rintro d f H' R ⟨i, hi, rfl, g0, g1, g5, rfl⟩ hN hX hR hE
    simp only [A_laws_markStringS.l0, T_aiff]
    have hml := @mtK_len ws m i
    refine T_rseq fun Kr hKr => ?_; simp (disch := omega) only [RA, ↓reduceIte, Nat.reduceEqDiff, RD, g0, g5]; refine hKr _ _ ?_; clear hKr Kr; (try simp only [RN, reduceIte]); try refine T_e rfl ?_
    refine T_csplit (p := i < ws.length) (by simp only [RA, ↓reduceIte, Nat.reduceEqDiff] <;> rfl) (by (try simp only [RB]) <;> first | done | exact Iff.rfl | omega | simp) (fun hc => ?_) (fun hc => ?_) <;> (try simp only [RN, reduceIte]) <;> (try refine T_e rfl ?_)
    · have e : ((m + i : Nat) : Int) + 1 = ((m + (i + 1) : Nat) : Int) := by omega
      have hst : ∀ H : BH, stO (some ((mtK ws m i).map strV)) H 0 i 1 (strV (mt (m + i))) = some (undef, H.set 0 (some ((mtK ws m (i + 1)).map strV))) := fun H => st_str (by omega)
      (first | refine T_bfree rfl ?_ | refine T_bfree' rfl ?_); (try simp only [RN, reduceIte]); try refine T_e rfl ?_
      refine T_rseq fun Kr hKr => ?_; simp (disch := omega) only [RA, ↓reduceIte, Nat.reduceEqDiff, RD, g0, g1, g5]
      refine markText_spec (k := m + i) (by omega) ?_
      simp (disch := omega) only [RA, ↓reduceIte, Nat.reduceEqDiff, RD, g0, g1, g5, hst]
      refine hKr _ _ ?_; clear hKr Kr; (try simp only [blkQ, thenQ, loopQ]); (try simp only [RN, reduceIte]); try refine T_e rfl ?_
      refine T_rseq fun Kr hKr => ?_; simp (disch := omega) only [RA, ↓reduceIte, Nat.reduceEqDiff, RD, g1, e]; refine hKr _ _ ?_; clear hKr Kr; (try simp only [RN, reduceIte]); try refine T_e rfl ?_
      refine T_reg_k fun Kr hKr => ?_; simp (disch := omega) only [RA, ↓reduceIte, Nat.reduceEqDiff, RD, g5]; refine hKr _ _ ?_; clear hKr Kr
      refine hN (ws.length - (i + 1)) _ _ _ _ (by omega) Gh.refl ⟨i + 1, by omega, rfl, ?_, ?_, ?_, rfl⟩
      any_goals (simp (disch := omega) only [RA, ↓reduceIte, Nat.reduceEqDiff, RD, RE, *] <;> rfl)
    · refine hX _ _ ?_
      obtain rfl : i = ws.length := by omega
      rw [mtK_all]
      refine T_rseq fun Kr hKr => ?_; simp (disch := omega) only [RA, ↓reduceIte, Nat.reduceEqDiff, RD, g1]; refine hKr _ _ ?_; clear hKr Kr; (try simp only [RN, reduceIte]); try refine T_e rfl ?_
      refine bodyQ_ret (by simp (disch := omega) only [RA, ↓reduceIte, Nat.reduceEqDiff, RD, resAll, resOf]; rfl) GhV.refl ?_; simp only [tup]
      exact hK
theorem markStringS_own {ws : List (List UInt8)} {m i : Nat} {H : BH} {K : Value → BH → Prop} (hb : blk H i = some (ws.map strV)) (hl : ws.length + m < 4611686018427387904) (hK : K (I ((m + ws.length : Nat) : Int)) (H.set i (some ((mtL m ws.length).map strV)))) :
    CallX false F_laws_markStringS [S i 0 ws.length 1, I m] H K := by
  refine call1 hb NNL_st ?_
  have e : ([S i 0 ws.length 1, I m] : List Value).map (ren [i]) = [S 0 0 ws.length 1, I m] := by simp [ren, ren1, nm]
  rw [e]
  refine markStringS_one hl ⟨.int, HN.cons NNL_st HN.nil, ?_⟩
  exact hK
theorem markStringS_nil {m : Int} {H : BH} {K : Value → BH → Prop} (hK : K (I m) H) : CallX false F_laws_markStringS [.slice none 0 0, I m] H K := by
  refine CallX_body Γ_laws_markStringS ?_; simp only [A_laws_markStringS, T_aiff]
  refine T_rseq fun Kr hKr => ?_; simp (disch := omega) only [RA, ↓reduceIte, Nat.reduceEqDiff, RD]; refine hKr _ _ ?_; clear hKr Kr; (try simp only [RN, reduceIte]); try refine T_e rfl ?_
  refine T_rseq fun Kr hKr => ?_; simp (disch := omega) only [RA, ↓reduceIte, Nat.reduceEqDiff, RD]; refine hKr _ _ ?_; clear hKr Kr; (try simp only [RN, reduceIte]); try refine T_e rfl ?_
  refine T_wloop (fun d f H' => d = 0 ∧ f 0 = .slice none 0 0 ∧ f 1 = I m ∧ f 5 = I 0 ∧ H' = H) (0) ?_ ?_
  · refine ⟨_, _, Gh.refl, rfl, ?_, ?_, ?_, rfl⟩
    any_goals (simp (disch := omega) only [RA, ↓reduceIte, Nat.reduceEqDiff, RD, RE, *] <;> rfl)
  · rintro d f H' R ⟨rfl, g0, g1, g5, rfl⟩ hN hX hR hE
    simp only [A_laws_markStringS.l0, T_aiff]
    refine T_rseq fun Kr hKr => ?_; simp (disch := omega) only [RA, ↓reduceIte, Nat.reduceEqDiff, RD, g0, g5]; refine hKr _ _ ?_; clear hKr Kr; (try simp only [RN, reduceIte]); try refine T_e rfl ?_
    refine T_cseq (t := false) (by simp (disch := omega) only [RA, ↓reduceIte, Nat.reduceEqDiff, RD]) ?_; (try simp only [RN, reduceIte]); try refine T_e rfl ?_
    refine hX _ _ ?_
    refine T_rseq fun Kr hKr => ?_; simp (disch := omega) only [RA, ↓reduceIte, Nat.reduceEqDiff, RD, g1]; refine hKr _ _ ?_; clear hKr Kr; (try simp only [RN, reduceIte]); try refine T_e rfl ?_
    refine bodyQ_ret (by simp (disch := omega) only [RA, ↓reduceIte, Nat.reduceEqDiff, RD, resAll, resOf]; rfl) GhV.refl ?_; simp only [tup]
    exact hK
theorem heldStringS_spec {v : Value} {m n : Nat} {H : BH} {K : Value → BH → Prop} (hv : SlS H v (mtL m n)) (hl : n + m < 4611686018427387904) (hK : K (I ((m + n : Nat) : Int)) H) :
    CallX false F_laws_heldStringS [v, I m] H K := by
  have v1 := hv.len
  rw [mtL_len] at v1
  refine CallX_body Γ_laws_heldStringS ?_; simp only [A_laws_heldStringS, T_aiff]
  refine T_rseq fun Kr hKr => ?_; simp (disch := omega) only [RA, ↓reduceIte, Nat.reduceEqDiff, RD]; refine hKr _ _ ?_; clear hKr Kr; (try simp only [RN, reduceIte]); try refine T_e rfl ?_
  refine T_rseq fun Kr hKr => ?_; simp (disch := omega) only [RA, ↓reduceIte, Nat.reduceEqDiff, RD]; refine hKr _ _ ?_; clear hKr Kr; (try simp only [RN, reduceIte]); try refine T_e rfl ?_
  refine T_wloop (fun d f H' => ∃ i, i ≤ n ∧ d = n - i ∧ f 0 = v ∧ f 1 = I ((m + i : Nat) : Int) ∧ f 5 = I i ∧ H' = H) (n) ?_ ?_
  · refine ⟨_, _, Gh.refl, 0, by omega, by omega, ?_, ?_, ?_, rfl⟩
    any_goals (simp (disch := omega) only [RA, ↓reduceIte, Nat.reduceEqDiff, RD, RE, *] <;> rfl)
  · rintro d f H' R ⟨i, hi, rfl, g0, g1, g5, rfl⟩ hN hX hR hE
    simp only [A_laws_heldStringS.l0, T_aiff]
    refine T_rseq fun Kr hKr => ?_; simp (disch := omega) only [RA, ↓reduceIte, Nat.reduceEqDiff, RD, g0, g5, v1]; refine hKr _ _ ?_; clear hKr Kr; (try simp only [RN, reduceIte]); try refine T_e rfl ?_
    refine T_csplit (p := i < n) (by simp only [RA, ↓reduceIte, Nat.reduceEqDiff] <;> rfl) (by (try simp only [RB]) <;> first | done | exact Iff.rfl | omega | simp) (fun hc => ?_) (fun hc => ?_) <;> (try simp only [RN, reduceIte]) <;> (try refine T_e rfl ?_)
    · obtain ⟨p, p1, p2⟩ := hv.get (show i < (mtL m n).length by rw [mtL_len]; exact hc)
      rw [mtL_sg hc] at p2
      have e : ((m + i : Nat) : Int) + 1 = ((m + (i + 1) : Nat) : Int) := by omega
      (first | refine T_bfree rfl ?_ | refine T_bfree' rfl ?_); (try simp only [RN, reduceIte]); try refine T_e rfl ?_
      refine T_rseq fun Kr hKr => ?_; simp (disch := omega) only [RA, ↓reduceIte, Nat.reduceEqDiff, RD, g0, g1, g5, p1, p2]
      refine markText_spec (k := m + i) (by omega) ?_
      simp (disch := omega) only [RA, ↓reduceIte, Nat.reduceEqDiff, RD, sb_ne]
      refine hKr _ _ ?_; clear hKr Kr; (try simp only [blkQ, thenQ, loopQ]); (try simp only [RN, reduceIte]); try refine T_e rfl ?_
      refine T_cseq (t := false) (by simp (disch := omega) only [RA, ↓reduceIte, Nat.reduceEqDiff, RD]) ?_; (try simp only [RN, reduceIte]); try refine T_e rfl ?_
      refine T_rseq fun Kr hKr => ?_; simp (disch := omega) only [RA, ↓reduceIte, Nat.reduceEqDiff, RD, g1, e]; refine hKr _ _ ?_; clear hKr Kr; (try simp only [RN, reduceIte]); try refine T_e rfl ?_
      refine T_reg_k fun Kr hKr => ?_; simp (disch := omega) only [RA, ↓reduceIte, Nat.reduceEqDiff, RD, g5]; refine hKr _ _ ?_; clear hKr Kr
      refine hN (n - (i + 1)) _ _ _ _ (by omega) Gh.refl ⟨i + 1, by omega, rfl, ?_, ?_, ?_, rfl⟩
      any_goals (simp (disch := omega) only [RA, ↓reduceIte, Nat.reduceEqDiff, RD, RE, *] <;> rfl)
    · refine hX _ _ ?_
      obtain rfl : i = n := by omega
      refine T_rseq fun Kr hKr => ?_; simp (disch := omega) only [RA, ↓reduceIte, Nat.reduceEqDiff, RD, g1]; refine hKr _ _ ?_; clear hKr Kr; (try simp only [RN, reduceIte]); try refine T_e rfl ?_
      refine bodyQ_ret (by simp (disch := omega) only [RA, ↓reduceIte, Nat.reduceEqDiff, RD, resAll, resOf]; rfl) GhV.refl ?_; simp only [tup]
      exact hK
/-! ### In order -/
/-- Strings in order, none twice. -/
def Ord (ws : List (List UInt8)) : Prop := ∀ i, i + 1 < ws.length → ltS (sg ws (i + 1)) (sg ws i) = false ∧ sg ws (i + 1) ≠ sg ws i
theorem isNaN_str_spec {x : Bool} {a : List UInt8} {H : BH} {K : Value → BH → Prop} (hK : K (.bool false) H) : CallX x F_cmp_isNaN_string [strV a] H K := by
  refine callP (.cons NN_strV .nil) ?_
  refine CallX_body Γ_cmp_isNaN_string ?_; simp only [A_cmp_isNaN_string, T_aiff]
  refine T_rseq fun Kr hKr => ?_; simp (disch := omega) only [RA, ↓reduceIte, Nat.reduceEqDiff, RD]; refine hKr _ _ ?_; clear hKr Kr; (try simp only [RN, reduceIte]); try refine T_e rfl ?_
  refine T_rseq fun Kr hKr => ?_; simp (disch := omega) only [RA, ↓reduceIte, Nat.reduceEqDiff, RD, sb_ne]; refine hKr _ _ ?_; clear hKr Kr; (try simp only [RN, reduceIte]); try refine T_e rfl ?_
  refine bodyQ_ret (by simp (disch := omega) only [RA, ↓reduceIte, Nat.reduceEqDiff, RD, resAll, resOf]; rfl) GhV.refl ?_; simp only [tup]
  exact ⟨.bool, by simpa using hK⟩
theorem Less_str_spec {x : Bool} {a b : List UInt8} {H : BH} {K : Value → BH → Prop} (hK : K (.bool (ltS a b)) H) : CallX x F_cmp_Less_string [strV a, strV b] H K := by
  refine callP (.cons NN_strV (.cons NN_strV .nil)) ?_
  refine CallX_body Γ_cmp_Less_string ?_; simp only [A_cmp_Less_string, T_aiff]
  refine T_rseq fun Kr hKr => ?_; simp (disch := omega) only [RA, ↓reduceIte, Nat.reduceEqDiff, RD]; refine hKr _ _ ?_; clear hKr Kr; (try simp only [RN, reduceIte]); try refine T_e rfl ?_
  refine T_rseq fun Kr hKr => ?_; simp (disch := omega) only [RA, ↓reduceIte, Nat.reduceEqDiff, RD]
  refine isNaN_str_spec ?_
  simp (disch := omega) only [RA, ↓reduceIte, Nat.reduceEqDiff, RD, sb_lt]
  refine hKr _ _ ?_; clear hKr Kr; (try simp only [blkQ, thenQ, loopQ]); (try simp only [RN, reduceIte]); try refine T_e rfl ?_
  refine bodyQ_ret (by simp (disch := omega) only [RA, ↓reduceIte, Nat.reduceEqDiff, RD, resAll, resOf]; rfl) GhV.refl ?_; simp only [tup]
  exact ⟨.bool, hK⟩
theorem HNs {ws : List (List UInt8)} : HN [some (ws.map strV)] := .cons NNL_st .nil
/-- What is in order is left so by an insertion sort. -/
theorem insertionSort_str {ws : List (List UInt8)} {K : Value → BH → Prop} (hp : ws.length ≤ 1000000) (ho : Ord ws) (hK : K (.tuple ⟨[]⟩) [some (ws.map strV)]) :
    CallX false F_slices_insertionSortOrdered_string [S 0 0 ws.length 1, I 0, I ws.length] [some (ws.map strV)] K := by
  refine CallX_body Γ_slices_insertionSortOrdered_string ?_; simp only [A_slices_insertionSortOrdered_string, T_aiff]
  refine T_rseq fun Kr hKr => ?_; simp (disch := omega) only [RA, ↓reduceIte, Nat.reduceEqDiff, RD]; refine hKr _ _ ?_; clear hKr Kr; (try simp only [RN, reduceIte]); try refine T_e rfl ?_
  refine T_tail ?_
  refine T_wloop (fun m f H' => ∃ i : Nat, 1 ≤ i ∧ m = ws.length - i ∧ f 0 = S 0 0 ws.length 1 ∧ f 1 = I 0 ∧ f 2 = I ws.length ∧ f 6 = I i ∧ H' = [some (ws.map strV)]) (ws.length - 1) ?_ ?_
  · refine ⟨_, _, Gh.refl, 1, by omega, by omega, ?_, ?_, ?_, ?_, rfl⟩
    any_goals (simp (disch := omega) only [RA, ↓reduceIte, Nat.reduceEqDiff, RD, RE, *] <;> rfl)
  · rintro m f H' R ⟨i, hi1, rfl, g0, g1, g2, g6, rfl⟩ hN hX hR hE
    simp only [A_slices_insertionSortOrdered_string.l1, T_aiff]
    refine T_rseq fun Kr hKr => ?_; simp (disch := omega) only [RA, ↓reduceIte, Nat.reduceEqDiff, RD, g2, g6]; refine hKr _ _ ?_; clear hKr Kr; (try simp only [RN, reduceIte]); try refine T_e rfl ?_
    refine T_csplit (p := i < ws.length) (by simp only [RA, ↓reduceIte, Nat.reduceEqDiff] <;> rfl) (by (try simp only [RB]) <;> first | done | exact Iff.rfl | omega | simp) (fun hc => ?_) (fun hc => ?_) <;> (try simp only [RN, reduceIte]) <;> (try refine T_e rfl ?_)
    · obtain ⟨j, rfl⟩ : ∃ j, i = j + 1 := ⟨i - 1, by omega⟩
      have hlt := (ho j hc).1
      have e1 : ((j + 1 : Nat) : Int) - 1 = (j : Int) := by omega
      have e0 : (0 : Int) < ((j + 1 : Nat) : Int) := by omega
      (first | refine T_bfree rfl ?_ | refine T_bfree' rfl ?_); (try simp only [RN, reduceIte]); try refine T_e rfl ?_
      refine T_rseq fun Kr hKr => ?_; simp (disch := omega) only [RA, ↓reduceIte, Nat.reduceEqDiff, RD, g6]; refine hKr _ _ ?_; clear hKr Kr; (try simp only [RN, reduceIte]); try refine T_e rfl ?_
      refine T_wloop (fun m f H' => m = 0 ∧ f 0 = S 0 0 ws.length 1 ∧ f 1 = I 0 ∧ f 2 = I ws.length ∧ f 6 = I ((j + 1 : Nat) : Int) ∧ f 7 = I ((j + 1 : Nat) : Int) ∧ H' = [some (ws.map strV)]) (0) ?_ ?_
      · refine ⟨_, _, Gh.refl, rfl, ?_, ?_, ?_, ?_, ?_, rfl⟩
        any_goals (simp (disch := omega) only [RA, ↓reduceIte, Nat.reduceEqDiff, RD, RE, *] <;> rfl)
      · clear g0 g1 g2 g6
        rintro m f H' R2 ⟨rfl, g0, g1, g2, g6, g7, rfl⟩ hN2 hX2 hR2 hE2
        simp only [A_slices_insertionSortOrdered_string.l0, T_aiff]
        refine T_rseq fun Kr hKr => ?_; simp (disch := omega) only [RA, ↓reduceIte, Nat.reduceEqDiff, RD, g0, g1, g7, e1, e0, getN_st]
        refine Less_str_spec ?_
        rw [hlt]
        simp (disch := omega) only [RA, ↓reduceIte, Nat.reduceEqDiff, RD]
        refine hKr _ _ ?_; clear hKr Kr; (try simp only [blkQ, thenQ, loopQ]); (try simp only [RN, reduceIte]); try refine T_e rfl ?_
        refine T_cseq (t := false) (by simp (disch := omega) only [RA, ↓reduceIte, Nat.reduceEqDiff, RD]) ?_; (try simp only [RN, reduceIte]); try refine T_e rfl ?_
        refine hX2 _ _ ?_
        refine T_reg_k fun Kr hKr => ?_; simp (disch := omega) only [RA, ↓reduceIte, Nat.reduceEqDiff, RD, g6]; refine hKr _ _ ?_; clear hKr Kr
        refine hN (ws.length - (j + 1 + 1)) _ _ _ _ (by omega) Gh.refl ⟨j + 1 + 1, by omega, rfl, ?_, ?_, ?_, ?_, rfl⟩
        any_goals (simp (disch := omega) only [RA, ↓reduceIte, Nat.reduceEqDiff, RD, RE, *] <;> rfl)
    · refine hX _ _ ?_
      refine T_skip ?_
      refine bodyQ_ret (by simp (disch := omega) only [RA, ↓reduceIte, Nat.reduceEqDiff, RD, resAll, resOf]; rfl) GhV.refl ?_; simp only [tup]
      exact hK
theorem pdqsort_str {ws : List (List UInt8)} {l : Int} {K : Value → BH → Prop} (hp : ws.length ≤ 12) (ho : Ord ws) (hK : K (.tuple ⟨[]⟩) [some (ws.map strV)]) :
    CallX false F_slices_pdqsortOrdered_string [S 0 0 ws.length 1, I 0, I ws.length, I l] [some (ws.map strV)] K := by
  refine CallX_body Γ_slices_pdqsortOrdered_string ?_; simp only [A_slices_pdqsortOrdered_string, T_aiff]
  refine T_rseq fun Kr hKr => ?_; simp (disch := omega) only [RA, ↓reduceIte, Nat.reduceEqDiff, RD]; refine hKr _ _ ?_; clear hKr Kr; (try simp only [RN, reduceIte]); try refine T_e rfl ?_
  refine T_rseq fun Kr hKr => ?_; simp (disch := omega) only [RA, ↓reduceIte, Nat.reduceEqDiff, RD]; refine hKr _ _ ?_; clear hKr Kr; (try simp only [RN, reduceIte]); try refine T_e rfl ?_
  refine T_tail ?_
  refine T_wloop (fun m f H' => m = 0 ∧ f 0 = S 0 0 ws.length 1 ∧ f 1 = I 0 ∧ f 2 = I ws.length ∧ H' = [some (ws.map strV)]) (0) ?_ ?_
  · refine ⟨_, _, Gh.refl, rfl, ?_, ?_, ?_, rfl⟩
    any_goals (simp (disch := omega) only [RA, ↓reduceIte, Nat.reduceEqDiff, RD, RE, *] <;> rfl)
  · rintro m f H' R ⟨rfl, g0, g1, g2, rfl⟩ hN hX hR hE
    simp only [A_slices_pdqsortOrdered_string.l0, T_aiff]
    refine T_block ?_
    (try simp only [RN, reduceIte]); try refine T_e rfl ?_
    have hbl : (ws.length : Int) - 0 = (ws.length : Int) := by omega
    refine T_rseq fun Kr hKr => ?_; simp (disch := omega) only [RA, ↓reduceIte, Nat.reduceEqDiff, RD, g1, g2, hbl]; refine hKr _ _ ?_; clear hKr Kr; (try simp only [RN, reduceIte]); try refine T_e rfl ?_
    refine T_rseq fun Kr hKr => ?_; simp (disch := omega) only [RA, ↓reduceIte, Nat.reduceEqDiff, RD]; refine hKr _ _ ?_; clear hKr Kr; (try simp only [RN, reduceIte]); try refine T_e rfl ?_
    refine T_cseq (t := true) (by simp (disch := omega) only [RA, ↓reduceIte, Nat.reduceEqDiff, RD]) ?_; (try simp only [RN, reduceIte]); try refine T_e rfl ?_
    refine T_rseq fun Kr hKr => ?_; simp (disch := omega) only [RA, ↓reduceIte, Nat.reduceEqDiff, RD, g0, g1, g2]
    refine insertionSort_str (by omega) ho ?_
    simp (disch := omega) only [RA, ↓reduceIte, Nat.reduceEqDiff, RD]
    refine hKr _ _ ?_; clear hKr Kr; (try simp only [blkQ, thenQ, loopQ]); (try simp only [RN, reduceIte]); try refine T_e rfl ?_
    simp only [blkQ, thenQ, loopQ, if_true]
    refine hR _ _ ?_
    refine bodyQ_ret (by simp (disch := omega) only [RA, ↓reduceIte, Nat.reduceEqDiff, RD, resAll, resOf]; rfl) GhV.refl ?_; simp only [tup]
    exact hK
theorem Sort_str {ws : List (List UInt8)} {K : Value → BH → Prop} (hp : ws.length ≤ 12) (ho : Ord ws) (hK : K (.tuple ⟨[]⟩) [some (ws.map strV)]) :
    CallX false F_slices_Sort_string_string [S 0 0 ws.length 1] [some (ws.map strV)] K := by
  refine CallX_body Γ_slices_Sort_string_string ?_; simp only [A_slices_Sort_string_string, T_aiff]
  refine T_rseq fun Kr hKr => ?_; simp (disch := omega) only [RA, ↓reduceIte, Nat.reduceEqDiff, RD]; refine hKr _ _ ?_; clear hKr Kr; (try simp only [RN, reduceIte]); try refine T_e rfl ?_
  refine T_reg_k fun Kr hKr => ?_; simp (disch := omega) only [RA, ↓reduceIte, Nat.reduceEqDiff, RD, wu64]
  refine Len_spec (by omega) ?_
  simp (disch := omega) only [RA, ↓reduceIte, Nat.reduceEqDiff, RD]
  refine pdqsort_str hp ho ?_
  simp (disch := omega) only [RA, ↓reduceIte, Nat.reduceEqDiff, RD]
  refine hKr _ _ ?_; clear hKr Kr
  refine bodyQ_ret (by simp (disch := omega) only [RA, ↓reduceIte, Nat.reduceEqDiff, RD, resAll, resOf]; rfl) GhV.refl ?_; simp only [tup]
  exact hK
theorem Sort_str_own {ws : List (List UInt8)} {i : Nat} {H : BH} {K : Value → BH → Prop} (hb : blk H i = some (ws.map strV)) (hp : ws.length ≤ 12) (ho : Ord ws) (hK : K (.tuple ⟨[]⟩) (H.set i (some (ws.map strV)))) :
    CallX false F_slices_Sort_string_string [S i 0 ws.length 1] H K := by
  refine call1 hb NNL_st ?_
  have e : ([S i 0 ws.length 1] : List Value).map (ren [i]) = [S 0 0 ws.length 1] := by simp [ren, ren1, nm]
  rw [e]
  exact Sort_str hp ho ⟨NN.tuple NNL.nil, HNs, hK⟩
/-- What is in order has nothing twice. -/
theorem Compact_str {ws : List (List UInt8)} {i : Nat} {H : BH} {K : Value → BH → Prop} (hb : blk H i = some (ws.map strV)) (hp : ws.length ≤ 1000000) (ho : Ord ws) (hK : K (S i 0 ws.length 1) H) :
    CallX false F_slices_Compact_string_string [S i 0 ws.length 1] H K := by
  refine CallX_body Γ_slices_Compact_string_string ?_; simp only [A_slices_Compact_string_string, T_aiff]
  refine T_rseq fun Kr hKr => ?_; simp (disch := omega) only [RA, ↓reduceIte, Nat.reduceEqDiff, RD]; refine hKr _ _ ?_; clear hKr Kr; (try simp only [RN, reduceIte]); try refine T_e rfl ?_
  refine T_rseq fun Kr hKr => ?_; simp (disch := omega) only [RA, ↓reduceIte, Nat.reduceEqDiff, RD]; refine hKr _ _ ?_; clear hKr Kr; (try simp only [RN, reduceIte]); try refine T_e rfl ?_
  refine T_csplit (p := ws.length < 2) (by simp only [RA, ↓reduceIte, Nat.reduceEqDiff] <;> rfl) (by (try simp only [RB]) <;> first | done | exact Iff.rfl | omega | simp) (fun hc => ?_) (fun hc => ?_) <;> (try simp only [RN, reduceIte]) <;> (try refine T_e rfl ?_)
  · refine T_rseq fun Kr hKr => ?_; simp (disch := omega) only [RA, ↓reduceIte, Nat.reduceEqDiff, RD]; refine hKr _ _ ?_; clear hKr Kr; (try simp only [RN, reduceIte]); try refine T_e rfl ?_
    refine bodyQ_ret (by simp (disch := omega) only [RA, ↓reduceIte, Nat.reduceEqDiff, RD, resAll, resOf]; rfl) GhV.refl ?_; simp only [tup]
    exact hK
  refine T_rseq fun Kr hKr => ?_; simp (disch := omega) only [RA, ↓reduceIte, Nat.reduceEqDiff, RD]; refine hKr _ _ ?_; clear hKr Kr; (try simp only [RN, reduceIte]); try refine T_e rfl ?_
  refine T_wloop (fun m f H' => ∃ k : Nat, k + 1 ≤ ws.length ∧ m = ws.length - (k + 1) ∧ f 0 = S i 0 ws.length 1 ∧ f 3 = I ((k + 1 : Nat) : Int) ∧ H' = H) (ws.length - 1) ?_ ?_
  · refine ⟨_, _, Gh.refl, 0, by omega, by omega, ?_, ?_, rfl⟩
    any_goals (simp (disch := omega) only [RA, ↓reduceIte, Nat.reduceEqDiff, RD, RE, *] <;> rfl)
  · rintro m f H' R ⟨k, hk, rfl, g0, g3, rfl⟩ hN hX hR hE
    simp only [A_slices_Compact_string_string.l1, T_aiff]
    refine T_rseq fun Kr hKr => ?_; simp (disch := omega) only [RA, ↓reduceIte, Nat.reduceEqDiff, RD, g0, g3]; refine hKr _ _ ?_; clear hKr Kr; (try simp only [RN, reduceIte]); try refine T_e rfl ?_
    refine T_csplit (p := k + 1 < ws.length) (by simp only [RA, ↓reduceIte, Nat.reduceEqDiff] <;> rfl) (by (try simp only [RB]) <;> first | done | exact Iff.rfl | omega | simp) (fun hc => ?_) (fun hc => ?_) <;> (try simp only [RN, reduceIte]) <;> (try refine T_e rfl ?_)
    · have hne := (ho k (by omega)).2
      have e1 : ((k + 1 : Nat) : Int) - 1 = (k : Int) := by omega
      have e2 : ((k + 1 : Nat) : Int) + 1 = ((k + 1 + 1 : Nat) : Int) := by omega
      (first | refine T_bfree rfl ?_ | refine T_bfree' rfl ?_); (try simp only [RN, reduceIte]); try refine T_e rfl ?_
      refine T_rseq fun Kr hKr => ?_; simp (disch := omega) only [RA, ↓reduceIte, Nat.reduceEqDiff, RD, g0, g3, e1, hb, getN_st, sb_eq, hne]; refine hKr _ _ ?_; clear hKr Kr; (try simp only [RN, reduceIte]); try refine T_e rfl ?_
      refine T_cseq (t := false) (by simp (disch := omega) only [RA, ↓reduceIte, Nat.reduceEqDiff, RD]) ?_; (try simp only [RN, reduceIte]); try refine T_e rfl ?_
      refine T_reg_k fun Kr hKr => ?_; simp (disch := omega) only [RA, ↓reduceIte, Nat.reduceEqDiff, RD, g3, e2]; refine hKr _ _ ?_; clear hKr Kr
      refine hN (ws.length - (k + 1 + 1)) _ _ _ _ (by omega) Gh.refl ⟨k + 1, by omega, rfl, ?_, ?_, rfl⟩
      any_goals (simp (disch := omega) only [RA, ↓reduceIte, Nat.reduceEqDiff, RD, RE, *] <;> rfl)
    · refine hX _ _ ?_
      refine T_rseq fun Kr hKr => ?_; simp (disch := omega) only [RA, ↓reduceIte, Nat.reduceEqDiff, RD, g0]; refine hKr _ _ ?_; clear hKr Kr; (try simp only [RN, reduceIte]); try refine T_e rfl ?_
      refine bodyQ_ret (by simp (disch := omega) only [RA, ↓reduceIte, Nat.reduceEqDiff, RD, resAll, resOf]; rfl) GhV.refl ?_; simp only [tup]
      exact hK
end Go.Bm

/- Draws: a source of numbers. What it draws is not followed, but its range. -/
set_option linter.unusedVariables false
set_option linter.unusedSimpArgs false
namespace Go.Bm
open Go Go.Am

section
variable {code : List Nat} {a b : Nat} {h : Int} {H : BH}
end
end Go.Bm

/- Draws: permutations and stars. -/
set_option linter.unusedVariables false
set_option linter.unusedSimpArgs false
namespace Go.Bm
open Go Go.Am

def tuK (n : Nat) : Nat → List Nat
  | 0 => z16
  | i + 1 => (tuK n i).set i ((i + 1) % n)
theorem z16_nl {i : Nat} : nl z16 i = 0 := by rw [z16, nl_rep]; split <;> rfl
theorem tuK_len {n k : Nat} : (tuK n k).length = 16 := by
  induction k with
  | zero => exact z16_len
  | succ k ih => rw [tuK, List.length_set, ih]
theorem tuK_nl {n k i : Nat} (hk : k ≤ 16) : nl (tuK n k) i = if i < k then (i + 1) % n else 0 := by
  induction k with
  | zero => rw [tuK, z16_nl, if_neg (by omega)]
  | succ k ih =>
    rw [tuK, nl_set, ih (by omega), tuK_len]
    by_cases e : i = k
    · subst e; rw [if_pos ⟨rfl, by omega⟩, if_pos (by omega)]
    · rw [if_neg (by omega)]
      by_cases h : i < k
      · rw [if_pos h, if_pos (by omega)]
      · rw [if_neg h, if_neg (by omega)]
theorem Perm.of {p : List Nat} {n : Nat} (hn : 1 ≤ n ∧ n ≤ 16) (h0 : ∀ i, n ≤ i → i < 16 → nl p i = 0) (h1 : ∀ i, i < n → nl p i < n) (h2 : ∀ i j, i < n → j < i → nl p j ≠ nl p i) : Perm p n :=
  ⟨by omega, fun i hi => ⟨fun h => h0 i (by omega) hi, fun h => ⟨by have := h1 i (by omega); omega, fun j hj => h2 i j (by omega) hj⟩⟩⟩
theorem Perm.zero {p : List Nat} {n : Nat} (h : Perm p n) {i : Nat} (h1 : n ≤ i) (h2 : i < 16) : nl p i = 0 := (h.2 i h2).1 (by omega)
theorem mod_one {n i : Nat} (h : i < n) : (i + 1) % n = if i + 1 = n then 0 else i + 1 := by
  split
  · rename_i e; rw [e, Nat.mod_self]
  · exact Nat.mod_eq_of_lt (by omega)
theorem tuK_perm {n : Nat} (hn : 1 ≤ n ∧ n ≤ 16) : Perm (tuK n n) n := .of hn
  (fun i h1 h2 => by rw [tuK_nl hn.2, if_neg (by omega)]) (fun i h => by rw [tuK_nl hn.2, if_pos h]; exact Nat.mod_lt _ (by omega))
  (fun i j h1 h2 => by
    rw [tuK_nl hn.2, tuK_nl hn.2, if_pos h1, if_pos (by omega), mod_one h1, mod_one (by omega)]
    split <;> split <;> omega)
/-- A star with any white permutation. -/
theorem Des.turn {w : List Nat} {n : Nat} (hn : 1 ≤ n ∧ n ≤ 16) (hw : Perm w n) : Des n (tuK n n) w := by
  have hb := tuK_perm hn
  refine ⟨hb, hw, ?_⟩
  have h0 := ord_bf hb hw (x := 0) (by omega)
  have hcl := ord_cl hb hw (x := 0) (by omega)
  have hin : 0 ∈ ord (tuK n n) w 0 := by
    obtain ⟨r, hr⟩ := h0.pre
    rw [ord, hr]
    simp
  have hall : ∀ y, y < n → y ∈ ord (tuK n n) w 0 := by
    intro y
    induction y with
    | zero => exact fun _ => hin
    | succ y ih =>
      intro hy
      have := (hcl y (ih (by omega))).1
      rwa [tuK_nl hn.2, if_pos (by omega), mod_one (by omega), if_neg (by omega)] at this
  have h1 := nodup_le h0.nod h0.lt
  have h2 := List.Nodup.length_le_of_subset (List.nodup_range (n := n)) (l₂ := ord (tuK n n) w 0) fun y hy => hall y (List.mem_range.1 hy)
  rw [List.length_range] at h2
  have e : (Bm.reach (tuK n n) w).2.length = n := Nat.le_antisymm h1 h2
  show ((Bm.reach (tuK n n) w).2.length : Int) = n
  omega
section
variable {code : List Nat} {a : Nat} {h : Int}
end
end Go.Bm

/- All types of a number. -/
set_option linter.unusedVariables false
set_option linter.unusedSimpArgs false
namespace Go.Bm
open Go Go.Am

end Go.Bm

/- All types of a number: the walks. -/
set_option linter.unusedVariables false
set_option linter.unusedSimpArgs false
namespace Go.Bm
open Go Go.Am

end Go.Bm

/- Draws: dessins. -/
set_option linter.unusedVariables false
set_option linter.unusedSimpArgs false
namespace Go.Bm
open Go Go.Am

section
variable {code : List Nat} {a : Nat} {h : Int}
end
end Go.Bm

/- All types of a number: the reference's walk. -/
set_option linter.unusedVariables false
set_option linter.unusedSimpArgs false
namespace Go.Bm
open Go Go.Am

/-- Lists put behind no slice. -/
def appn (c : Option (List Value)) (H : BH) (bytes cn : Nat) : Option (Value × BH) :=
  match c with
  | some [v] => if bytes ≤ 140737488355328 then some (S H.length 0 1 1, H ++ [some [v]]) else bAppend 1 bytes (.slice none 0 0) (S cn 0 1 1) H
  | _ => bAppend 1 bytes (.slice none 0 0) (S cn 0 1 1) H
theorem bApp_n {H : BH} {c bytes : Nat} : bAppend 1 bytes (.slice none 0 0) (S c 0 1 1) H = appn (blk H c) H bytes c := by
  unfold appn
  split
  · rename_i v hc
    split
    · rename_i h
      simp [bAppend, newC, hc, h]
    · rfl
  · rfl
theorem appn_1 {H : BH} {v : Value} {bytes cn : Nat} (h : bytes ≤ 140737488355328) : appn (some [v]) H bytes cn = some (S H.length 0 1 1, H ++ [some [v]]) := by
  simp only [appn]
  rw [if_pos h]
end Go.Bm

/- Sums and types of lists; passports and their Euler numbers. -/
set_option linter.unusedVariables false
set_option linter.unusedSimpArgs false
namespace Go.Bm
open Go Go.Am

def sumK (xs : List Int) : Nat → Int
  | 0 => 0
  | i + 1 => sumK xs i + el xs i
def sumI (xs : List Int) : Int := sumK xs xs.length
def OkAt (xs : List Int) (i : Nat) : Prop := (1 ≤ el xs i ∧ el xs i ≤ 16) ∧ (0 < i → el xs i ≤ el xs (i - 1))
instance (xs : List Int) (i : Nat) : Decidable (OkAt xs i) := by unfold OkAt; infer_instance
def TypeP (xs : List Int) : Prop := (1 ≤ xs.length ∧ xs.length ≤ 16) ∧ (∀ i, i < xs.length → OkAt xs i) ∧ sumI xs ≤ 16
instance (xs : List Int) : Decidable (TypeP xs) := by unfold TypeP; infer_instance
theorem sumK_ge {xs : List Int} : ∀ {i : Nat}, (∀ j, j < i → OkAt xs j) → (i : Int) ≤ sumK xs i ∧ sumK xs i ≤ 16 * i
  | 0, _ => by simp [sumK]
  | i + 1, h => by
    have ih := sumK_ge (i := i) fun j hj => h j (by omega)
    have := (h i (by omega)).1
    simp only [sumK]
    omega
theorem sumK_mono {xs : List Int} {i : Nat} : ∀ {k : Nat}, (∀ j, j < k → OkAt xs j) → i ≤ k → sumK xs i ≤ sumK xs k
  | 0, _, h => by
    obtain rfl : i = 0 := by omega
    exact Int.le_refl _
  | k + 1, hk, h => by
    by_cases e : i = k + 1
    · rw [e]; exact Int.le_refl _
    · have ih := sumK_mono (i := i) (k := k) (fun j hj => hk j (by omega)) (by omega)
      have := (hk k (by omega)).1
      simp only [sumK]
      omega
theorem TypeP.pos {xs : List Int} (h : TypeP xs) : 1 ≤ sumI xs := by
  have := (sumK_ge h.2.1).1
  have := h.1
  rw [sumI]
  omega
theorem sumOfType_spec {x : Bool} {xs : List Int} {H : BH} {K : Value → BH → Prop} (hl : xs.length ≤ 1048576) (hK : K (I (if TypeP xs then sumI xs else 0)) H) : CallX x F_impl_sumOfType [FI xs] H K := by
  refine callP (.cons .fz .nil) ?_
  refine CallX_body Γ_impl_sumOfType ?_; simp only [A_impl_sumOfType, T_aiff]
  refine T_rseq fun Kr hKr => ?_; simp (disch := omega) only [RA, ↓reduceIte, Nat.reduceEqDiff, RD]; refine hKr _ _ ?_; clear hKr Kr; (try simp only [RN, reduceIte]); try refine T_e rfl ?_
  refine T_rseq fun Kr hKr => ?_; simp (disch := omega) only [RA, ↓reduceIte, Nat.reduceEqDiff, RD]; refine hKr _ _ ?_; clear hKr Kr; (try simp only [RN, reduceIte]); try refine T_e rfl ?_
  refine T_rseq fun Kr hKr => ?_; simp (disch := omega) only [RA, ↓reduceIte, Nat.reduceEqDiff, RD]; refine hKr _ _ ?_; clear hKr Kr; (try simp only [RN, reduceIte]); try refine T_e rfl ?_
  refine T_wloop (fun m f H' => ∃ i, i ≤ xs.length ∧ m = xs.length - i ∧ (∀ j, j < i → OkAt xs j) ∧ sumK xs i ≤ 16 ∧ f 0 = FI xs ∧ f 3 = I (sumK xs i) ∧ f 6 = FI xs ∧ f 7 = I xs.length ∧ f 8 = I i ∧ H' = []) (xs.length) ?_ ?_
  · refine ⟨_, _, Gh.refl, 0, by omega, by omega, fun j hj => by omega, by simp [sumK], ?_, ?_, ?_, ?_, ?_, rfl⟩
    any_goals (simp (disch := omega) only [RA, ↓reduceIte, Nat.reduceEqDiff, RD, RE, *] <;> rfl)
  · rintro m f H' R ⟨i, hi, rfl, hall, hs16, g0, g3, g6, g7, g8, rfl⟩ hN hX hR hE
    simp only [A_impl_sumOfType.l0, T_aiff]
    have hs := sumK_ge hall
    refine T_rseq fun Kr hKr => ?_; simp (disch := omega) only [RA, ↓reduceIte, Nat.reduceEqDiff, RD, g7, g8]; refine hKr _ _ ?_; clear hKr Kr; (try simp only [RN, reduceIte]); try refine T_e rfl ?_
    refine T_csplit (p := i < xs.length) (by simp only [RA, ↓reduceIte, Nat.reduceEqDiff] <;> rfl) (by (try simp only [RB]) <;> first | done | exact Iff.rfl | omega | simp) (fun hc => ?_) (fun hc => ?_) <;> (try simp only [RN, reduceIte]) <;> (try refine T_e rfl ?_)
    · have hil : i < xs.length := by assumption
      have hno : ¬ OkAt xs i → (if TypeP xs then sumI xs else 0) = 0 := fun h => if_neg fun ht => h (ht.2.1 i hil)
      have hbad : ∀ f' rest, ¬ TypeP xs → T 0 (.seq A_impl_sumOfType.r6 (.seq .ret rest)) R f' [] := fun f' rest h => by
        rw [if_neg h] at hK
        refine T_rseq fun Kr hKr => ?_; simp (disch := omega) only [RA, ↓reduceIte, Nat.reduceEqDiff, RD]; refine hKr _ _ ?_; clear hKr Kr; (try simp only [RN, reduceIte]); try refine T_e rfl ?_
        refine hR _ _ ?_
        refine bodyQ_ret (by simp (disch := omega) only [RA, ↓reduceIte, Nat.reduceEqDiff, RD, resAll, resOf]; rfl) GhV.refl ?_; simp only [tup]
        exact ⟨.int, hK⟩
      have hgood : ∀ f', OkAt xs i → f' 0 = FI xs → f' 3 = I (sumK xs i) → f' 5 = I (el xs i) → f' 6 = FI xs → f' 7 = I xs.length → f' 8 = I i →
          T 0 (.seq A_impl_sumOfType.r7 (.seq (.seq A_impl_sumOfType.r8 (.cond (.t 36) (.seq A_impl_sumOfType.r9 .ret) .skip)) A_impl_sumOfType.r10)) R f' [] := by
        clear g0 g3 g6 g7 g8
        intro f' ho g0 g3 g5 g6 g7 g8
        have ho1 := ho.1
        have e1 : sumK xs (i + 1) = sumK xs i + el xs i := rfl
        have hall' : ∀ j, j < i + 1 → OkAt xs j := fun j hj => by
          by_cases e : j = i
          · rw [e]; exact ho
          · exact hall j (by omega)
        refine T_rseq fun Kr hKr => ?_; simp (disch := omega) only [RA, ↓reduceIte, Nat.reduceEqDiff, RD, g3, g5]; refine hKr _ _ ?_; clear hKr Kr; (try simp only [RN, reduceIte]); try refine T_e rfl ?_
        refine T_rseq fun Kr hKr => ?_; simp (disch := omega) only [RA, ↓reduceIte, Nat.reduceEqDiff, RD]; refine hKr _ _ ?_; clear hKr Kr; (try simp only [RN, reduceIte]); try refine T_e rfl ?_
        refine T_csplit (p := 16 < sumK xs i + el xs i) (by simp only [RA, ↓reduceIte, Nat.reduceEqDiff] <;> rfl) (by (try simp only [RB]) <;> first | done | exact Iff.rfl | omega | simp) (fun hc => ?_) (fun hc => ?_) <;> (try simp only [RN, reduceIte]) <;> (try refine T_e rfl ?_)
        · have hnt : ¬ TypeP xs := fun ht => by
            have := sumK_mono (i := i + 1) ht.2.1 (by omega)
            have := ht.2.2
            rw [sumI] at this
            omega
          rw [if_neg hnt] at hK
          refine T_rseq fun Kr hKr => ?_; simp (disch := omega) only [RA, ↓reduceIte, Nat.reduceEqDiff, RD]; refine hKr _ _ ?_; clear hKr Kr; (try simp only [RN, reduceIte]); try refine T_e rfl ?_
          refine hR _ _ ?_
          refine bodyQ_ret (by simp (disch := omega) only [RA, ↓reduceIte, Nat.reduceEqDiff, RD, resAll, resOf]; rfl) GhV.refl ?_; simp only [tup]
          exact ⟨.int, hK⟩
        · (try simp only [RN, reduceIte]); try refine T_e rfl ?_
          refine T_reg_k fun Kr hKr => ?_; simp (disch := omega) only [RA, ↓reduceIte, Nat.reduceEqDiff, RD, g8]; refine hKr _ _ ?_; clear hKr Kr
          refine hN (xs.length - (i + 1)) _ _ _ _ (by omega) Gh.refl ⟨i + 1, by omega, rfl, hall', by omega, ?_, ?_, ?_, ?_, ?_, rfl⟩
          any_goals (simp (disch := omega) only [RA, ↓reduceIte, Nat.reduceEqDiff, RD, RE, *] <;> rfl)
          all_goals (rw [e1]; simp (disch := omega) only [RA, ↓reduceIte, Nat.reduceEqDiff, RD, *])
      (first | refine T_bfree rfl ?_ | refine T_bfree' rfl ?_); (try simp only [RN, reduceIte]); try refine T_e rfl ?_
      refine T_rseq fun Kr hKr => ?_; simp (disch := omega) only [RA, ↓reduceIte, Nat.reduceEqDiff, RD, g6, g8]; refine hKr _ _ ?_; clear hKr Kr; (try simp only [RN, reduceIte]); try refine T_e rfl ?_
      by_cases h1 : el xs i < 1
      · refine T_rseq fun Kr hKr => ?_; simp (disch := omega) only [RA, ↓reduceIte, Nat.reduceEqDiff, RD]; refine hKr _ _ ?_; clear hKr Kr; (try simp only [RN, reduceIte]); try refine T_e rfl ?_
        refine T_cseq (t := true) (by simp (disch := omega) only [RA, ↓reduceIte, Nat.reduceEqDiff, RD]) ?_; (try simp only [RN, reduceIte]); try refine T_e rfl ?_
        exact hbad _ _ fun ht => by have := (ht.2.1 i hil).1; omega
      by_cases h2 : 16 < el xs i
      · refine T_rseq fun Kr hKr => ?_; simp (disch := omega) only [RA, ↓reduceIte, Nat.reduceEqDiff, RD]; refine hKr _ _ ?_; clear hKr Kr; (try simp only [RN, reduceIte]); try refine T_e rfl ?_
        refine T_cseq (t := true) (by simp (disch := omega) only [RA, ↓reduceIte, Nat.reduceEqDiff, RD]) ?_; (try simp only [RN, reduceIte]); try refine T_e rfl ?_
        exact hbad _ _ fun ht => by have := (ht.2.1 i hil).1; omega
      by_cases h3 : i = 0
      · subst h3
        refine T_rseq fun Kr hKr => ?_; simp (disch := omega) only [RA, ↓reduceIte, Nat.reduceEqDiff, RD]; refine hKr _ _ ?_; clear hKr Kr; (try simp only [RN, reduceIte]); try refine T_e rfl ?_
        refine T_cseq (t := false) (by simp (disch := omega) only [RA, ↓reduceIte, Nat.reduceEqDiff, RD]) ?_; (try simp only [RN, reduceIte]); try refine T_e rfl ?_
        (try simp only [RN, reduceIte]); try refine T_e rfl ?_
        refine hgood _ ⟨by omega, fun h => by omega⟩ ?_ ?_ ?_ ?_ ?_ ?_
        any_goals (simp (disch := omega) only [RA, ↓reduceIte, Nat.reduceEqDiff, RD, RE, *] <;> rfl)
      · have e2 : (i : Int) - 1 = ((i - 1 : Nat) : Int) := by omega
        have h5 : i - 1 < xs.length := by omega
        by_cases h4 : el xs (i - 1) < el xs i
        · refine T_rseq fun Kr hKr => ?_; simp (disch := omega) only [RA, ↓reduceIte, Nat.reduceEqDiff, RD, g0, e2]; refine hKr _ _ ?_; clear hKr Kr; (try simp only [RN, reduceIte]); try refine T_e rfl ?_
          refine T_cseq (t := true) (by simp (disch := omega) only [RA, ↓reduceIte, Nat.reduceEqDiff, RD]) ?_; (try simp only [RN, reduceIte]); try refine T_e rfl ?_
          exact hbad _ _ fun ht => by have := (ht.2.1 i hil).2; omega
        · refine T_rseq fun Kr hKr => ?_; simp (disch := omega) only [RA, ↓reduceIte, Nat.reduceEqDiff, RD, g0, e2]; refine hKr _ _ ?_; clear hKr Kr; (try simp only [RN, reduceIte]); try refine T_e rfl ?_
          refine T_cseq (t := false) (by simp (disch := omega) only [RA, ↓reduceIte, Nat.reduceEqDiff, RD]) ?_; (try simp only [RN, reduceIte]); try refine T_e rfl ?_
          (try simp only [RN, reduceIte]); try refine T_e rfl ?_
          refine hgood _ ⟨by omega, fun h => by omega⟩ ?_ ?_ ?_ ?_ ?_ ?_
          any_goals (simp (disch := omega) only [RA, ↓reduceIte, Nat.reduceEqDiff, RD, RE, *] <;> rfl)
    · refine hX _ _ ?_
      obtain rfl : i = xs.length := by omega
      have e : (if TypeP xs then sumI xs else 0) = sumK xs xs.length := by
        by_cases ht : TypeP xs
        · rw [if_pos ht]; rfl
        · rw [if_neg ht]
          rcases Nat.eq_zero_or_pos xs.length with h | h
          · rw [h]; rfl
          · exact absurd ⟨⟨h, by omega⟩, hall, hs16⟩ ht
      rw [e] at hK
      refine T_rseq fun Kr hKr => ?_; simp (disch := omega) only [RA, ↓reduceIte, Nat.reduceEqDiff, RD, g3]; refine hKr _ _ ?_; clear hKr Kr; (try simp only [RN, reduceIte]); try refine T_e rfl ?_
      refine bodyQ_ret (by simp (disch := omega) only [RA, ↓reduceIte, Nat.reduceEqDiff, RD, resAll, resOf]; rfl) GhV.refl ?_; simp only [tup]
      exact ⟨.int, hK⟩
def at3 (xss : List (List Int)) (i : Nat) : List Int := xss.getD i []
def PassP (xss : List (List Int)) : Prop := xss.length = 3 ∧ ∀ i, i < 3 → TypeP (at3 xss i) ∧ sumI (at3 xss i) = sumI (at3 xss 0)
instance (xss : List (List Int)) : Decidable (PassP xss) := by unfold PassP; infer_instance
end Go.Bm

/- Draws: types and passports. -/
set_option linter.unusedVariables false
set_option linter.unusedSimpArgs false
namespace Go.Bm
open Go Go.Am

section
variable {code : List Nat} {a : Nat} {h : Int}
/-- Numbers that are natural. -/
def toI (r : List Nat) : List Int := r.map fun x : Nat => (x : Int)
theorem toI_len {r : List Nat} : (toI r).length = r.length := by simp [toI]
theorem toI_map {r : List Nat} : r.map N64 = (toI r).map I := by
  rw [toI, List.map_map]
  rfl
theorem FN_toI {r : List Nat} : FN r = FI (toI r) := by
  rw [FI, toI_len, ← toI_map]
section
variable {x y z : Value} {H : BH} {b j o l e : Nat}
end
end
end Go.Bm

/- Draws: passports, types, numbers. -/
set_option linter.unusedVariables false
set_option linter.unusedSimpArgs false
namespace Go.Bm
open Go Go.Am

section
variable {code : List Nat} {a : Nat} {h : Int}
theorem typ_len16 {p : List Nat} {n : Nat} (hp : Perm p n) : (typ p n).length ≤ 100 := by
  have hn := hp.1
  have := cyc_num hp
  rw [typ_len hp]
  omega
end
end Go.Bm

/- The trees of two types, as the words tell them (plain). -/
set_option linter.unusedVariables false
set_option linter.unusedSimpArgs false
namespace Go.Bm
open Go Go.Am

theorem mem_cut {α : Type} {l : List α} {s : α} {a k : Nat} (h : s ∈ l.drop a) : s ∈ (l.drop a).take k ∨ s ∈ l.drop (a + k) := by
  rw [← List.take_append_drop k (l.drop a)] at h
  rcases List.mem_append.1 h with h | h
  · exact .inl h
  · rw [List.drop_drop] at h
    exact .inr h
theorem wl8_len : (wl 8).length ≤ 1432 := by decide +kernel
theorem wl8_all {p : List UInt8 → Bool} (h0 : (((wl 8).drop 0).take 358).all p = true) (h1 : (((wl 8).drop 358).take 358).all p = true) (h2 : (((wl 8).drop 716).take 358).all p = true) (h3 : (((wl 8).drop 1074).take 358).all p = true) {s : List UInt8} (hs : s ∈ wl 8) : p s = true := by
  have hs : s ∈ (wl 8).drop 0 := hs
  rcases mem_cut (k := 358) hs with h | hs
  · exact List.all_eq_true.1 h0 s h
  rcases mem_cut (k := 358) hs with h | hs
  · exact List.all_eq_true.1 h1 s h
  rcases mem_cut (k := 358) hs with h | hs
  · exact List.all_eq_true.1 h2 s h
  rcases mem_cut (k := 358) hs with h | hs
  · exact List.all_eq_true.1 h3 s h
  rw [List.drop_eq_nil_of_le wl8_len] at hs
  cases hs
theorem in17 {n : Nat} (h1 : 1 ≤ n) (h7 : n ≤ 7) : n ∈ [1, 2, 3, 4, 5, 6, 7] := by simp; omega
theorem in18 {n : Nat} (h1 : 1 ≤ n) (h7 : n ≤ 8) : n ∈ [1, 2, 3, 4, 5, 6, 7, 8] := by simp; omega
theorem wl_tree {n : Nat} (h1 : 1 ≤ n) (h8 : n ≤ 8) {s : List UInt8} (hs : s ∈ wl n) : treeB s = true := by
  by_cases h : n ≤ 7
  · exact List.all_eq_true.1 (List.all_eq_true.1 tree_7 n (in17 h1 h)) s hs
  · obtain rfl : n = 8 := by omega
    exact wl8_all tree_80 tree_81 tree_82 tree_83 hs
theorem wl_can {n : Nat} (h1 : 1 ≤ n) (h8 : n ≤ 8) {s : List UInt8} (hs : s ∈ wl n) : canP s = true := by
  by_cases h : n ≤ 7
  · exact List.all_eq_true.1 (List.all_eq_true.1 can_7 n (in17 h1 h)) s hs
  · obtain rfl : n = 8 := by omega
    exact wl8_all can_80 can_81 can_82 can_83 hs
theorem half {n : Nat} : 2 * n / 2 = n := by omega
theorem wl_facts {n : Nat} (h1 : 1 ≤ n) (h8 : n ≤ 8) {s : List UInt8} (hs : s ∈ wl n) : Des n (madeB s) (madeW s) ∧ Tree n (madeB s) (madeW s) := by
  have h := wl_tree h1 h8 hs
  rw [treeB, (wl_wd h1 h8 hs).2, half] at h
  simpa using h
/-! ### Least words -/
theorem bl_trans : ∀ {a b c : List UInt8}, Op.bytesLess a b = true → Op.bytesLess b c = true → Op.bytesLess a c = true
  | [], [], _, h, _ => by simp [Op.bytesLess] at h
  | _, _, [], _, h => by simp [Op.bytesLess] at h
  | [], _ :: _, _ :: _, _, _ => rfl
  | _ :: _, [], _ :: _, h, _ => by simp [Op.bytesLess] at h
  | a :: x, b :: y, c :: z, h1, h2 => by
    simp only [Op.bytesLess, Bool.or_eq_true, decide_eq_true_eq, Bool.and_eq_true, beq_iff_eq] at h1 h2 ⊢
    rcases h1 with h1 | ⟨h1, h1'⟩
    · rcases h2 with h2 | ⟨h2, _⟩
      · exact .inl (UInt8.lt_trans h1 h2)
      · exact .inl (h2 ▸ h1)
    · rcases h2 with h2 | ⟨h2, h2'⟩
      · exact .inl (h1 ▸ h2)
      · exact .inr ⟨h1.trans h2, bl_trans h1' h2'⟩
theorem bl_tot : ∀ {a b : List UInt8}, Op.bytesLess a b = false → Op.bytesLess b a = false → a = b
  | [], [], _, _ => rfl
  | [], _ :: _, h, _ => by simp [Op.bytesLess] at h
  | _ :: _, [], _, h => by simp [Op.bytesLess] at h
  | a :: x, b :: y, h1, h2 => by
    simp only [Op.bytesLess, Bool.or_eq_false_iff, decide_eq_false_iff_not, Bool.and_eq_false_iff] at h1 h2
    have e : a = b := by
      rcases UInt8.lt_or_lt_of_ne (a := a) (b := b) |> fun h => (Decidable.em (a = b)) with h | h
      · exact h
      · rcases UInt8.lt_or_lt_of_ne h with h | h
        · exact absurd h h1.1
        · exact absurd h h2.1
    subst e
    have h3 := h1.2
    have h4 := h2.2
    simp at h3 h4
    rw [bl_tot h3 h4]
theorem lt_trans' {a b c : List UInt8} (h1 : ltS a b = true) (h2 : ltS b c = true) : ltS a c = true := by
  rw [ltS_is] at *
  exact bl_trans h1 h2
theorem lt_tot' {a b : List UInt8} (h1 : ltS a b = false) (h2 : ltS b a = false) : a = b := by
  rw [ltS_is] at *
  exact bl_tot h1 h2
theorem lwK_min {b w : List Nat} : ∀ k, (∃ x, x ≤ k ∧ (lwK b w k).1 = wd b w x) ∧ ∀ x, x ≤ k → ltS (wd b w x) (lwK b w k).1 = false
  | 0 => ⟨⟨0, Nat.le_refl _, rfl⟩, fun x hx => by
    obtain rfl : x = 0 := by omega
    exact ltS_self _⟩
  | k + 1 => by
    obtain ⟨⟨y, hy, ey⟩, hm⟩ := lwK_min (b := b) (w := w) k
    rw [lwK]
    split
    · rename_i he
      rw [eqS_is, decide_eq_true_eq] at he
      refine ⟨⟨y, by omega, ey⟩, fun x hx => ?_⟩
      by_cases e : x = k + 1
      · rw [e, he]; exact ltS_self _
      · exact hm x (by omega)
    · split
      · rename_i hl
        refine ⟨⟨k + 1, Nat.le_refl _, rfl⟩, fun x hx => ?_⟩
        by_cases e : x = k + 1
        · rw [e]; exact ltS_self _
        · cases hc : ltS (wd b w x) (wd b w (k + 1)) with
          | false => rfl
          | true =>
            have := lt_trans' hc hl
            rw [hm x (by omega)] at this
            cases this
      · rename_i hl
        refine ⟨⟨y, by omega, ey⟩, fun x hx => ?_⟩
        by_cases e : x = k + 1
        · rw [e]; simpa using hl
        · exact hm x (by omega)
/-- The least word of the tree of a word. -/
def lwS (s : List UInt8) : List UInt8 := (lwK (madeB s) (madeW s) (s.length / 2 - 1)).1
theorem lwS_iff {n : Nat} (h1 : 1 ≤ n) (h8 : n ≤ 8) {s : List UInt8} (hs : s ∈ wl n) : decide (lwS s = s) = (lits n).contains (bitsOf s) := by
  have hc := wl_can h1 h8 hs
  have hl := (wl_wd h1 h8 hs).2
  rw [canP, hl, half, Bool.and_eq_true, beq_iff_eq, rootB, decide_eq_true_eq] at hc
  obtain ⟨hr, hn⟩ := hc
  rw [← hn]
  obtain ⟨⟨y, hy, ey⟩, hm⟩ := lwK_min (b := madeB s) (w := madeW s) (s.length / 2 - 1)
  rw [Bool.eq_iff_iff, decide_eq_true_eq, noless, List.all_eq_true]
  constructor
  · intro he x hx
    rw [List.mem_range] at hx
    have := hm (x + 1) (by omega)
    rw [show (lwK (madeB s) (madeW s) (s.length / 2 - 1)).1 = s from he, ltS_is] at this
    rw [this]
    rfl
  · intro ha
    have hall : ∀ x, x ≤ s.length / 2 - 1 → ltS (wd (madeB s) (madeW s) x) s = false := fun x hx => by
      cases x with
      | zero => rw [hr]; exact ltS_self _
      | succ x =>
        have := ha x (List.mem_range.2 (by omega))
        rw [ltS_is]
        simpa using this
    have e1 := hall y hy
    have e2 := hm 0 (Nat.zero_le _)
    rw [hr] at e2
    rw [← ey] at e1
    exact lt_tot' e1 e2
/-! ### The trees of two types -/
def okW (xs ys : List Int) (n : Nat) (s : List UInt8) : Bool := decide (lwS s = s) && (decide (toI (typ (madeB s) n) = xs) && decide (toI (typ (madeW s) n) = ys))
def trL (xs ys : List Int) (n : Nat) : List (List UInt8) := (wl n).filter (okW xs ys n)
theorem toI_inj {a b : List Nat} (h : toI a = toI b) : a = b := by
  unfold toI at h
  exact List.map_inj_right (fun x y e => by omega) |>.1 h
theorem trL_least {xs ys : List Int} {n : Nat} (h1 : 1 ≤ n) (h8 : n ≤ 8) : trL xs ys n = (leastL n).filter fun s => decide (toI (typ (madeB s) n) = xs) && decide (toI (typ (madeW s) n) = ys) := by
  unfold trL leastL
  rw [List.filter_filter]
  refine List.filter_congr fun s hs => ?_
  rw [okW, lwS_iff h1 h8 hs, Bool.and_comm]
theorem trL_few {xs ys : List Int} {n : Nat} (h1 : 1 ≤ n) (h8 : n ≤ 8) : (trL xs ys n).length ≤ 12 := by
  rw [trL_least h1 h8, ← List.countP_eq_length_filter]
  have ht := List.all_eq_true.1 tys_all n (in18 h1 h8)
  rw [decide_eq_true_eq] at ht
  have h12 := List.all_eq_true.1 tys_12 n (in18 h1 h8)
  by_cases he : ∃ s ∈ leastL n, (decide (toI (typ (madeB s) n) = xs) && decide (toI (typ (madeW s) n) = ys)) = true
  · obtain ⟨s, hs, e⟩ := he
    simp only [Bool.and_eq_true, decide_eq_true_eq] at e
    have hm : (typ (madeB s) n, typ (madeW s) n) ∈ tys n := by
      rw [← ht]
      exact List.mem_map.2 ⟨s, hs, rfl⟩
    have hc := List.all_eq_true.1 h12 _ hm
    rw [decide_eq_true_eq, ← ht, List.count, List.countP_map] at hc
    refine Nat.le_trans (List.countP_mono_left fun t _ h => ?_) hc
    simp only [Bool.and_eq_true, decide_eq_true_eq] at h
    have e1 := toI_inj (h.1.trans e.1.symm)
    have e2 := toI_inj (h.2.trans e.2.symm)
    simp [e1, e2]
  · have : (leastL n).countP (fun s => decide (toI (typ (madeB s) n) = xs) && decide (toI (typ (madeW s) n) = ys)) = 0 := List.countP_eq_zero.2 fun s hs h => he ⟨s, hs, h⟩
    omega
theorem trL_ord {xs ys : List Int} {n : Nat} : Ord (trL xs ys n) := fun i hi => by
  have hp : (trL xs ys n).Pairwise fun a b => ltS a b = true := (wlF_sorted (2 * n) 0 n).filter _
  have h := List.pairwise_iff_getElem.1 hp i (i + 1) (by omega) hi (by omega)
  have e1 : sg (trL xs ys n) i = (trL xs ys n)[i] := by simp [sg, List.getD, show i < (trL xs ys n).length by omega]
  have e2 : sg (trL xs ys n) (i + 1) = (trL xs ys n)[i + 1] := by simp [sg, List.getD, hi]
  rw [e1, e2]
  refine ⟨?_, fun e => ?_⟩
  · cases hc : ltS (trL xs ys n)[i + 1] (trL xs ys n)[i] with
    | false => rfl
    | true =>
      have := lt_trans' h hc
      rw [ltS_self] at this
      cases this
  · rw [e, ltS_self] at h
    cases h
end Go.Bm

/- The laws' own helpers. -/
set_option linter.unusedVariables false
set_option linter.unusedSimpArgs false
namespace Go.Am
open Go

end Go.Am

/- Polynomials: what they are; values. -/
set_option linter.unusedVariables false
set_option linter.unusedSimpArgs false
namespace Go.Am
open Go

def Poly (xs : List Int) : Prop := (∀ i, i < xs.length → 0 ≤ el xs i ∧ el xs i ≤ 10006) ∧ xs.length ≤ 17 ∧ (xs.length = 0 ∨ el xs (xs.length - 1) ≠ 0)
instance (xs : List Int) : Decidable (Poly xs) := by unfold Poly; infer_instance

theorem l01In_spec {x a b : Int} {H : AHeap} {K : Value → AHeap → Prop} (hK : K (.bool (decide (a ≤ x ∧ x ≤ b))) H) : CallT F_spec_l01In [I x, I a, I b] H K := by
  refine CallT_body Γ_spec_l01In ?_; simp only [A_spec_l01In, T_aiff]
  refine T_rseq fun Kr hKr => ?_; simp (disch := omega) only [RF, RO, RC, tup, ↓reduceIte, Nat.reduceEqDiff, RD]; refine hKr _ _ ?_; clear hKr Kr; try simp only [RN, Bool.false_eq_true, reduceIte]
  by_cases h : a ≤ x
  · refine T_rseq fun Kr hKr => ?_; simp (disch := omega) only [RF, RO, RC, tup, ↓reduceIte, Nat.reduceEqDiff, RD, h]; refine hKr _ _ ?_; clear hKr Kr; try simp only [RN, Bool.false_eq_true, reduceIte]
    refine ⟨_, rfl, ?_⟩; simp only [RF, ev_t, ev_c, tup, ↓reduceIte, Nat.reduceEqDiff, h]
    simpa [h] using hK
  · refine T_rseq fun Kr hKr => ?_; simp (disch := omega) only [RF, RO, RC, tup, ↓reduceIte, Nat.reduceEqDiff, RD, h]; refine hKr _ _ ?_; clear hKr Kr; try simp only [RN, Bool.false_eq_true, reduceIte]
    refine ⟨_, rfl, ?_⟩; simp only [RF, ev_t, ev_c, tup, ↓reduceIte, Nat.reduceEqDiff, h]
    simpa [h] using hK
end Go.Am

/- Polynomials: remainders, values, stars. -/
set_option linter.unusedVariables false
set_option linter.unusedSimpArgs false
namespace Go.Am
open Go

def md (x : Int) : Int := x % 10007
def value (xs : List Int) (x : Int) : Int := xs.foldr (fun a out => md (out * x + a)) 0
/-- Numbers that no product carries too far. -/
def Fit (xs : List Int) : Prop := ∀ i, i < xs.length → 0 ≤ el xs i ∧ el xs i ≤ 10007
end Go.Am

/- Slices that grow; polynomials cut at their end; slopes; stars. -/
set_option linter.unusedVariables false
set_option linter.unusedSimpArgs false
namespace Go.Am
open Go

theorem IsI.row {H : AHeap} {b o e n : Nat} {xs : List Int} (h : IsI H (S b o n e) xs) (hp : 0 < xs.length) : n = xs.length ∧ e = 1 ∧ b < H.n ∧ H.row b o (n * 1) = some (xs.map I) := by
  obtain ⟨b', o', blk, he, hb, hg, hl, hel⟩ := h.pos hp
  cases he
  refine ⟨rfl, rfl, hb, ?_⟩
  simp only [AHeap.row, hg, Nat.mul_one]
  rw [if_pos hl]
  congr 1
  apply List.ext_getElem?
  intro i
  rw [List.getElem?_take]
  split
  · rename_i hi
    rw [List.getElem?_drop, hel i hi]
    simp [hi, el, List.getD]
  · rename_i hi
    rw [List.getElem?_eq_none (by simp; omega)]
/-- How many are left when zeros at the end are cut off the first n. -/
def tl (xs : List Int) : Nat → Nat
  | 0 => 0
  | n + 1 => if el xs n = 0 then tl xs n else n + 1
def trim (xs : List Int) : List Int := xs.take (tl xs xs.length)
theorem tl_le (xs : List Int) : ∀ n, tl xs n ≤ n
  | 0 => Nat.le_refl _
  | n + 1 => by
    simp only [tl]
    split
    · exact Nat.le_succ_of_le (tl_le xs n)
    · exact Nat.le_refl _
theorem trim_len (xs : List Int) : (trim xs).length = tl xs xs.length := by
  rw [trim, List.length_take, Nat.min_eq_left (tl_le _ _)]
theorem IsI.pre {H : AHeap} {b o e n : Nat} {xs : List Int} (h : IsI H (S b o n e) xs) (he : e = 1) {k : Nat} (hk : k ≤ xs.length) : IsI H (S b o k 1) (xs.take k) ∨ (k = 0 ∧ e = 1) := by
  rcases h with ⟨h, _⟩ | ⟨b', o', blk, heq, hb, hg, hl, hel⟩
  · cases h
  · cases heq
    refine .inl (.inr ⟨b, o, blk, by rw [List.length_take, Nat.min_eq_left hk], hb, hg, by rw [List.length_take]; omega, fun i hi => ?_⟩)
    rw [List.length_take] at hi
    rw [hel i (by omega)]
    simp [el, List.getD, show i < k by omega]

theorem OwnI.pre {lo hi : Nat} {H : AHeap} {b n e : Nat} {xs : List Int} (h : OwnI lo hi H (S b 0 n e) xs) {k : Nat} (hk : k ≤ xs.length) : OwnI lo hi H (S b 0 k 1) (xs.take k) := by
  rcases h with ⟨h, _⟩ | ⟨b', rest, heq, h1, h2, h3, h4⟩
  · cases h
  · cases heq
    refine .inr ⟨b, (xs.drop k).map I ++ rest, by rw [List.length_take, Nat.min_eq_left hk], h1, h2, h3, ?_⟩
    rw [h4, ← List.append_assoc, ← List.map_append, List.take_append_drop]

end Go.Am

/- Slopes and stars. -/
set_option linter.unusedVariables false
set_option linter.unusedSimpArgs false
namespace Go.Am
open Go

theorem Out.refl' (lo hi : Nat) (H : AHeap) : Out lo hi H H := ⟨Nat.le_refl _, fun _ _ _ => rfl⟩
/-- The first n of a rule. -/
def gen (n : Nat) (g : Nat → Int) : List Int := (List.range n).map g
theorem el_out {xs : List Int} {i : Nat} (h : xs.length ≤ i) : el xs i = 0 := by simp [el, List.getD, List.getElem?_eq_none h]
theorem el_trim (xs : List Int) (i : Nat) : el (trim xs) i = el xs i := by
  have key : ∀ n, ∀ i, tl xs n ≤ i → i < n → el xs i = 0 := by
    intro n
    induction n with
    | zero => intro i _ h; omega
    | succ n ih =>
      intro i h1 h2
      simp only [tl] at h1
      split at h1
      · rename_i hz
        by_cases h : i = n
        · subst h; exact hz
        · exact ih i h1 (by omega)
      · omega
  by_cases h : i < tl xs xs.length
  · simp [el, trim, List.getD, h]
  · rw [el_out (by rw [trim_len]; omega)]
    by_cases h' : i < xs.length
    · exact (key _ i (by omega) h').symm
    · exact (el_out (by omega)).symm
def slope (xs : List Int) : List Int := trim (gen (xs.length - 1) fun i => md (el xs (i + 1) * ((i : Int) + 1)))
end Go.Am

/- Sums of polynomials. -/
set_option linter.unusedVariables false
set_option linter.unusedSimpArgs false
namespace Go.Am
open Go

def padd (xs ys : List Int) (k : Int) : List Int := trim (gen (max xs.length ys.length) fun i => md (el xs i + k * el ys i))
theorem Fit.el {xs : List Int} (h : Fit xs) (i : Nat) : 0 ≤ el xs i ∧ el xs i ≤ 10007 := by
  by_cases hi : i < xs.length
  · exact h i hi
  · rw [el_out (by omega)]; omega

end Go.Am

/- Sums of polynomials, the program's own; the law's two functions. -/
set_option linter.unusedVariables false
set_option linter.unusedSimpArgs false
namespace Go.Am
open Go

end Go.Am

/- Products of polynomials. -/
set_option linter.unusedVariables false
set_option linter.unusedSimpArgs false
namespace Go.Am
open Go

end Go.Am

/- The algebra of coefficients; products, chains and compositions, the law's functions. -/
set_option linter.unusedVariables false
set_option linter.unusedSimpArgs false
namespace Go.Am
open Go

/-! ### Coefficients -/
def Red (xs : List Int) : Prop := (∀ i, 0 ≤ el xs i ∧ el xs i ≤ 10006) ∧ (xs.length = 0 ∨ el xs (xs.length - 1) ≠ 0)
theorem Red.ext {xs ys : List Int} (hx : Red xs) (hy : Red ys) (h : ∀ i, el xs i = el ys i) : xs = ys := by
  have hl : xs.length = ys.length := by
    rcases Nat.lt_trichotomy xs.length ys.length with hlt | heq | hgt
    · rcases hy.2 with h0 | h0
      · omega
      · exact absurd ((h _).symm.trans (el_out (by omega))) h0
    · exact heq
    · rcases hx.2 with h0 | h0
      · omega
      · exact absurd ((h _).trans (el_out (by omega))) h0
  exact el_ext hl fun i _ => h i
theorem tl_last (xs : List Int) : ∀ n, tl xs n = 0 ∨ el xs (tl xs n - 1) ≠ 0
  | 0 => .inl rfl
  | n + 1 => by
    simp only [tl]
    split
    · exact tl_last xs n
    · rename_i h; exact .inr (by simpa using h)
theorem Red.trim {xs : List Int} (h : ∀ i, 0 ≤ el xs i ∧ el xs i ≤ 10006) : Red (trim xs) := by
  refine ⟨fun i => by rw [el_trim]; exact h i, ?_⟩
  rw [trim_len]
  rcases tl_last xs xs.length with h0 | h0
  · exact .inl h0
  · exact .inr (by rw [el_trim]; exact h0)
theorem Red.nil : Red [] := ⟨fun i => by simp [el], .inl rfl⟩
/-! ### Products -/
/-! ### Chains -/
end Go.Am

/- Inverses in the field; division; common divisors. -/
set_option linter.unusedVariables false
set_option linter.unusedSimpArgs false
namespace Go.Am
open Go

/-! ### Inverses -/
def invF : Nat → Nat → Int → Int → Int
  | 0, _, out, _ => out
  | n + 1, k, out, sq => if k = 0 then out else invF n (k / 2) (if k % 2 = 1 then md (out * sq) else out) (md (sq * sq))
def inv (x : Int) : Int := invF 14 10005 1 x
end Go.Am

/- Division with a remainder. -/
set_option linter.unusedVariables false
set_option linter.unusedSimpArgs false
namespace Go.Am
open Go

def pad0 (n : Nat) (g : List Int) : List Int := List.replicate n 0 ++ g
def top (r : List Int) : Int := el r (r.length - 1)
def lastq (r g : List Int) : Int := md (top r * inv (top g))
def dstep (r g : List Int) (c : Int) : List Int := padd r (pad0 (r.length - g.length) g) (-c)
theorem Red.top {r : List Int} (h : Red r) (hp : 0 < r.length) : 1 ≤ top r ∧ top r ≤ 10006 := by
  have h1 := h.1 (r.length - 1)
  rcases h.2 with h2 | h2
  · omega
  · unfold Am.top; omega
def prem (g : List Int) : Nat → List Int → List Int
  | 0, r => r
  | n + 1, r => if r.length < g.length then r else prem g n (dstep r g (lastq r g))
/-- The remainder. -/
def rem (f g : List Int) : List Int := prem g (f.length + 1) f
end Go.Am

/- Division, the program's own; common divisors. -/
set_option linter.unusedVariables false
set_option linter.unusedSimpArgs false
namespace Go.Am
open Go

end Go.Am

/- Common divisors. -/
set_option linter.unusedVariables false
set_option linter.unusedSimpArgs false
namespace Go.Am
open Go

def gcdF : Nat → List Int → List Int → List Int
  | 0, f, _ => f
  | n + 1, f, g => if g.length = 0 then f else gcdF n g (rem f g)
/-- The last one that is not 0. -/
def euclid (f g : List Int) : List Int := gcdF (g.length + 1) f g
def monic (f : List Int) : List Int := padd [] f (inv (top f))
def common (f g : List Int) : List Int := monic (euclid f g)
end Go.Am

/- Multiplicities. -/
set_option linter.unusedVariables false
set_option linter.unusedSimpArgs false
namespace Go.Am
open Go

/-! ### Codes -/
def AllNum (vs : List Int) : Prop := ∀ i, i < vs.length → 0 ≤ el vs i ∧ el vs i ≤ 10006
instance (vs : List Int) : Decidable (AllNum vs) := by unfold AllNum; infer_instance
/-! ### Slopes are shorter, and not 0 -/
/-! ### Counts -/
def cntF : Nat → List Int → List Int
  | 0, _ => []
  | n + 1, f => if f.length ≤ 1 then [] else ((f.length : Int) - ((common f (slope f)).length : Int)) :: cntF n (common f (slope f))
def counts (f : List Int) : List Int := cntF f.length f
end Go.Am

/- Multiplicities, walked. -/
set_option linter.unusedVariables false
set_option linter.unusedSimpArgs false
namespace Go.Am
open Go

end Go.Am

/- Multiplicities, the program's own; the laws' functions. -/
set_option linter.unusedVariables false
set_option linter.unusedSimpArgs false
namespace Go.Am
open Go

end Go.Am

/- The laws' functions over multiplicities. -/
set_option linter.unusedVariables false
set_option linter.unusedSimpArgs false
namespace Go.Am
open Go

end Go.Am

/- Shabat polynomials: the laws' functions. -/
set_option linter.unusedVariables false
set_option linter.unusedSimpArgs false
namespace Go.Am
open Go

/-- Three slices in a row. -/
structure Pass (lo : Nat) (H : AHeap) (r : Value) (one two three : List Int) : Prop where
  row : ∃ b p q s m1 m2 m3 rest, r = S b 0 3 1 ∧ lo ≤ b ∧ b < H.n ∧ H.get b = some ⟨[p, q, s] ++ rest, true⟩ ∧ OwnI lo m1 H p one ∧ OwnI m1 m2 H q two ∧ OwnI m2 m3 H s three ∧ lo ≤ m1 ∧ m1 ≤ m2 ∧ m2 ≤ m3 ∧ m3 ≤ b
end Go.Am

/- Compositions. -/
set_option linter.unusedVariables false
set_option linter.unusedSimpArgs false
namespace Go.Am
open Go

end Go.Am

/- Forks. -/
set_option linter.unusedVariables false
set_option linter.unusedSimpArgs false
namespace Go.Am
open Go

def okFork (a b : Int) : Prop := 1 ≤ a ∧ 1 ≤ b ∧ a + b ≤ 16
instance (a b : Int) : Decidable (okFork a b) := by unfold okFork; infer_instance
end Go.Am

/- Forks, the program's own. -/
set_option linter.unusedVariables false
set_option linter.unusedSimpArgs false
namespace Go.Am
open Go
end Go.Am

/- The functions on polynomials, carried over to the second machine. -/
set_option linter.unusedVariables false
set_option linter.unusedSimpArgs false
namespace Go.Bm
open Go Go.Am
section
variable {x : Bool} {H : BH} {K : Value → BH → Prop} {xs ys : List Int} {a b : Int}
end
end Go.Bm

/- Rows of slices: the laws' helpers over slices of slices. -/
set_option linter.unusedVariables false
set_option linter.unusedSimpArgs false
namespace Go.Am
open Go

def rowAt (xss : List (List Int)) (i : Nat) : List Int := xss.getD i []
def valAt (vs : List Value) (i : Nat) : Value := vs.getD i undef
/-- A slice of slices of one's own, of the blocks lo to hi: the rows lie in order between r 0, r 1, .., the list of them before or behind. -/
def OwnSS (lo hi : Nat) (H : AHeap) (v : Value) (xss : List (List Int)) : Prop :=
  (v = .slice none 0 0 ∧ xss = []) ∨ ∃ (b : Nat) (vs rest : List Value) (r : Nat → Nat), v = S b 0 xss.length 1 ∧ lo ≤ b ∧ b < hi ∧ b < H.n ∧ H.get b = some ⟨vs ++ rest, true⟩ ∧ vs.length = xss.length ∧ (b < r 0 ∨ r xss.length ≤ b) ∧ lo ≤ r 0 ∧ r xss.length ≤ hi ∧
    ∀ i, i < xss.length → r i ≤ r (i + 1) ∧ OwnI (r i) (r (i + 1)) H (valAt vs i) (rowAt xss i)
theorem mono_r {r : Nat → Nat} {n : Nat} (h : ∀ i, i < n → r i ≤ r (i + 1)) : ∀ j i, i ≤ j → j ≤ n → r i ≤ r j
  | 0, i, hi, _ => by have : i = 0 := by omega
                      subst this; exact Nat.le_refl _
  | j + 1, i, hi, hj => by
    by_cases e : i = j + 1
    · subst e; exact Nat.le_refl _
    · exact Nat.le_trans (mono_r h j i (by omega) (by omega)) (h j (by omega))
section
variable {lo hi : Nat} {H H' : AHeap} {v : Value} {xss : List (List Int)}
theorem OwnSS.len (h : OwnSS lo hi H v xss) : ∃ a e, v = .slice a xss.length e := by
  rcases h with ⟨rfl, rfl⟩ | ⟨b, vs, rest, r, rfl, _⟩
  · exact ⟨_, _, rfl⟩
  · exact ⟨_, _, rfl⟩
theorem OwnSS.nil : OwnSS lo hi H (.slice none 0 0) [] := .inl ⟨rfl, rfl⟩
theorem OwnSS.pos (h : OwnSS lo hi H v xss) (hp : 0 < xss.length) : ∃ (b : Nat) (vs rest : List Value) (r : Nat → Nat), v = S b 0 xss.length 1 ∧ lo ≤ b ∧ b < hi ∧ b < H.n ∧ H.get b = some ⟨vs ++ rest, true⟩ ∧ vs.length = xss.length ∧ (b < r 0 ∨ r xss.length ≤ b) ∧ lo ≤ r 0 ∧ r xss.length ≤ hi ∧
    ∀ i, i < xss.length → r i ≤ r (i + 1) ∧ OwnI (r i) (r (i + 1)) H (valAt vs i) (rowAt xss i) := by
  rcases h with ⟨rfl, rfl⟩ | h
  · simp at hp
  · exact h
theorem OwnSS.ext (h : OwnSS lo hi H v xss) (he : Ext H H') : OwnSS lo hi H' v xss := by
  rcases h with h | ⟨b, vs, rest, r, h1, h2, h3, h4, h5, h6, h7, h8, h9, h10⟩
  · exact .inl h
  · exact .inr ⟨b, vs, rest, r, h1, h2, h3, Nat.lt_of_lt_of_le h4 he.n, by rw [he.get b h4]; exact h5, h6, h7, h8, h9, fun i hi => ⟨(h10 i hi).1, (h10 i hi).2.ext he⟩⟩
theorem OwnSS.weak (h : OwnSS lo hi H v xss) {lo' hi' : Nat} (hn : lo' ≤ lo) (hh : hi ≤ hi') : OwnSS lo' hi' H v xss := by
  rcases h with h | ⟨b, vs, rest, r, h1, h2, h3, h4, h5, h6, h7, h8, h9, h10⟩
  · exact .inl h
  · exact .inr ⟨b, vs, rest, r, h1, Nat.le_trans hn h2, Nat.lt_of_lt_of_le h3 hh, h4, h5, h6, h7, Nat.le_trans hn h8, Nat.le_trans h9 hh, h10⟩
theorem OwnSS.out {lo' hi' : Nat} (h : OwnSS lo hi H v xss) (he : Out lo' hi' H H') (hd : hi ≤ lo' ∨ hi' ≤ lo) : OwnSS lo hi H' v xss := by
  rcases h with h | ⟨b, vs, rest, r, h1, h2, h3, h4, h5, h6, h7, h8, h9, h10⟩
  · exact .inl h
  · refine .inr ⟨b, vs, rest, r, h1, h2, h3, Nat.lt_of_lt_of_le h4 he.n, by rw [he.get b h4 (by omega)]; exact h5, h6, h7, h8, h9, fun i hi => ⟨(h10 i hi).1, (h10 i hi).2.out he ?_⟩⟩
    have m1 := mono_r (fun i hi => (h10 i hi).1) i 0 (by omega) (by omega)
    have m2 := mono_r (fun i hi => (h10 i hi).1) xss.length (i + 1) (by omega) (Nat.le_refl _)
    omega
end

end Go.Am

/- Rows of slices: marks. -/
set_option linter.unusedVariables false
set_option linter.unusedSimpArgs false
namespace Go.Am
open Go

end Go.Am

/- Passports of Shabat polynomials: the law's functions. -/
set_option linter.unusedVariables false
set_option linter.unusedSimpArgs false
namespace Go.Am
open Go

theorem Pass.own {lo : Nat} {H : AHeap} {v : Value} {one two three : List Int} (h : Pass lo H v one two three) : OwnSS lo H.n H v [one, two, three] := by
  obtain ⟨b, p, q, s, m1, m2, m3, rest, rfl, h1, h2, h3, h4, h5, h6, h7, h8, h9, h10⟩ := h.row
  refine .inr ⟨b, [p, q, s], rest, fun i => match i with | 0 => lo | 1 => m1 | 2 => m2 | _ => m3, rfl, h1, h2, h2, h3, rfl, .inr h10, Nat.le_refl _, ?_, fun i hi => ?_⟩
  · show m3 ≤ H.n
    omega
  · match i with
    | 0 => exact ⟨h7, h4⟩
    | 1 => exact ⟨h8, h5⟩
    | 2 => exact ⟨h9, h6⟩
    | i + 3 => simp at hi; omega
end Go.Am

/- Types of trees: factorials, and how often numbers are repeated. -/
set_option linter.unusedVariables false
set_option linter.unusedSimpArgs false
namespace Go.Am
open Go

end Go.Am

/- Types of trees: how often numbers are repeated; sums. -/
set_option linter.unusedVariables false
set_option linter.unusedSimpArgs false
namespace Go.Am
open Go

end Go.Am

/- Types of trees: sums. -/
set_option linter.unusedVariables false
set_option linter.unusedSimpArgs false
namespace Go.Am
open Go

def okAt (xs : List Int) (k : Nat) : Prop := 1 ≤ el xs k ∧ el xs k ≤ 16 ∧ (0 < k → el xs k ≤ el xs (k - 1))
instance (xs : List Int) (k : Nat) : Decidable (okAt xs k) := by unfold okAt; infer_instance
def Ty (xs : List Int) : Prop := ∀ i, i < xs.length → okAt xs i
instance (xs : List Int) : Decidable (Ty xs) := by unfold Ty; infer_instance
def sm (xs : List Int) : Nat → Int
  | 0 => 0
  | i + 1 => sm xs i + el xs i
theorem sm_lo {xs : List Int} {n : Nat} (h : ∀ i, i < n → okAt xs i) : (n : Int) ≤ sm xs n := by
  induction n with
  | zero => exact Int.le_refl _
  | succ n ih =>
    have h1 := ih fun i hi => h i (by omega)
    have h2 := (h n (by omega)).1
    show _ ≤ sm xs n + el xs n
    omega
end Go.Am

/- Types of trees: the program's own test; counts. -/
set_option linter.unusedVariables false
set_option linter.unusedSimpArgs false
namespace Go.Am
open Go

def okTypes (xs ys : List Int) : Prop := Ty xs ∧ Ty ys ∧ sm xs xs.length = sm ys ys.length ∧ 1 ≤ sm xs xs.length ∧ sm xs xs.length ≤ 16
instance (xs ys : List Int) : Decidable (okTypes xs ys) := by unfold okTypes; infer_instance
theorem okTypes_len {xs ys : List Int} (h : okTypes xs ys) : 1 ≤ xs.length ∧ xs.length ≤ 16 ∧ 1 ≤ ys.length ∧ ys.length ≤ 16 := by
  have h1 := sm_lo h.1
  have h2 := sm_lo h.2.1
  obtain ⟨_, _, h3, h4, h5⟩ := h
  have e1 : 1 ≤ xs.length := by
    rcases Nat.eq_zero_or_pos xs.length with e | e
    · rw [e] at h4; simp [sm] at h4
    · exact e
  have e2 : 1 ≤ ys.length := by
    rcases Nat.eq_zero_or_pos ys.length with e | e
    · rw [e] at h3; simp [sm] at h3; omega
    · exact e
  omega
end Go.Am

/- Counts of rooted trees: the program's own. -/
set_option linter.unusedVariables false
set_option linter.unusedSimpArgs false
namespace Go.Am
open Go

end Go.Am

