/- Slices that grow; polynomials cut at their end; slopes; stars. -/
import Derived.Test.YtgmpjlbdommhaaaSp2
set_option linter.unusedVariables false
set_option linter.unusedSimpArgs false
namespace Go.Am
open Go

theorem IsI.row {H : AHeap} {b o e n : Nat} {xs : List Int} (h : IsI H (S b o n e) xs) (hp : 0 < xs.length) : n = xs.length ∧ e = 1 ∧ b < H.n ∧ H.row b o (n * 1) = some (xs.map I) := by
  obtain ⟨b', o', blk, he, hb, hg, hl, hel⟩ := h.pos hp
  cases he
  refine ⟨rfl, rfl, hb, ?_⟩
  simp only [AHeap.row, hg, Nat.mul_one]
  rw [if_pos hl]
  congr 1
  apply List.ext_getElem?
  intro i
  rw [List.getElem?_take]
  split
  · rename_i hi
    rw [List.getElem?_drop, hel i hi]
    simp [hi, el, List.getD]
  · rename_i hi
    rw [List.getElem?_eq_none (by simp; omega)]
theorem all_I (xs : List Int) : (xs.map I).all (·.oneCell') = true := by
  rw [List.all_eq_true]
  intro v hv
  obtain ⟨n, _, rfl⟩ := List.mem_map.1 hv
  rfl
def newOf (xa : Option Addr) (xl e : Nat) (H : AHeap) : Option (List Value) :=
  match xa with
  | some ⟨b, o, none⟩ => if xl = 0 then some [] else H.row b o (xl * e)
  | none => if xl = 0 then some [] else none
  | _ => none
def putNew (e bytes : Nat) (s : Value) (xl : Nat) (H : AHeap) (new : List Value) : Option (Value × AHeap) :=
  match s with
  | .slice none 0 0 =>
    if xl = 0 then some (s, H)
    else if xl * bytes ≤ 140737488355328 then some (S H.n 0 xl e, H.alloc new) else none
  | .slice (some ⟨b, 0, none⟩) l e' =>
    if e' ≠ e then none else
    (match H.get b with
    | some blk =>
      if blk.rw = true ∧ l * e ≤ blk.cells.length ∧ (l + xl) * bytes ≤ 140737488355328 ∧ new.all (·.oneCell') = true
      then some (S H.n 0 (l + xl) e, (H.kill b).alloc (blk.cells.take (l * e) ++ new)) else none
    | none => none)
  | _ => none
theorem aAppend_eq {e bytes xl xe : Nat} {s : Value} {xa : Option Addr} {H : AHeap} {new : List Value} (h1 : ¬ (xl ≠ 0 ∧ xe ≠ e)) (h2 : newOf xa xl e H = some new) : aAppend e bytes s (.slice xa xl xe) H = putNew e bytes s xl H new := by
  simp only [aAppend, h1, if_false]
  rcases xa with _ | ⟨b, o, _ | sp⟩
  · simp only [newOf] at h2
    simp only [h2]
    rfl
  · simp only [newOf] at h2
    simp only [h2]
    rfl
  · simp [newOf] at h2
theorem appendS {lo hi : Nat} {H : AHeap} {v u : Value} {xs ys : List Int} (hv : OwnI lo hi H v xs) (hu : IsI H u ys) (hx : xs.length < 1000000) (hy : ys.length < 10000000) :
    ∃ v' H', aAppend 1 8 v u H = some (v', H') ∧ OwnI H.n H'.n H' v' (xs ++ ys) ∧ Out lo hi H H' := by
  have hrow : ∃ a e, u = .slice a ys.length e ∧ (ys.length ≠ 0 → e = 1) ∧ newOf a ys.length 1 H = some (ys.map I) := by
    rcases hu with ⟨rfl, rfl⟩ | ⟨b, o, blk, rfl, hb, hg, hl, hel⟩
    · exact ⟨none, 0, rfl, by simp, rfl⟩
    · refine ⟨_, _, rfl, fun _ => rfl, ?_⟩
      by_cases h0 : ys.length = 0
      · have : ys = [] := List.eq_nil_of_length_eq_zero h0
        subst this
        rfl
      · simp only [newOf, h0, if_false]
        exact (IsI.row (.inr ⟨b, o, blk, rfl, hb, hg, hl, hel⟩) (by omega)).2.2.2
  obtain ⟨a, e, rfl, he, hrow⟩ := hrow
  have hcond : ¬ (ys.length ≠ 0 ∧ e ≠ 1) := fun h => h.2 (he h.1)
  rcases hv with ⟨rfl, rfl⟩ | ⟨b, rest, rfl, h1, h2, h3, h4⟩
  · by_cases h0 : ys.length = 0
    · have : ys = [] := List.eq_nil_of_length_eq_zero h0
      subst this
      refine ⟨.slice none 0 0, H, ?_, .nil, .refl⟩
      rw [aAppend_eq hcond hrow]
      rfl
    · refine ⟨S H.n 0 ys.length 1, H.alloc (ys.map I), ?_, .inr ⟨H.n, [], by simp, Nat.le_refl _, Nat.lt_succ_self _, Nat.lt_succ_self _, by rw [get_alloc_same]; simp⟩, ⟨Nat.le_succ _, fun b hb _ => get_alloc_ne _ _ _ (by omega)⟩⟩
      rw [aAppend_eq hcond hrow]
      simp only [putNew, h0, if_false]
      rw [if_pos (by omega)]
  · refine ⟨S H.n 0 (xs.length + ys.length) 1, (H.kill b).alloc (xs.map I ++ ys.map I), ?_, .inr ⟨H.n, [], by simp, Nat.le_refl _, Nat.lt_succ_self _, Nat.lt_succ_self _, ?_⟩, ⟨Nat.le_succ _, fun x hx ho => ?_⟩⟩
    · rw [aAppend_eq hcond hrow]
      simp only [putNew, h4]
      rw [if_neg (by simp), if_pos ⟨trivial, by simp, by omega, all_I ys⟩]
      have : ((xs.map I ++ rest).take (xs.length * 1)) = xs.map I := by rw [Nat.mul_one, List.take_append_of_le_length (by simp), List.take_of_length_le (by simp)]
      rw [this]
    · have := get_alloc_same (H.kill b) (xs.map I ++ ys.map I)
      rw [show (H.kill b).n = H.n from rfl] at this
      rw [this]
      simp
    · rw [get_alloc_ne _ _ _ (by show x ≠ H.n; omega), get_kill_ne _ _ _ (by omega)]
theorem append1 {lo hi : Nat} {H : AHeap} {v : Value} {xs : List Int} (y : Int) (hv : OwnI lo hi H v xs) (hx : xs.length < 1000000) :
    ∃ v' H', aAppend 1 8 v (S H.n 0 1 1) (H.alloc [I y]) = some (v', H') ∧ OwnI H.n H'.n H' v' (xs ++ [y]) ∧ Out lo hi H H' := by
  have hu : IsI (H.alloc [I y]) (S H.n 0 1 1) [y] := .inr ⟨H.n, 0, _, rfl, Nat.lt_succ_self _, get_alloc_same _ _, by simp, fun i hi => by
    have : i = 0 := by simpa using hi
    subst this; rfl⟩
  obtain ⟨v', H', h1, h2, h3⟩ := appendS (hv.ext (Ext.alloc H [I y])) hu hx (by simp)
  exact ⟨v', H', h1, h2.weak (Nat.le_succ _) (Nat.le_refl _), ⟨Nat.le_trans (Nat.le_succ _) h3.n, fun b hb ho => (h3.get b (Nat.lt_succ_of_lt hb) ho).trans (get_alloc_ne _ _ _ (by omega))⟩⟩
theorem own_empty (H : AHeap) : OwnI H.n (H.n + 1) (H.alloc []) (S H.n 0 0 1) [] := .inr ⟨H.n, [], by simp, Nat.le_refl _, Nat.lt_succ_self _, Nat.lt_succ_self _, by rw [get_alloc_same]; rfl⟩

/-- How many are left when zeros at the end are cut off the first n. -/
def tl (xs : List Int) : Nat → Nat
  | 0 => 0
  | n + 1 => if el xs n = 0 then tl xs n else n + 1
def trim (xs : List Int) : List Int := xs.take (tl xs xs.length)
theorem tl_le (xs : List Int) : ∀ n, tl xs n ≤ n
  | 0 => Nat.le_refl _
  | n + 1 => by
    simp only [tl]
    split
    · exact Nat.le_succ_of_le (tl_le xs n)
    · exact Nat.le_refl _
theorem tl_stop {xs : List Int} {n : Nat} (h : n = 0 ∨ el xs (n - 1) ≠ 0) : tl xs n = n := by
  cases n with
  | zero => rfl
  | succ n => simp only [tl]; rw [if_neg (by simpa using h)]
theorem tl_step {xs : List Int} {n : Nat} (h : 0 < n) (hz : el xs (n - 1) = 0) : tl xs n = tl xs (n - 1) := by
  cases n with
  | zero => omega
  | succ n => simp only [tl]; rw [if_pos (by simpa using hz)]; rfl
theorem trim_len (xs : List Int) : (trim xs).length = tl xs xs.length := by
  rw [trim, List.length_take, Nat.min_eq_left (tl_le _ _)]
theorem trim_le (xs : List Int) : (trim xs).length ≤ xs.length := by rw [trim_len]; exact tl_le _ _

theorem l01Own_spec {H : AHeap} {v : Value} {xs : List Int} {K : Value → AHeap → Prop} (hx : IsI H v xs) (hl : xs.length < 100000) (hK : ∀ v' H', Ext H H' → OwnI H.n H'.n H' v' xs → K v' H') : CallT F_spec_l01Own [v] H K := by
  obtain ⟨v', H', ha, ho, hout⟩ := appendS (own_empty H) (hx.ext (Ext.alloc H [])) (by simp) (by omega)
  refine CallT_body Γ_spec_l01Own ?_
  simp only [A_spec_l01Own, T_aiff]
  refine T_rseq fun Kr hKr => ?_
  simp (disch := omega) only [RF, RO, RC, bodyQ, resAll, resOf, tup, ↓reduceIte, Nat.reduceEqDiff, Nat.reduceSub, Nat.reduceAdd, Nat.reduceMul, Nat.reduceLT, Nat.reduceLeDiff, Int.reduceLE, Int.reduceLT, Int.reduceEq, Int.reduceNeg, Int.reduceToNat, Int.reduceMul, Int.reduceAdd, Int.reduceSub, Int.reduceBEq, Int.reduceBNe, reduceCtorEq, RD]
  refine hKr _ _ ?_
  clear hKr Kr
  try simp only [RN, if_true, if_false, Bool.false_eq_true, if_pos, reduceIte]
  refine T_rseq fun Kr hKr => ?_
  simp (disch := omega) only [RF, RO, RC, bodyQ, resAll, resOf, tup, ↓reduceIte, Nat.reduceEqDiff, Nat.reduceSub, Nat.reduceAdd, Nat.reduceMul, Nat.reduceLT, Nat.reduceLeDiff, Int.reduceLE, Int.reduceLT, Int.reduceEq, Int.reduceNeg, Int.reduceToNat, Int.reduceMul, Int.reduceAdd, Int.reduceSub, Int.reduceBEq, Int.reduceBNe, reduceCtorEq, RD, ha]
  refine hKr _ _ ?_
  clear hKr Kr
  try simp only [RN, if_true, if_false, Bool.false_eq_true, if_pos, reduceIte]
  refine ⟨_, rfl, ?_⟩
  simp only [RF, ev_t, ev_c, tup, ↓reduceIte, Nat.reduceEqDiff]
  refine hK _ _ ⟨Nat.le_trans (Nat.le_succ _) hout.n, fun b hb => (hout.get b (Nat.lt_succ_of_lt hb) (.inl hb)).trans (get_alloc_ne _ _ _ (by omega))⟩ ?_
  simpa using ho.weak (Nat.le_succ _) (Nat.le_refl _)

theorem IsI.pre {H : AHeap} {b o e n : Nat} {xs : List Int} (h : IsI H (S b o n e) xs) (he : e = 1) {k : Nat} (hk : k ≤ xs.length) : IsI H (S b o k 1) (xs.take k) ∨ (k = 0 ∧ e = 1) := by
  rcases h with ⟨h, _⟩ | ⟨b', o', blk, heq, hb, hg, hl, hel⟩
  · cases h
  · cases heq
    refine .inl (.inr ⟨b, o, blk, by rw [List.length_take, Nat.min_eq_left hk], hb, hg, by rw [List.length_take]; omega, fun i hi => ?_⟩)
    rw [List.length_take] at hi
    rw [hel i (by omega)]
    simp [el, List.getD, show i < k by omega]

theorem l06Trim_spec {H : AHeap} {v : Value} {xs : List Int} {K : Value → AHeap → Prop} (hx : IsI H v xs) (hl : xs.length < 100000) (hK : ∀ v' H', Ext H H' → OwnI H.n H'.n H' v' (trim xs) → K v' H') : CallT F_spec_l06Trim [v] H K := by
  obtain ⟨a, e, rfl⟩ := hx.len
  refine CallT_body Γ_spec_l06Trim ?_
  simp only [A_spec_l06Trim, T_aiff]
  refine T_rseq fun Kr hKr => ?_
  simp (disch := omega) only [RF, RO, RC, bodyQ, resAll, resOf, tup, ↓reduceIte, Nat.reduceEqDiff, Nat.reduceSub, Nat.reduceAdd, Nat.reduceMul, Nat.reduceLT, Nat.reduceLeDiff, Int.reduceLE, Int.reduceLT, Int.reduceEq, Int.reduceNeg, Int.reduceToNat, Int.reduceMul, Int.reduceAdd, Int.reduceSub, Int.reduceBEq, Int.reduceBNe, reduceCtorEq, RD]
  refine hKr _ _ ?_
  clear hKr Kr
  try simp only [RN, if_true, if_false, Bool.false_eq_true, if_pos, reduceIte]
  refine T_rseq fun Kr hKr => ?_
  simp (disch := omega) only [RF, RO, RC, bodyQ, resAll, resOf, tup, ↓reduceIte, Nat.reduceEqDiff, Nat.reduceSub, Nat.reduceAdd, Nat.reduceMul, Nat.reduceLT, Nat.reduceLeDiff, Int.reduceLE, Int.reduceLT, Int.reduceEq, Int.reduceNeg, Int.reduceToNat, Int.reduceMul, Int.reduceAdd, Int.reduceSub, Int.reduceBEq, Int.reduceBNe, reduceCtorEq, RD]
  refine hKr _ _ ?_
  clear hKr Kr
  try simp only [RN, if_true, if_false, Bool.false_eq_true, if_pos, reduceIte]
  refine T_wloop (fun n f H' => n ≤ xs.length ∧ H' = H ∧ f 0 = .slice a xs.length e ∧ f 3 = I n ∧ tl xs n = tl xs xs.length) (xs.length) ?_ ?_
  · exact ⟨Nat.le_refl _, rfl, by simp [RF], by simp [RF], rfl⟩
  · rintro n f H' R ⟨hk, rfl, h0, h3, ht⟩ hN hX hR
    simp only [A_spec_l06Trim.l0, T_aiff]
    have hexit : ∀ f' : Fr, f' 0 = .slice a xs.length e → f' 3 = I n → (n = 0 ∨ el xs (n - 1) ≠ 0) → T (ACode.seq A_spec_l06Trim.r4 .ret) (bodyQ [ARes.tmp 2] K) f' H' := by
      intro f' h0 h3 hs
      have htn := tl_stop hs
      rw [ht] at htn
      have htrim : trim xs = xs.take n := by rw [trim, htn]
      rcases hx with ⟨heq, rfl⟩ | ⟨b, o, blk, heq, hb, hg, hl', hel⟩
      · cases heq
        obtain rfl : n = 0 := by simpa using hk
        simp only [List.length_nil] at h0
        refine T_rseq fun Kr hKr => ?_
        simp (disch := omega) only [RF, RO, RC, bodyQ, resAll, resOf, tup, ↓reduceIte, Nat.reduceEqDiff, Nat.reduceSub, Nat.reduceAdd, Nat.reduceMul, Nat.reduceLT, Nat.reduceLeDiff, Int.reduceLE, Int.reduceLT, Int.reduceEq, Int.reduceNeg, Int.reduceToNat, Int.reduceMul, Int.reduceAdd, Int.reduceSub, Int.reduceBEq, Int.reduceBNe, reduceCtorEq, RD, h0, h3, List.length_nil]
        refine l01Own_spec (.inl ⟨rfl, rfl⟩) (by simp) fun v' H' he ho => ?_
        simp (disch := omega) only [RF, RO, RC, bodyQ, resAll, resOf, tup, ↓reduceIte, Nat.reduceEqDiff, Nat.reduceSub, Nat.reduceAdd, Nat.reduceMul, Nat.reduceLT, Nat.reduceLeDiff, Int.reduceLE, Int.reduceLT, Int.reduceEq, Int.reduceNeg, Int.reduceToNat, Int.reduceMul, Int.reduceAdd, Int.reduceSub, Int.reduceBEq, Int.reduceBNe, reduceCtorEq, RD]
        refine hKr _ _ ?_
        clear hKr Kr
        try simp only [blkQ, thenQ, loopQ]
        try simp only [RN, if_true, if_false, Bool.false_eq_true, if_pos, reduceIte]
        refine ⟨_, rfl, ?_⟩
        simp only [RF, ev_t, ev_c, tup, ↓reduceIte, Nat.reduceEqDiff]
        exact hK _ _ he (by rw [htrim]; simpa using ho)
      · cases heq
        have hx' : IsI H' (S b o n 1) (xs.take n) := .inr ⟨b, o, blk, by rw [List.length_take, Nat.min_eq_left hk], hb, hg, by rw [List.length_take]; omega, fun i hi => by
          rw [List.length_take] at hi
          rw [hel i (by omega)]
          simp [el, List.getD, show i < n by omega]⟩
        refine T_rseq fun Kr hKr => ?_
        simp (disch := omega) only [RF, RO, RC, bodyQ, resAll, resOf, tup, ↓reduceIte, Nat.reduceEqDiff, Nat.reduceSub, Nat.reduceAdd, Nat.reduceMul, Nat.reduceLT, Nat.reduceLeDiff, Int.reduceLE, Int.reduceLT, Int.reduceEq, Int.reduceNeg, Int.reduceToNat, Int.reduceMul, Int.reduceAdd, Int.reduceSub, Int.reduceBEq, Int.reduceBNe, reduceCtorEq, RD, h0, h3]
        refine l01Own_spec hx' (by rw [List.length_take]; omega) fun v' H' he ho => ?_
        simp (disch := omega) only [RF, RO, RC, bodyQ, resAll, resOf, tup, ↓reduceIte, Nat.reduceEqDiff, Nat.reduceSub, Nat.reduceAdd, Nat.reduceMul, Nat.reduceLT, Nat.reduceLeDiff, Int.reduceLE, Int.reduceLT, Int.reduceEq, Int.reduceNeg, Int.reduceToNat, Int.reduceMul, Int.reduceAdd, Int.reduceSub, Int.reduceBEq, Int.reduceBNe, reduceCtorEq, RD]
        refine hKr _ _ ?_
        clear hKr Kr
        try simp only [blkQ, thenQ, loopQ]
        try simp only [RN, if_true, if_false, Bool.false_eq_true, if_pos, reduceIte]
        refine ⟨_, rfl, ?_⟩
        simp only [RF, ev_t, ev_c, tup, ↓reduceIte, Nat.reduceEqDiff]
        exact hK _ _ he (by rw [htrim]; exact ho)
    by_cases hn : 0 < n
    · obtain ⟨b, o, blk, heq, hb, hg, hlen, hel⟩ := hx.pos (by omega)
      cases heq
      have hi : (n : Int) - 1 = ((n - 1 : Nat) : Int) := by omega
      have hn1 : n - 1 < xs.length := by omega
      by_cases hz : el xs (n - 1) = 0
      · refine T_rseq fun Kr hKr => ?_
        simp (disch := omega) only [RF, RO, RC, bodyQ, resAll, resOf, tup, ↓reduceIte, Nat.reduceEqDiff, Nat.reduceSub, Nat.reduceAdd, Nat.reduceMul, Nat.reduceLT, Nat.reduceLeDiff, Int.reduceLE, Int.reduceLT, Int.reduceEq, Int.reduceNeg, Int.reduceToNat, Int.reduceMul, Int.reduceAdd, Int.reduceSub, Int.reduceBEq, Int.reduceBNe, reduceCtorEq, RD, h0, h3, hi, hn1, hg, hel, hz]
        refine hKr _ _ ?_
        clear hKr Kr
        try simp only [RN, if_true, if_false, Bool.false_eq_true, if_pos, reduceIte]
        refine T_cseq (t := true) (by simp (disch := omega) only [RF, RO, RC, bodyQ, resAll, resOf, tup, ↓reduceIte, Nat.reduceEqDiff, Nat.reduceSub, Nat.reduceAdd, Nat.reduceMul, Nat.reduceLT, Nat.reduceLeDiff, Int.reduceLE, Int.reduceLT, Int.reduceEq, Int.reduceNeg, Int.reduceToNat, Int.reduceMul, Int.reduceAdd, Int.reduceSub, Int.reduceBEq, Int.reduceBNe, reduceCtorEq, decT, decF]) ?_
        try simp only [RN, if_true, if_false, Bool.false_eq_true, if_pos, reduceIte]
        first | refine T_bfree rfl ?_ | refine T_bfree' rfl ?_
        try simp only [RN, if_true, if_false, Bool.false_eq_true, if_pos, reduceIte]
        refine T_reg_k fun Kr hKr => ?_
        simp (disch := omega) only [RF, RO, RC, bodyQ, resAll, resOf, tup, ↓reduceIte, Nat.reduceEqDiff, Nat.reduceSub, Nat.reduceAdd, Nat.reduceMul, Nat.reduceLT, Nat.reduceLeDiff, Int.reduceLE, Int.reduceLT, Int.reduceEq, Int.reduceNeg, Int.reduceToNat, Int.reduceMul, Int.reduceAdd, Int.reduceSub, Int.reduceBEq, Int.reduceBNe, reduceCtorEq, RD, h3, hi]
        refine hKr _ _ ?_
        clear hKr Kr
        refine hN (n - 1) _ _ (by omega) ⟨by omega, rfl, by simp [RF, h0], by simp [RF], by rw [← tl_step hn hz]; exact ht⟩
      · refine T_rseq fun Kr hKr => ?_
        simp (disch := omega) only [RF, RO, RC, bodyQ, resAll, resOf, tup, ↓reduceIte, Nat.reduceEqDiff, Nat.reduceSub, Nat.reduceAdd, Nat.reduceMul, Nat.reduceLT, Nat.reduceLeDiff, Int.reduceLE, Int.reduceLT, Int.reduceEq, Int.reduceNeg, Int.reduceToNat, Int.reduceMul, Int.reduceAdd, Int.reduceSub, Int.reduceBEq, Int.reduceBNe, reduceCtorEq, RD, h0, h3, hi, hn1, hg, hel, hz]
        refine hKr _ _ ?_
        clear hKr Kr
        try simp only [RN, if_true, if_false, Bool.false_eq_true, if_pos, reduceIte]
        refine T_cseq (t := false) (by simp (disch := omega) only [RF, RO, RC, bodyQ, resAll, resOf, tup, ↓reduceIte, Nat.reduceEqDiff, Nat.reduceSub, Nat.reduceAdd, Nat.reduceMul, Nat.reduceLT, Nat.reduceLeDiff, Int.reduceLE, Int.reduceLT, Int.reduceEq, Int.reduceNeg, Int.reduceToNat, Int.reduceMul, Int.reduceAdd, Int.reduceSub, Int.reduceBEq, Int.reduceBNe, reduceCtorEq, decT, decF]) ?_
        try simp only [RN, if_true, if_false, Bool.false_eq_true, if_pos, reduceIte]
        refine hX _ _ (hexit _ (by simp [RF, h0]) (by simp [RF, h3]) (.inr hz))
    · refine T_rseq fun Kr hKr => ?_
      simp (disch := omega) only [RF, RO, RC, bodyQ, resAll, resOf, tup, ↓reduceIte, Nat.reduceEqDiff, Nat.reduceSub, Nat.reduceAdd, Nat.reduceMul, Nat.reduceLT, Nat.reduceLeDiff, Int.reduceLE, Int.reduceLT, Int.reduceEq, Int.reduceNeg, Int.reduceToNat, Int.reduceMul, Int.reduceAdd, Int.reduceSub, Int.reduceBEq, Int.reduceBNe, reduceCtorEq, RD, h0, h3]
      refine hKr _ _ ?_
      clear hKr Kr
      try simp only [RN, if_true, if_false, Bool.false_eq_true, if_pos, reduceIte]
      refine T_cseq (t := false) (by simp (disch := omega) only [RF, RO, RC, bodyQ, resAll, resOf, tup, ↓reduceIte, Nat.reduceEqDiff, Nat.reduceSub, Nat.reduceAdd, Nat.reduceMul, Nat.reduceLT, Nat.reduceLeDiff, Int.reduceLE, Int.reduceLT, Int.reduceEq, Int.reduceNeg, Int.reduceToNat, Int.reduceMul, Int.reduceAdd, Int.reduceSub, Int.reduceBEq, Int.reduceBNe, reduceCtorEq, decT, decF]) ?_
      try simp only [RN, if_true, if_false, Bool.false_eq_true, if_pos, reduceIte]
      refine hX _ _ (hexit _ (by simp [RF, h0]) (by simp [RF, h3]) (.inl (by omega)))

theorem OwnI.pre {lo hi : Nat} {H : AHeap} {b n e : Nat} {xs : List Int} (h : OwnI lo hi H (S b 0 n e) xs) {k : Nat} (hk : k ≤ xs.length) : OwnI lo hi H (S b 0 k 1) (xs.take k) := by
  rcases h with ⟨h, _⟩ | ⟨b', rest, heq, h1, h2, h3, h4⟩
  · cases h
  · cases heq
    refine .inr ⟨b, (xs.drop k).map I ++ rest, by rw [List.length_take, Nat.min_eq_left hk], h1, h2, h3, ?_⟩
    rw [h4, ← List.append_assoc, ← List.map_append, List.take_append_drop]

theorem cut_spec {lo hi : Nat} {H : AHeap} {v : Value} {xs : List Int} {K : Value → AHeap → Prop} (hx : OwnI lo hi H v xs) (hl : xs.length < 100000) (hK : ∀ v', OwnI lo hi H v' (trim xs) → K v' H) : CallT F_impl_cut [v] H K := by
  refine CallT_body Γ_impl_cut ?_
  simp only [A_impl_cut, T_aiff]
  refine T_rseq fun Kr hKr => ?_
  simp (disch := omega) only [RF, RO, RC, bodyQ, resAll, resOf, tup, ↓reduceIte, Nat.reduceEqDiff, Nat.reduceSub, Nat.reduceAdd, Nat.reduceMul, Nat.reduceLT, Nat.reduceLeDiff, Int.reduceLE, Int.reduceLT, Int.reduceEq, Int.reduceNeg, Int.reduceToNat, Int.reduceMul, Int.reduceAdd, Int.reduceSub, Int.reduceBEq, Int.reduceBNe, reduceCtorEq, RD]
  refine hKr _ _ ?_
  clear hKr Kr
  try simp only [RN, if_true, if_false, Bool.false_eq_true, if_pos, reduceIte]
  refine T_wloop (fun n f H' => n ≤ xs.length ∧ H' = H ∧ (∃ u, f 0 = u ∧ OwnI lo hi H u (xs.take n)) ∧ tl xs n = tl xs xs.length) (xs.length) ?_ ?_
  · exact ⟨Nat.le_refl _, rfl, ⟨v, by simp [RF], by simpa using hx⟩, rfl⟩
  · rintro n f H' R ⟨hk, rfl, ⟨u, h0, hu⟩, ht⟩ hN hX hR
    simp only [A_impl_cut.l0, T_aiff]
    obtain ⟨a, e, rfl⟩ := hu.len
    have hlen : (xs.take n).length = n := by rw [List.length_take, Nat.min_eq_left hk]
    rw [hlen] at hu h0
    have hexit : ∀ f' : Fr, f' 0 = .slice a n e → (n = 0 ∨ el xs (n - 1) ≠ 0) → T (ACode.seq A_impl_cut.r3 .ret) (bodyQ [ARes.tmp 2] K) f' H' := by
      intro f' h0 hs
      have htn := tl_stop hs
      rw [ht] at htn
      refine T_rseq fun Kr hKr => ?_
      simp (disch := omega) only [RF, RO, RC, bodyQ, resAll, resOf, tup, ↓reduceIte, Nat.reduceEqDiff, Nat.reduceSub, Nat.reduceAdd, Nat.reduceMul, Nat.reduceLT, Nat.reduceLeDiff, Int.reduceLE, Int.reduceLT, Int.reduceEq, Int.reduceNeg, Int.reduceToNat, Int.reduceMul, Int.reduceAdd, Int.reduceSub, Int.reduceBEq, Int.reduceBNe, reduceCtorEq, RD, h0]
      refine hKr _ _ ?_
      clear hKr Kr
      try simp only [RN, if_true, if_false, Bool.false_eq_true, if_pos, reduceIte]
      refine ⟨_, rfl, ?_⟩
      simp only [RF, ev_t, ev_c, tup, ↓reduceIte, Nat.reduceEqDiff]
      exact hK _ (by rw [trim, htn]; exact hu)
    by_cases hn : 0 < n
    · obtain ⟨b, rest, heq, h1, h2, h3, hg⟩ := hu.pos (by omega)
      rw [hlen] at heq
      cases heq
      have hi : (n : Int) - 1 = ((n - 1 : Nat) : Int) := by omega
      have hn1 : n - 1 < n := by omega
      have hc : (List.map I (List.take n xs) ++ rest)[0 + (n - 1)]? = some (I (el xs (n - 1))) := by
        rw [Nat.zero_add, get_own (by omega)]
        simp [el, List.getD, hn1]
      simp only [Nat.zero_add] at hc
      generalize hcs : List.map I (List.take n xs) ++ rest = cs at hg hc
      by_cases hz : el xs (n - 1) = 0
      · refine T_rseq fun Kr hKr => ?_
        simp (disch := omega) only [RF, RO, RC, bodyQ, resAll, resOf, tup, ↓reduceIte, Nat.reduceEqDiff, Nat.reduceSub, Nat.reduceAdd, Nat.reduceMul, Nat.reduceLT, Nat.reduceLeDiff, Int.reduceLE, Int.reduceLT, Int.reduceEq, Int.reduceNeg, Int.reduceToNat, Int.reduceMul, Int.reduceAdd, Int.reduceSub, Int.reduceBEq, Int.reduceBNe, reduceCtorEq, RD, h0, hi, hn1, hg, hc, hz]
        refine hKr _ _ ?_
        clear hKr Kr
        try simp only [RN, if_true, if_false, Bool.false_eq_true, if_pos, reduceIte]
        refine T_cseq (t := true) (by simp (disch := omega) only [RF, RO, RC, bodyQ, resAll, resOf, tup, ↓reduceIte, Nat.reduceEqDiff, Nat.reduceSub, Nat.reduceAdd, Nat.reduceMul, Nat.reduceLT, Nat.reduceLeDiff, Int.reduceLE, Int.reduceLT, Int.reduceEq, Int.reduceNeg, Int.reduceToNat, Int.reduceMul, Int.reduceAdd, Int.reduceSub, Int.reduceBEq, Int.reduceBNe, reduceCtorEq, decT, decF]) ?_
        try simp only [RN, if_true, if_false, Bool.false_eq_true, if_pos, reduceIte]
        first | refine T_bfree rfl ?_ | refine T_bfree' rfl ?_
        try simp only [RN, if_true, if_false, Bool.false_eq_true, if_pos, reduceIte]
        refine T_reg_k fun Kr hKr => ?_
        simp (disch := omega) only [RF, RO, RC, bodyQ, resAll, resOf, tup, ↓reduceIte, Nat.reduceEqDiff, Nat.reduceSub, Nat.reduceAdd, Nat.reduceMul, Nat.reduceLT, Nat.reduceLeDiff, Int.reduceLE, Int.reduceLT, Int.reduceEq, Int.reduceNeg, Int.reduceToNat, Int.reduceMul, Int.reduceAdd, Int.reduceSub, Int.reduceBEq, Int.reduceBNe, reduceCtorEq, RD, h0, hi]
        refine hKr _ _ ?_
        clear hKr Kr
        have hp := hu.pre (k := n - 1) (by omega)
        rw [List.take_take, Nat.min_eq_left (by omega)] at hp
        refine hN (n - 1) _ _ (by omega) ⟨by omega, rfl, ⟨S b 0 (n - 1) 1, by simp [RF], hp⟩, by rw [← tl_step hn hz]; exact ht⟩
      · refine T_rseq fun Kr hKr => ?_
        simp (disch := omega) only [RF, RO, RC, bodyQ, resAll, resOf, tup, ↓reduceIte, Nat.reduceEqDiff, Nat.reduceSub, Nat.reduceAdd, Nat.reduceMul, Nat.reduceLT, Nat.reduceLeDiff, Int.reduceLE, Int.reduceLT, Int.reduceEq, Int.reduceNeg, Int.reduceToNat, Int.reduceMul, Int.reduceAdd, Int.reduceSub, Int.reduceBEq, Int.reduceBNe, reduceCtorEq, RD, h0, hi, hn1, hg, hc, hz]
        refine hKr _ _ ?_
        clear hKr Kr
        try simp only [RN, if_true, if_false, Bool.false_eq_true, if_pos, reduceIte]
        refine T_cseq (t := false) (by simp (disch := omega) only [RF, RO, RC, bodyQ, resAll, resOf, tup, ↓reduceIte, Nat.reduceEqDiff, Nat.reduceSub, Nat.reduceAdd, Nat.reduceMul, Nat.reduceLT, Nat.reduceLeDiff, Int.reduceLE, Int.reduceLT, Int.reduceEq, Int.reduceNeg, Int.reduceToNat, Int.reduceMul, Int.reduceAdd, Int.reduceSub, Int.reduceBEq, Int.reduceBNe, reduceCtorEq, decT, decF]) ?_
        try simp only [RN, if_true, if_false, Bool.false_eq_true, if_pos, reduceIte]
        refine hX _ _ (hexit _ (by simp [RF, h0]) (.inr hz))
    · refine T_rseq fun Kr hKr => ?_
      simp (disch := omega) only [RF, RO, RC, bodyQ, resAll, resOf, tup, ↓reduceIte, Nat.reduceEqDiff, Nat.reduceSub, Nat.reduceAdd, Nat.reduceMul, Nat.reduceLT, Nat.reduceLeDiff, Int.reduceLE, Int.reduceLT, Int.reduceEq, Int.reduceNeg, Int.reduceToNat, Int.reduceMul, Int.reduceAdd, Int.reduceSub, Int.reduceBEq, Int.reduceBNe, reduceCtorEq, RD, h0]
      refine hKr _ _ ?_
      clear hKr Kr
      try simp only [RN, if_true, if_false, Bool.false_eq_true, if_pos, reduceIte]
      refine T_cseq (t := false) (by simp (disch := omega) only [RF, RO, RC, bodyQ, resAll, resOf, tup, ↓reduceIte, Nat.reduceEqDiff, Nat.reduceSub, Nat.reduceAdd, Nat.reduceMul, Nat.reduceLT, Nat.reduceLeDiff, Int.reduceLE, Int.reduceLT, Int.reduceEq, Int.reduceNeg, Int.reduceToNat, Int.reduceMul, Int.reduceAdd, Int.reduceSub, Int.reduceBEq, Int.reduceBNe, reduceCtorEq, decT, decF]) ?_
      try simp only [RN, if_true, if_false, Bool.false_eq_true, if_pos, reduceIte]
      refine hX _ _ (hexit _ (by simp [RF, h0]) (.inl (by omega)))
end Go.Am
