/- Classes of flags. -/
import Derived.Test.YtdadgoboeonoaaaDp8
set_option linter.unusedVariables false
set_option linter.unusedSimpArgs false
namespace Go.Bm
open Go Go.Am

/-- The classes, the flags that have one in their order, and whether all is well. -/
abbrev CS := List Nat × List Nat × Bool
def vis2 (x y : Nat) (st : CS) : CS := if st.2.2 = false then st else if nl st.1 y = nl st.1 x then (st.1, st.2.1, false) else if nl st.1 y = 0 then (st.1.set y (3 - nl st.1 x), st.2.1 ++ [y], true) else st
def rnd2 (ls : List (List Nat)) (x : Nat) (st : CS) : CS := ls.foldl (fun st p => vis2 x (nl p x) st) st
def cls (ls : List (List Nat)) (st : CS) : Nat → CS
  | 0 => st
  | i + 1 => if (cls ls st i).2.2 = true ∧ i < (cls ls st i).2.1.length then rnd2 ls (nl (cls ls st i).2.1 i) (cls ls st i) else cls ls st i
def c0 : CS := ((List.replicate 32 0).set 0 1, [0], true)
structure Ci (st : CS) : Prop where
  len : st.1.length = 32
  lt : ∀ i, i < st.2.1.length → nl st.2.1 i < 32 ∧ nl st.1 (nl st.2.1 i) ≠ 0
  le2 : ∀ i, nl st.1 i ≤ 2
  cnt : st.2.1.length ≤ st.1.countP (· != 0)
theorem Ci.le {st : CS} (h : Ci st) : st.2.1.length ≤ 32 := by
  have := List.countP_le_length (p := (· != 0)) (l := st.1)
  have := h.cnt
  have := h.len
  omega
theorem countP_set0 {s : List Nat} {y v : Nat} (hy : y < s.length) (h : nl s y = 0) (hv : v ≠ 0) : (s.set y v).countP (· != 0) = s.countP (· != 0) + 1 := by
  rw [List.countP_set hy]
  have : s[y] = 0 := by simpa [nl, List.getD, hy] using h
  simp [this, hv]
theorem Ci.vis {st : CS} (h : Ci st) {x y : Nat} (hx : nl st.1 x ≠ 0) (hy : y < 32) : Ci (vis2 x y st) ∧ nl (vis2 x y st).1 x ≠ 0 := by
  have hx2 := h.le2 x
  unfold vis2
  split
  · exact ⟨h, hx⟩
  · split
    · exact ⟨⟨h.len, h.lt, h.le2, h.cnt⟩, hx⟩
    · split
      · rename_i hb
        have hyl : y < st.1.length := by rw [h.len]; exact hy
        refine ⟨⟨by simp [h.len], fun i hi => ?_, fun i => ?_, ?_⟩, ?_⟩
        · simp only [List.length_append, List.length_singleton] at hi
          simp only [nl_append, nl_set]
          split
          · rename_i hi2
            obtain ⟨h1, h2⟩ := h.lt i hi2
            refine ⟨h1, ?_⟩
            split
            · omega
            · exact h2
          · rw [nl_single (by omega)]
            refine ⟨hy, ?_⟩
            rw [if_pos ⟨rfl, hyl⟩]
            omega
        · simp only [nl_set]
          split
          · omega
          · exact h.le2 i
        · simp only [List.length_append, List.length_singleton]
          rw [countP_set0 hyl hb (by omega)]
          have := h.cnt
          omega
        · simp only [nl_set]
          split
          · omega
          · exact hx
      · exact ⟨h, hx⟩
theorem Ci.rnd {x : Nat} : ∀ {ls : List (List Nat)} {st : CS}, Ci st → nl st.1 x ≠ 0 → (∀ p ∈ ls, nl p x < 32) → Ci (rnd2 ls x st) ∧ nl (rnd2 ls x st).1 x ≠ 0
  | [], st, h, hx, _ => ⟨h, hx⟩
  | p :: ls, st, h, hx, hp => by
    obtain ⟨h1, h2⟩ := h.vis hx (hp p (by simp))
    exact Ci.rnd (ls := ls) h1 h2 fun q hq => hp q (by simp [hq])
theorem Ci.cls {ls : List (List Nat)} {st : CS} (h : Ci st) (hp : ∀ p ∈ ls, ∀ i, nl p i < 32) : ∀ i, Ci (cls ls st i)
  | 0 => h
  | i + 1 => by
    simp only [Bm.cls]
    split
    · rename_i hc
      exact ((Ci.cls h hp i).rnd ((Ci.cls h hp i).lt i hc.2).2 fun p hq => hp p hq _).1
    · exact Ci.cls h hp i
theorem Ci.c0 : Ci c0 := ⟨by simp [Bm.c0], fun i hi => by
  rw [show Bm.c0.2.1 = [0] from rfl, nl_single (by simpa [Bm.c0] using hi)]; exact ⟨by decide, by decide⟩, fun i => by
  rw [show Bm.c0.1 = (List.replicate 32 0).set 0 1 from rfl, nl_set, nl_rep]
  split
  · decide
  · split <;> decide, by decide⟩
theorem vis2_pre {st : CS} {x y : Nat} : ∃ q, (vis2 x y st).2.1 = st.2.1 ++ q := by
  unfold vis2
  split
  · exact ⟨[], by simp⟩
  · split
    · exact ⟨[], by simp⟩
    · split
      · exact ⟨[y], rfl⟩
      · exact ⟨[], by simp⟩
theorem rnd2_pre {x : Nat} : ∀ {ls : List (List Nat)} {st : CS}, ∃ q, (rnd2 ls x st).2.1 = st.2.1 ++ q
  | [], st => ⟨[], by simp [rnd2]⟩
  | p :: ls, st => by
    obtain ⟨q, hq⟩ := @vis2_pre st x (nl p x)
    obtain ⟨q', hq'⟩ := rnd2_pre (x := x) (ls := ls) (st := vis2 x (nl p x) st)
    exact ⟨q ++ q', by show (rnd2 ls x (vis2 x (nl p x) st)).2.1 = _; rw [hq', hq, List.append_assoc]⟩
theorem vis2_false {st : CS} {x y : Nat} (h : st.2.2 = false) : vis2 x y st = st := by rw [vis2, if_pos h]
theorem rnd2_false {x : Nat} : ∀ {ls : List (List Nat)} {st : CS}, st.2.2 = false → rnd2 ls x st = st
  | [], st, _ => rfl
  | p :: ls, st, h => by
    show rnd2 ls x (vis2 x (nl p x) st) = st
    rw [vis2_false h, rnd2_false h]
theorem rnd2_take {ls : List (List Nat)} {x j : Nat} {st : CS} (h : j < ls.length) : rnd2 (ls.take (j + 1)) x st = vis2 x (nl (ls.getD j []) x) (rnd2 (ls.take j) x st) := by
  have : ls.take (j + 1) = ls.take j ++ [ls.getD j []] := by
    rw [List.take_add_one]
    simp [List.getD, h]
  rw [this]
  simp [rnd2, List.foldl_append]
theorem rnd2_stop {ls : List (List Nat)} {x j : Nat} {st : CS} (h : (rnd2 (ls.take j) x st).2.2 = false) : rnd2 ls x st = rnd2 (ls.take j) x st := by
  have : rnd2 ls x st = rnd2 (ls.drop j) x (rnd2 (ls.take j) x st) := by
    show List.foldl _ _ _ = List.foldl _ (List.foldl _ _ _) _
    rw [← List.foldl_append, List.take_append_drop]
  rw [this, rnd2_false h]
theorem cls_stop {ls : List (List Nat)} {st : CS} {i : Nat} (h : (cls ls st i).2.2 = false ∨ (cls ls st i).2.1.length ≤ i) : ∀ j, i ≤ j → cls ls st j = cls ls st i
  | 0, hj => by
    obtain rfl : i = 0 := by omega
    rfl
  | j + 1, hj => by
    rcases Nat.lt_or_ge j i with h1 | h1
    · obtain rfl : i = j + 1 := by omega
      rfl
    · have ih := cls_stop h j h1
      simp only [cls]
      rw [ih, if_neg]
      rintro ⟨h2, h3⟩
      rcases h with h | h
      · rw [h] at h2; cases h2
      · omega
/-- Where two flags of a class touch, all ends. -/
theorem cls_fail {ls : List (List Nat)} {st s' : CS} {i j : Nat} (h1 : (cls ls st i).2.2 = true) (h2 : i < (cls ls st i).2.1.length) (hj : rnd2 (ls.take j) (nl (cls ls st i).2.1 i) (cls ls st i) = s') (hf : s'.2.2 = false) (hi : i < 32) : cls ls st 32 = s' := by
  have h3 : cls ls st (i + 1) = s' := by
    rw [cls, if_pos ⟨h1, h2⟩, rnd2_stop (j := j) (by rw [hj]; exact hf), hj]
  rw [cls_stop (i := i + 1) (by rw [h3]; exact .inl hf) 32 (by omega), h3]

def clsR (c t s : List Nat) : CS := cls [c, t, s] c0 32
theorem clsR_len {c t s : List Nat} (hl32 : ∀ p ∈ [c, t, s], ∀ i, nl p i < 32) : (clsR c t s).1.length = 32 := (Ci.c0.cls hl32 32).len
theorem clsR_by {c t s : List Nat} (hl32 : ∀ p ∈ [c, t, s], ∀ i, nl p i < 32) : By 32 (clsR c t s).1 := ⟨clsR_len hl32, fun i => by have := (Ci.c0.cls hl32 32).le2 i; unfold clsR; omega⟩
section
variable {H : BH} {b o n : Nat}
theorem ones_64 {p : List Nat} : (p.map N64).all one2 = true := all_map fun _ => rfl
theorem st_r64 {v : Value} {p : List Nat} (hp : p.length = n) : stO (some (List.replicate n v)) H b 0 n (aggL (p.map N64)) = some (undef, H.set b (some (p.map N64))) := st_r (by simpa using hp) ones_64
theorem st1_64 {s : List Nat} {c : Nat} (h : o < s.length) : stO (some (s.map N64)) H b o 1 (.int .i64 (c : Int)) = some (undef, H.set b (some ((s.set o c).map N64))) := by
  rw [stO_int (by simpa using h)]
  rw [splice_1 (g := N64) h]
theorem st64_0 : stO (some (List.replicate 32 (.int .i64 0))) H b 0 1 (.int .i64 1) = some (undef, H.set b (some (c0.1.map N64))) := by
  have : List.replicate 32 (Value.int .i64 0) = (List.replicate 32 0).map N64 := by simp
  rw [this]
  exact st1_64 (c := 1) (by simp)
theorem getN_64a {p : List Nat} (h : p.length = n) : getN (some n) (p.map N64) 0 = some (aggL (p.map N64)) := getN_all (by simpa using h)
theorem plain_64 {p : List Nat} : (p.map N64).all Am.plain = true := all_map fun _ => rfl
end
theorem nn_64B {p : List Nat} {b : Bool} : NN (.tuple ⟨[aggL (p.map N64), .bool b]⟩) := NN.tuple (NNL.cons (NN.agg (NNL.map fun _ => NN.int)) (NNL.cons NN.bool NNL.nil))
theorem nn_8B {p : List Nat} {b : Bool} : NN (.tuple ⟨[aggL (p.map N8), .bool b]⟩) := NN.tuple (NNL.cons (NN.agg (NNL.map fun _ => NN.int)) (NNL.cons NN.bool NNL.nil))

theorem l07Class_spec {x : Bool} {n : Int} {c t s : List Nat} {H : BH} {K : Value → BH → Prop} (hcc : By 32 c) (ht : By 32 t) (hs : By 32 s) (hl32 : ∀ p ∈ [c, t, s], ∀ i, nl p i < 32)
    (hK : K (.tuple ⟨[aggL ((clsR c t s).1.map N64), .bool (clsR c t s).2.2]⟩) H) : CallX x F_spec_l07Class [FV n c t s] H K := by
  have hlc := hcc.len
  have hlt := ht.len
  have hls := hs.len
  have hall : ∀ p ∈ [c, t, s], p.length = 32 := by simp [hlc, hlt, hls]
  obtain ⟨ls, hlse⟩ : ∃ ls, [c, t, s] = ls := ⟨_, rfl⟩
  have hl3 : ls.length = 3 := by rw [← hlse]; rfl
  have hR0 : clsR c t s = cls ls c0 32 := by rw [clsR, hlse]
  have hflat : ([c, t, s].flatten.map N8) = ls.flatten.map N8 := by rw [hlse]
  rw [hlse] at hall hl32
  rw [hR0] at hK
  refine callP (by exact .cons nn_F .nil) ?_
  refine CallX_body Γ_spec_l07Class ?_
  simp only [A_spec_l07Class, T_aiff]
  refine T_rseq fun Kr hKr => ?_
  simp (disch := omega) only [RF, RO, RC, ↓reduceIte, Nat.reduceEqDiff, Nat.reduceBEq, Nat.reduceSub, Nat.reduceAdd, Nat.reduceMul, Nat.reduceLT, Nat.reduceLeDiff, Int.reduceLE, Int.reduceLT, Int.reduceEq, Int.reduceNeg, Int.reduceToNat, Int.reduceMul, Int.reduceAdd, Int.reduceSub, Int.reduceBEq, Int.reduceBNe, reduceCtorEq, RD, RFS]
  refine hKr _ _ ?_
  clear hKr Kr
  try simp only [RN, if_true, if_false, Bool.false_eq_true, if_pos, reduceIte]
  try first | refine T_exit ?_ | refine T_ret ?_ | refine T_skip ?_
  refine T_rseq fun Kr hKr => ?_
  simp (disch := omega) only [RF, RO, RC, ↓reduceIte, Nat.reduceEqDiff, Nat.reduceBEq, Nat.reduceSub, Nat.reduceAdd, Nat.reduceMul, Nat.reduceLT, Nat.reduceLeDiff, Int.reduceLE, Int.reduceLT, Int.reduceEq, Int.reduceNeg, Int.reduceToNat, Int.reduceMul, Int.reduceAdd, Int.reduceSub, Int.reduceBEq, Int.reduceBNe, reduceCtorEq, RD, RFS, RFD, fill3P32, hflat]
  refine hKr _ _ ?_
  clear hKr Kr
  try simp only [RN, if_true, if_false, Bool.false_eq_true, if_pos, reduceIte]
  try first | refine T_exit ?_ | refine T_ret ?_ | refine T_skip ?_
  refine T_rseq fun Kr hKr => ?_
  simp (disch := omega) only [RF, RO, RC, ↓reduceIte, Nat.reduceEqDiff, Nat.reduceBEq, Nat.reduceSub, Nat.reduceAdd, Nat.reduceMul, Nat.reduceLT, Nat.reduceLeDiff, Int.reduceLE, Int.reduceLT, Int.reduceEq, Int.reduceNeg, Int.reduceToNat, Int.reduceMul, Int.reduceAdd, Int.reduceSub, Int.reduceBEq, Int.reduceBNe, reduceCtorEq, RD, st64_0]
  refine hKr _ _ ?_
  clear hKr Kr
  try simp only [RN, if_true, if_false, Bool.false_eq_true, if_pos, reduceIte]
  try first | refine T_exit ?_ | refine T_ret ?_ | refine T_skip ?_
  refine T_rseq fun Kr hKr => ?_
  simp (disch := omega) only [RF, RO, RC, ↓reduceIte, Nat.reduceEqDiff, Nat.reduceBEq, Nat.reduceSub, Nat.reduceAdd, Nat.reduceMul, Nat.reduceLT, Nat.reduceLeDiff, Int.reduceLE, Int.reduceLT, Int.reduceEq, Int.reduceNeg, Int.reduceToNat, Int.reduceMul, Int.reduceAdd, Int.reduceSub, Int.reduceBEq, Int.reduceBNe, reduceCtorEq, RD]
  refine hKr _ _ ?_
  clear hKr Kr
  try simp only [RN, if_true, if_false, Bool.false_eq_true, if_pos, reduceIte]
  try first | refine T_exit ?_ | refine T_ret ?_ | refine T_skip ?_
  refine T_wloop (fun m f H' => ∃ k st, k ≤ 32 ∧ m = 32 - k ∧ st = cls ls c0 k ∧ st.2.2 = true ∧ k ≤ st.2.1.length ∧ f 2 = P 1 0 ∧ f 4 = P 4 0 ∧ f 5 = S 2 0 st.2.1.length 1 ∧ f 6 = S 3 0 3 32 ∧ f 7 = I k ∧ H' = [some (FC n c t s), some (List.replicate 32 (.int .i64 0)), some (st.2.1.map N64), some (ls.flatten.map N8), some (st.1.map N64)]) (32) ?_ ?_
  · refine ⟨_, _, Gh.refl, 0, c0, by omega, by omega, rfl, rfl, Nat.zero_le _, ?_, ?_, ?_, ?_, ?_, rfl⟩
    any_goals (simp (disch := omega) only [RF, RO, RC, ↓reduceIte, Nat.reduceEqDiff, Nat.reduceBEq, Nat.reduceSub, Nat.reduceAdd, Nat.reduceMul, Nat.reduceLT, Nat.reduceLeDiff, Int.reduceLE, Int.reduceLT, Int.reduceEq, Int.reduceNeg, Int.reduceToNat, Int.reduceMul, Int.reduceAdd, Int.reduceSub, Int.reduceBEq, Int.reduceBNe, reduceCtorEq, RD, ren_PL, ren_AB, ren_AI, *] <;> rfl)
  · rintro m f H' R ⟨k, st, hk, rfl, hst, hok, hkl, g2, g4, g5, g6, g7, rfl⟩ hN hX hR hE
    simp only [A_spec_l07Class.l1, T_aiff]
    have hB := Ci.c0.cls hl32 k
    rw [← hst] at hB
    have hle := hB.le
    have hsl := hB.len
    refine T_rseq fun Kr hKr => ?_
    simp (disch := omega) only [RF, RO, RC, ↓reduceIte, Nat.reduceEqDiff, Nat.reduceBEq, Nat.reduceSub, Nat.reduceAdd, Nat.reduceMul, Nat.reduceLT, Nat.reduceLeDiff, Int.reduceLE, Int.reduceLT, Int.reduceEq, Int.reduceNeg, Int.reduceToNat, Int.reduceMul, Int.reduceAdd, Int.reduceSub, Int.reduceBEq, Int.reduceBNe, reduceCtorEq, RD, g5, g7]
    refine hKr _ _ ?_
    clear hKr Kr
    try simp only [RN, if_true, if_false, Bool.false_eq_true, if_pos, reduceIte]
    try first | refine T_exit ?_ | refine T_ret ?_ | refine T_skip ?_
    refine T_csplit (p := k < st.2.1.length) (by simp only [RF, RO, RC, ↓reduceIte, Nat.reduceEqDiff, Nat.reduceBEq, Nat.reduceSub, Nat.reduceAdd, Nat.reduceMul, Nat.reduceLT, Nat.reduceLeDiff, Int.reduceLE, Int.reduceLT, Int.reduceEq, Int.reduceNeg, Int.reduceToNat, Int.reduceMul, Int.reduceAdd, Int.reduceSub, Int.reduceBEq, Int.reduceBNe, reduceCtorEq] <;> rfl) (by (try simp only [decide_eq_true_eq, Bool.or_eq_true, Bool.and_eq_true, Bool.not_eq_true', decide_eq_false_iff_not, Bool.not_eq_eq_eq_not, Bool.not_true, Bool.not_false, beq_iff_eq, Bool.false_eq_true]) <;> (first | done | exact Iff.rfl | omega | simp)) (fun hc => ?_) (fun hc => ?_) <;> (try simp only [RN, if_true, if_false, Bool.false_eq_true, if_pos, reduceIte]) <;> (try first | refine T_exit ?_ | refine T_ret ?_ | refine T_skip ?_)
    · obtain ⟨hxk, hxc⟩ := hB.lt k hc
      first | refine T_bfree rfl ?_ | refine T_bfree' rfl ?_
      try simp only [RN, if_true, if_false, Bool.false_eq_true, if_pos, reduceIte]
      try first | refine T_exit ?_ | refine T_ret ?_ | refine T_skip ?_
      refine T_rseq fun Kr hKr => ?_
      simp (disch := omega) only [RF, RO, RC, ↓reduceIte, Nat.reduceEqDiff, Nat.reduceBEq, Nat.reduceSub, Nat.reduceAdd, Nat.reduceMul, Nat.reduceLT, Nat.reduceLeDiff, Int.reduceLE, Int.reduceLT, Int.reduceEq, Int.reduceNeg, Int.reduceToNat, Int.reduceMul, Int.reduceAdd, Int.reduceSub, Int.reduceBEq, Int.reduceBNe, reduceCtorEq, RD]
      refine hKr _ _ ?_
      clear hKr Kr
      try simp only [RN, if_true, if_false, Bool.false_eq_true, if_pos, reduceIte]
      try first | refine T_exit ?_ | refine T_ret ?_ | refine T_skip ?_
      refine T_wloop (fun m f H' => ∃ j st', j ≤ 3 ∧ m = 3 - j ∧ st' = rnd2 (ls.take j) (nl st.2.1 k) st ∧ st'.2.2 = true ∧ f 2 = P 1 0 ∧ f 4 = P 4 0 ∧ f 5 = S 2 0 st'.2.1.length 1 ∧ f 6 = S 3 0 3 32 ∧ f 7 = I k ∧ f 8 = I j ∧ H' = [some (FC n c t s), some (List.replicate 32 (.int .i64 0)), some (st'.2.1.map N64), some (ls.flatten.map N8), some (st'.1.map N64)]) (3) ?_ ?_
      · refine ⟨_, _, Gh.refl, 0, st, by omega, by omega, rfl, hok, ?_, ?_, ?_, ?_, ?_, ?_, rfl⟩
        any_goals (simp (disch := omega) only [RF, RO, RC, ↓reduceIte, Nat.reduceEqDiff, Nat.reduceBEq, Nat.reduceSub, Nat.reduceAdd, Nat.reduceMul, Nat.reduceLT, Nat.reduceLeDiff, Int.reduceLE, Int.reduceLT, Int.reduceEq, Int.reduceNeg, Int.reduceToNat, Int.reduceMul, Int.reduceAdd, Int.reduceSub, Int.reduceBEq, Int.reduceBNe, reduceCtorEq, RD, ren_PL, ren_AB, ren_AI, *] <;> rfl)
      · clear g2 g4 g5 g6 g7
        rintro m f H' R2 ⟨j, st', hj, rfl, hst', hok', g2, g4, g5, g6, g7, g8, rfl⟩ hN2 hX2 hR2 hE2
        simp only [A_spec_l07Class.l0, T_aiff]
        refine T_rseq fun Kr hKr => ?_
        simp (disch := omega) only [RF, RO, RC, ↓reduceIte, Nat.reduceEqDiff, Nat.reduceBEq, Nat.reduceSub, Nat.reduceAdd, Nat.reduceMul, Nat.reduceLT, Nat.reduceLeDiff, Int.reduceLE, Int.reduceLT, Int.reduceEq, Int.reduceNeg, Int.reduceToNat, Int.reduceMul, Int.reduceAdd, Int.reduceSub, Int.reduceBEq, Int.reduceBNe, reduceCtorEq, RD, g8]
        refine hKr _ _ ?_
        clear hKr Kr
        try simp only [RN, if_true, if_false, Bool.false_eq_true, if_pos, reduceIte]
        try first | refine T_exit ?_ | refine T_ret ?_ | refine T_skip ?_
        obtain ⟨hB', hxc'⟩ := hB.rnd (ls := ls.take j) hxc fun p hp => hl32 p (List.mem_of_mem_take hp) _
        rw [← hst'] at hB' hxc'
        have hle' := hB'.le
        have hsl' := hB'.len
        refine T_csplit (p := j < 3) (by simp only [RF, RO, RC, ↓reduceIte, Nat.reduceEqDiff, Nat.reduceBEq, Nat.reduceSub, Nat.reduceAdd, Nat.reduceMul, Nat.reduceLT, Nat.reduceLeDiff, Int.reduceLE, Int.reduceLT, Int.reduceEq, Int.reduceNeg, Int.reduceToNat, Int.reduceMul, Int.reduceAdd, Int.reduceSub, Int.reduceBEq, Int.reduceBNe, reduceCtorEq] <;> rfl) (by (try simp only [decide_eq_true_eq, Bool.or_eq_true, Bool.and_eq_true, Bool.not_eq_true', decide_eq_false_iff_not, Bool.not_eq_eq_eq_not, Bool.not_true, Bool.not_false, beq_iff_eq, Bool.false_eq_true]) <;> (first | done | exact Iff.rfl | omega | simp)) (fun hc => ?_) (fun hc => ?_) <;> (try simp only [RN, if_true, if_false, Bool.false_eq_true, if_pos, reduceIte]) <;> (try first | refine T_exit ?_ | refine T_ret ?_ | refine T_skip ?_)
        · have hjl : j < ls.length := by omega
          obtain ⟨w, hw⟩ := @rnd2_pre (nl st.2.1 k) (ls.take j) st
          rw [← hst'] at hw
          have hxi : nl st'.2.1 k = nl st.2.1 k := by rw [hw, nl_append, if_pos (by assumption)]
          have hil' : k < st'.2.1.length := by rw [hw]; simp; omega
          have hnx := rnd2_take (ls := ls) (x := nl st.2.1 k) (st := st) hjl
          rw [← hst'] at hnx
          have hyl := hl32 _ (getD_mem (d := []) hjl) (nl st.2.1 k)
          have hgp := getN_FP1 (m := 32) (y := nl st.2.1 k) hall hjl hxk
          obtain ⟨y, hyd⟩ : ∃ y, nl (ls.getD j []) (nl st.2.1 k) = y := ⟨_, rfl⟩
          rw [hyd] at hyl hnx hgp
          obtain ⟨xk, hxd⟩ : ∃ xk, nl st.2.1 k = xk := ⟨_, rfl⟩
          rw [hxd] at hnx hgp hxk hxc hxc' hxi
          have hx2 := hB'.le2 xk
          first | refine T_bfree rfl ?_ | refine T_bfree' rfl ?_
          try simp only [RN, if_true, if_false, Bool.false_eq_true, if_pos, reduceIte]
          try first | refine T_exit ?_ | refine T_ret ?_ | refine T_skip ?_
          refine T_rseq fun Kr hKr => ?_
          simp (disch := omega) only [RF, RO, RC, ↓reduceIte, Nat.reduceEqDiff, Nat.reduceBEq, Nat.reduceSub, Nat.reduceAdd, Nat.reduceMul, Nat.reduceLT, Nat.reduceLeDiff, Int.reduceLE, Int.reduceLT, Int.reduceEq, Int.reduceNeg, Int.reduceToNat, Int.reduceMul, Int.reduceAdd, Int.reduceSub, Int.reduceBEq, Int.reduceBNe, reduceCtorEq, RD, g5, g6, g7, g8, getN_64, hxi, hgp]
          refine hKr _ _ ?_
          clear hKr Kr
          try simp only [RN, if_true, if_false, Bool.false_eq_true, if_pos, reduceIte]
          try first | refine T_exit ?_ | refine T_ret ?_ | refine T_skip ?_
          refine T_rseq fun Kr hKr => ?_
          simp (disch := omega) only [RF, RO, RC, ↓reduceIte, Nat.reduceEqDiff, Nat.reduceBEq, Nat.reduceSub, Nat.reduceAdd, Nat.reduceMul, Nat.reduceLT, Nat.reduceLeDiff, Int.reduceLE, Int.reduceLT, Int.reduceEq, Int.reduceNeg, Int.reduceToNat, Int.reduceMul, Int.reduceAdd, Int.reduceSub, Int.reduceBEq, Int.reduceBNe, reduceCtorEq, RD, g4, g5, g7, getN_64, hxi, hsl']
          refine hKr _ _ ?_
          clear hKr Kr
          try simp only [RN, if_true, if_false, Bool.false_eq_true, if_pos, reduceIte]
          try first | refine T_exit ?_ | refine T_ret ?_ | refine T_skip ?_
          refine T_csplit (p := nl st'.1 y = nl st'.1 xk) (by simp only [RF, RO, RC, ↓reduceIte, Nat.reduceEqDiff, Nat.reduceBEq, Nat.reduceSub, Nat.reduceAdd, Nat.reduceMul, Nat.reduceLT, Nat.reduceLeDiff, Int.reduceLE, Int.reduceLT, Int.reduceEq, Int.reduceNeg, Int.reduceToNat, Int.reduceMul, Int.reduceAdd, Int.reduceSub, Int.reduceBEq, Int.reduceBNe, reduceCtorEq] <;> rfl) (by (try simp only [decide_eq_true_eq, Bool.or_eq_true, Bool.and_eq_true, Bool.not_eq_true', decide_eq_false_iff_not, Bool.not_eq_eq_eq_not, Bool.not_true, Bool.not_false, beq_iff_eq, Bool.false_eq_true]) <;> (first | done | exact Iff.rfl | omega | simp)) (fun hc => ?_) (fun hc => ?_) <;> (try simp only [RN, if_true, if_false, Bool.false_eq_true, if_pos, reduceIte]) <;> (try first | refine T_exit ?_ | refine T_ret ?_ | refine T_skip ?_)
          · refine T_rseq fun Kr hKr => ?_
            simp (disch := omega) only [RF, RO, RC, ↓reduceIte, Nat.reduceEqDiff, Nat.reduceBEq, Nat.reduceSub, Nat.reduceAdd, Nat.reduceMul, Nat.reduceLT, Nat.reduceLeDiff, Int.reduceLE, Int.reduceLT, Int.reduceEq, Int.reduceNeg, Int.reduceToNat, Int.reduceMul, Int.reduceAdd, Int.reduceSub, Int.reduceBEq, Int.reduceBNe, reduceCtorEq, RD, g2, g4, hsl', st_r64, getN_64a]
            refine hKr _ _ ?_
            clear hKr Kr
            try simp only [RN, if_true, if_false, Bool.false_eq_true, if_pos, reduceIte]
            try first | refine T_exit ?_ | refine T_ret ?_ | refine T_skip ?_
            refine hR2 _ _ (hR _ _ ?_)
            refine bodyQ_ret (by simp (disch := omega) only [RF, RO, RC, ↓reduceIte, Nat.reduceEqDiff, Nat.reduceBEq, Nat.reduceSub, Nat.reduceAdd, Nat.reduceMul, Nat.reduceLT, Nat.reduceLeDiff, Int.reduceLE, Int.reduceLT, Int.reduceEq, Int.reduceNeg, Int.reduceToNat, Int.reduceMul, Int.reduceAdd, Int.reduceSub, Int.reduceBEq, Int.reduceBNe, reduceCtorEq, RD, resAll, resOf, g2, hsl', getN_64a]; rfl) GhV.refl ?_
            simp only [tup]
            refine ⟨nn_64B, ?_⟩
            have hv : vis2 xk y st' = (st'.1, st'.2.1, false) := by rw [vis2, if_neg (by simp [hok']), if_pos hc]
            rw [cls_fail (i := k) (j := j + 1) (s' := (st'.1, st'.2.1, false)) (by rw [← hst]; exact hok) (by rw [← hst]; assumption) (by rw [← hst, hxd, hnx, hv]) rfl (by omega)] at hK
            exact hK
          · have hnext : ∀ f' st2, f' 2 = P 1 0 → f' 4 = P 4 0 → f' 5 = S 2 0 st2.2.1.length 1 → f' 6 = S 3 0 3 32 → f' 7 = I k → f' 8 = I j → st2 = vis2 xk y st' → st2.2.2 = true →
                T 0 A_spec_l07Class.r8 R2 f' [some (FC n c t s), some (List.replicate 32 (.int .i64 0)), some (st2.2.1.map N64), some (ls.flatten.map N8), some (st2.1.map N64)] := by
              intro f' st2 g2 g4 g5 g6 g7 g8 hs2 hok2
              refine T_reg_k fun Kr hKr => ?_
              simp (disch := omega) only [RF, RO, RC, ↓reduceIte, Nat.reduceEqDiff, Nat.reduceBEq, Nat.reduceSub, Nat.reduceAdd, Nat.reduceMul, Nat.reduceLT, Nat.reduceLeDiff, Int.reduceLE, Int.reduceLT, Int.reduceEq, Int.reduceNeg, Int.reduceToNat, Int.reduceMul, Int.reduceAdd, Int.reduceSub, Int.reduceBEq, Int.reduceBNe, reduceCtorEq, RD, g8]
              refine hKr _ _ ?_
              clear hKr Kr
              refine hN2 (3 - (j + 1)) _ _ _ _ (by omega) Gh.refl ⟨j + 1, st2, by omega, rfl, by rw [hxd, hnx, hs2], hok2, ?_, ?_, ?_, ?_, ?_, ?_, rfl⟩
              any_goals (simp (disch := omega) only [RF, RO, RC, ↓reduceIte, Nat.reduceEqDiff, Nat.reduceBEq, Nat.reduceSub, Nat.reduceAdd, Nat.reduceMul, Nat.reduceLT, Nat.reduceLeDiff, Int.reduceLE, Int.reduceLT, Int.reduceEq, Int.reduceNeg, Int.reduceToNat, Int.reduceMul, Int.reduceAdd, Int.reduceSub, Int.reduceBEq, Int.reduceBNe, reduceCtorEq, RD, ren_PL, ren_AB, ren_AI, *] <;> rfl)
            refine T_rseq fun Kr hKr => ?_
            simp (disch := omega) only [RF, RO, RC, ↓reduceIte, Nat.reduceEqDiff, Nat.reduceBEq, Nat.reduceSub, Nat.reduceAdd, Nat.reduceMul, Nat.reduceLT, Nat.reduceLeDiff, Int.reduceLE, Int.reduceLT, Int.reduceEq, Int.reduceNeg, Int.reduceToNat, Int.reduceMul, Int.reduceAdd, Int.reduceSub, Int.reduceBEq, Int.reduceBNe, reduceCtorEq, RD, g4, getN_64, hsl']
            refine hKr _ _ ?_
            clear hKr Kr
            try simp only [RN, if_true, if_false, Bool.false_eq_true, if_pos, reduceIte]
            try first | refine T_exit ?_ | refine T_ret ?_ | refine T_skip ?_
            refine T_csplit (p := nl st'.1 y = 0) (by simp only [RF, RO, RC, ↓reduceIte, Nat.reduceEqDiff, Nat.reduceBEq, Nat.reduceSub, Nat.reduceAdd, Nat.reduceMul, Nat.reduceLT, Nat.reduceLeDiff, Int.reduceLE, Int.reduceLT, Int.reduceEq, Int.reduceNeg, Int.reduceToNat, Int.reduceMul, Int.reduceAdd, Int.reduceSub, Int.reduceBEq, Int.reduceBNe, reduceCtorEq] <;> rfl) (by (try simp only [decide_eq_true_eq, Bool.or_eq_true, Bool.and_eq_true, Bool.not_eq_true', decide_eq_false_iff_not, Bool.not_eq_eq_eq_not, Bool.not_true, Bool.not_false, beq_iff_eq, Bool.false_eq_true]) <;> (first | done | exact Iff.rfl | omega | simp)) (fun hc => ?_) (fun hc => ?_) <;> (try simp only [RN, if_true, if_false, Bool.false_eq_true, if_pos, reduceIte]) <;> (try first | refine T_exit ?_ | refine T_ret ?_ | refine T_skip ?_)
            · have hsub : (3 : Int) - (nl st'.1 xk : Int) = ((3 - nl st'.1 xk : Nat) : Int) := by omega
              refine T_rseq fun Kr hKr => ?_
              simp (disch := omega) only [RF, RO, RC, ↓reduceIte, Nat.reduceEqDiff, Nat.reduceBEq, Nat.reduceSub, Nat.reduceAdd, Nat.reduceMul, Nat.reduceLT, Nat.reduceLeDiff, Int.reduceLE, Int.reduceLT, Int.reduceEq, Int.reduceNeg, Int.reduceToNat, Int.reduceMul, Int.reduceAdd, Int.reduceSub, Int.reduceBEq, Int.reduceBNe, reduceCtorEq, RD, g4, g5, g7, getN_64, hxi, hsl', hsub, st1_64]
              refine hKr _ _ ?_
              clear hKr Kr
              try simp only [RN, if_true, if_false, Bool.false_eq_true, if_pos, reduceIte]
              try first | refine T_exit ?_ | refine T_ret ?_ | refine T_skip ?_
              refine T_rseq fun Kr hKr => ?_
              simp (disch := omega) only [RF, RO, RC, ↓reduceIte, Nat.reduceEqDiff, Nat.reduceBEq, Nat.reduceSub, Nat.reduceAdd, Nat.reduceMul, Nat.reduceLT, Nat.reduceLeDiff, Int.reduceLE, Int.reduceLT, Int.reduceEq, Int.reduceNeg, Int.reduceToNat, Int.reduceMul, Int.reduceAdd, Int.reduceSub, Int.reduceBEq, Int.reduceBNe, reduceCtorEq, RD, g5, app1_64]
              refine hKr _ _ ?_
              clear hKr Kr
              try simp only [RN, if_true, if_false, Bool.false_eq_true, if_pos, reduceIte]
              try first | refine T_exit ?_ | refine T_ret ?_ | refine T_skip ?_
              refine T_gh (Gh.norm [0, 1, 6, 3, 4] (by decide) (by intro j hj; first | exact absurd hj (by simp) | (revert j; decide)) (by (repeat' first | exact HN.nil | (refine HN.none ?_) | (refine HN.cons ?_ ?_)) <;> (repeat' first | exact NNL.nil | exact NN.int | exact NN.bool | exact NN.fz | exact NN.nil | exact NN.string | exact NN.undef | (refine NNL.cons ?_ ?_) | (refine NN.tuple ?_) | (refine NN.agg ?_) | (refine NN.func ?_) | (refine NNL.append ?_ ?_) | exact NNL.map (fun _ => NN.int) | exact NNL.map (fun _ => NN.bool) | exact NNL.map (fun _ => NN.fz) | exact NNL.map (fun _ => NN.string) | exact NNL.replicate NN.int | exact NNL.replicate NN.bool | assumption))) ?_
              refine hnext _ (st'.1.set y (3 - nl st'.1 xk), st'.2.1 ++ [y], true) ?_ ?_ ?_ ?_ ?_ ?_ ?_ rfl
              any_goals (simp (disch := omega) only [RF, RO, RC, ↓reduceIte, Nat.reduceEqDiff, Nat.reduceBEq, Nat.reduceSub, Nat.reduceAdd, Nat.reduceMul, Nat.reduceLT, Nat.reduceLeDiff, Int.reduceLE, Int.reduceLT, Int.reduceEq, Int.reduceNeg, Int.reduceToNat, Int.reduceMul, Int.reduceAdd, Int.reduceSub, Int.reduceBEq, Int.reduceBNe, reduceCtorEq, RD, ren_PL, ren_AB, ren_AI, *] <;> rfl)
              rw [vis2, if_neg (by simp [hok']), if_neg (by assumption), if_pos (by assumption)]
            · try simp only [RN, if_true, if_false, Bool.false_eq_true, if_pos, reduceIte]
              try first | refine T_exit ?_ | refine T_ret ?_ | refine T_skip ?_
              refine hnext _ st' ?_ ?_ ?_ ?_ ?_ ?_ ?_ hok'
              any_goals (simp (disch := omega) only [RF, RO, RC, ↓reduceIte, Nat.reduceEqDiff, Nat.reduceBEq, Nat.reduceSub, Nat.reduceAdd, Nat.reduceMul, Nat.reduceLT, Nat.reduceLeDiff, Int.reduceLE, Int.reduceLT, Int.reduceEq, Int.reduceNeg, Int.reduceToNat, Int.reduceMul, Int.reduceAdd, Int.reduceSub, Int.reduceBEq, Int.reduceBNe, reduceCtorEq, RD, ren_PL, ren_AB, ren_AI, *] <;> rfl)
              rw [vis2, if_neg (by simp [hok']), if_neg (by assumption), if_neg (by assumption)]
        · refine hX2 _ _ ?_
          obtain rfl : j = 3 := by omega
          have hst2 : st' = cls ls c0 (k + 1) := by
            rw [hst', cls, ← hst, if_pos ⟨hok, by assumption⟩, List.take_of_length_le (by omega)]
          obtain ⟨q, hq⟩ := @rnd2_pre (nl st.2.1 k) (ls.take 3) st
          have hlq : k + 1 ≤ st'.2.1.length := by rw [hst', hq]; simp; omega
          refine T_reg_k fun Kr hKr => ?_
          simp (disch := omega) only [RF, RO, RC, ↓reduceIte, Nat.reduceEqDiff, Nat.reduceBEq, Nat.reduceSub, Nat.reduceAdd, Nat.reduceMul, Nat.reduceLT, Nat.reduceLeDiff, Int.reduceLE, Int.reduceLT, Int.reduceEq, Int.reduceNeg, Int.reduceToNat, Int.reduceMul, Int.reduceAdd, Int.reduceSub, Int.reduceBEq, Int.reduceBNe, reduceCtorEq, RD, g7]
          refine hKr _ _ ?_
          clear hKr Kr
          refine hN (32 - (k + 1)) _ _ _ _ (by omega) Gh.refl ⟨k + 1, st', by omega, rfl, hst2, hok', hlq, ?_, ?_, ?_, ?_, ?_, rfl⟩
          any_goals (simp (disch := omega) only [RF, RO, RC, ↓reduceIte, Nat.reduceEqDiff, Nat.reduceBEq, Nat.reduceSub, Nat.reduceAdd, Nat.reduceMul, Nat.reduceLT, Nat.reduceLeDiff, Int.reduceLE, Int.reduceLT, Int.reduceEq, Int.reduceNeg, Int.reduceToNat, Int.reduceMul, Int.reduceAdd, Int.reduceSub, Int.reduceBEq, Int.reduceBNe, reduceCtorEq, RD, ren_PL, ren_AB, ren_AI, *] <;> rfl)
    · refine hX _ _ ?_
      refine T_rseq fun Kr hKr => ?_
      simp (disch := omega) only [RF, RO, RC, ↓reduceIte, Nat.reduceEqDiff, Nat.reduceBEq, Nat.reduceSub, Nat.reduceAdd, Nat.reduceMul, Nat.reduceLT, Nat.reduceLeDiff, Int.reduceLE, Int.reduceLT, Int.reduceEq, Int.reduceNeg, Int.reduceToNat, Int.reduceMul, Int.reduceAdd, Int.reduceSub, Int.reduceBEq, Int.reduceBNe, reduceCtorEq, RD, g2, g4, hsl, st_r64, getN_64a]
      refine hKr _ _ ?_
      clear hKr Kr
      try simp only [RN, if_true, if_false, Bool.false_eq_true, if_pos, reduceIte]
      try first | refine T_exit ?_ | refine T_ret ?_ | refine T_skip ?_
      refine bodyQ_ret (by simp (disch := omega) only [RF, RO, RC, ↓reduceIte, Nat.reduceEqDiff, Nat.reduceBEq, Nat.reduceSub, Nat.reduceAdd, Nat.reduceMul, Nat.reduceLT, Nat.reduceLeDiff, Int.reduceLE, Int.reduceLT, Int.reduceEq, Int.reduceNeg, Int.reduceToNat, Int.reduceMul, Int.reduceAdd, Int.reduceSub, Int.reduceBEq, Int.reduceBNe, reduceCtorEq, RD, resAll, resOf, g2, hsl, getN_64a]; rfl) GhV.refl ?_
      simp only [tup]
      refine ⟨nn_64B, ?_⟩
      have hs : cls ls c0 32 = st := by rw [cls_stop (i := k) (by rw [← hst]; exact .inr (by omega)) 32 hk, hst]
      rw [hs, hok] at hK
      exact hK
end Go.Bm
