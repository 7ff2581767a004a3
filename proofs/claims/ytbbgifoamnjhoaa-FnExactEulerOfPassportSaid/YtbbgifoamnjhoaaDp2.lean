/- What is reached by steps. -/
import Derived.Test.YtbbgifoamnjhoaaDp1
set_option linter.unusedVariables false
set_option linter.unusedSimpArgs false
namespace Go.Bm
open Go Go.Am

abbrev BS := List Bool × List Nat
def visit (st : BS) (y : Nat) : BS := if bl st.1 y = true then st else (st.1.set y true, st.2 ++ [y])
def roundX (ls : List (List Nat)) (x : Nat) (st : BS) : BS := ls.foldl (fun st p => visit st (nl p x)) st
def bfs (ls : List (List Nat)) (st : BS) : Nat → BS
  | 0 => st
  | i + 1 => if i < (bfs ls st i).2.length then roundX ls (nl (bfs ls st i).2 i) (bfs ls st i) else bfs ls st i
structure Bi (m : Nat) (st : BS) : Prop where
  len : st.1.length = m
  lt : ∀ i, i < st.2.length → nl st.2 i < m
  cnt : st.2.length ≤ st.1.count true
theorem Bi.le {m : Nat} {st : BS} (h : Bi m st) : st.2.length ≤ m := by
  have := List.count_le_length (a := true) (l := st.1)
  have := h.cnt
  have := h.len
  omega
theorem nl_append {p q : List Nat} {i : Nat} : nl (p ++ q) i = if i < p.length then nl p i else nl q (i - p.length) := by
  unfold nl
  simp only [List.getD]
  split
  · rename_i h; rw [List.getElem?_append_left h]
  · rename_i h; rw [List.getElem?_append_right (by omega)]
theorem nl_single {y : Nat} {i : Nat} (h : i < 1) : nl [y] i = y := by
  obtain rfl : i = 0 := by omega
  rfl
theorem count_set_true {s : List Bool} {y : Nat} (hy : y < s.length) (h : bl s y = false) : (s.set y true).count true = s.count true + 1 := by
  rw [List.count_set hy]
  have : s[y] = false := by simpa [bl, List.getD, hy] using h
  simp [this]
theorem Bi.visit {m : Nat} {st : BS} (h : Bi m st) {y : Nat} (hy : y < m) : Bi m (visit st y) := by
  unfold Bm.visit
  split
  · exact h
  · rename_i hb
    refine ⟨by simp [h.len], fun i hi => ?_, ?_⟩
    · simp only [List.length_append, List.length_singleton] at hi
      simp only [nl_append]
      split
      · exact h.lt i (by assumption)
      · rw [nl_single (by omega)]; exact hy
    · simp only [List.length_append, List.length_singleton]
      rw [count_set_true (by rw [h.len]; exact hy) (by simpa using hb)]
      have := h.cnt
      omega
theorem Bi.round {m : Nat} {x : Nat} : ∀ {ls : List (List Nat)} {st : BS}, Bi m st → (∀ p ∈ ls, nl p x < m) → Bi m (roundX ls x st)
  | [], st, h, _ => h
  | p :: ls, st, h, hp => Bi.round (ls := ls) (h.visit (hp p (by simp))) fun q hq => hp q (by simp [hq])
theorem Bi.bfs {m : Nat} {ls : List (List Nat)} {st : BS} (h : Bi m st) (hp : ∀ p ∈ ls, ∀ i, nl p i < m) : ∀ i, Bi m (bfs ls st i)
  | 0 => h
  | i + 1 => by
    simp only [Bm.bfs]
    split
    · exact (Bi.bfs h hp i).round fun p hq => hp p hq _
    · exact Bi.bfs h hp i
theorem visit_pre {st : BS} {y : Nat} : ∃ q, (visit st y).2 = st.2 ++ q := by
  unfold visit
  split
  · exact ⟨[], by simp⟩
  · exact ⟨[y], rfl⟩
theorem round_pre {x : Nat} : ∀ {ls : List (List Nat)} {st : BS}, ∃ q, (roundX ls x st).2 = st.2 ++ q
  | [], st => ⟨[], by simp [roundX]⟩
  | p :: ls, st => by
    obtain ⟨q, hq⟩ := @visit_pre st (nl p x)
    obtain ⟨q', hq'⟩ := round_pre (x := x) (ls := ls) (st := visit st (nl p x))
    exact ⟨q ++ q', by show (roundX ls x (visit st (nl p x))).2 = _; rw [hq', hq, List.append_assoc]⟩
theorem bfs_stop {ls : List (List Nat)} {st : BS} {i : Nat} (h : (bfs ls st i).2.length ≤ i) : ∀ j, i ≤ j → bfs ls st j = bfs ls st i
  | 0, hj => by
    obtain rfl : i = 0 := by omega
    rfl
  | j + 1, hj => by
    rcases Nat.lt_or_ge j i with h1 | h1
    · obtain rfl : i = j + 1 := by omega
      rfl
    · have ih := bfs_stop h j h1
      simp only [bfs]
      rw [ih, if_neg (by omega)]
theorem round_take {ls : List (List Nat)} {x j : Nat} {st : BS} (h : j < ls.length) : roundX (ls.take (j + 1)) x st = visit (roundX (ls.take j) x st) (nl (ls.getD j []) x) := by
  have : ls.take (j + 1) = ls.take j ++ [ls.getD j []] := by
    rw [List.take_add_one]
    simp [List.getD, h]
  rw [this]
  simp [roundX, List.foldl_append]
theorem round_all {ls : List (List Nat)} {x j : Nat} {st : BS} (h : ls.length ≤ j) : roundX (ls.take j) x st = roundX ls x st := by rw [List.take_of_length_le h]
def st0 (m : Nat) : BS := ((List.replicate m false).set 0 true, [0])
theorem Bi.st0 {m : Nat} (hm : 0 < m) : Bi m (st0 m) := ⟨by simp [Bm.st0], fun i hi => by rw [show (Bm.st0 m).2 = [0] from rfl, nl_single (by simpa [Bm.st0] using hi)]; exact hm, by
  show 1 ≤ _
  have : ((List.replicate m false).set 0 true).count true = (List.replicate m false).count true + 1 := count_set_true (by simpa using hm) bl_rep
  show 1 ≤ ((List.replicate m false).set 0 true).count true
  omega⟩
/-- The numbers that are reached from 0 by two permutations. -/
def reach (b w : List Nat) : BS := bfs [b, w] (st0 16) 16

theorem l01Connected_spec {x : Bool} {b w : List Nat} {n : Int} {H : BH} {K : Value → BH → Prop} (hb : By 16 b) (hw : By 16 w) (hb16 : ∀ i, nl b i < 16) (hw16 : ∀ i, nl w i < 16)
    (hK : K (.bool (decide (((reach b w).2.length : Int) = n))) H) : CallX x F_spec_l01Connected [I n, PL b, PL w] H K := by
  have hlb := hb.len
  have hlw := hw.len
  have hall : ∀ p ∈ [b, w], ∀ i, nl p i < 16 := by simp; exact ⟨hb16, hw16⟩
  refine callP (by simp only [RH]) ?_
  refine CallX_body Γ_spec_l01Connected ?_
  simp only [A_spec_l01Connected, T_aiff]
  refine T_rseq fun Kr hKr => ?_
  simp (disch := omega) only [RA, ↓reduceIte, Nat.reduceEqDiff, Nat.reduceBEq, Nat.reduceSub, Nat.reduceAdd, Nat.reduceMul, Nat.reduceLT, Nat.reduceLeDiff, Int.reduceLE, Int.reduceLT, Int.reduceEq, Int.reduceNeg, Int.reduceToNat, Int.reduceMul, Int.reduceAdd, Int.reduceSub, Int.reduceBEq, Int.reduceBNe, reduceCtorEq, RD]
  refine hKr _ _ ?_
  clear hKr Kr
  try simp only [RN, reduceIte]
  try refine T_e rfl ?_
  refine T_rseq fun Kr hKr => ?_
  simp (disch := omega) only [RA, ↓reduceIte, Nat.reduceEqDiff, Nat.reduceBEq, Nat.reduceSub, Nat.reduceAdd, Nat.reduceMul, Nat.reduceLT, Nat.reduceLeDiff, Int.reduceLE, Int.reduceLT, Int.reduceEq, Int.reduceNeg, Int.reduceToNat, Int.reduceMul, Int.reduceAdd, Int.reduceSub, Int.reduceBEq, Int.reduceBNe, reduceCtorEq, RD]
  refine hKr _ _ ?_
  clear hKr Kr
  try simp only [RN, reduceIte]
  try refine T_e rfl ?_
  refine T_rseq fun Kr hKr => ?_
  simp (disch := omega) only [RA, ↓reduceIte, Nat.reduceEqDiff, RD, repB]
  refine hKr _ _ ?_
  clear hKr Kr
  try simp only [RN, reduceIte]
  try refine T_e rfl ?_
  refine T_rseq fun Kr hKr => ?_
  simp (disch := omega) only [RA, ↓reduceIte, Nat.reduceEqDiff, Nat.reduceBEq, Nat.reduceSub, Nat.reduceAdd, Nat.reduceMul, Nat.reduceLT, Nat.reduceLeDiff, Int.reduceLE, Int.reduceLT, Int.reduceEq, Int.reduceNeg, Int.reduceToNat, Int.reduceMul, Int.reduceAdd, Int.reduceSub, Int.reduceBEq, Int.reduceBNe, reduceCtorEq, RD]
  refine hKr _ _ ?_
  clear hKr Kr
  try simp only [RN, reduceIte]
  try refine T_e rfl ?_
  refine T_wloop (fun m f H' => ∃ i, i ≤ 16 ∧ m = 16 - i ∧ i ≤ (bfs [b, w] (st0 16) i).2.length ∧ f 0 = I n ∧ f 4 = P 0 0 ∧ f 5 = P 1 0 ∧ f 7 = P 3 0 ∧ f 8 = S 2 0 (bfs [b, w] (st0 16) i).2.length 1 ∧ f 9 = I i ∧ H' = [some (b.map N8), some (w.map N8), some ((bfs [b, w] (st0 16) i).2.map N8), some ((bfs [b, w] (st0 16) i).1.map B)]) (16) ?_ ?_
  · refine ⟨_, _, Gh.refl, 0, by omega, by omega, by omega, ?_, ?_, ?_, ?_, ?_, ?_, ?_⟩
    any_goals (simp (disch := omega) only [RA, ↓reduceIte, Nat.reduceEqDiff, Nat.reduceAdd, Nat.reduceMul, Int.reduceToNat, Nat.reduceLT, reduceCtorEq, RD, RE, *] <;> rfl)
    simp [bfs, st0] <;> rfl
  · rintro m f H' R ⟨i, hi, rfl, hil, h0, h4, h5, h7, h8, h9, rfl⟩ hN hX hR hE
    simp only [A_spec_l01Connected.l1, T_aiff]
    have hB := (Bi.st0 (m := 16) (by omega)).bfs hall i
    generalize hst : bfs [b, w] (st0 16) i = st at hil h8 hB
    have hle := hB.le
    have hsl := hB.len
    refine T_rseq fun Kr hKr => ?_
    simp (disch := omega) only [RA, ↓reduceIte, Nat.reduceEqDiff, Nat.reduceBEq, Nat.reduceSub, Nat.reduceAdd, Nat.reduceMul, Nat.reduceLT, Nat.reduceLeDiff, Int.reduceLE, Int.reduceLT, Int.reduceEq, Int.reduceNeg, Int.reduceToNat, Int.reduceMul, Int.reduceAdd, Int.reduceSub, Int.reduceBEq, Int.reduceBNe, reduceCtorEq, RD, h8, h9]
    refine hKr _ _ ?_
    clear hKr Kr
    try simp only [RN, reduceIte]
    try refine T_e rfl ?_
    refine T_csplit (p := i < st.2.length) (by simp only [RA, ↓reduceIte, Nat.reduceEqDiff, Nat.reduceBEq, Nat.reduceSub, Nat.reduceAdd, Nat.reduceMul, Nat.reduceLT, Nat.reduceLeDiff, Int.reduceLE, Int.reduceLT, Int.reduceEq, Int.reduceNeg, Int.reduceToNat, Int.reduceMul, Int.reduceAdd, Int.reduceSub, Int.reduceBEq, Int.reduceBNe, reduceCtorEq] <;> rfl) (by (try simp only [RB]) <;> first | done | exact Iff.rfl | omega | simp) (fun hc => ?_) (fun hc => ?_) <;> (try simp only [RN, reduceIte]) <;> (try refine T_e rfl ?_)
    · have hx := hB.lt i hc
      first | refine T_bfree rfl ?_ | refine T_bfree' rfl ?_
      try simp only [RN, reduceIte]
      try refine T_e rfl ?_
      refine T_rseq fun Kr hKr => ?_
      simp (disch := omega) only [RA, ↓reduceIte, Nat.reduceEqDiff, Nat.reduceBEq, Nat.reduceSub, Nat.reduceAdd, Nat.reduceMul, Nat.reduceLT, Nat.reduceLeDiff, Int.reduceLE, Int.reduceLT, Int.reduceEq, Int.reduceNeg, Int.reduceToNat, Int.reduceMul, Int.reduceAdd, Int.reduceSub, Int.reduceBEq, Int.reduceBNe, reduceCtorEq, RD, h4, h5, h8, h9, hlb, hlw]
      refine hKr _ _ ?_
      clear hKr Kr
      try simp only [RN, reduceIte]
      try refine T_e rfl ?_
      obtain ⟨nx, hnxe⟩ : ∃ nx, nx = [nl b (nl st.2 i), nl w (nl st.2 i)] := ⟨_, rfl⟩
      have hnxl : nx.length = 2 := by rw [hnxe]; rfl
      refine T_rseq fun Kr hKr => ?_
      simp (disch := omega) only [RA, ↓reduceIte, Nat.reduceEqDiff, Nat.reduceBEq, Nat.reduceSub, Nat.reduceAdd, Nat.reduceMul, Nat.reduceLT, Nat.reduceLeDiff, Int.reduceLE, Int.reduceLT, Int.reduceEq, Int.reduceNeg, Int.reduceToNat, Int.reduceMul, Int.reduceAdd, Int.reduceSub, Int.reduceBEq, Int.reduceBNe, reduceCtorEq, RD]
      refine hKr _ _ ?_
      clear hKr Kr
      try simp only [RN, reduceIte]
      try refine T_e rfl ?_
      refine T_wloop (fun m f H' => ∃ j st', j ≤ 2 ∧ m = 2 - j ∧ st' = roundX ([b, w].take j) (nl st.2 i) st ∧ f 0 = I n ∧ f 4 = P 0 0 ∧ f 5 = P 1 0 ∧ f 7 = P 3 0 ∧ f 8 = S 2 0 st'.2.length 1 ∧ f 9 = I i ∧ f 10 = S 4 0 2 1 ∧ f 11 = I j ∧ H' = [some (b.map N8), some (w.map N8), some (st'.2.map N8), some (st'.1.map B), some (nx.map N8)]) (2) ?_ ?_
      · refine ⟨_, _, Gh.refl, 0, st, by omega, by omega, rfl, ?_, ?_, ?_, ?_, ?_, ?_, ?_, ?_, by rw [hnxe]; rfl⟩
        any_goals (simp (disch := omega) only [RA, ↓reduceIte, Nat.reduceEqDiff, RD, RE, *] <;> rfl)
      · clear h0 h4 h5 h7 h8 h9
        rintro m f H' R2 ⟨j, st', hj, rfl, hst', h0, h4, h5, h7, h8, h9, h10, h11, rfl⟩ hN2 hX2 hR2 hE2
        simp only [A_spec_l01Connected.l0, T_aiff]
        refine T_rseq fun Kr hKr => ?_
        simp (disch := omega) only [RA, ↓reduceIte, Nat.reduceEqDiff, RD, h11]
        refine hKr _ _ ?_
        clear hKr Kr
        try simp only [RN, reduceIte]
        try refine T_e rfl ?_
        have hB' : Bi 16 st' := by rw [hst']; exact hB.round fun p hp => hall p (List.mem_of_mem_take hp) _
        have hle' := hB'.le
        have hsl' := hB'.len
        refine T_csplit (p := j < 2) (by simp only [RA, ↓reduceIte, Nat.reduceEqDiff] <;> rfl) (by (try simp only [RB]) <;> first | done | exact Iff.rfl | omega | simp) (fun hc => ?_) (fun hc => ?_) <;> (try simp only [RN, reduceIte]) <;> (try refine T_e rfl ?_)
        · have hy : nl nx j = nl ([b, w].getD j []) (nl st.2 i) := by
            rw [hnxe]
            have : j = 0 ∨ j = 1 := by omega
            rcases this with rfl | rfl <;> rfl
          have hyl : nl nx j < 16 := by
            rw [hnxe]
            have : j = 0 ∨ j = 1 := by omega
            rcases this with rfl | rfl
            · exact hb16 _
            · exact hw16 _
          have hnx := round_take (ls := [b, w]) (x := nl st.2 i) (st := st) (show j < [b, w].length from hc)
          rw [← hst', ← hy] at hnx
          obtain ⟨y, hyd⟩ : ∃ y, nl nx j = y := ⟨_, rfl⟩
          rw [hyd] at hyl hnx
          have hnext : ∀ f' st2 (c1 c2 : Option (List Value)), f' 0 = I n → f' 4 = P 0 0 → f' 5 = P 1 0 → f' 7 = P 3 0 → f' 8 = S 2 0 st2.2.length 1 → f' 9 = I i → f' 10 = S 4 0 2 1 → f' 11 = I j → st2 = visit st' y →
              T 0 A_spec_l01Connected.r9 R2 f' [some (b.map N8), some (w.map N8), some (st2.2.map N8), some (st2.1.map B), some (nx.map N8)] := by
            intro f' st2 c1 c2 h0 h4 h5 h7 h8 h9 h10 h11 hs2
            refine T_reg_k fun Kr hKr => ?_
            simp (disch := omega) only [RA, ↓reduceIte, Nat.reduceEqDiff, RD, h11]
            refine hKr _ _ ?_
            clear hKr Kr
            refine hN2 (2 - (j + 1)) _ _ _ _ (by omega) Gh.refl ⟨j + 1, st2, by omega, rfl, by rw [hnx, hs2], ?_, ?_, ?_, ?_, ?_, ?_, ?_, ?_, rfl⟩
            any_goals (simp (disch := omega) only [RA, ↓reduceIte, Nat.reduceEqDiff, RD, RE, *] <;> rfl)
          first | refine T_bfree rfl ?_ | refine T_bfree' rfl ?_
          try simp only [RN, reduceIte]
          try refine T_e rfl ?_
          refine T_rseq fun Kr hKr => ?_
          simp (disch := omega) only [RA, ↓reduceIte, Nat.reduceEqDiff, Nat.reduceBEq, Nat.reduceSub, Nat.reduceAdd, Nat.reduceMul, Nat.reduceLT, Nat.reduceLeDiff, Int.reduceLE, Int.reduceLT, Int.reduceEq, Int.reduceNeg, Int.reduceToNat, Int.reduceMul, Int.reduceAdd, Int.reduceSub, Int.reduceBEq, Int.reduceBNe, reduceCtorEq, RD, h7, h10, h11, hnxl, hsl', hyd]
          refine hKr _ _ ?_
          clear hKr Kr
          try simp only [RN, reduceIte]
          try refine T_e rfl ?_
          refine T_csplit (p := ¬ bl st'.1 y = true) (by simp only [RA, ↓reduceIte, Nat.reduceEqDiff, Nat.reduceBEq, Nat.reduceSub, Nat.reduceAdd, Nat.reduceMul, Nat.reduceLT, Nat.reduceLeDiff, Int.reduceLE, Int.reduceLT, Int.reduceEq, Int.reduceNeg, Int.reduceToNat, Int.reduceMul, Int.reduceAdd, Int.reduceSub, Int.reduceBEq, Int.reduceBNe, reduceCtorEq] <;> rfl) (by (try simp only [RB]) <;> first | done | exact Iff.rfl | omega | simp) (fun hc => ?_) (fun hc => ?_) <;> (try simp only [RN, reduceIte]) <;> (try refine T_e rfl ?_)
          · refine T_rseq fun Kr hKr => ?_
            simp (disch := omega) only [RA, ↓reduceIte, Nat.reduceEqDiff, Nat.reduceBEq, Nat.reduceSub, Nat.reduceAdd, Nat.reduceMul, Nat.reduceLT, Nat.reduceLeDiff, Int.reduceLE, Int.reduceLT, Int.reduceEq, Int.reduceNeg, Int.reduceToNat, Int.reduceMul, Int.reduceAdd, Int.reduceSub, Int.reduceBEq, Int.reduceBNe, reduceCtorEq, RD, h7, h10, h11, hnxl, hsl', hyd]
            refine hKr _ _ ?_
            clear hKr Kr
            try simp only [RN, reduceIte]
            try refine T_e rfl ?_
            refine T_rseq fun Kr hKr => ?_
            simp (disch := omega) only [RA, ↓reduceIte, Nat.reduceEqDiff, Nat.reduceBEq, Nat.reduceSub, Nat.reduceAdd, Nat.reduceMul, Nat.reduceLT, Nat.reduceLeDiff, Int.reduceLE, Int.reduceLT, Int.reduceEq, Int.reduceNeg, Int.reduceToNat, Int.reduceMul, Int.reduceAdd, Int.reduceSub, Int.reduceBEq, Int.reduceBNe, reduceCtorEq, RD, h8, h10, h11, hnxl, hyd]
            refine hKr _ _ ?_
            clear hKr Kr
            try simp only [RN, reduceIte]
            try refine T_e rfl ?_
            refine T_gh (Gh.nrm [0, 1, 6, 3, 4] rfl rfl (by simp only [RH])) ?_
            refine hnext _ (st'.1.set y true, st'.2 ++ [y]) none none ?_ ?_ ?_ ?_ ?_ ?_ ?_ ?_ ?_
            any_goals (simp (disch := omega) only [RA, ↓reduceIte, Nat.reduceEqDiff, RD, RE, *] <;> rfl)
            rw [visit, if_neg hc]
          · try simp only [RN, reduceIte]
            try refine T_e rfl ?_
            refine hnext _ st' none none ?_ ?_ ?_ ?_ ?_ ?_ ?_ ?_ ?_
            any_goals (simp (disch := omega) only [RA, ↓reduceIte, Nat.reduceEqDiff, RD, RE, *] <;> rfl)
            rw [visit, if_pos (by simpa using hc)]
        · refine hX2 _ _ ?_
          obtain rfl : j = 2 := by omega
          have hst2 : st' = bfs [b, w] (st0 16) (i + 1) := by
            rw [hst', bfs, hst, if_pos (by assumption)]
            rfl
          obtain ⟨q, hq⟩ := @round_pre (nl st.2 i) ([b, w].take 2) st
          have hlq : i + 1 ≤ st'.2.length := by rw [hst', hq]; simp; omega
          refine T_reg_k fun Kr hKr => ?_
          simp (disch := omega) only [RA, ↓reduceIte, Nat.reduceEqDiff, RD, h9]
          refine hKr _ _ ?_
          clear hKr Kr
          refine hN (16 - (i + 1)) _ _ _ _ (by omega) (Gh.nrm [0, 1, 2, 3] rfl rfl (by simp only [RH])) ⟨i + 1, by omega, rfl, by rw [← hst2]; exact hlq, ?_, ?_, ?_, ?_, ?_, ?_, ?_⟩
          any_goals (simp (disch := omega) only [RA, ↓reduceIte, Nat.reduceEqDiff, RD, RE, *] <;> rfl)
          · rw [← hst2]
            exact (by simp (disch := omega) only [RA, ↓reduceIte, Nat.reduceEqDiff, RD, RE, *] <;> rfl)
          · rw [← hst2]; rfl
    · refine hX _ _ ?_
      refine T_rseq fun Kr hKr => ?_
      simp (disch := omega) only [RA, ↓reduceIte, Nat.reduceEqDiff, RD, h0, h8]
      refine hKr _ _ ?_
      clear hKr Kr
      try simp only [RN, reduceIte]
      try refine T_e rfl ?_
      refine bodyQ_ret (by simp (disch := omega) only [RA, ↓reduceIte, Nat.reduceEqDiff, RD, resAll, resOf]; rfl) GhV.refl ?_
      simp only [tup]
      refine ⟨NN.bool, ?_⟩
      have hs : reach b w = st := by rw [reach, bfs_stop (i := i) (by rw [hst]; omega) 16 hi, hst]
      rw [hs] at hK
      exact hK
end Go.Bm
