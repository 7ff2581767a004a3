/- What flags are. -/
import Derived.Test.YtbbgifoamnjhoaaDp7
set_option linter.unusedVariables false
set_option linter.unusedSimpArgs false
namespace Go.Bm
open Go Go.Am

theorem eqCells_N : ∀ {p q : List Nat}, p.length = q.length → eqCells (p.map N8) (q.map N8) = some (decide (p = q))
  | [], [], _ => rfl
  | [], _ :: _, h => by simp at h
  | _ :: _, [], h => by simp at h
  | a :: p, b :: q, h => by
    have ih := eqCells_N (p := p) (q := q) (by simpa using h)
    simp only [List.map_cons, eqCells, eqCell, if_true, ih, Option.map_some, Option.some.injEq]
    by_cases e : a = b
    · subst e; simp
    · have : ¬ ((a : Int) = (b : Int)) := by omega
      simp [e, this]
theorem eqaV_PL {neg : Bool} {m : Nat} {p q : List Nat} (hp : p.length = m) (hq : q.length = m) : eqaV neg m (PL p) (PL q) = some (.bool (if neg then !decide (p = q) else decide (p = q))) := by
  have : aEqa m (PL p) (PL q) = some (decide (p = q)) := by
    simp only [aEqa]
    rw [if_pos (by simpa using hp)]
    exact eqCells_N (by omega)
  simp only [eqaV, this, Option.map_some]
theorem fill3P32 {a b w : List Nat} {v : Value} (ha : a.length = 32) (hb : b.length = 32) (hw : w.length = 32) : fillL (repl (List.replicate 32 v) 3) [(0, 32, PL a), (32, 32, PL b), (64, 32, PL w)] = some ([a, b, w].flatten.map N8) := by
  rw [show (64 : Nat) = 32 + 32 from rfl, fill3P ha hb hw]
  simp
theorem fill2P32 {a b : List Nat} {v : Value} (ha : a.length = 32) (hb : b.length = 32) : fillL (repl (List.replicate 32 v) 2) [(0, 32, PL a), (32, 32, PL b)] = some ([a, b].flatten.map N8) := by
  rw [fill2P ha hb]
  simp
/-- Flags. -/
def Fl (n : Int) (c t s : List Nat) : Prop := (4 ≤ n ∧ n ≤ 32) ∧ n.tmod 4 = 0 ∧ Pairs c n ∧ Pairs t n ∧ Pairs s n ∧ (∀ x : Nat, x < n.toNat → nl s (nl c x) = nl c (nl s x) ∧ nl s (nl c x) ≠ x) ∧ (orbK [c, t, s] n.toNat).2.length = 1
instance (n : Int) (c t s : List Nat) : Decidable (Fl n c t s) := by unfold Fl; infer_instance
theorem Pairs.lt {l : List Nat} {n : Int} (h : Pairs l n) (hn : n ≤ 32) (hl : By 32 l) (hn0 : 0 ≤ n) : ∀ i, nl l i < 32 := fun i => by
  rcases Nat.lt_or_ge i 32 with hi | hi
  · have := h i hi
    by_cases hin : (i : Int) < n
    · have := (this.2 hin).1; omega
    · rw [this.1 (by omega)]; omega
  · rw [nl_out (by rw [hl.len]; exact hi)]; omega
theorem both_eq {c s : List Nat} {n : Nat} (hn : n ≤ 32) : bothK c s n = bothK s c n ↔ ∀ x, x < n → nl s (nl c x) = nl c (nl s x) := by
  constructor
  · intro h x hx
    have h1 := bothK_nl (p := c) (q := s) (i := x) hn
    have h2 := bothK_nl (p := s) (q := c) (i := x) hn
    rw [if_pos hx] at h1 h2
    rw [← h1, h, h2]
  · intro h
    refine nl_ext (by rw [bothK_len, bothK_len]) fun i hi => ?_
    rw [bothK_nl hn, bothK_nl hn]
    split
    · exact h i (by assumption)
    · rfl
theorem both_pairs {c s : List Nat} {n : Nat} (hn : n ≤ 32) (hc : Pairs c n) (hs : Pairs s n) (h : ∀ x, x < n → nl s (nl c x) = nl c (nl s x)) : Pairs (bothK c s n) n ↔ ∀ x, x < n → nl s (nl c x) ≠ x := by
  have hcl : ∀ x, x < n → nl c x < n := fun x hx => by have := ((hc x (by omega)).2 (by omega)).1; omega
  have hsl : ∀ x, x < n → nl s x < n := fun x hx => by have := ((hs x (by omega)).2 (by omega)).1; omega
  constructor
  · intro hp x hx e
    have := ((hp x (by omega)).2 (by omega)).2.1
    rw [bothK_nl hn, if_pos hx] at this
    exact this e
  · intro hne x hx
    refine ⟨fun hnx => ?_, fun hxn => ?_⟩
    · rw [bothK_nl hn, if_neg (by omega)]
    · have hx' : x < n := by omega
      have h1 := hcl x hx'
      have h2 := hsl _ h1
      rw [bothK_nl hn, if_pos hx']
      refine ⟨by omega, hne x hx', ?_⟩
      rw [bothK_nl hn, if_pos h2, h x hx']
      have h3 := ((hc (nl s x) (by have := hsl x hx'; omega)).2 (by have := hsl x hx'; omega)).2.2
      rw [h3]
      exact ((hs x (by omega)).2 (by omega)).2.2
theorem l07Are_spec {x : Bool} {n : Int} {c t s : List Nat} {H : BH} {K : Value → BH → Prop} (hc : By 32 c) (ht : By 32 t) (hs : By 32 s) (hK : K (.bool (decide (Fl n c t s))) H) : CallX x F_spec_l07Are [FV n c t s] H K := by
  have hlc := hc.len
  have hlt := ht.len
  have hls := hs.len
  refine callP (by exact .cons nn_F .nil) ?_
  have hno : ¬ Fl n c t s → ∀ (c0 : ACode) f' H', T 0 (.seq A_spec_l07Are.r2 (.seq .ret c0)) (bodyQ 0 [.tmp 2] fun v _ => NN v ∧ K v H) f' H' := by
    intro h c0 f' H'
    refine T_rseq fun Kr hKr => ?_
    simp (disch := omega) only [RA, ↓reduceIte, Nat.reduceEqDiff, RD]
    refine hKr _ _ ?_
    clear hKr Kr
    try simp only [RN, reduceIte]
    try refine T_e rfl ?_
    refine bodyQ_ret (by simp (disch := omega) only [RA, ↓reduceIte, Nat.reduceEqDiff, RD, resAll, resOf]; rfl) GhV.refl ?_
    simp only [tup]
    exact ⟨NN.bool, by simpa [h] using hK⟩
  refine CallX_body Γ_spec_l07Are ?_
  simp only [A_spec_l07Are, T_aiff]
  refine T_rseq fun Kr hKr => ?_
  simp (disch := omega) only [RA, ↓reduceIte, Nat.reduceEqDiff, Nat.reduceBEq, Nat.reduceSub, Nat.reduceAdd, Nat.reduceMul, Nat.reduceLT, Nat.reduceLeDiff, Int.reduceLE, Int.reduceLT, Int.reduceEq, Int.reduceNeg, Int.reduceToNat, Int.reduceMul, Int.reduceAdd, Int.reduceSub, Int.reduceBEq, Int.reduceBNe, reduceCtorEq, RD, RFS]
  refine hKr _ _ ?_
  clear hKr Kr
  try simp only [RN, reduceIte]
  try refine T_e rfl ?_
  refine T_rseq fun Kr hKr => ?_
  simp (disch := omega) only [RA, ↓reduceIte, Nat.reduceEqDiff, Nat.reduceBEq, Nat.reduceSub, Nat.reduceAdd, Nat.reduceMul, Nat.reduceLT, Nat.reduceLeDiff, Int.reduceLE, Int.reduceLT, Int.reduceEq, Int.reduceNeg, Int.reduceToNat, Int.reduceMul, Int.reduceAdd, Int.reduceSub, Int.reduceBEq, Int.reduceBNe, reduceCtorEq, RD, RFS, RFD]
  refine l01In_spec ?_
  by_cases h1 : 4 ≤ n ∧ n ≤ 32
  · rw [decide_eq_true h1]
    by_cases h2 : n.tmod 4 = 0
    · simp (disch := omega) only [RA, ↓reduceIte, Nat.reduceEqDiff, Nat.reduceBEq, Nat.reduceSub, Nat.reduceAdd, Nat.reduceMul, Nat.reduceLT, Nat.reduceLeDiff, Int.reduceLE, Int.reduceLT, Int.reduceEq, Int.reduceNeg, Int.reduceToNat, Int.reduceMul, Int.reduceAdd, Int.reduceSub, Int.reduceBEq, Int.reduceBNe, reduceCtorEq, RD, RFS, RFD, h2]
      refine l07Pairs_spec hc h1.2 ?_
      by_cases h3 : Pairs c n
      · rw [decide_eq_true h3]
        simp (disch := omega) only [RA, ↓reduceIte, Nat.reduceEqDiff, RD, RFS, RFD]
        refine l07Pairs_spec ht h1.2 ?_
        by_cases h4 : Pairs t n
        · rw [decide_eq_true h4]
          simp (disch := omega) only [RA, ↓reduceIte, Nat.reduceEqDiff, RD, RFS, RFD]
          refine l07Pairs_spec hs h1.2 ?_
          by_cases h5 : Pairs s n
          · rw [decide_eq_true h5]
            simp (disch := omega) only [RA, ↓reduceIte, Nat.reduceEqDiff, Nat.reduceBEq, Nat.reduceSub, Nat.reduceAdd, Nat.reduceMul, Nat.reduceLT, Nat.reduceLeDiff, Int.reduceLE, Int.reduceLT, Int.reduceEq, Int.reduceNeg, Int.reduceToNat, Int.reduceMul, Int.reduceAdd, Int.reduceSub, Int.reduceBEq, Int.reduceBNe, reduceCtorEq, RD]
            refine hKr _ _ ?_
            clear hKr Kr
            try simp only [blkQ, thenQ, loopQ]
            try simp only [RN, reduceIte]
            try refine T_e rfl ?_
            refine T_cseq (t := false) (by simp (disch := omega) only [RA, ↓reduceIte, Nat.reduceEqDiff, RD]) ?_
            try simp only [RN, reduceIte]
            try refine T_e rfl ?_
            obtain ⟨m, rfl⟩ := Int.eq_ofNat_of_zero_le (show 0 ≤ n by omega)
            have hm : m ≤ 32 := by omega
            have hb1 := @bothK_len c s m
            have hb2 := @bothK_len s c m
            have hc32 := h3.lt h1.2 hc (by omega)
            have ht32 := h4.lt h1.2 ht (by omega)
            have hs32 := h5.lt h1.2 hs (by omega)
            refine T_rseq fun Kr hKr => ?_
            simp (disch := omega) only [RA, ↓reduceIte, Nat.reduceEqDiff, Nat.reduceBEq, Nat.reduceSub, Nat.reduceAdd, Nat.reduceMul, Nat.reduceLT, Nat.reduceLeDiff, Int.reduceLE, Int.reduceLT, Int.reduceEq, Int.reduceNeg, Int.reduceToNat, Int.reduceMul, Int.reduceAdd, Int.reduceSub, Int.reduceBEq, Int.reduceBNe, reduceCtorEq, RD, RFS, RFD]
            refine l07Both_spec hc hs hm (fun i _ => hc32 i) ?_
            simp (disch := omega) only [RA, ↓reduceIte, Nat.reduceEqDiff, Nat.reduceBEq, Nat.reduceSub, Nat.reduceAdd, Nat.reduceMul, Nat.reduceLT, Nat.reduceLeDiff, Int.reduceLE, Int.reduceLT, Int.reduceEq, Int.reduceNeg, Int.reduceToNat, Int.reduceMul, Int.reduceAdd, Int.reduceSub, Int.reduceBEq, Int.reduceBNe, reduceCtorEq, RD]
            refine hKr _ _ ?_
            clear hKr Kr
            try simp only [blkQ, thenQ, loopQ]
            try simp only [RN, reduceIte]
            try refine T_e rfl ?_
            refine T_rseq fun Kr hKr => ?_
            simp (disch := omega) only [RA, ↓reduceIte, Nat.reduceEqDiff, Nat.reduceBEq, Nat.reduceSub, Nat.reduceAdd, Nat.reduceMul, Nat.reduceLT, Nat.reduceLeDiff, Int.reduceLE, Int.reduceLT, Int.reduceEq, Int.reduceNeg, Int.reduceToNat, Int.reduceMul, Int.reduceAdd, Int.reduceSub, Int.reduceBEq, Int.reduceBNe, reduceCtorEq, RD, RFS, RFD]
            refine l07Both_spec hs hc hm (fun i _ => hs32 i) ?_
            have hfl : (∀ x, x < m → nl s (nl c x) = nl c (nl s x) ∧ nl s (nl c x) ≠ x) ∧ (orbK [c, t, s] m).2.length = 1 ↔ Fl m c t s := ⟨fun h => ⟨h1, h2, h3, h4, h5, h.1, h.2⟩, fun h => ⟨h.2.2.2.2.2.1, h.2.2.2.2.2.2⟩⟩
            by_cases h6 : bothK c s m = bothK s c m
            · have h6' := (both_eq hm).1 h6
              simp (disch := omega) only [RA, ↓reduceIte, Nat.reduceEqDiff, Nat.reduceBEq, Nat.reduceSub, Nat.reduceAdd, Nat.reduceMul, Nat.reduceLT, Nat.reduceLeDiff, Int.reduceLE, Int.reduceLT, Int.reduceEq, Int.reduceNeg, Int.reduceToNat, Int.reduceMul, Int.reduceAdd, Int.reduceSub, Int.reduceBEq, Int.reduceBNe, reduceCtorEq, RD, eqaV_PL, h6]
              refine l07Pairs_spec (bothK_by hc hm) h1.2 ?_
              rw [← h6]
              by_cases h7 : Pairs (bothK c s m) m
              · rw [decide_eq_true h7]
                simp (disch := omega) only [RA, ↓reduceIte, Nat.reduceEqDiff, Nat.reduceBEq, Nat.reduceSub, Nat.reduceAdd, Nat.reduceMul, Nat.reduceLT, Nat.reduceLeDiff, Int.reduceLE, Int.reduceLT, Int.reduceEq, Int.reduceNeg, Int.reduceToNat, Int.reduceMul, Int.reduceAdd, Int.reduceSub, Int.reduceBEq, Int.reduceBNe, reduceCtorEq, RD, RFS, RFD, fill3P32]
                have h96 : 3 * 32 = ([c, t, s].flatten.map N8).length := by simp [hlc, hlt, hls]
                refine callFz 2 rfl (by simp only [RH]) ?_
                simp only [RZ, frz_all h96]
                refine l07Sets_spec (ls := [c, t, s]) hm (by simp) (by simp [hlc, hlt, hls]) (by simp; exact ⟨hc32, ht32, hs32⟩) ?_
                simp (disch := omega) only [RA, ↓reduceIte, Nat.reduceEqDiff, Nat.reduceBEq, Nat.reduceSub, Nat.reduceAdd, Nat.reduceMul, Nat.reduceLT, Nat.reduceLeDiff, Int.reduceLE, Int.reduceLT, Int.reduceEq, Int.reduceNeg, Int.reduceToNat, Int.reduceMul, Int.reduceAdd, Int.reduceSub, Int.reduceBEq, Int.reduceBNe, reduceCtorEq, RD]
                refine hKr _ _ ?_
                clear hKr Kr
                try simp only [blkQ, thenQ, loopQ]
                try simp only [RN, reduceIte]
                try refine T_e rfl ?_
                refine bodyQ_ret (by simp (disch := omega) only [RA, ↓reduceIte, Nat.reduceEqDiff, RD, resAll, resOf]; rfl) GhV.refl ?_
                simp only [tup]
                have h7' := (both_pairs hm h3 h5 h6').1 h7
                refine ⟨NN.bool, ?_⟩
                by_cases h8 : (orbK [c, t, s] m).2.length = 1
                · have : Fl m c t s := hfl.1 ⟨fun x hx => ⟨h6' x hx, h7' x hx⟩, h8⟩
                  simpa [this, h8] using hK
                · have : ¬ Fl m c t s := fun h => h8 (hfl.2 h).2
                  have h8' : ¬ ((orbK [c, t, s] m).2.length : Int) = 1 := by omega
                  simpa [this, h8'] using hK
              · rw [decide_eq_false h7]
                simp (disch := omega) only [RA, ↓reduceIte, Nat.reduceEqDiff, Nat.reduceBEq, Nat.reduceSub, Nat.reduceAdd, Nat.reduceMul, Nat.reduceLT, Nat.reduceLeDiff, Int.reduceLE, Int.reduceLT, Int.reduceEq, Int.reduceNeg, Int.reduceToNat, Int.reduceMul, Int.reduceAdd, Int.reduceSub, Int.reduceBEq, Int.reduceBNe, reduceCtorEq, RD]
                refine hKr _ _ ?_
                clear hKr Kr
                try simp only [blkQ, thenQ, loopQ]
                try simp only [RN, reduceIte]
                try refine T_e rfl ?_
                refine bodyQ_ret (by simp (disch := omega) only [RA, ↓reduceIte, Nat.reduceEqDiff, RD, resAll, resOf]; rfl) GhV.refl ?_
                simp only [tup]
                have : ¬ Fl m c t s := fun h => h7 ((both_pairs hm h3 h5 h6').2 fun x hx => ((hfl.2 h).1 x hx).2)
                exact ⟨NN.bool, by simpa [this] using hK⟩
            · simp (disch := omega) only [RA, ↓reduceIte, Nat.reduceEqDiff, RD, eqaV_PL, h6]
              refine hKr _ _ ?_
              clear hKr Kr
              try simp only [blkQ, thenQ, loopQ]
              try simp only [RN, reduceIte]
              try refine T_e rfl ?_
              refine bodyQ_ret (by simp (disch := omega) only [RA, ↓reduceIte, Nat.reduceEqDiff, RD, resAll, resOf]; rfl) GhV.refl ?_
              simp only [tup]
              have : ¬ Fl m c t s := fun h => h6 ((both_eq hm).2 fun x hx => ((hfl.2 h).1 x hx).1)
              exact ⟨NN.bool, by simpa [this] using hK⟩
          · rw [decide_eq_false h5]
            simp (disch := omega) only [RA, ↓reduceIte, Nat.reduceEqDiff, Nat.reduceBEq, Nat.reduceSub, Nat.reduceAdd, Nat.reduceMul, Nat.reduceLT, Nat.reduceLeDiff, Int.reduceLE, Int.reduceLT, Int.reduceEq, Int.reduceNeg, Int.reduceToNat, Int.reduceMul, Int.reduceAdd, Int.reduceSub, Int.reduceBEq, Int.reduceBNe, reduceCtorEq, RD]
            refine hKr _ _ ?_
            clear hKr Kr
            try simp only [blkQ, thenQ, loopQ]
            try simp only [RN, reduceIte]
            try refine T_e rfl ?_
            refine T_cseq (t := true) (by simp (disch := omega) only [RA, ↓reduceIte, Nat.reduceEqDiff, Nat.reduceBEq, Nat.reduceSub, Nat.reduceAdd, Nat.reduceMul, Nat.reduceLT, Nat.reduceLeDiff, Int.reduceLE, Int.reduceLT, Int.reduceEq, Int.reduceNeg, Int.reduceToNat, Int.reduceMul, Int.reduceAdd, Int.reduceSub, Int.reduceBEq, Int.reduceBNe, reduceCtorEq, RD]) ?_
            try simp only [RN, reduceIte]
            try refine T_e rfl ?_
            exact hno (fun h => h5 h.2.2.2.2.1) _ _ _
        · rw [decide_eq_false h4]
          simp (disch := omega) only [RA, ↓reduceIte, Nat.reduceEqDiff, Nat.reduceBEq, Nat.reduceSub, Nat.reduceAdd, Nat.reduceMul, Nat.reduceLT, Nat.reduceLeDiff, Int.reduceLE, Int.reduceLT, Int.reduceEq, Int.reduceNeg, Int.reduceToNat, Int.reduceMul, Int.reduceAdd, Int.reduceSub, Int.reduceBEq, Int.reduceBNe, reduceCtorEq, RD]
          refine hKr _ _ ?_
          clear hKr Kr
          try simp only [blkQ, thenQ, loopQ]
          try simp only [RN, reduceIte]
          try refine T_e rfl ?_
          refine T_cseq (t := true) (by simp (disch := omega) only [RA, ↓reduceIte, Nat.reduceEqDiff, Nat.reduceBEq, Nat.reduceSub, Nat.reduceAdd, Nat.reduceMul, Nat.reduceLT, Nat.reduceLeDiff, Int.reduceLE, Int.reduceLT, Int.reduceEq, Int.reduceNeg, Int.reduceToNat, Int.reduceMul, Int.reduceAdd, Int.reduceSub, Int.reduceBEq, Int.reduceBNe, reduceCtorEq, RD]) ?_
          try simp only [RN, reduceIte]
          try refine T_e rfl ?_
          exact hno (fun h => h4 h.2.2.2.1) _ _ _
      · rw [decide_eq_false h3]
        simp (disch := omega) only [RA, ↓reduceIte, Nat.reduceEqDiff, Nat.reduceBEq, Nat.reduceSub, Nat.reduceAdd, Nat.reduceMul, Nat.reduceLT, Nat.reduceLeDiff, Int.reduceLE, Int.reduceLT, Int.reduceEq, Int.reduceNeg, Int.reduceToNat, Int.reduceMul, Int.reduceAdd, Int.reduceSub, Int.reduceBEq, Int.reduceBNe, reduceCtorEq, RD]
        refine hKr _ _ ?_
        clear hKr Kr
        try simp only [blkQ, thenQ, loopQ]
        try simp only [RN, reduceIte]
        try refine T_e rfl ?_
        refine T_cseq (t := true) (by simp (disch := omega) only [RA, ↓reduceIte, Nat.reduceEqDiff, Nat.reduceBEq, Nat.reduceSub, Nat.reduceAdd, Nat.reduceMul, Nat.reduceLT, Nat.reduceLeDiff, Int.reduceLE, Int.reduceLT, Int.reduceEq, Int.reduceNeg, Int.reduceToNat, Int.reduceMul, Int.reduceAdd, Int.reduceSub, Int.reduceBEq, Int.reduceBNe, reduceCtorEq, RD]) ?_
        try simp only [RN, reduceIte]
        try refine T_e rfl ?_
        exact hno (fun h => h3 h.2.2.1) _ _ _
    · simp (disch := omega) only [RA, ↓reduceIte, Nat.reduceEqDiff, Nat.reduceBEq, Nat.reduceSub, Nat.reduceAdd, Nat.reduceMul, Nat.reduceLT, Nat.reduceLeDiff, Int.reduceLE, Int.reduceLT, Int.reduceEq, Int.reduceNeg, Int.reduceToNat, Int.reduceMul, Int.reduceAdd, Int.reduceSub, Int.reduceBEq, Int.reduceBNe, reduceCtorEq, RD, RFS, RFD, h2]
      refine hKr _ _ ?_
      clear hKr Kr
      try simp only [blkQ, thenQ, loopQ]
      try simp only [RN, reduceIte]
      try refine T_e rfl ?_
      refine T_cseq (t := true) (by simp (disch := omega) only [RA, ↓reduceIte, Nat.reduceEqDiff, Nat.reduceBEq, Nat.reduceSub, Nat.reduceAdd, Nat.reduceMul, Nat.reduceLT, Nat.reduceLeDiff, Int.reduceLE, Int.reduceLT, Int.reduceEq, Int.reduceNeg, Int.reduceToNat, Int.reduceMul, Int.reduceAdd, Int.reduceSub, Int.reduceBEq, Int.reduceBNe, reduceCtorEq, RD]) ?_
      try simp only [RN, reduceIte]
      try refine T_e rfl ?_
      exact hno (fun h => h2 h.2.1) _ _ _
  · rw [decide_eq_false h1]
    simp (disch := omega) only [RA, ↓reduceIte, Nat.reduceEqDiff, Nat.reduceBEq, Nat.reduceSub, Nat.reduceAdd, Nat.reduceMul, Nat.reduceLT, Nat.reduceLeDiff, Int.reduceLE, Int.reduceLT, Int.reduceEq, Int.reduceNeg, Int.reduceToNat, Int.reduceMul, Int.reduceAdd, Int.reduceSub, Int.reduceBEq, Int.reduceBNe, reduceCtorEq, RD]
    refine hKr _ _ ?_
    clear hKr Kr
    try simp only [blkQ, thenQ, loopQ]
    try simp only [RN, reduceIte]
    try refine T_e rfl ?_
    refine T_cseq (t := true) (by simp (disch := omega) only [RA, ↓reduceIte, Nat.reduceEqDiff, Nat.reduceBEq, Nat.reduceSub, Nat.reduceAdd, Nat.reduceMul, Nat.reduceLT, Nat.reduceLeDiff, Int.reduceLE, Int.reduceLT, Int.reduceEq, Int.reduceNeg, Int.reduceToNat, Int.reduceMul, Int.reduceAdd, Int.reduceSub, Int.reduceBEq, Int.reduceBNe, reduceCtorEq, RD]) ?_
    try simp only [RN, reduceIte]
    try refine T_e rfl ?_
    exact hno (fun h => h1 h.1) _ _ _
theorem ls3 {c t s : List Nat} {j : Nat} (h : j < 3) : [c, t, s].getD j [] = c ∨ [c, t, s].getD j [] = t ∨ [c, t, s].getD j [] = s := by
  have : j = 0 ∨ j = 1 ∨ j = 2 := by omega
  rcases this with rfl | rfl | rfl
  · exact .inl rfl
  · exact .inr (.inl rfl)
  · exact .inr (.inr rfl)
theorem impl_AreFlags_spec {x : Bool} {n : Int} {c t s : List Nat} {H : BH} {K : Value → BH → Prop} (hcc : By 32 c) (ht : By 32 t) (hs : By 32 s) (hK : K (.bool (decide (Fl n c t s))) H) : CallX x F_impl_AreFlags [FV n c t s] H K := by
  have hlc := hcc.len
  have hlt := ht.len
  have hls := hs.len
  refine callP (by exact .cons nn_F .nil) ?_
  refine CallX_body Γ_impl_AreFlags ?_
  simp only [A_impl_AreFlags, T_aiff]
  refine T_rseq fun Kr hKr => ?_
  simp (disch := omega) only [RA, ↓reduceIte, Nat.reduceEqDiff, RD, RFS]
  refine hKr _ _ ?_
  clear hKr Kr
  try simp only [RN, reduceIte]
  try refine T_e rfl ?_
  by_cases h1 : n < 4
  · refine T_rseq fun Kr hKr => ?_
    simp (disch := omega) only [RA, ↓reduceIte, Nat.reduceEqDiff, RD, RFS, h1]
    refine hKr _ _ ?_
    clear hKr Kr
    try simp only [RN, reduceIte]
    try refine T_e rfl ?_
    refine T_cseq (t := true) (by simp (disch := omega) only [RA, ↓reduceIte, Nat.reduceEqDiff, Nat.reduceBEq, Nat.reduceSub, Nat.reduceAdd, Nat.reduceMul, Nat.reduceLT, Nat.reduceLeDiff, Int.reduceLE, Int.reduceLT, Int.reduceEq, Int.reduceNeg, Int.reduceToNat, Int.reduceMul, Int.reduceAdd, Int.reduceSub, Int.reduceBEq, Int.reduceBNe, reduceCtorEq, RD]) ?_
    try simp only [RN, reduceIte]
    try refine T_e rfl ?_
    refine T_rseq fun Kr hKr => ?_
    simp (disch := omega) only [RA, ↓reduceIte, Nat.reduceEqDiff, Nat.reduceBEq, Nat.reduceSub, Nat.reduceAdd, Nat.reduceMul, Nat.reduceLT, Nat.reduceLeDiff, Int.reduceLE, Int.reduceLT, Int.reduceEq, Int.reduceNeg, Int.reduceToNat, Int.reduceMul, Int.reduceAdd, Int.reduceSub, Int.reduceBEq, Int.reduceBNe, reduceCtorEq, RD]
    refine hKr _ _ ?_
    clear hKr Kr
    try simp only [RN, reduceIte]
    try refine T_e rfl ?_
    refine bodyQ_ret (by simp (disch := omega) only [RA, ↓reduceIte, Nat.reduceEqDiff, Nat.reduceBEq, Nat.reduceSub, Nat.reduceAdd, Nat.reduceMul, Nat.reduceLT, Nat.reduceLeDiff, Int.reduceLE, Int.reduceLT, Int.reduceEq, Int.reduceNeg, Int.reduceToNat, Int.reduceMul, Int.reduceAdd, Int.reduceSub, Int.reduceBEq, Int.reduceBNe, reduceCtorEq, RD, resAll, resOf]; rfl) GhV.refl ?_
    simp only [tup]
    have : ¬ Fl n c t s := fun h => by have := h.1; omega
    exact ⟨NN.bool, by simpa [this] using hK⟩
  by_cases h2 : 32 < n
  · refine T_rseq fun Kr hKr => ?_
    simp (disch := omega) only [RA, ↓reduceIte, Nat.reduceEqDiff, RD, RFS, h1, h2]
    refine hKr _ _ ?_
    clear hKr Kr
    try simp only [RN, reduceIte]
    try refine T_e rfl ?_
    refine T_cseq (t := true) (by simp (disch := omega) only [RA, ↓reduceIte, Nat.reduceEqDiff, Nat.reduceBEq, Nat.reduceSub, Nat.reduceAdd, Nat.reduceMul, Nat.reduceLT, Nat.reduceLeDiff, Int.reduceLE, Int.reduceLT, Int.reduceEq, Int.reduceNeg, Int.reduceToNat, Int.reduceMul, Int.reduceAdd, Int.reduceSub, Int.reduceBEq, Int.reduceBNe, reduceCtorEq, RD]) ?_
    try simp only [RN, reduceIte]
    try refine T_e rfl ?_
    refine T_rseq fun Kr hKr => ?_
    simp (disch := omega) only [RA, ↓reduceIte, Nat.reduceEqDiff, Nat.reduceBEq, Nat.reduceSub, Nat.reduceAdd, Nat.reduceMul, Nat.reduceLT, Nat.reduceLeDiff, Int.reduceLE, Int.reduceLT, Int.reduceEq, Int.reduceNeg, Int.reduceToNat, Int.reduceMul, Int.reduceAdd, Int.reduceSub, Int.reduceBEq, Int.reduceBNe, reduceCtorEq, RD]
    refine hKr _ _ ?_
    clear hKr Kr
    try simp only [RN, reduceIte]
    try refine T_e rfl ?_
    refine bodyQ_ret (by simp (disch := omega) only [RA, ↓reduceIte, Nat.reduceEqDiff, Nat.reduceBEq, Nat.reduceSub, Nat.reduceAdd, Nat.reduceMul, Nat.reduceLT, Nat.reduceLeDiff, Int.reduceLE, Int.reduceLT, Int.reduceEq, Int.reduceNeg, Int.reduceToNat, Int.reduceMul, Int.reduceAdd, Int.reduceSub, Int.reduceBEq, Int.reduceBNe, reduceCtorEq, RD, resAll, resOf]; rfl) GhV.refl ?_
    simp only [tup]
    have : ¬ Fl n c t s := fun h => by have := h.1; omega
    exact ⟨NN.bool, by simpa [this] using hK⟩
  by_cases h3 : n.tmod 4 = 0
  case neg =>
    refine T_rseq fun Kr hKr => ?_
    simp (disch := omega) only [RA, ↓reduceIte, Nat.reduceEqDiff, Nat.reduceBEq, Nat.reduceSub, Nat.reduceAdd, Nat.reduceMul, Nat.reduceLT, Nat.reduceLeDiff, Int.reduceLE, Int.reduceLT, Int.reduceEq, Int.reduceNeg, Int.reduceToNat, Int.reduceMul, Int.reduceAdd, Int.reduceSub, Int.reduceBEq, Int.reduceBNe, reduceCtorEq, RD, RFS, h1, h2, h3]
    refine hKr _ _ ?_
    clear hKr Kr
    try simp only [RN, reduceIte]
    try refine T_e rfl ?_
    refine T_cseq (t := true) (by simp (disch := omega) only [RA, ↓reduceIte, Nat.reduceEqDiff, Nat.reduceBEq, Nat.reduceSub, Nat.reduceAdd, Nat.reduceMul, Nat.reduceLT, Nat.reduceLeDiff, Int.reduceLE, Int.reduceLT, Int.reduceEq, Int.reduceNeg, Int.reduceToNat, Int.reduceMul, Int.reduceAdd, Int.reduceSub, Int.reduceBEq, Int.reduceBNe, reduceCtorEq, RD]) ?_
    try simp only [RN, reduceIte]
    try refine T_e rfl ?_
    refine T_rseq fun Kr hKr => ?_
    simp (disch := omega) only [RA, ↓reduceIte, Nat.reduceEqDiff, Nat.reduceBEq, Nat.reduceSub, Nat.reduceAdd, Nat.reduceMul, Nat.reduceLT, Nat.reduceLeDiff, Int.reduceLE, Int.reduceLT, Int.reduceEq, Int.reduceNeg, Int.reduceToNat, Int.reduceMul, Int.reduceAdd, Int.reduceSub, Int.reduceBEq, Int.reduceBNe, reduceCtorEq, RD]
    refine hKr _ _ ?_
    clear hKr Kr
    try simp only [RN, reduceIte]
    try refine T_e rfl ?_
    refine bodyQ_ret (by simp (disch := omega) only [RA, ↓reduceIte, Nat.reduceEqDiff, Nat.reduceBEq, Nat.reduceSub, Nat.reduceAdd, Nat.reduceMul, Nat.reduceLT, Nat.reduceLeDiff, Int.reduceLE, Int.reduceLT, Int.reduceEq, Int.reduceNeg, Int.reduceToNat, Int.reduceMul, Int.reduceAdd, Int.reduceSub, Int.reduceBEq, Int.reduceBNe, reduceCtorEq, RD, resAll, resOf]; rfl) GhV.refl ?_
    simp only [tup]
    have : ¬ Fl n c t s := fun h => h3 h.2.1
    exact ⟨NN.bool, by simpa [this] using hK⟩
  refine T_rseq fun Kr hKr => ?_
  simp (disch := omega) only [RA, ↓reduceIte, Nat.reduceEqDiff, Nat.reduceBEq, Nat.reduceSub, Nat.reduceAdd, Nat.reduceMul, Nat.reduceLT, Nat.reduceLeDiff, Int.reduceLE, Int.reduceLT, Int.reduceEq, Int.reduceNeg, Int.reduceToNat, Int.reduceMul, Int.reduceAdd, Int.reduceSub, Int.reduceBEq, Int.reduceBNe, reduceCtorEq, RD, RFS, h1, h2, h3]
  refine hKr _ _ ?_
  clear hKr Kr
  try simp only [RN, reduceIte]
  try refine T_e rfl ?_
  refine T_cseq (t := false) (by simp (disch := omega) only [RA, ↓reduceIte, Nat.reduceEqDiff, Nat.reduceBEq, Nat.reduceSub, Nat.reduceAdd, Nat.reduceMul, Nat.reduceLT, Nat.reduceLeDiff, Int.reduceLE, Int.reduceLT, Int.reduceEq, Int.reduceNeg, Int.reduceToNat, Int.reduceMul, Int.reduceAdd, Int.reduceSub, Int.reduceBEq, Int.reduceBNe, reduceCtorEq, RD]) ?_
  try simp only [RN, reduceIte]
  try refine T_e rfl ?_
  obtain ⟨n, rfl⟩ := Int.eq_ofNat_of_zero_le (show 0 ≤ n by omega)
  have hall : ∀ p ∈ [c, t, s], p.length = 32 := by simp [hlc, hlt, hls]
  have hby : ∀ p ∈ [c, t, s], By 32 p := by simp; exact ⟨hcc, ht, hs⟩
  refine T_rseq fun Kr hKr => ?_
  simp (disch := omega) only [RA, ↓reduceIte, Nat.reduceEqDiff, Nat.reduceBEq, Nat.reduceSub, Nat.reduceAdd, Nat.reduceMul, Nat.reduceLT, Nat.reduceLeDiff, Int.reduceLE, Int.reduceLT, Int.reduceEq, Int.reduceNeg, Int.reduceToNat, Int.reduceMul, Int.reduceAdd, Int.reduceSub, Int.reduceBEq, Int.reduceBNe, reduceCtorEq, RD, RFS, RFD, fill3P32]
  refine hKr _ _ ?_
  clear hKr Kr
  try simp only [RN, reduceIte]
  try refine T_e rfl ?_
  refine T_wloop (fun m f H' => ∃ j, j ≤ 3 ∧ m = 3 - j ∧ (∀ i, i < j → Pairs ([c, t, s].getD i []) n) ∧ f 1 = P 0 0 ∧ f 30 = S 1 0 3 32 ∧ f 31 = I 3 ∧ f 32 = I j ∧ H' = [some (FC n c t s), some ([c, t, s].flatten.map N8)]) (3) ?_ ?_
  · refine ⟨_, _, Gh.refl, 0, by omega, by omega, by omega, ?_, ?_, ?_, ?_, rfl⟩
    any_goals (simp (disch := omega) only [RA, ↓reduceIte, Nat.reduceEqDiff, Nat.reduceBEq, Nat.reduceSub, Nat.reduceAdd, Nat.reduceMul, Nat.reduceLT, Nat.reduceLeDiff, Int.reduceLE, Int.reduceLT, Int.reduceEq, Int.reduceNeg, Int.reduceToNat, Int.reduceMul, Int.reduceAdd, Int.reduceSub, Int.reduceBEq, Int.reduceBNe, reduceCtorEq, RD, RE, *] <;> rfl)
  · rintro m f H' R ⟨j, hj, rfl, hat, g1, g30, g31, g32, rfl⟩ hN hX hR hE
    simp only [A_impl_AreFlags.l1, T_aiff]
    refine T_rseq fun Kr hKr => ?_
    simp (disch := omega) only [RA, ↓reduceIte, Nat.reduceEqDiff, Nat.reduceBEq, Nat.reduceSub, Nat.reduceAdd, Nat.reduceMul, Nat.reduceLT, Nat.reduceLeDiff, Int.reduceLE, Int.reduceLT, Int.reduceEq, Int.reduceNeg, Int.reduceToNat, Int.reduceMul, Int.reduceAdd, Int.reduceSub, Int.reduceBEq, Int.reduceBNe, reduceCtorEq, RD, g31, g32]
    refine hKr _ _ ?_
    clear hKr Kr
    try simp only [RN, reduceIte]
    try refine T_e rfl ?_
    refine T_csplit (p := j < 3) (by simp only [RA, ↓reduceIte, Nat.reduceEqDiff, Nat.reduceBEq, Nat.reduceSub, Nat.reduceAdd, Nat.reduceMul, Nat.reduceLT, Nat.reduceLeDiff, Int.reduceLE, Int.reduceLT, Int.reduceEq, Int.reduceNeg, Int.reduceToNat, Int.reduceMul, Int.reduceAdd, Int.reduceSub, Int.reduceBEq, Int.reduceBNe, reduceCtorEq] <;> rfl) (by (try simp only [RB]) <;> first | done | exact Iff.rfl | omega | simp) (fun hc => ?_) (fun hc => ?_) <;> (try simp only [RN, reduceIte]) <;> (try refine T_e rfl ?_)
    · have hmem : [c, t, s].getD j [] ∈ [c, t, s] := getD_mem hc
      obtain ⟨l, hl⟩ : ∃ l, [c, t, s].getD j [] = l := ⟨_, rfl⟩
      rw [hl] at hmem
      have hlb := hby l hmem
      have hll := hlb.len
      have hget := getN_FP (m := 32) hall (j := j) hc
      rw [hl] at hget
      first | refine T_bfree rfl ?_ | refine T_bfree' rfl ?_
      try simp only [RN, reduceIte]
      try refine T_e rfl ?_
      refine T_rseq fun Kr hKr => ?_
      simp (disch := omega) only [RA, ↓reduceIte, Nat.reduceEqDiff, Nat.reduceBEq, Nat.reduceSub, Nat.reduceAdd, Nat.reduceMul, Nat.reduceLT, Nat.reduceLeDiff, Int.reduceLE, Int.reduceLT, Int.reduceEq, Int.reduceNeg, Int.reduceToNat, Int.reduceMul, Int.reduceAdd, Int.reduceSub, Int.reduceBEq, Int.reduceBNe, reduceCtorEq, RD, g30, g32, hget]
      refine hKr _ _ ?_
      clear hKr Kr
      try simp only [RN, reduceIte]
      try refine T_e rfl ?_
      refine T_rseq fun Kr hKr => ?_
      simp (disch := omega) only [RA, ↓reduceIte, Nat.reduceEqDiff, Nat.reduceBEq, Nat.reduceSub, Nat.reduceAdd, Nat.reduceMul, Nat.reduceLT, Nat.reduceLeDiff, Int.reduceLE, Int.reduceLT, Int.reduceEq, Int.reduceNeg, Int.reduceToNat, Int.reduceMul, Int.reduceAdd, Int.reduceSub, Int.reduceBEq, Int.reduceBNe, reduceCtorEq, RD]
      refine hKr _ _ ?_
      clear hKr Kr
      try simp only [RN, reduceIte]
      try refine T_e rfl ?_
      refine T_wloop (fun m f H' => ∃ k, k ≤ 32 ∧ m = 32 - k ∧ (∀ i, i < k → PairAt l n i) ∧ f 1 = P 0 0 ∧ f 4 = P 2 0 ∧ f 30 = S 1 0 3 32 ∧ f 31 = I 3 ∧ f 32 = I j ∧ f 36 = PL l ∧ f 37 = I k ∧ H' = [some (FC n c t s), some ([c, t, s].flatten.map N8), some (l.map N8)]) (32) ?_ ?_
      · refine ⟨_, _, Gh.refl, 0, by omega, by omega, by omega, ?_, ?_, ?_, ?_, ?_, ?_, ?_, rfl⟩
        any_goals (simp (disch := omega) only [RA, ↓reduceIte, Nat.reduceEqDiff, RD, RE, *] <;> rfl)
      · clear g1 g30 g31 g32
        rintro m f H' R2 ⟨k, hk, rfl, hat2, g1, g4, g30, g31, g32, g36, g37, rfl⟩ hN2 hX2 hR2 hE2
        simp only [A_impl_AreFlags.l0, T_aiff]
        refine T_rseq fun Kr hKr => ?_
        simp (disch := omega) only [RA, ↓reduceIte, Nat.reduceEqDiff, RD, g37]
        refine hKr _ _ ?_
        clear hKr Kr
        try simp only [RN, reduceIte]
        try refine T_e rfl ?_
        refine T_csplit (p := k < 32) (by simp only [RA, ↓reduceIte, Nat.reduceEqDiff] <;> rfl) (by (try simp only [RB]) <;> first | done | exact Iff.rfl | omega | simp) (fun hc => ?_) (fun hc => ?_) <;> (try simp only [RN, reduceIte]) <;> (try refine T_e rfl ?_)
        · have hkl := hlb.lt k
          have hnext : ∀ f', f' 1 = P 0 0 → f' 4 = P 2 0 → f' 30 = S 1 0 3 32 → f' 31 = I 3 → f' 32 = I j → f' 36 = PL l → f' 37 = I k → PairAt l n k → T 0 A_impl_AreFlags.r14 R2 f' [some (FC n c t s), some ([c, t, s].flatten.map N8), some (l.map N8)] := by
            intro f' g1 g4 g30 g31 g32 g36 g37 hp
            refine T_reg_k fun Kr hKr => ?_
            simp (disch := omega) only [RA, ↓reduceIte, Nat.reduceEqDiff, RD, g37]
            refine hKr _ _ ?_
            clear hKr Kr
            refine hN2 (32 - (k + 1)) _ _ _ _ (by omega) Gh.refl ⟨k + 1, by omega, rfl, fun i hi => ?_, ?_, ?_, ?_, ?_, ?_, ?_, ?_, rfl⟩
            any_goals (simp (disch := omega) only [RA, ↓reduceIte, Nat.reduceEqDiff, RD, RE, *] <;> rfl)
            rcases Nat.lt_or_ge i k with h | h
            · exact hat2 i h
            · obtain rfl : i = k := by omega
              exact hp
          have hbad : ¬ PairAt l n k → ¬ Fl n c t s := fun hno h => by
            have key : Pairs l n := by
              rcases ls3 (c := c) (t := t) (s := s) (show j < 3 by assumption) with e | e | e
              · rw [hl] at e; rw [e]; exact h.2.2.1
              · rw [hl] at e; rw [e]; exact h.2.2.2.1
              · rw [hl] at e; rw [e]; exact h.2.2.2.2.1
            exact hno (key k (by omega))
          refine T_seq (T_block ?_)
          try simp only [RN, reduceIte]
          try refine T_e rfl ?_
          refine T_rseq fun Kr hKr => ?_
          simp (disch := omega) only [RA, ↓reduceIte, Nat.reduceEqDiff, RD, g36, g37]
          refine hKr _ _ ?_
          clear hKr Kr
          try simp only [RN, reduceIte]
          try refine T_e rfl ?_
          refine T_rseq fun Kr hKr => ?_
          simp (disch := omega) only [RA, ↓reduceIte, Nat.reduceEqDiff, RD, RFS, g1]
          refine hKr _ _ ?_
          clear hKr Kr
          try simp only [RN, reduceIte]
          try refine T_e rfl ?_
          refine T_csplit (p := n ≤ k) (by simp only [RA, ↓reduceIte, Nat.reduceEqDiff] <;> rfl) (by (try simp only [RB]) <;> first | done | exact Iff.rfl | omega | simp) (fun hc => ?_) (fun hc => ?_) <;> (try simp only [RN, reduceIte]) <;> (try refine T_e rfl ?_)
          · refine T_rseq fun Kr hKr => ?_
            simp (disch := omega) only [RA, ↓reduceIte, Nat.reduceEqDiff, RD]
            refine hKr _ _ ?_
            clear hKr Kr
            try simp only [RN, reduceIte]
            try refine T_e rfl ?_
            refine T_csplit (p := nl l k ≠ 0) (by simp only [RA, ↓reduceIte, Nat.reduceEqDiff] <;> rfl) (by (try simp only [RB]) <;> first | done | exact Iff.rfl | omega | simp) (fun hc => ?_) (fun hc => ?_) <;> (try simp only [RN, reduceIte]) <;> (try refine T_e rfl ?_)
            · refine T_rseq fun Kr hKr => ?_
              simp (disch := omega) only [RA, ↓reduceIte, Nat.reduceEqDiff, RD]
              refine hKr _ _ ?_
              clear hKr Kr
              try simp only [RN, reduceIte]
              try refine T_e rfl ?_
              refine hR2 _ _ (hR _ _ ?_)
              refine bodyQ_ret (by simp (disch := omega) only [RA, ↓reduceIte, Nat.reduceEqDiff, Nat.reduceBEq, Nat.reduceSub, Nat.reduceAdd, Nat.reduceMul, Nat.reduceLT, Nat.reduceLeDiff, Int.reduceLE, Int.reduceLT, Int.reduceEq, Int.reduceNeg, Int.reduceToNat, Int.reduceMul, Int.reduceAdd, Int.reduceSub, Int.reduceBEq, Int.reduceBNe, reduceCtorEq, RD, resAll, resOf]; rfl) GhV.refl ?_
              simp only [tup]
              have := hbad fun h => hc (h.1 (by omega))
              exact ⟨NN.bool, by simpa [this] using hK⟩
            · try simp only [RN, reduceIte]
              try refine T_e rfl ?_
              simp only [blkQ, thenQ, loopQ, if_true]
              refine hnext _ ?_ ?_ ?_ ?_ ?_ ?_ ?_ ⟨fun _ => by omega, fun h => by omega⟩
              any_goals (simp (disch := omega) only [RA, ↓reduceIte, Nat.reduceEqDiff, RD, RE, *] <;> rfl)
          · by_cases c1 : n ≤ nl l k
            · have c1' : (n : Int) ≤ nl l k := by omega
              refine T_rseq fun Kr hKr => ?_
              simp (disch := omega) only [RA, ↓reduceIte, Nat.reduceEqDiff, RD, RFS, g1, c1]
              refine hKr _ _ ?_
              clear hKr Kr
              try simp only [RN, reduceIte]
              try refine T_e rfl ?_
              refine T_cond (t := true) (by simp (disch := omega) only [RA, ↓reduceIte, Nat.reduceEqDiff, RD]) ?_
              try simp only [RN, reduceIte]
              try refine T_e rfl ?_
              refine T_rseq fun Kr hKr => ?_
              simp (disch := omega) only [RA, ↓reduceIte, Nat.reduceEqDiff, Nat.reduceBEq, Nat.reduceSub, Nat.reduceAdd, Nat.reduceMul, Nat.reduceLT, Nat.reduceLeDiff, Int.reduceLE, Int.reduceLT, Int.reduceEq, Int.reduceNeg, Int.reduceToNat, Int.reduceMul, Int.reduceAdd, Int.reduceSub, Int.reduceBEq, Int.reduceBNe, reduceCtorEq, RD]
              refine hKr _ _ ?_
              clear hKr Kr
              try simp only [RN, reduceIte]
              try refine T_e rfl ?_
              refine hR2 _ _ (hR _ _ ?_)
              refine bodyQ_ret (by simp (disch := omega) only [RA, ↓reduceIte, Nat.reduceEqDiff, Nat.reduceBEq, Nat.reduceSub, Nat.reduceAdd, Nat.reduceMul, Nat.reduceLT, Nat.reduceLeDiff, Int.reduceLE, Int.reduceLT, Int.reduceEq, Int.reduceNeg, Int.reduceToNat, Int.reduceMul, Int.reduceAdd, Int.reduceSub, Int.reduceBEq, Int.reduceBNe, reduceCtorEq, RD, resAll, resOf]; rfl) GhV.refl ?_
              simp only [tup]
              have := hbad fun h => by have := (h.2 (by omega)).1; omega
              exact ⟨NN.bool, by simpa [this] using hK⟩
            · have c1' : ¬ (n : Int) ≤ nl l k := by omega
              by_cases c2 : nl l k = k
              · refine T_rseq fun Kr hKr => ?_
                simp (disch := omega) only [RA, ↓reduceIte, Nat.reduceEqDiff, RD, RFS, g1, g37, c1, c2]
                refine hKr _ _ ?_
                clear hKr Kr
                try simp only [RN, reduceIte]
                try refine T_e rfl ?_
                refine T_cond (t := true) (by simp (disch := omega) only [RA, ↓reduceIte, Nat.reduceEqDiff, RD]) ?_
                try simp only [RN, reduceIte]
                try refine T_e rfl ?_
                refine T_rseq fun Kr hKr => ?_
                simp (disch := omega) only [RA, ↓reduceIte, Nat.reduceEqDiff, Nat.reduceBEq, Nat.reduceSub, Nat.reduceAdd, Nat.reduceMul, Nat.reduceLT, Nat.reduceLeDiff, Int.reduceLE, Int.reduceLT, Int.reduceEq, Int.reduceNeg, Int.reduceToNat, Int.reduceMul, Int.reduceAdd, Int.reduceSub, Int.reduceBEq, Int.reduceBNe, reduceCtorEq, RD]
                refine hKr _ _ ?_
                clear hKr Kr
                try simp only [RN, reduceIte]
                try refine T_e rfl ?_
                refine hR2 _ _ (hR _ _ ?_)
                refine bodyQ_ret (by simp (disch := omega) only [RA, ↓reduceIte, Nat.reduceEqDiff, Nat.reduceBEq, Nat.reduceSub, Nat.reduceAdd, Nat.reduceMul, Nat.reduceLT, Nat.reduceLeDiff, Int.reduceLE, Int.reduceLT, Int.reduceEq, Int.reduceNeg, Int.reduceToNat, Int.reduceMul, Int.reduceAdd, Int.reduceSub, Int.reduceBEq, Int.reduceBNe, reduceCtorEq, RD, resAll, resOf]; rfl) GhV.refl ?_
                simp only [tup]
                have := hbad fun h => (h.2 (by omega)).2.1 c2
                exact ⟨NN.bool, by simpa [this] using hK⟩
              · have c2' : ¬ (nl l k : Int) = k := by omega
                have hkl2 := hlb.lt (nl l k)
                refine T_rseq fun Kr hKr => ?_
                simp (disch := omega) only [RA, ↓reduceIte, Nat.reduceEqDiff, RD, RFS, g1, g4, g37, c1, c2, hll]
                refine hKr _ _ ?_
                clear hKr Kr
                try simp only [RN, reduceIte]
                try refine T_e rfl ?_
                refine T_csplit1 (p := nl l (nl l k) ≠ k) (by simp only [RA, ↓reduceIte, Nat.reduceEqDiff] <;> rfl) (by (try simp only [RB]) <;> first | done | exact Iff.rfl | omega | simp) (fun hc => ?_) (fun hc => ?_) <;> (try simp only [RN, reduceIte]) <;> (try refine T_e rfl ?_)
                · refine T_rseq fun Kr hKr => ?_
                  simp (disch := omega) only [RA, ↓reduceIte, Nat.reduceEqDiff, RD]
                  refine hKr _ _ ?_
                  clear hKr Kr
                  try simp only [RN, reduceIte]
                  try refine T_e rfl ?_
                  refine hR2 _ _ (hR _ _ ?_)
                  refine bodyQ_ret (by simp (disch := omega) only [RA, ↓reduceIte, Nat.reduceEqDiff, Nat.reduceBEq, Nat.reduceSub, Nat.reduceAdd, Nat.reduceMul, Nat.reduceLT, Nat.reduceLeDiff, Int.reduceLE, Int.reduceLT, Int.reduceEq, Int.reduceNeg, Int.reduceToNat, Int.reduceMul, Int.reduceAdd, Int.reduceSub, Int.reduceBEq, Int.reduceBNe, reduceCtorEq, RD, resAll, resOf]; rfl) GhV.refl ?_
                  simp only [tup]
                  have := hbad fun h => hc (h.2 (by omega)).2.2
                  exact ⟨NN.bool, by simpa [this] using hK⟩
                · try simp only [RN, reduceIte]
                  try refine T_e rfl ?_
                  simp only [blkQ, thenQ, loopQ, if_true]
                  refine hnext _ ?_ ?_ ?_ ?_ ?_ ?_ ?_ ⟨fun h => by omega, fun _ => ⟨by omega, c2, Decidable.not_not.1 hc⟩⟩
                  any_goals (simp (disch := omega) only [RA, ↓reduceIte, Nat.reduceEqDiff, RD, RE, *] <;> rfl)
        · refine hX2 _ _ ?_
          refine T_reg_k fun Kr hKr => ?_
          simp (disch := omega) only [RA, ↓reduceIte, Nat.reduceEqDiff, RD, g32]
          refine hKr _ _ ?_
          clear hKr Kr
          refine hN (3 - (j + 1)) _ _ _ _ (by omega) (Gh.nrm [0, 1] rfl rfl (by simp only [RH])) ⟨j + 1, by omega, rfl, fun i hi => ?_, ?_, ?_, ?_, ?_, rfl⟩
          any_goals (simp (disch := omega) only [RA, ↓reduceIte, Nat.reduceEqDiff, RD, RE, *] <;> rfl)
          rcases Nat.lt_or_ge i j with h | h
          · exact hat i h
          · obtain rfl : i = j := by omega
            rw [hl]
            exact fun i hi => hat2 i (by omega)
    · refine hX _ _ ?_
      have p1 : Pairs c n := hat 0 (by omega)
      have p2 : Pairs t n := hat 1 (by omega)
      have p3 : Pairs s n := hat 2 (by omega)
      have hc32 := p1.lt (by omega) hcc (by omega)
      have ht32 := p2.lt (by omega) ht (by omega)
      have hs32 := p3.lt (by omega) hs (by omega)
      have hfl : (∀ x, x < n → nl s (nl c x) = nl c (nl s x) ∧ nl s (nl c x) ≠ x) ∧ (orbK [c, t, s] n).2.length = 1 ↔ Fl n c t s := ⟨fun h => ⟨⟨by omega, by omega⟩, h3, p1, p2, p3, h.1, h.2⟩, fun h => ⟨h.2.2.2.2.2.1, h.2.2.2.2.2.2⟩⟩
      try simp only [RN, reduceIte]
      try refine T_e rfl ?_
      refine T_rseq fun Kr hKr => ?_
      simp (disch := omega) only [RA, ↓reduceIte, Nat.reduceEqDiff, RD, RFS, g1]
      refine hKr _ _ ?_
      clear hKr Kr
      try simp only [RN, reduceIte]
      try refine T_e rfl ?_
      refine T_wloop (fun m f H' => ∃ k, k ≤ n ∧ m = n - k ∧ (∀ x, x < k → nl s (nl c x) = nl c (nl s x) ∧ nl s (nl c x) ≠ x) ∧ f 1 = P 0 0 ∧ f 69 = I n ∧ f 70 = I k ∧ H' = [some (FC n c t s), some ([c, t, s].flatten.map N8)]) (n) ?_ ?_
      · refine ⟨_, _, Gh.refl, 0, by omega, by omega, by omega, ?_, ?_, ?_, rfl⟩
        any_goals (simp (disch := omega) only [RA, ↓reduceIte, Nat.reduceEqDiff, RD, RE, *] <;> rfl)
      · clear g1 g30 g31 g32
        rintro m f H' R2 ⟨k, hk, rfl, hat2, g1, g69, g70, rfl⟩ hN2 hX2 hR2 hE2
        simp only [A_impl_AreFlags.l2, T_aiff]
        refine T_rseq fun Kr hKr => ?_
        simp (disch := omega) only [RA, ↓reduceIte, Nat.reduceEqDiff, RD, g69, g70]
        refine hKr _ _ ?_
        clear hKr Kr
        try simp only [RN, reduceIte]
        try refine T_e rfl ?_
        refine T_csplit (p := k < n) (by simp only [RA, ↓reduceIte, Nat.reduceEqDiff] <;> rfl) (by (try simp only [RB]) <;> first | done | exact Iff.rfl | omega | simp) (fun hc => ?_) (fun hc => ?_) <;> (try simp only [RN, reduceIte]) <;> (try refine T_e rfl ?_)
        · have hck := hc32 k
          have hsk := hs32 k
          have hsc := hs32 (nl c k)
          have hcs := hc32 (nl s k)
          first | refine T_bfree rfl ?_ | refine T_bfree' rfl ?_
          try simp only [RN, reduceIte]
          try refine T_e rfl ?_
          refine T_rseq fun Kr hKr => ?_
          simp (disch := omega) only [RA, ↓reduceIte, Nat.reduceEqDiff, RD, g70]
          refine hKr _ _ ?_
          clear hKr Kr
          try simp only [RN, reduceIte]
          try refine T_e rfl ?_
          refine T_rseq fun Kr hKr => ?_
          simp (disch := omega) only [RA, ↓reduceIte, Nat.reduceEqDiff, RD, RFS, RFD, g1]
          refine hKr _ _ ?_
          clear hKr Kr
          try simp only [RN, reduceIte]
          try refine T_e rfl ?_
          by_cases e1 : nl s (nl c k) = nl c (nl s k)
          · by_cases e2 : nl s (nl c k) = k
            · have e2' : nl c (nl s k) = k := by omega
              refine T_rseq fun Kr hKr => ?_
              simp (disch := omega) only [RA, ↓reduceIte, Nat.reduceEqDiff, RD, e1, e2, e2']
              refine hKr _ _ ?_
              clear hKr Kr
              try simp only [RN, reduceIte]
              try refine T_e rfl ?_
              refine T_cseq (t := true) (by simp (disch := omega) only [RA, ↓reduceIte, Nat.reduceEqDiff, Nat.reduceBEq, Nat.reduceSub, Nat.reduceAdd, Nat.reduceMul, Nat.reduceLT, Nat.reduceLeDiff, Int.reduceLE, Int.reduceLT, Int.reduceEq, Int.reduceNeg, Int.reduceToNat, Int.reduceMul, Int.reduceAdd, Int.reduceSub, Int.reduceBEq, Int.reduceBNe, reduceCtorEq, RD]) ?_
              try simp only [RN, reduceIte]
              try refine T_e rfl ?_
              refine T_rseq fun Kr hKr => ?_
              simp (disch := omega) only [RA, ↓reduceIte, Nat.reduceEqDiff, Nat.reduceBEq, Nat.reduceSub, Nat.reduceAdd, Nat.reduceMul, Nat.reduceLT, Nat.reduceLeDiff, Int.reduceLE, Int.reduceLT, Int.reduceEq, Int.reduceNeg, Int.reduceToNat, Int.reduceMul, Int.reduceAdd, Int.reduceSub, Int.reduceBEq, Int.reduceBNe, reduceCtorEq, RD]
              refine hKr _ _ ?_
              clear hKr Kr
              try simp only [RN, reduceIte]
              try refine T_e rfl ?_
              refine hR2 _ _ ?_
              refine bodyQ_ret (by simp (disch := omega) only [RA, ↓reduceIte, Nat.reduceEqDiff, Nat.reduceBEq, Nat.reduceSub, Nat.reduceAdd, Nat.reduceMul, Nat.reduceLT, Nat.reduceLeDiff, Int.reduceLE, Int.reduceLT, Int.reduceEq, Int.reduceNeg, Int.reduceToNat, Int.reduceMul, Int.reduceAdd, Int.reduceSub, Int.reduceBEq, Int.reduceBNe, reduceCtorEq, RD, resAll, resOf]; rfl) GhV.refl ?_
              simp only [tup]
              have : ¬ Fl n c t s := fun h => ((hfl.2 h).1 k hc).2 e2
              exact ⟨NN.bool, by simpa [this] using hK⟩
            · have e2' : ¬ nl c (nl s k) = k := by omega
              refine T_rseq fun Kr hKr => ?_
              simp (disch := omega) only [RA, ↓reduceIte, Nat.reduceEqDiff, RD, e1, e2, e2']
              refine hKr _ _ ?_
              clear hKr Kr
              try simp only [RN, reduceIte]
              try refine T_e rfl ?_
              refine T_cseq (t := false) (by simp (disch := omega) only [RA, ↓reduceIte, Nat.reduceEqDiff, Nat.reduceBEq, Nat.reduceSub, Nat.reduceAdd, Nat.reduceMul, Nat.reduceLT, Nat.reduceLeDiff, Int.reduceLE, Int.reduceLT, Int.reduceEq, Int.reduceNeg, Int.reduceToNat, Int.reduceMul, Int.reduceAdd, Int.reduceSub, Int.reduceBEq, Int.reduceBNe, reduceCtorEq, RD]) ?_
              try simp only [RN, reduceIte]
              try refine T_e rfl ?_
              refine T_reg_k fun Kr hKr => ?_
              simp (disch := omega) only [RA, ↓reduceIte, Nat.reduceEqDiff, RD, g70]
              refine hKr _ _ ?_
              clear hKr Kr
              refine hN2 (n - (k + 1)) _ _ _ _ (by omega) Gh.refl ⟨k + 1, by omega, rfl, fun i hi => ?_, ?_, ?_, ?_, rfl⟩
              any_goals (simp (disch := omega) only [RA, ↓reduceIte, Nat.reduceEqDiff, RD, RE, *] <;> rfl)
              rcases Nat.lt_or_ge i k with h | h
              · exact hat2 i h
              · obtain rfl : i = k := by omega
                exact ⟨e1, e2⟩
          · refine T_rseq fun Kr hKr => ?_
            simp (disch := omega) only [RA, ↓reduceIte, Nat.reduceEqDiff, RD, e1]
            refine hKr _ _ ?_
            clear hKr Kr
            try simp only [RN, reduceIte]
            try refine T_e rfl ?_
            refine T_cseq (t := true) (by simp (disch := omega) only [RA, ↓reduceIte, Nat.reduceEqDiff, Nat.reduceBEq, Nat.reduceSub, Nat.reduceAdd, Nat.reduceMul, Nat.reduceLT, Nat.reduceLeDiff, Int.reduceLE, Int.reduceLT, Int.reduceEq, Int.reduceNeg, Int.reduceToNat, Int.reduceMul, Int.reduceAdd, Int.reduceSub, Int.reduceBEq, Int.reduceBNe, reduceCtorEq, RD]) ?_
            try simp only [RN, reduceIte]
            try refine T_e rfl ?_
            refine T_rseq fun Kr hKr => ?_
            simp (disch := omega) only [RA, ↓reduceIte, Nat.reduceEqDiff, Nat.reduceBEq, Nat.reduceSub, Nat.reduceAdd, Nat.reduceMul, Nat.reduceLT, Nat.reduceLeDiff, Int.reduceLE, Int.reduceLT, Int.reduceEq, Int.reduceNeg, Int.reduceToNat, Int.reduceMul, Int.reduceAdd, Int.reduceSub, Int.reduceBEq, Int.reduceBNe, reduceCtorEq, RD]
            refine hKr _ _ ?_
            clear hKr Kr
            try simp only [RN, reduceIte]
            try refine T_e rfl ?_
            refine hR2 _ _ ?_
            refine bodyQ_ret (by simp (disch := omega) only [RA, ↓reduceIte, Nat.reduceEqDiff, Nat.reduceBEq, Nat.reduceSub, Nat.reduceAdd, Nat.reduceMul, Nat.reduceLT, Nat.reduceLeDiff, Int.reduceLE, Int.reduceLT, Int.reduceEq, Int.reduceNeg, Int.reduceToNat, Int.reduceMul, Int.reduceAdd, Int.reduceSub, Int.reduceBEq, Int.reduceBNe, reduceCtorEq, RD, resAll, resOf]; rfl) GhV.refl ?_
            simp only [tup]
            have : ¬ Fl n c t s := fun h => e1 ((hfl.2 h).1 k hc).1
            exact ⟨NN.bool, by simpa [this] using hK⟩
        · refine hX2 _ _ ?_
          have hfin : ∀ x, x < n → nl s (nl c x) = nl c (nl s x) ∧ nl s (nl c x) ≠ x := fun x hx => hat2 x (by omega)
          refine T_rseq fun Kr hKr => ?_
          simp (disch := omega) only [RA, ↓reduceIte, Nat.reduceEqDiff, Nat.reduceBEq, Nat.reduceSub, Nat.reduceAdd, Nat.reduceMul, Nat.reduceLT, Nat.reduceLeDiff, Int.reduceLE, Int.reduceLT, Int.reduceEq, Int.reduceNeg, Int.reduceToNat, Int.reduceMul, Int.reduceAdd, Int.reduceSub, Int.reduceBEq, Int.reduceBNe, reduceCtorEq, RD, RFS, RFD, g1, fill3P32]
          have h96 : 3 * 32 = ([c, t, s].flatten.map N8).length := by simp [hlc, hlt, hls]
          refine callFz 2 rfl (by simp only [RH]) ?_
          simp only [RZ, frz_all h96]
          refine orbits_spec (ls := [c, t, s]) (by omega) (by simp) (by simp [hlc, hlt, hls]) (by simp; exact ⟨hc32, ht32, hs32⟩) ?_
          simp (disch := omega) only [RA, ↓reduceIte, Nat.reduceEqDiff, RD]
          refine hKr _ _ ?_
          clear hKr Kr
          try simp only [blkQ, thenQ, loopQ]
          try simp only [RN, reduceIte]
          try refine T_e rfl ?_
          refine bodyQ_ret (by simp (disch := omega) only [RA, ↓reduceIte, Nat.reduceEqDiff, Nat.reduceBEq, Nat.reduceSub, Nat.reduceAdd, Nat.reduceMul, Nat.reduceLT, Nat.reduceLeDiff, Int.reduceLE, Int.reduceLT, Int.reduceEq, Int.reduceNeg, Int.reduceToNat, Int.reduceMul, Int.reduceAdd, Int.reduceSub, Int.reduceBEq, Int.reduceBNe, reduceCtorEq, RD, resAll, resOf]; rfl) GhV.refl ?_
          simp only [tup]
          refine ⟨NN.bool, ?_⟩
          by_cases h8 : (orbK [c, t, s] n).2.length = 1
          · have : Fl n c t s := hfl.1 ⟨hfin, h8⟩
            simpa [this, h8] using hK
          · have : ¬ Fl n c t s := fun h => h8 (hfl.2 h).2
            have h8' : ¬ ((orbK [c, t, s] n).2.length : Int) = 1 := by omega
            simpa [this, h8'] using hK
end Go.Bm
