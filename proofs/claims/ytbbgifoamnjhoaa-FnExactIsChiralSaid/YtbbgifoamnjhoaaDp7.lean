/- Flags: one list behind another; sets of flags. -/
import Derived.Test.YtbbgifoamnjhoaaDp6
set_option linter.unusedVariables false
set_option linter.unusedSimpArgs false
namespace Go.Bm
open Go Go.Am

/-- One list and then another, at the first k flags. -/
def bothK (a b : List Nat) : Nat → List Nat
  | 0 => List.replicate 32 0
  | k + 1 => (bothK a b k).set k (nl b (nl a k))
theorem bothK_len {a b : List Nat} {k : Nat} : (bothK a b k).length = 32 := by
  induction k with
  | zero => simp [bothK]
  | succ k ih => simp [bothK, ih]
theorem bothK_nl {p q : List Nat} {k i : Nat} (hk : k ≤ 32) : nl (bothK p q k) i = if i < k then nl q (nl p i) else 0 := by
  induction k with
  | zero => simp only [bothK, nl_rep]; split <;> simp
  | succ k ih =>
    simp only [bothK, nl_set, bothK_len]
    rw [ih (by omega)]
    by_cases h : i = k
    · subst h; simp [show i < 32 by omega]
    · simp only [h, false_and, if_false]
      split <;> split <;> first | rfl | omega
theorem bothK_by {p q : List Nat} {k : Nat} (hq : By 32 q) (hk : k ≤ 32) : By 32 (bothK p q k) := ⟨bothK_len, fun i => by rw [bothK_nl hk]; split; exact hq.lt _; omega⟩
theorem l07Both_spec {x : Bool} {p q : List Nat} {n : Nat} {H : BH} {K : Value → BH → Prop} (hp : By 32 p) (hq : By 32 q) (hn : n ≤ 32) (hp32 : ∀ i, i < n → nl p i < 32) (hK : K (PL (bothK p q n)) H) : CallX x F_spec_l07Both [PL p, PL q, I n] H K := by
  have hlen := hp.len
  have hlen' := hq.len
  refine callP (by simp only [RH]) ?_
  refine CallX_body Γ_spec_l07Both ?_
  simp only [A_spec_l07Both, T_aiff]
  refine T_rseq fun Kr hKr => ?_
  simp (disch := omega) only [RA, ↓reduceIte, Nat.reduceEqDiff, RD]
  refine hKr _ _ ?_
  clear hKr Kr
  try simp only [RN, reduceIte]
  try refine T_e rfl ?_
  refine T_rseq fun Kr hKr => ?_
  simp (disch := omega) only [RA, ↓reduceIte, Nat.reduceEqDiff, RD]
  refine hKr _ _ ?_
  clear hKr Kr
  try simp only [RN, reduceIte]
  try refine T_e rfl ?_
  refine T_rseq fun Kr hKr => ?_
  simp (disch := omega) only [RA, ↓reduceIte, Nat.reduceEqDiff, RD]
  refine hKr _ _ ?_
  clear hKr Kr
  try simp only [RN, reduceIte]
  try refine T_e rfl ?_
  refine T_wloop (fun m f H' => ∃ k, k ≤ n ∧ m = n - k ∧ f 2 = I n ∧ f 3 = P 0 0 ∧ f 4 = P 1 0 ∧ f 6 = P 2 0 ∧ f 7 = P 3 0 ∧ f 8 = I k ∧ H' = [some (p.map N8), some (q.map N8), some (List.replicate 32 (.int .u8 0)), some ((bothK p q k).map N8)]) (n) ?_ ?_
  · refine ⟨_, _, Gh.refl, 0, by omega, by omega, ?_, ?_, ?_, ?_, ?_, ?_, by simp [RA, ↓reduceIte, Nat.reduceEqDiff, bothK]⟩
    any_goals (simp (disch := omega) only [RA, ↓reduceIte, Nat.reduceEqDiff, RD, RE, *] <;> rfl)
  · rintro m f H' R ⟨k, hk, rfl, h2, h3, h4, h6, h7, h8, rfl⟩ hN hX hR hE
    simp only [A_spec_l07Both.l0, T_aiff]
    refine T_rseq fun Kr hKr => ?_
    simp (disch := omega) only [RA, ↓reduceIte, Nat.reduceEqDiff, RD, h2, h8]
    refine hKr _ _ ?_
    clear hKr Kr
    try simp only [RN, reduceIte]
    try refine T_e rfl ?_
    refine T_csplit (p := k < n) (by simp only [RA, ↓reduceIte, Nat.reduceEqDiff] <;> rfl) (by (try simp only [RB]) <;> first | done | exact Iff.rfl | omega | simp) (fun hc => ?_) (fun hc => ?_) <;> (try simp only [RN, reduceIte]) <;> (try refine T_e rfl ?_)
    · have hlk := @bothK_len p q k
      have hpk := hp32 k hc
      first | refine T_bfree rfl ?_ | refine T_bfree' rfl ?_
      try simp only [RN, reduceIte]
      try refine T_e rfl ?_
      refine T_rseq fun Kr hKr => ?_
      simp (disch := omega) only [RA, ↓reduceIte, Nat.reduceEqDiff, RD, h3, h4, h7, h8, hlen, hlen', hlk]
      refine hKr _ _ ?_
      clear hKr Kr
      try simp only [RN, reduceIte]
      try refine T_e rfl ?_
      refine T_reg_k fun Kr hKr => ?_
      simp (disch := omega) only [RA, ↓reduceIte, Nat.reduceEqDiff, RD, h8]
      refine hKr _ _ ?_
      clear hKr Kr
      refine hN (n - (k + 1)) _ _ _ _ (by omega) Gh.refl ⟨k + 1, by omega, rfl, ?_, ?_, ?_, ?_, ?_, ?_, rfl⟩
      any_goals (simp (disch := omega) only [RA, ↓reduceIte, Nat.reduceEqDiff, RD, RE, *] <;> rfl)
    · refine hX _ _ ?_
      obtain rfl : k = n := by omega
      have hlk := @bothK_len p q k
      refine T_rseq fun Kr hKr => ?_
      simp (disch := omega) only [RA, ↓reduceIte, Nat.reduceEqDiff, RD, h6, h7, hlk]
      refine hKr _ _ ?_
      clear hKr Kr
      try simp only [RN, reduceIte]
      try refine T_e rfl ?_
      refine bodyQ_ret (by simp (disch := omega) only [RA, ↓reduceIte, Nat.reduceEqDiff, RD, resAll, resOf, h6, hlk]; rfl) GhV.refl ?_
      simp only [tup]
      exact ⟨NN_agg (by (simp only [RH])), hK⟩

/-! ### Sets of flags that are reached from each other -/
abbrev N64 (n : Nat) : Value := .int .i64 (n : Int)
theorem getN_64 {p : List Nat} {k : Nat} (h : k < p.length) : getN none (p.map N64) k = some (N64 (nl p k)) := by
  simp [getN, h, nl, List.getD]
theorem app1_64 {H : BH} {b bytes cn : Nat} {xs : List Nat} {y : Nat} (h : (xs.length + 1) * bytes ≤ 140737488355328) : app1 (some [.int .i64 (y : Int)]) (some (xs.map N64)) H b xs.length bytes cn = some (S H.length 0 (xs.length + 1) 1, (H.set b none) ++ [some ((xs ++ [y]).map N64)]) := app1_g (g := N64) rfl h
def stX (s : List Bool) (x : Nat) : BS := (s.set x true, [x])
/-- The flags met and the sizes of the sets, once the first k flags have been looked at. -/
def orbK (ls : List (List Nat)) : Nat → List Bool × List Nat
  | 0 => (List.replicate 32 false, [])
  | k + 1 => if bl (orbK ls k).1 k = true then orbK ls k else ((bfs ls (stX (orbK ls k).1 k) 32).1, (orbK ls k).2 ++ [(bfs ls (stX (orbK ls k).1 k) 32).2.length])
theorem Bi.stX {m x : Nat} {s : List Bool} (hs : s.length = m) (hx : x < m) (h : bl s x = false) : Bi m (stX s x) := ⟨by simp [Bm.stX, hs], fun i hi => by
  rw [show (Bm.stX s x).2 = [x] from rfl, nl_single (by simpa [Bm.stX] using hi)]; exact hx, by
  show 1 ≤ (s.set x true).count true
  rw [count_set_true (by omega) h]; omega⟩
theorem orbK_ok {ls : List (List Nat)} (hl : ∀ p ∈ ls, ∀ i, nl p i < 32) : ∀ {k : Nat}, k ≤ 32 → (orbK ls k).1.length = 32 ∧ (orbK ls k).2.length ≤ k
  | 0, _ => ⟨List.length_replicate (n := 32) (a := false), Nat.le_refl 0⟩
  | k + 1, h => by
    obtain ⟨h1, h2⟩ := orbK_ok hl (k := k) (by omega)
    simp only [orbK]
    split
    · exact ⟨h1, by omega⟩
    · rename_i hb
      have := (Bi.stX h1 (show k < 32 by omega) (by simpa using hb)).bfs hl 32
      generalize bfs ls (Bm.stX (orbK ls k).1 k) 32 = st at this ⊢
      exact ⟨this.len, by simp; omega⟩
theorem bfs_pre {ls : List (List Nat)} {st : BS} : ∀ i, ∃ q, (bfs ls st i).2 = st.2 ++ q
  | 0 => ⟨[], by simp [bfs]⟩
  | i + 1 => by
    obtain ⟨q, hq⟩ := bfs_pre (ls := ls) (st := st) i
    simp only [bfs]
    split
    · obtain ⟨q', hq'⟩ := @round_pre (nl (bfs ls st i).2 i) ls (bfs ls st i)
      exact ⟨q ++ q', by rw [hq', hq, List.append_assoc]⟩
    · exact ⟨q, hq⟩
theorem l07Sets_spec {x : Bool} {ls : List (List Nat)} {n : Nat} {H : BH} {K : Value → BH → Prop} (hn : n ≤ 32) (hll : ls.length ≤ 1000) (hl : ∀ p ∈ ls, p.length = 32) (hl32 : ∀ p ∈ ls, ∀ i, nl p i < 32)
    (hK : K (Fz (orbK ls n).2.length 1 ((orbK ls n).2.map N64)) H) : CallX x F_spec_l07Sets [FPs 32 ls, I n] H K := by
  refine callP (by simp only [RH]) ?_
  refine CallX_body Γ_spec_l07Sets ?_
  simp only [A_spec_l07Sets, T_aiff]
  refine T_rseq fun Kr hKr => ?_
  simp (disch := omega) only [RA, ↓reduceIte, Nat.reduceEqDiff, Nat.reduceBEq, Nat.reduceSub, Nat.reduceAdd, Nat.reduceMul, Nat.reduceLT, Nat.reduceLeDiff, Int.reduceLE, Int.reduceLT, Int.reduceEq, Int.reduceNeg, Int.reduceToNat, Int.reduceMul, Int.reduceAdd, Int.reduceSub, Int.reduceBEq, Int.reduceBNe, reduceCtorEq, RD]
  refine hKr _ _ ?_
  clear hKr Kr
  try simp only [RN, reduceIte]
  try refine T_e rfl ?_
  refine T_rseq fun Kr hKr => ?_
  simp (disch := omega) only [RA, ↓reduceIte, Nat.reduceEqDiff, Nat.reduceBEq, Nat.reduceSub, Nat.reduceAdd, Nat.reduceMul, Nat.reduceLT, Nat.reduceLeDiff, Int.reduceLE, Int.reduceLT, Int.reduceEq, Int.reduceNeg, Int.reduceToNat, Int.reduceMul, Int.reduceAdd, Int.reduceSub, Int.reduceBEq, Int.reduceBNe, reduceCtorEq, RD]
  refine hKr _ _ ?_
  clear hKr Kr
  try simp only [RN, reduceIte]
  try refine T_e rfl ?_
  refine T_rseq fun Kr hKr => ?_
  simp (disch := omega) only [RA, ↓reduceIte, Nat.reduceEqDiff, Nat.reduceBEq, Nat.reduceSub, Nat.reduceAdd, Nat.reduceMul, Nat.reduceLT, Nat.reduceLeDiff, Int.reduceLE, Int.reduceLT, Int.reduceEq, Int.reduceNeg, Int.reduceToNat, Int.reduceMul, Int.reduceAdd, Int.reduceSub, Int.reduceBEq, Int.reduceBNe, reduceCtorEq, RD]
  refine hKr _ _ ?_
  clear hKr Kr
  try simp only [RN, reduceIte]
  try refine T_e rfl ?_
  refine T_wloop (fun m f H' => ∃ x so, x ≤ n ∧ m = n - x ∧ so = orbK ls x ∧ f 0 = FPs 32 ls ∧ f 1 = I n ∧ f 6 = P 1 0 ∧ f 5 = S 0 0 so.2.length 1 ∧ f 7 = I x ∧ H' = [some (so.2.map N64), some (so.1.map B)]) (n) ?_ ?_
  · refine ⟨_, _, Gh.refl, 0, (List.replicate 32 false, []), by omega, by omega, rfl, ?_, ?_, ?_, ?_, ?_, by simp⟩
    any_goals (simp (disch := omega) only [RA, ↓reduceIte, Nat.reduceEqDiff, RD, RE, *] <;> rfl)
  · rintro m f H' R ⟨x, so, hx, rfl, hso, hL, hN0, hM, hO, hx1, rfl⟩ hN hX hR hE
    simp only [A_spec_l07Sets.l2, T_aiff]
    obtain ⟨hsl, hol⟩ := orbK_ok hl32 (show x ≤ 32 by omega)
    rw [← hso] at hsl hol
    replace hso := hso.symm
    refine T_rseq fun Kr hKr => ?_
    simp (disch := omega) only [RA, ↓reduceIte, Nat.reduceEqDiff, RD, hN0, hx1]
    refine hKr _ _ ?_
    clear hKr Kr
    try simp only [RN, reduceIte]
    try refine T_e rfl ?_
    refine T_csplit (p := x < n) (by simp only [RA, ↓reduceIte, Nat.reduceEqDiff] <;> rfl) (by (try simp only [RB]) <;> first | done | exact Iff.rfl | omega | simp) (fun hc => ?_) (fun hc => ?_) <;> (try simp only [RN, reduceIte]) <;> (try refine T_e rfl ?_)
    · have hnext : ∀ f' so', f' 0 = FPs 32 ls → f' 1 = I n → f' 6 = P 1 0 → f' 5 = S 0 0 so'.2.length 1 → f' 7 = I x → so' = orbK ls (x + 1) → T 0 A_spec_l07Sets.r4 R f' [some (so'.2.map N64), some (so'.1.map B)] := by
        intro f' so' hL hN0 hM hO hx1 hs
        refine T_reg_k fun Kr hKr => ?_
        simp (disch := omega) only [RA, ↓reduceIte, Nat.reduceEqDiff, RD, hx1]
        refine hKr _ _ ?_
        clear hKr Kr
        refine hN (n - (x + 1)) _ _ _ _ (by omega) Gh.refl ⟨x + 1, so', by omega, rfl, hs, ?_, ?_, ?_, ?_, ?_, rfl⟩
        any_goals (simp (disch := omega) only [RA, ↓reduceIte, Nat.reduceEqDiff, RD, RE, *] <;> rfl)
      refine T_seq (T_block ?_)
      try simp only [RN, reduceIte]
      try refine T_e rfl ?_
      refine T_rseq fun Kr hKr => ?_
      simp (disch := omega) only [RA, ↓reduceIte, Nat.reduceEqDiff, Nat.reduceBEq, Nat.reduceSub, Nat.reduceAdd, Nat.reduceMul, Nat.reduceLT, Nat.reduceLeDiff, Int.reduceLE, Int.reduceLT, Int.reduceEq, Int.reduceNeg, Int.reduceToNat, Int.reduceMul, Int.reduceAdd, Int.reduceSub, Int.reduceBEq, Int.reduceBNe, reduceCtorEq, RD, hM, hx1, hsl]
      refine hKr _ _ ?_
      clear hKr Kr
      try simp only [RN, reduceIte]
      try refine T_e rfl ?_
      refine T_csplit (p := bl so.1 x = true) (by simp only [RA, ↓reduceIte, Nat.reduceEqDiff, Nat.reduceAdd, Nat.reduceMul, Int.reduceToNat, Nat.reduceLT, reduceCtorEq] <;> rfl) (by (try simp only [RB]) <;> first | done | exact Iff.rfl | omega | simp) (fun hc => ?_) (fun hc => ?_) <;> (try simp only [RN, reduceIte]) <;> (try refine T_e rfl ?_)
      · simp only [blkQ, thenQ, loopQ, if_true]
        refine hnext _ so ?_ ?_ ?_ ?_ ?_ (by rw [orbK, hso, if_pos hc])
        any_goals (simp (disch := omega) only [RA, ↓reduceIte, Nat.reduceEqDiff, Nat.reduceBEq, Nat.reduceSub, Nat.reduceAdd, Nat.reduceMul, Nat.reduceLT, Nat.reduceLeDiff, Int.reduceLE, Int.reduceLT, Int.reduceEq, Int.reduceNeg, Int.reduceToNat, Int.reduceMul, Int.reduceAdd, Int.reduceSub, Int.reduceBEq, Int.reduceBNe, reduceCtorEq, RD, RE, *] <;> rfl)
      · have hb : bl so.1 x = false := by simpa using hc
        have hB0 := Bi.stX hsl (show x < 32 by omega) hb
        refine T_rseq fun Kr hKr => ?_
        simp (disch := omega) only [RA, ↓reduceIte, Nat.reduceEqDiff, Nat.reduceBEq, Nat.reduceSub, Nat.reduceAdd, Nat.reduceMul, Nat.reduceLT, Nat.reduceLeDiff, Int.reduceLE, Int.reduceLT, Int.reduceEq, Int.reduceNeg, Int.reduceToNat, Int.reduceMul, Int.reduceAdd, Int.reduceSub, Int.reduceBEq, Int.reduceBNe, reduceCtorEq, RD, hM, hx1, hsl]
        refine hKr _ _ ?_
        clear hKr Kr
        try simp only [RN, reduceIte]
        try refine T_e rfl ?_
        refine T_rseq fun Kr hKr => ?_
        simp (disch := omega) only [RA, ↓reduceIte, Nat.reduceEqDiff, Nat.reduceBEq, Nat.reduceSub, Nat.reduceAdd, Nat.reduceMul, Nat.reduceLT, Nat.reduceLeDiff, Int.reduceLE, Int.reduceLT, Int.reduceEq, Int.reduceNeg, Int.reduceToNat, Int.reduceMul, Int.reduceAdd, Int.reduceSub, Int.reduceBEq, Int.reduceBNe, reduceCtorEq, RD, hx1]
        refine hKr _ _ ?_
        clear hKr Kr
        try simp only [RN, reduceIte]
        try refine T_e rfl ?_
        refine T_rseq fun Kr hKr => ?_
        simp (disch := omega) only [RA, ↓reduceIte, Nat.reduceEqDiff, Nat.reduceBEq, Nat.reduceSub, Nat.reduceAdd, Nat.reduceMul, Nat.reduceLT, Nat.reduceLeDiff, Int.reduceLE, Int.reduceLT, Int.reduceEq, Int.reduceNeg, Int.reduceToNat, Int.reduceMul, Int.reduceAdd, Int.reduceSub, Int.reduceBEq, Int.reduceBNe, reduceCtorEq, RD]
        refine hKr _ _ ?_
        clear hKr Kr
        try simp only [RN, reduceIte]
        try refine T_e rfl ?_
        refine T_wloop (fun m f H' => ∃ k st, k ≤ 32 ∧ m = 32 - k ∧ st = bfs ls (stX so.1 x) k ∧ k ≤ st.2.length ∧ f 0 = FPs 32 ls ∧ f 1 = I n ∧ f 6 = P 1 0 ∧ f 5 = S 0 0 so.2.length 1 ∧ f 7 = I x ∧ f 8 = S 2 0 st.2.length 1 ∧ f 9 = I k ∧ H' = [some (so.2.map N64), some (st.1.map B), some (st.2.map N64)]) (32) ?_ ?_
        · refine ⟨_, _, Gh.refl, 0, stX so.1 x, by omega, by omega, rfl, Nat.zero_le _, ?_, ?_, ?_, ?_, ?_, ?_, ?_, by simp [stX]⟩
          any_goals (simp (disch := omega) only [RA, ↓reduceIte, Nat.reduceEqDiff, RD, RE, *] <;> rfl)
        · clear hL hN0 hM hO hx1
          rintro m f H' R1 ⟨k, st, hk, rfl, hst, hkl, hL, hN0, hM, hO, hx1, hq, hk1, rfl⟩ hN1 hX1 hR1 hE1
          simp only [A_spec_l07Sets.l1, T_aiff]
          have hB := hB0.bfs hl32 k
          rw [← hst] at hB
          replace hst := hst.symm
          have hle := hB.le
          have hsl1 := hB.len
          refine T_rseq fun Kr hKr => ?_
          simp (disch := omega) only [RA, ↓reduceIte, Nat.reduceEqDiff, RD, hq, hk1]
          refine hKr _ _ ?_
          clear hKr Kr
          try simp only [RN, reduceIte]
          try refine T_e rfl ?_
          refine T_csplit (p := k < st.2.length) (by simp only [RA, ↓reduceIte, Nat.reduceEqDiff] <;> rfl) (by (try simp only [RB]) <;> first | done | exact Iff.rfl | omega | simp) (fun hc => ?_) (fun hc => ?_) <;> (try simp only [RN, reduceIte]) <;> (try refine T_e rfl ?_)
          · have hxk := hB.lt k hc
            first | refine T_bfree rfl ?_ | refine T_bfree' rfl ?_
            try simp only [RN, reduceIte]
            try refine T_e rfl ?_
            refine T_rseq fun Kr hKr => ?_
            simp (disch := omega) only [RA, ↓reduceIte, Nat.reduceEqDiff, Nat.reduceBEq, Nat.reduceSub, Nat.reduceAdd, Nat.reduceMul, Nat.reduceLT, Nat.reduceLeDiff, Int.reduceLE, Int.reduceLT, Int.reduceEq, Int.reduceNeg, Int.reduceToNat, Int.reduceMul, Int.reduceAdd, Int.reduceSub, Int.reduceBEq, Int.reduceBNe, reduceCtorEq, RD]
            refine hKr _ _ ?_
            clear hKr Kr
            try simp only [RN, reduceIte]
            try refine T_e rfl ?_
            refine T_wloop (fun m f H' => ∃ j st', j ≤ ls.length ∧ m = ls.length - j ∧ st' = roundX (ls.take j) (nl st.2 k) st ∧ f 0 = FPs 32 ls ∧ f 1 = I n ∧ f 6 = P 1 0 ∧ f 5 = S 0 0 so.2.length 1 ∧ f 7 = I x ∧ f 8 = S 2 0 st'.2.length 1 ∧ f 9 = I k ∧ f 10 = I j ∧ H' = [some (so.2.map N64), some (st'.1.map B), some (st'.2.map N64)]) (ls.length) ?_ ?_
            · refine ⟨_, _, Gh.refl, 0, st, by omega, by omega, rfl, ?_, ?_, ?_, ?_, ?_, ?_, ?_, ?_, rfl⟩
              any_goals (simp (disch := omega) only [RA, ↓reduceIte, Nat.reduceEqDiff, RD, RE, *] <;> rfl)
            · clear hL hN0 hM hO hx1 hq hk1
              rintro m f H' R2 ⟨j, st', hj, rfl, hst', hL, hN0, hM, hO, hx1, hq, hk1, hj1, rfl⟩ hN2 hX2 hR2 hE2
              simp only [A_spec_l07Sets.l0, T_aiff]
              refine T_rseq fun Kr hKr => ?_
              simp (disch := omega) only [RA, ↓reduceIte, Nat.reduceEqDiff, RD, hL, hj1]
              refine hKr _ _ ?_
              clear hKr Kr
              try simp only [RN, reduceIte]
              try refine T_e rfl ?_
              have hB' : Bi 32 st' := by rw [hst']; exact hB.round fun p hp => hl32 p (List.mem_of_mem_take hp) _
              have hle' := hB'.le
              have hsl' := hB'.len
              refine T_csplit (p := j < ls.length) (by simp only [RA, ↓reduceIte, Nat.reduceEqDiff] <;> rfl) (by (try simp only [RB]) <;> first | done | exact Iff.rfl | omega | simp) (fun hc => ?_) (fun hc => ?_) <;> (try simp only [RN, reduceIte]) <;> (try refine T_e rfl ?_)
              · obtain ⟨w, hw⟩ := @round_pre (nl st.2 k) (ls.take j) st
                rw [← hst'] at hw
                have hxi : nl st'.2 k = nl st.2 k := by rw [hw, nl_append, if_pos (by assumption)]
                have hil' : k < st'.2.length := by rw [hw]; simp; omega
                have hnx := round_take (ls := ls) (x := nl st.2 k) (st := st) hc
                rw [← hst'] at hnx
                have hpl := hl _ (getD_mem (d := []) hc)
                have hyl := hl32 _ (getD_mem (d := []) hc) (nl st.2 k)
                obtain ⟨pj, hpj⟩ : ∃ pj, ls.getD j [] = pj := ⟨_, rfl⟩
                rw [hpj] at hnx hpl hyl
                obtain ⟨y, hyd⟩ : ∃ y, nl pj (nl st.2 k) = y := ⟨_, rfl⟩
                rw [hyd] at hyl hnx
                have hgp := getN_FP1 (m := 32) (y := nl st.2 k) hl hc hxk
                rw [hpj, hyd] at hgp
                have hnext2 : ∀ f' st2, f' 0 = FPs 32 ls → f' 1 = I n → f' 6 = P 1 0 → f' 5 = S 0 0 so.2.length 1 → f' 7 = I x → f' 8 = S 2 0 st2.2.length 1 → f' 9 = I k → f' 10 = I j → st2 = visit st' y → T 0 A_spec_l07Sets.r13 R2 f' [some (so.2.map N64), some (st2.1.map B), some (st2.2.map N64)] := by
                  intro f' st2 hL hN0 hM hO hx1 hq hk1 hj1 hs2
                  refine T_reg_k fun Kr hKr => ?_
                  simp (disch := omega) only [RA, ↓reduceIte, Nat.reduceEqDiff, RD, hj1]
                  refine hKr _ _ ?_
                  clear hKr Kr
                  refine hN2 (ls.length - (j + 1)) _ _ _ _ (by omega) Gh.refl ⟨j + 1, st2, by omega, rfl, by rw [hnx, hs2], ?_, ?_, ?_, ?_, ?_, ?_, ?_, ?_, rfl⟩
                  any_goals (simp (disch := omega) only [RA, ↓reduceIte, Nat.reduceEqDiff, RD, RE, *] <;> rfl)
                first | refine T_bfree rfl ?_ | refine T_bfree' rfl ?_
                try simp only [RN, reduceIte]
                try refine T_e rfl ?_
                refine T_rseq fun Kr hKr => ?_
                simp (disch := omega) only [RA, ↓reduceIte, Nat.reduceEqDiff, RD, hL, hj1, hq, hk1, getN_64, hxi, hgp]
                refine hKr _ _ ?_
                clear hKr Kr
                try simp only [RN, reduceIte]
                try refine T_e rfl ?_
                refine T_rseq fun Kr hKr => ?_
                simp (disch := omega) only [RA, ↓reduceIte, Nat.reduceEqDiff, Nat.reduceBEq, Nat.reduceSub, Nat.reduceAdd, Nat.reduceMul, Nat.reduceLT, Nat.reduceLeDiff, Int.reduceLE, Int.reduceLT, Int.reduceEq, Int.reduceNeg, Int.reduceToNat, Int.reduceMul, Int.reduceAdd, Int.reduceSub, Int.reduceBEq, Int.reduceBNe, reduceCtorEq, RD, hM, hsl']
                refine hKr _ _ ?_
                clear hKr Kr
                try simp only [RN, reduceIte]
                try refine T_e rfl ?_
                refine T_csplit (p := ¬ bl st'.1 y = true) (by simp only [RA, ↓reduceIte, Nat.reduceEqDiff, Nat.reduceBEq, Nat.reduceSub, Nat.reduceAdd, Nat.reduceMul, Nat.reduceLT, Nat.reduceLeDiff, Int.reduceLE, Int.reduceLT, Int.reduceEq, Int.reduceNeg, Int.reduceToNat, Int.reduceMul, Int.reduceAdd, Int.reduceSub, Int.reduceBEq, Int.reduceBNe, reduceCtorEq] <;> rfl) (by (try simp only [RB]) <;> first | done | exact Iff.rfl | omega | simp) (fun hc => ?_) (fun hc => ?_) <;> (try simp only [RN, reduceIte]) <;> (try refine T_e rfl ?_)
                · refine T_rseq fun Kr hKr => ?_
                  simp (disch := omega) only [RA, ↓reduceIte, Nat.reduceEqDiff, Nat.reduceBEq, Nat.reduceSub, Nat.reduceAdd, Nat.reduceMul, Nat.reduceLT, Nat.reduceLeDiff, Int.reduceLE, Int.reduceLT, Int.reduceEq, Int.reduceNeg, Int.reduceToNat, Int.reduceMul, Int.reduceAdd, Int.reduceSub, Int.reduceBEq, Int.reduceBNe, reduceCtorEq, RD, hM, hsl']
                  refine hKr _ _ ?_
                  clear hKr Kr
                  try simp only [RN, reduceIte]
                  try refine T_e rfl ?_
                  refine T_rseq fun Kr hKr => ?_
                  simp (disch := omega) only [RA, ↓reduceIte, Nat.reduceEqDiff, Nat.reduceBEq, Nat.reduceSub, Nat.reduceAdd, Nat.reduceMul, Nat.reduceLT, Nat.reduceLeDiff, Int.reduceLE, Int.reduceLT, Int.reduceEq, Int.reduceNeg, Int.reduceToNat, Int.reduceMul, Int.reduceAdd, Int.reduceSub, Int.reduceBEq, Int.reduceBNe, reduceCtorEq, RD, hq, app1_64]
                  refine hKr _ _ ?_
                  clear hKr Kr
                  try simp only [RN, reduceIte]
                  try refine T_e rfl ?_
                  refine T_gh (Gh.nrm [0, 1, 4] rfl rfl (by simp only [RH])) ?_
                  refine hnext2 _ (st'.1.set y true, st'.2 ++ [y]) ?_ ?_ ?_ ?_ ?_ ?_ ?_ ?_ ?_
                  any_goals (simp (disch := omega) only [RA, ↓reduceIte, Nat.reduceEqDiff, RD, RE, *] <;> rfl)
                  rw [visit, if_neg hc]
                · try simp only [RN, reduceIte]
                  try refine T_e rfl ?_
                  refine hnext2 _ st' ?_ ?_ ?_ ?_ ?_ ?_ ?_ ?_ ?_
                  any_goals (simp (disch := omega) only [RA, ↓reduceIte, Nat.reduceEqDiff, Nat.reduceBEq, Nat.reduceSub, Nat.reduceAdd, Nat.reduceMul, Nat.reduceLT, Nat.reduceLeDiff, Int.reduceLE, Int.reduceLT, Int.reduceEq, Int.reduceNeg, Int.reduceToNat, Int.reduceMul, Int.reduceAdd, Int.reduceSub, Int.reduceBEq, Int.reduceBNe, reduceCtorEq, RD, RE, *] <;> rfl)
                  rw [visit, if_pos (by simpa using hc)]
              · refine hX2 _ _ ?_
                obtain rfl : j = ls.length := by omega
                have hst2 : st' = bfs ls (stX so.1 x) (k + 1) := by
                  rw [hst', bfs, hst, if_pos (by assumption), List.take_length]
                obtain ⟨w, hw⟩ := @round_pre (nl st.2 k) (ls.take ls.length) st
                have hlq : k + 1 ≤ st'.2.length := by rw [hst', hw]; simp; omega
                refine T_reg_k fun Kr hKr => ?_
                simp (disch := omega) only [RA, ↓reduceIte, Nat.reduceEqDiff, Nat.reduceBEq, Nat.reduceSub, Nat.reduceAdd, Nat.reduceMul, Nat.reduceLT, Nat.reduceLeDiff, Int.reduceLE, Int.reduceLT, Int.reduceEq, Int.reduceNeg, Int.reduceToNat, Int.reduceMul, Int.reduceAdd, Int.reduceSub, Int.reduceBEq, Int.reduceBNe, reduceCtorEq, RD, hk1]
                refine hKr _ _ ?_
                clear hKr Kr
                refine hN1 (32 - (k + 1)) _ _ _ _ (by omega) Gh.refl ⟨k + 1, st', by omega, rfl, hst2, hlq, ?_, ?_, ?_, ?_, ?_, ?_, ?_, rfl⟩
                any_goals (simp (disch := omega) only [RA, ↓reduceIte, Nat.reduceEqDiff, Nat.reduceBEq, Nat.reduceSub, Nat.reduceAdd, Nat.reduceMul, Nat.reduceLT, Nat.reduceLeDiff, Int.reduceLE, Int.reduceLT, Int.reduceEq, Int.reduceNeg, Int.reduceToNat, Int.reduceMul, Int.reduceAdd, Int.reduceSub, Int.reduceBEq, Int.reduceBNe, reduceCtorEq, RD, RE, *] <;> rfl)
          · refine hX1 _ _ ?_
            have hfin : bfs ls (stX so.1 x) 32 = st := by rw [bfs_stop (i := k) (by rw [hst]; omega) 32 hk, hst]
            refine T_reg_k fun Kr hKr => ?_
            simp (disch := omega) only [RA, ↓reduceIte, Nat.reduceEqDiff, Nat.reduceBEq, Nat.reduceSub, Nat.reduceAdd, Nat.reduceMul, Nat.reduceLT, Nat.reduceLeDiff, Int.reduceLE, Int.reduceLT, Int.reduceEq, Int.reduceNeg, Int.reduceToNat, Int.reduceMul, Int.reduceAdd, Int.reduceSub, Int.reduceBEq, Int.reduceBNe, reduceCtorEq, RD, hO, hq, app1_64]
            refine hKr _ _ ?_
            clear hKr Kr
            simp only [blkQ, thenQ, loopQ, if_true]
            refine T_gh (Gh.nrm [4, 1] rfl rfl (by simp only [RH])) ?_
            refine hnext _ (st.1, so.2 ++ [st.2.length]) ?_ ?_ ?_ ?_ ?_ ?_
            any_goals (simp (disch := omega) only [RA, ↓reduceIte, Nat.reduceEqDiff, RD, RE, *] <;> rfl)
            rw [orbK, hso, if_neg (by simp [hb]), hfin]
    · refine hX _ _ ?_
      obtain rfl : x = n := by omega
      refine T_rseq fun Kr hKr => ?_
      simp (disch := omega) only [RA, ↓reduceIte, Nat.reduceEqDiff, RD, hO]
      refine hKr _ _ ?_
      clear hKr Kr
      try simp only [RN, reduceIte]
      try refine T_e rfl ?_
      refine bodyQ_ret (by simp (disch := omega) only [RA, ↓reduceIte, Nat.reduceEqDiff, RD, resAll, resOf, hO]; rfl) (GhV.fz (i := 0) (by simp (disch := omega) only [RA, ↓reduceIte, Nat.reduceEqDiff, RD, hO]; rfl) (by simp only [RH])) ?_
      simp only [tup, frzT]
      rw [frz_all (by simp)]
      rw [hso] at hK
      exact ⟨NN.fz, hK⟩
theorem orbits_run {ls : List (List Nat)} {n : Nat} (hn : n ≤ 32) (hll : ls.length ≤ 1000) (hl : ∀ p ∈ ls, p.length = 32) (hl32 : ∀ p ∈ ls, ∀ i, nl p i < 32) :
    CallX false F_impl_orbits [I n, FPs 32 ls] [] fun v H1 => ∃ j, v = S j 0 (orbK ls n).2.length 1 ∧ blk H1 j = some ((orbK ls n).2.map N64) := by
  refine CallX_body Γ_impl_orbits ?_
  simp only [A_impl_orbits, T_aiff]
  refine T_rseq fun Kr hKr => ?_
  simp (disch := omega) only [RA, ↓reduceIte, Nat.reduceEqDiff, Nat.reduceBEq, Nat.reduceSub, Nat.reduceAdd, Nat.reduceMul, Nat.reduceLT, Nat.reduceLeDiff, Int.reduceLE, Int.reduceLT, Int.reduceEq, Int.reduceNeg, Int.reduceToNat, Int.reduceMul, Int.reduceAdd, Int.reduceSub, Int.reduceBEq, Int.reduceBNe, reduceCtorEq, RD]
  refine hKr _ _ ?_
  clear hKr Kr
  try simp only [RN, reduceIte]
  try refine T_e rfl ?_
  refine T_rseq fun Kr hKr => ?_
  simp (disch := omega) only [RA, ↓reduceIte, Nat.reduceEqDiff, Nat.reduceBEq, Nat.reduceSub, Nat.reduceAdd, Nat.reduceMul, Nat.reduceLT, Nat.reduceLeDiff, Int.reduceLE, Int.reduceLT, Int.reduceEq, Int.reduceNeg, Int.reduceToNat, Int.reduceMul, Int.reduceAdd, Int.reduceSub, Int.reduceBEq, Int.reduceBNe, reduceCtorEq, RD]
  refine hKr _ _ ?_
  clear hKr Kr
  try simp only [RN, reduceIte]
  try refine T_e rfl ?_
  refine T_rseq fun Kr hKr => ?_
  simp (disch := omega) only [RA, ↓reduceIte, Nat.reduceEqDiff, Nat.reduceBEq, Nat.reduceSub, Nat.reduceAdd, Nat.reduceMul, Nat.reduceLT, Nat.reduceLeDiff, Int.reduceLE, Int.reduceLT, Int.reduceEq, Int.reduceNeg, Int.reduceToNat, Int.reduceMul, Int.reduceAdd, Int.reduceSub, Int.reduceBEq, Int.reduceBNe, reduceCtorEq, RD]
  refine hKr _ _ ?_
  clear hKr Kr
  try simp only [RN, reduceIte]
  try refine T_e rfl ?_
  refine T_rseq fun Kr hKr => ?_
  simp (disch := omega) only [RA, ↓reduceIte, Nat.reduceEqDiff, Nat.reduceBEq, Nat.reduceSub, Nat.reduceAdd, Nat.reduceMul, Nat.reduceLT, Nat.reduceLeDiff, Int.reduceLE, Int.reduceLT, Int.reduceEq, Int.reduceNeg, Int.reduceToNat, Int.reduceMul, Int.reduceAdd, Int.reduceSub, Int.reduceBEq, Int.reduceBNe, reduceCtorEq, RD]
  refine hKr _ _ ?_
  clear hKr Kr
  try simp only [RN, reduceIte]
  try refine T_e rfl ?_
  refine T_wloop (fun m f H' => ∃ x so, x ≤ n ∧ m = n - x ∧ so = orbK ls x ∧ f 1 = FPs 32 ls ∧ f 15 = I n ∧ f 5 = P 0 0 ∧ f 6 = S 1 0 so.2.length 1 ∧ f 16 = I x ∧ H' = [some (so.1.map B), some (so.2.map N64)]) (n) ?_ ?_
  · refine ⟨_, _, Gh.refl, 0, (List.replicate 32 false, []), by omega, by omega, rfl, ?_, ?_, ?_, ?_, ?_, by simp⟩
    any_goals (simp (disch := omega) only [RA, ↓reduceIte, Nat.reduceEqDiff, RD, RE, *] <;> rfl)
  · rintro m f H' R ⟨x, so, hx, rfl, hso, hL, hN0, hM, hO, hx1, rfl⟩ hN hX hR hE
    simp only [A_impl_orbits.l2, T_aiff]
    obtain ⟨hsl, hol⟩ := orbK_ok hl32 (show x ≤ 32 by omega)
    rw [← hso] at hsl hol
    replace hso := hso.symm
    refine T_rseq fun Kr hKr => ?_
    simp (disch := omega) only [RA, ↓reduceIte, Nat.reduceEqDiff, RD, hN0, hx1]
    refine hKr _ _ ?_
    clear hKr Kr
    try simp only [RN, reduceIte]
    try refine T_e rfl ?_
    refine T_csplit (p := x < n) (by simp only [RA, ↓reduceIte, Nat.reduceEqDiff] <;> rfl) (by (try simp only [RB]) <;> first | done | exact Iff.rfl | omega | simp) (fun hc => ?_) (fun hc => ?_) <;> (try simp only [RN, reduceIte]) <;> (try refine T_e rfl ?_)
    · have hnext : ∀ f' so', f' 1 = FPs 32 ls → f' 15 = I n → f' 5 = P 0 0 → f' 6 = S 1 0 so'.2.length 1 → f' 16 = I x → so' = orbK ls (x + 1) → T 0 A_impl_orbits.r21 R f' [some (so'.1.map B), some (so'.2.map N64)] := by
        intro f' so' hL hN0 hM hO hx1 hs
        refine T_reg_k fun Kr hKr => ?_
        simp (disch := omega) only [RA, ↓reduceIte, Nat.reduceEqDiff, RD, hx1]
        refine hKr _ _ ?_
        clear hKr Kr
        refine hN (n - (x + 1)) _ _ _ _ (by omega) Gh.refl ⟨x + 1, so', by omega, rfl, hs, ?_, ?_, ?_, ?_, ?_, rfl⟩
        any_goals (simp (disch := omega) only [RA, ↓reduceIte, Nat.reduceEqDiff, RD, RE, *] <;> rfl)
      refine T_seq (T_block ?_)
      try simp only [RN, reduceIte]
      try refine T_e rfl ?_
      refine T_rseq fun Kr hKr => ?_
      simp (disch := omega) only [RA, ↓reduceIte, Nat.reduceEqDiff, Nat.reduceBEq, Nat.reduceSub, Nat.reduceAdd, Nat.reduceMul, Nat.reduceLT, Nat.reduceLeDiff, Int.reduceLE, Int.reduceLT, Int.reduceEq, Int.reduceNeg, Int.reduceToNat, Int.reduceMul, Int.reduceAdd, Int.reduceSub, Int.reduceBEq, Int.reduceBNe, reduceCtorEq, RD, hx1]
      refine hKr _ _ ?_
      clear hKr Kr
      try simp only [RN, reduceIte]
      try refine T_e rfl ?_
      refine T_rseq fun Kr hKr => ?_
      simp (disch := omega) only [RA, ↓reduceIte, Nat.reduceEqDiff, Nat.reduceBEq, Nat.reduceSub, Nat.reduceAdd, Nat.reduceMul, Nat.reduceLT, Nat.reduceLeDiff, Int.reduceLE, Int.reduceLT, Int.reduceEq, Int.reduceNeg, Int.reduceToNat, Int.reduceMul, Int.reduceAdd, Int.reduceSub, Int.reduceBEq, Int.reduceBNe, reduceCtorEq, RD, hM, hx1, hsl]
      refine hKr _ _ ?_
      clear hKr Kr
      try simp only [RN, reduceIte]
      try refine T_e rfl ?_
      refine T_csplit (p := bl so.1 x = true) (by simp only [RA, ↓reduceIte, Nat.reduceEqDiff, Nat.reduceAdd, Nat.reduceMul, Int.reduceToNat, Nat.reduceLT, reduceCtorEq] <;> rfl) (by (try simp only [RB]) <;> first | done | exact Iff.rfl | omega | simp) (fun hc => ?_) (fun hc => ?_) <;> (try simp only [RN, reduceIte]) <;> (try refine T_e rfl ?_)
      · simp only [blkQ, thenQ, loopQ, if_true]
        refine hnext _ so ?_ ?_ ?_ ?_ ?_ (by rw [orbK, hso, if_pos hc])
        any_goals (simp (disch := omega) only [RA, ↓reduceIte, Nat.reduceEqDiff, Nat.reduceBEq, Nat.reduceSub, Nat.reduceAdd, Nat.reduceMul, Nat.reduceLT, Nat.reduceLeDiff, Int.reduceLE, Int.reduceLT, Int.reduceEq, Int.reduceNeg, Int.reduceToNat, Int.reduceMul, Int.reduceAdd, Int.reduceSub, Int.reduceBEq, Int.reduceBNe, reduceCtorEq, RD, RE, *] <;> rfl)
      · have hb : bl so.1 x = false := by simpa using hc
        have hB0 := Bi.stX hsl (show x < 32 by omega) hb
        refine T_rseq fun Kr hKr => ?_
        simp (disch := omega) only [RA, ↓reduceIte, Nat.reduceEqDiff, Nat.reduceBEq, Nat.reduceSub, Nat.reduceAdd, Nat.reduceMul, Nat.reduceLT, Nat.reduceLeDiff, Int.reduceLE, Int.reduceLT, Int.reduceEq, Int.reduceNeg, Int.reduceToNat, Int.reduceMul, Int.reduceAdd, Int.reduceSub, Int.reduceBEq, Int.reduceBNe, reduceCtorEq, RD, hM, hx1, hsl]
        refine hKr _ _ ?_
        clear hKr Kr
        try simp only [RN, reduceIte]
        try refine T_e rfl ?_
        refine T_rseq fun Kr hKr => ?_
        simp (disch := omega) only [RA, ↓reduceIte, Nat.reduceEqDiff, Nat.reduceBEq, Nat.reduceSub, Nat.reduceAdd, Nat.reduceMul, Nat.reduceLT, Nat.reduceLeDiff, Int.reduceLE, Int.reduceLT, Int.reduceEq, Int.reduceNeg, Int.reduceToNat, Int.reduceMul, Int.reduceAdd, Int.reduceSub, Int.reduceBEq, Int.reduceBNe, reduceCtorEq, RD, hx1]
        refine hKr _ _ ?_
        clear hKr Kr
        try simp only [RN, reduceIte]
        try refine T_e rfl ?_
        refine T_rseq fun Kr hKr => ?_
        simp (disch := omega) only [RA, ↓reduceIte, Nat.reduceEqDiff, Nat.reduceBEq, Nat.reduceSub, Nat.reduceAdd, Nat.reduceMul, Nat.reduceLT, Nat.reduceLeDiff, Int.reduceLE, Int.reduceLT, Int.reduceEq, Int.reduceNeg, Int.reduceToNat, Int.reduceMul, Int.reduceAdd, Int.reduceSub, Int.reduceBEq, Int.reduceBNe, reduceCtorEq, RD]
        refine hKr _ _ ?_
        clear hKr Kr
        try simp only [RN, reduceIte]
        try refine T_e rfl ?_
        refine T_wloop (fun m f H' => ∃ k st, k ≤ 32 ∧ m = 32 - k ∧ st = bfs ls (stX so.1 x) k ∧ k ≤ st.2.length ∧ f 1 = FPs 32 ls ∧ f 15 = I n ∧ f 5 = P 0 0 ∧ f 6 = S 1 0 so.2.length 1 ∧ f 16 = I x ∧ f 8 = S 2 0 st.2.length 1 ∧ f 9 = I k ∧ H' = [some (st.1.map B), some (so.2.map N64), some (st.2.map N8)]) (32) ?_ ?_
        · refine ⟨_, _, Gh.refl, 0, stX so.1 x, by omega, by omega, rfl, Nat.zero_le _, ?_, ?_, ?_, ?_, ?_, ?_, ?_, by simp [stX]⟩
          any_goals (simp (disch := omega) only [RA, ↓reduceIte, Nat.reduceEqDiff, RD, RE, *] <;> rfl)
        · clear hL hN0 hM hO hx1
          rintro m f H' R1 ⟨k, st, hk, rfl, hst, hkl, hL, hN0, hM, hO, hx1, hq, hk1, rfl⟩ hN1 hX1 hR1 hE1
          simp only [A_impl_orbits.l1, T_aiff]
          have hB := hB0.bfs hl32 k
          rw [← hst] at hB
          replace hst := hst.symm
          have hle := hB.le
          have hsl1 := hB.len
          refine T_rseq fun Kr hKr => ?_
          simp (disch := omega) only [RA, ↓reduceIte, Nat.reduceEqDiff, RD, hq, hk1]
          refine hKr _ _ ?_
          clear hKr Kr
          try simp only [RN, reduceIte]
          try refine T_e rfl ?_
          refine T_csplit (p := k < st.2.length) (by simp only [RA, ↓reduceIte, Nat.reduceEqDiff] <;> rfl) (by (try simp only [RB]) <;> first | done | exact Iff.rfl | omega | simp) (fun hc => ?_) (fun hc => ?_) <;> (try simp only [RN, reduceIte]) <;> (try refine T_e rfl ?_)
          · have hxk := hB.lt k hc
            first | refine T_bfree rfl ?_ | refine T_bfree' rfl ?_
            try simp only [RN, reduceIte]
            try refine T_e rfl ?_
            refine T_rseq fun Kr hKr => ?_
            simp (disch := omega) only [RA, ↓reduceIte, Nat.reduceEqDiff, RD, hL]
            refine hKr _ _ ?_
            clear hKr Kr
            try simp only [RN, reduceIte]
            try refine T_e rfl ?_
            refine T_wloop (fun m f H' => ∃ j st', j ≤ ls.length ∧ m = ls.length - j ∧ st' = roundX (ls.take j) (nl st.2 k) st ∧ f 1 = FPs 32 ls ∧ f 15 = I n ∧ f 5 = P 0 0 ∧ f 6 = S 1 0 so.2.length 1 ∧ f 16 = I x ∧ f 8 = S 2 0 st'.2.length 1 ∧ f 9 = I k ∧ f 35 = I j ∧ f 33 = FPs 32 ls ∧ f 34 = I ls.length ∧ H' = [some (st'.1.map B), some (so.2.map N64), some (st'.2.map N8)]) (ls.length) ?_ ?_
            · refine ⟨_, _, Gh.refl, 0, st, by omega, by omega, rfl, ?_, ?_, ?_, ?_, ?_, ?_, ?_, ?_, ?_, ?_, rfl⟩
              any_goals (simp (disch := omega) only [RA, ↓reduceIte, Nat.reduceEqDiff, RD, RE, *] <;> rfl)
            · clear hL hN0 hM hO hx1 hq hk1
              rintro m f H' R2 ⟨j, st', hj, rfl, hst', hL, hN0, hM, hO, hx1, hq, hk1, hj1, hL2, hLl, rfl⟩ hN2 hX2 hR2 hE2
              simp only [A_impl_orbits.l0, T_aiff]
              refine T_rseq fun Kr hKr => ?_
              simp (disch := omega) only [RA, ↓reduceIte, Nat.reduceEqDiff, RD, hL, hj1, hLl]
              refine hKr _ _ ?_
              clear hKr Kr
              try simp only [RN, reduceIte]
              try refine T_e rfl ?_
              have hB' : Bi 32 st' := by rw [hst']; exact hB.round fun p hp => hl32 p (List.mem_of_mem_take hp) _
              have hle' := hB'.le
              have hsl' := hB'.len
              refine T_csplit (p := j < ls.length) (by simp only [RA, ↓reduceIte, Nat.reduceEqDiff, Nat.reduceBEq, Nat.reduceSub, Nat.reduceAdd, Nat.reduceMul, Nat.reduceLT, Nat.reduceLeDiff, Int.reduceLE, Int.reduceLT, Int.reduceEq, Int.reduceNeg, Int.reduceToNat, Int.reduceMul, Int.reduceAdd, Int.reduceSub, Int.reduceBEq, Int.reduceBNe, reduceCtorEq] <;> rfl) (by (try simp only [RB]) <;> first | done | exact Iff.rfl | omega | simp) (fun hc => ?_) (fun hc => ?_) <;> (try simp only [RN, reduceIte]) <;> (try refine T_e rfl ?_)
              · obtain ⟨w, hw⟩ := @round_pre (nl st.2 k) (ls.take j) st
                rw [← hst'] at hw
                have hxi : nl st'.2 k = nl st.2 k := by rw [hw, nl_append, if_pos (by assumption)]
                have hil' : k < st'.2.length := by rw [hw]; simp; omega
                have hnx := round_take (ls := ls) (x := nl st.2 k) (st := st) hc
                rw [← hst'] at hnx
                have hpl := hl _ (getD_mem (d := []) hc)
                have hyl := hl32 _ (getD_mem (d := []) hc) (nl st.2 k)
                obtain ⟨pj, hpj⟩ : ∃ pj, ls.getD j [] = pj := ⟨_, rfl⟩
                rw [hpj] at hnx hpl hyl
                obtain ⟨y, hyd⟩ : ∃ y, nl pj (nl st.2 k) = y := ⟨_, rfl⟩
                rw [hyd] at hyl hnx
                have hgp := getN_FP1 (m := 32) (y := nl st.2 k) hl hc hxk
                rw [hpj, hyd] at hgp
                have hnext2 : ∀ f' st2, f' 1 = FPs 32 ls → f' 15 = I n → f' 5 = P 0 0 → f' 6 = S 1 0 so.2.length 1 → f' 16 = I x → f' 8 = S 2 0 st2.2.length 1 → f' 9 = I k → f' 35 = I j → f' 33 = FPs 32 ls → f' 34 = I ls.length → st2 = visit st' y → T 0 A_impl_orbits.r19 R2 f' [some (st2.1.map B), some (so.2.map N64), some (st2.2.map N8)] := by
                  intro f' st2 hL hN0 hM hO hx1 hq hk1 hj1 hL2 hLl hs2
                  refine T_reg_k fun Kr hKr => ?_
                  simp (disch := omega) only [RA, ↓reduceIte, Nat.reduceEqDiff, Nat.reduceBEq, Nat.reduceSub, Nat.reduceAdd, Nat.reduceMul, Nat.reduceLT, Nat.reduceLeDiff, Int.reduceLE, Int.reduceLT, Int.reduceEq, Int.reduceNeg, Int.reduceToNat, Int.reduceMul, Int.reduceAdd, Int.reduceSub, Int.reduceBEq, Int.reduceBNe, reduceCtorEq, RD, hj1]
                  refine hKr _ _ ?_
                  clear hKr Kr
                  refine hN2 (ls.length - (j + 1)) _ _ _ _ (by omega) Gh.refl ⟨j + 1, st2, by omega, rfl, by rw [hnx, hs2], ?_, ?_, ?_, ?_, ?_, ?_, ?_, ?_, ?_, ?_, rfl⟩
                  any_goals (simp (disch := omega) only [RA, ↓reduceIte, Nat.reduceEqDiff, Nat.reduceBEq, Nat.reduceSub, Nat.reduceAdd, Nat.reduceMul, Nat.reduceLT, Nat.reduceLeDiff, Int.reduceLE, Int.reduceLT, Int.reduceEq, Int.reduceNeg, Int.reduceToNat, Int.reduceMul, Int.reduceAdd, Int.reduceSub, Int.reduceBEq, Int.reduceBNe, reduceCtorEq, RD, RE, *] <;> rfl)
                first | refine T_bfree rfl ?_ | refine T_bfree' rfl ?_
                try simp only [RN, reduceIte]
                try refine T_e rfl ?_
                refine T_rseq fun Kr hKr => ?_
                simp (disch := omega) only [RA, ↓reduceIte, Nat.reduceEqDiff, Nat.reduceBEq, Nat.reduceSub, Nat.reduceAdd, Nat.reduceMul, Nat.reduceLT, Nat.reduceLeDiff, Int.reduceLE, Int.reduceLT, Int.reduceEq, Int.reduceNeg, Int.reduceToNat, Int.reduceMul, Int.reduceAdd, Int.reduceSub, Int.reduceBEq, Int.reduceBNe, reduceCtorEq, RD, hL2, hj1, getN_FP hl hc, hpj]
                refine hKr _ _ ?_
                clear hKr Kr
                try simp only [RN, reduceIte]
                try refine T_e rfl ?_
                refine T_rseq fun Kr hKr => ?_
                simp (disch := omega) only [RA, ↓reduceIte, Nat.reduceEqDiff, RD, hq, hk1, hxi, hpl, hyd]
                refine hKr _ _ ?_
                clear hKr Kr
                try simp only [RN, reduceIte]
                try refine T_e rfl ?_
                refine T_rseq fun Kr hKr => ?_
                simp (disch := omega) only [RA, ↓reduceIte, Nat.reduceEqDiff, Nat.reduceBEq, Nat.reduceSub, Nat.reduceAdd, Nat.reduceMul, Nat.reduceLT, Nat.reduceLeDiff, Int.reduceLE, Int.reduceLT, Int.reduceEq, Int.reduceNeg, Int.reduceToNat, Int.reduceMul, Int.reduceAdd, Int.reduceSub, Int.reduceBEq, Int.reduceBNe, reduceCtorEq, RD, hM, hsl']
                refine hKr _ _ ?_
                clear hKr Kr
                try simp only [RN, reduceIte]
                try refine T_e rfl ?_
                refine T_csplit (p := ¬ bl st'.1 y = true) (by simp only [RA, ↓reduceIte, Nat.reduceEqDiff, Nat.reduceBEq, Nat.reduceSub, Nat.reduceAdd, Nat.reduceMul, Nat.reduceLT, Nat.reduceLeDiff, Int.reduceLE, Int.reduceLT, Int.reduceEq, Int.reduceNeg, Int.reduceToNat, Int.reduceMul, Int.reduceAdd, Int.reduceSub, Int.reduceBEq, Int.reduceBNe, reduceCtorEq] <;> rfl) (by (try simp only [RB]) <;> first | done | exact Iff.rfl | omega | simp) (fun hc => ?_) (fun hc => ?_) <;> (try simp only [RN, reduceIte]) <;> (try refine T_e rfl ?_)
                · refine T_rseq fun Kr hKr => ?_
                  simp (disch := omega) only [RA, ↓reduceIte, Nat.reduceEqDiff, Nat.reduceBEq, Nat.reduceSub, Nat.reduceAdd, Nat.reduceMul, Nat.reduceLT, Nat.reduceLeDiff, Int.reduceLE, Int.reduceLT, Int.reduceEq, Int.reduceNeg, Int.reduceToNat, Int.reduceMul, Int.reduceAdd, Int.reduceSub, Int.reduceBEq, Int.reduceBNe, reduceCtorEq, RD, hM, hsl']
                  refine hKr _ _ ?_
                  clear hKr Kr
                  try simp only [RN, reduceIte]
                  try refine T_e rfl ?_
                  refine T_rseq fun Kr hKr => ?_
                  simp (disch := omega) only [RA, ↓reduceIte, Nat.reduceEqDiff, Nat.reduceBEq, Nat.reduceSub, Nat.reduceAdd, Nat.reduceMul, Nat.reduceLT, Nat.reduceLeDiff, Int.reduceLE, Int.reduceLT, Int.reduceEq, Int.reduceNeg, Int.reduceToNat, Int.reduceMul, Int.reduceAdd, Int.reduceSub, Int.reduceBEq, Int.reduceBNe, reduceCtorEq, RD, hq]
                  refine hKr _ _ ?_
                  clear hKr Kr
                  try simp only [RN, reduceIte]
                  try refine T_e rfl ?_
                  refine T_gh (Gh.nrm [0, 1, 5] rfl rfl (by simp only [RH])) ?_
                  refine hnext2 _ (st'.1.set y true, st'.2 ++ [y]) ?_ ?_ ?_ ?_ ?_ ?_ ?_ ?_ ?_ ?_ ?_
                  any_goals (simp (disch := omega) only [RA, ↓reduceIte, Nat.reduceEqDiff, RD, RE, *] <;> rfl)
                  rw [visit, if_neg hc]
                · try simp only [RN, reduceIte]
                  try refine T_e rfl ?_
                  refine T_gh (Gh.nrm [0, 1, 2] rfl rfl (by simp only [RH])) ?_
                  refine hnext2 _ st' ?_ ?_ ?_ ?_ ?_ ?_ ?_ ?_ ?_ ?_ ?_
                  any_goals (simp (disch := omega) only [RA, ↓reduceIte, Nat.reduceEqDiff, Nat.reduceBEq, Nat.reduceSub, Nat.reduceAdd, Nat.reduceMul, Nat.reduceLT, Nat.reduceLeDiff, Int.reduceLE, Int.reduceLT, Int.reduceEq, Int.reduceNeg, Int.reduceToNat, Int.reduceMul, Int.reduceAdd, Int.reduceSub, Int.reduceBEq, Int.reduceBNe, reduceCtorEq, RD, RE, *] <;> rfl)
                  rw [visit, if_pos (by simpa using hc)]
              · refine hX2 _ _ ?_
                obtain rfl : j = ls.length := by omega
                have hst2 : st' = bfs ls (stX so.1 x) (k + 1) := by
                  rw [hst', bfs, hst, if_pos (by assumption), List.take_length]
                obtain ⟨w, hw⟩ := @round_pre (nl st.2 k) (ls.take ls.length) st
                have hlq : k + 1 ≤ st'.2.length := by rw [hst', hw]; simp; omega
                refine T_reg_k fun Kr hKr => ?_
                simp (disch := omega) only [RA, ↓reduceIte, Nat.reduceEqDiff, Nat.reduceBEq, Nat.reduceSub, Nat.reduceAdd, Nat.reduceMul, Nat.reduceLT, Nat.reduceLeDiff, Int.reduceLE, Int.reduceLT, Int.reduceEq, Int.reduceNeg, Int.reduceToNat, Int.reduceMul, Int.reduceAdd, Int.reduceSub, Int.reduceBEq, Int.reduceBNe, reduceCtorEq, RD, hk1]
                refine hKr _ _ ?_
                clear hKr Kr
                refine hN1 (32 - (k + 1)) _ _ _ _ (by omega) Gh.refl ⟨k + 1, st', by omega, rfl, hst2, hlq, ?_, ?_, ?_, ?_, ?_, ?_, ?_, rfl⟩
                any_goals (simp (disch := omega) only [RA, ↓reduceIte, Nat.reduceEqDiff, Nat.reduceBEq, Nat.reduceSub, Nat.reduceAdd, Nat.reduceMul, Nat.reduceLT, Nat.reduceLeDiff, Int.reduceLE, Int.reduceLT, Int.reduceEq, Int.reduceNeg, Int.reduceToNat, Int.reduceMul, Int.reduceAdd, Int.reduceSub, Int.reduceBEq, Int.reduceBNe, reduceCtorEq, RD, RE, *] <;> rfl)
          · refine hX1 _ _ ?_
            have hfin : bfs ls (stX so.1 x) 32 = st := by rw [bfs_stop (i := k) (by rw [hst]; omega) 32 hk, hst]
            refine T_reg_k fun Kr hKr => ?_
            simp (disch := omega) only [RA, ↓reduceIte, Nat.reduceEqDiff, Nat.reduceBEq, Nat.reduceSub, Nat.reduceAdd, Nat.reduceMul, Nat.reduceLT, Nat.reduceLeDiff, Int.reduceLE, Int.reduceLT, Int.reduceEq, Int.reduceNeg, Int.reduceToNat, Int.reduceMul, Int.reduceAdd, Int.reduceSub, Int.reduceBEq, Int.reduceBNe, reduceCtorEq, RD, hO, hq, app1_64]
            refine hKr _ _ ?_
            clear hKr Kr
            simp only [blkQ, thenQ, loopQ, if_true]
            refine T_gh (Gh.nrm [0, 4] rfl rfl (by simp only [RH])) ?_
            refine hnext _ (st.1, so.2 ++ [st.2.length]) ?_ ?_ ?_ ?_ ?_ ?_
            any_goals (simp (disch := omega) only [RA, ↓reduceIte, Nat.reduceEqDiff, RD, RE, *] <;> rfl)
            rw [orbK, hso, if_neg (by simp [hb]), hfin]
    · refine hX _ _ ?_
      obtain rfl : x = n := by omega
      refine T_rseq fun Kr hKr => ?_
      simp (disch := omega) only [RA, ↓reduceIte, Nat.reduceEqDiff, RD, hO]
      refine hKr _ _ ?_
      clear hKr Kr
      try simp only [RN, reduceIte]
      try refine T_e rfl ?_
      refine bodyQ_ret (by simp (disch := omega) only [RA, ↓reduceIte, Nat.reduceEqDiff, RD, resAll, resOf, hO]; rfl) GhV.refl ?_
      simp only [tup]
      rw [hso]
      exact ⟨1, rfl, rfl⟩
theorem orbits_spec {x : Bool} {ls : List (List Nat)} {n : Nat} {H : BH} {K : Value → BH → Prop} (hn : n ≤ 32) (hll : ls.length ≤ 1000) (hl : ∀ p ∈ ls, p.length = 32) (hl32 : ∀ p ∈ ls, ∀ i, nl p i < 32)
    (hK : K (Fz (orbK ls n).2.length 1 ((orbK ls n).2.map N64)) H) : CallX x F_impl_orbits [I n, FPs 32 ls] H K :=
  callRZ (by (simp only [RH])) (by (simp only [RH])) (by simp) (orbits_run hn hll hl hl32) hK
theorem orbits_own {x : Bool} {ls : List (List Nat)} {n : Nat} {H : BH} {K : Value → BH → Prop} (hn : n ≤ 32) (hll : ls.length ≤ 1000) (hl : ∀ p ∈ ls, p.length = 32) (hl32 : ∀ p ∈ ls, ∀ i, nl p i < 32)
    (hK : K (S H.length 0 (orbK ls n).2.length 1) (H ++ [some ((orbK ls n).2.map N64)])) : CallX x F_impl_orbits [I n, FPs 32 ls] H K :=
  callRO (by (simp only [RH])) (by (simp only [RH])) (orbits_run hn hll hl hl32) hK
end Go.Bm
