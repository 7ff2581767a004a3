/- Words of trees: the reference's and the program's. -/
import Derived.Test.YtbbgifoamnjhoaaDpTb
set_option linter.unusedVariables false
set_option linter.unusedSimpArgs false
namespace Go.Bm
open Go Go.Am

theorem sbin_same {a : ByteArray} : aSbin .neq (.string a) (.string a) = some (.bool false) := by simp [aSbin]
theorem NNs {l : List UInt8} : NN (.string (bs l)) := NN.string
theorem sum1 {d t : List UInt8} (h : d.length + t.length + 2 ≤ 9223372036854775807) :
    aSbin .add (.string (bs d)) (.string ⟨#[40]⟩) = some (.string (bs (d ++ [40]))) ∧ aSbin .add (.string (bs (d ++ [40]))) (.string (bs t)) = some (.string (bs (d ++ [40] ++ t))) ∧
    aSbin .add (.string (bs (d ++ [40] ++ t))) (.string ⟨#[41]⟩) = some (.string (bs (d ++ (40 :: (t ++ [41]))))) := by
  refine ⟨by rw [bs40]; exact sbin_add (by simp; omega), sbin_add (by simp; omega), ?_⟩
  rw [bs41, sbin_add (by simp; omega)]
  simp
theorem sum2 {d t : List UInt8} (h : d.length + t.length + 2 ≤ 9223372036854775807) :
    aSbin .add (.string ⟨#[40]⟩) (.string (bs t)) = some (.string (bs (40 :: t))) ∧ aSbin .add (.string (bs (40 :: t))) (.string ⟨#[41]⟩) = some (.string (bs (40 :: (t ++ [41])))) ∧
    aSbin .add (.string (bs d)) (.string (bs (40 :: (t ++ [41])))) = some (.string (bs (d ++ (40 :: (t ++ [41]))))) := by
  refine ⟨by rw [bs40]; exact sbin_add (by simp; omega), ?_, sbin_add (by simp; omega)⟩
  rw [bs41, sbin_add (by simp; omega)]
  simp
theorem mapM_cons_inv {α β : Type} {f : α → Option β} {a : α} {l : List α} {ts : List β} (h : (a :: l).mapM f = some ts) : ∃ t r, f a = some t ∧ l.mapM f = some r ∧ ts = t :: r := by
  rw [List.mapM_cons] at h
  simp only [Option.pure_def, Option.bind_eq_bind, Option.bind_eq_some_iff, Option.some.injEq] at h
  obtain ⟨s, hs, ts', hts, rfl⟩ := h
  exact ⟨s, ts', hs, hts, rfl⟩
theorem rng_step {p : List Nat} {x y k : Nat} (h : y ≠ x) (hk : 0 < k) : rng p x k y = y :: rng p x (k - 1) (nl p y) := by
  obtain ⟨k, rfl⟩ : ∃ j, k = j + 1 := ⟨k - 1, by omega⟩
  rw [rng, if_neg h, Nat.add_sub_cancel]
theorem rng_end {p : List Nat} {x k : Nat} : rng p x k x = [] := by
  cases k with
  | zero => rfl
  | succ k => rw [rng, if_pos rfl]
theorem st_NN {H : BH} {i : Nat} {b w : List Nat} (hb : b.length = 16) (hw : w.length = 16) : stO (some (b.map N8)) H i 0 16 (PL w) = some (undef, H.set i (some (w.map N8))) := by
  rw [st_N (by simpa using hw) (by simp [hb]), splice_full (by simp [hb, hw])]
section
variable {b w : List Nat} {n : Nat}
theorem pc_by (hb : By 16 b) (hw : By 16 w) (c : Bool) : By 16 (pc b w c) := by cases c; exact hb; exact hw
theorem pc_perm (hd : Des n b w) (c : Bool) : Perm (pc b w c) n := by cases c; exact hd.1; exact hd.2.1
theorem l05Below_spec (hb : By 16 b) (hw : By 16 w) (hd : Des n b w) : ∀ (k : Nat) {x0 : Bool} {c : Bool} {x : Nat} {s : List UInt8} {H : BH} {K : Value → BH → Prop}, x < n → wrd b w k c x = some s → s.length ≤ 9000000000000000000 →
    K (.string (bs s)) H → CallX x0 F_spec_l05Below [DV n b w, I x, .bool c] H K := by
  have hlb := hb.len
  have hlw := hw.len
  have hn := hd.1.1
  intro k
  induction k with
  | zero => intro x0 c x s H K hx hs; simp [wrd] at hs
  | succ k ih =>
    intro x0 c x s H K hx hs hsl hK
    rw [wrd, Option.map_eq_some_iff] at hs
    obtain ⟨ts, hts, rfl⟩ := hs
    have hp := pc_perm hd c
    have hpl := (pc_by hb hw c).len
    obtain ⟨P0, hP, hPx⟩ := it_back hp hx
    refine callP (.cons nn_D (.cons .int (.cons .bool .nil))) ?_
    refine CallX_body Γ_spec_l05Below ?_
    simp only [A_spec_l05Below, T_aiff]
    refine T_rseq fun Kr hKr => ?_
    simp (disch := omega) only [RA, ↓reduceIte, Nat.reduceEqDiff, RD, RDS]
    refine hKr _ _ ?_
    clear hKr Kr
    try simp only [RN, reduceIte]
    try refine T_e rfl ?_
    refine T_rseq fun Kr hKr => ?_
    simp (disch := omega) only [RA, ↓reduceIte, Nat.reduceEqDiff, RD]
    refine hKr _ _ ?_
    clear hKr Kr
    try simp only [RN, reduceIte]
    try refine T_e rfl ?_
    refine T_rseq fun Kr hKr => ?_
    simp (disch := omega) only [RA, ↓reduceIte, Nat.reduceEqDiff, RD, RDS, RDD]
    refine hKr _ _ ?_
    clear hKr Kr
    try simp only [RN, reduceIte]
    try refine T_e rfl ?_
    have hmain : ∀ f', f' 1 = I x → f' 2 = .bool c → f' 3 = P 0 0 → f' 7 = .string (bs []) → f' 8 = P 1 0 →
        T 0 (.seq A_spec_l05Below.r5 (.seq (.block 0 (.loop A_spec_l05Below.l0)) (.seq A_spec_l05Below.r9 .ret))) (bodyQ 0 [.tmp 6] fun v _ => NN v ∧ K v H) f' [some (DC n b w), some ((pc b w c).map N8)] := by
      intro f' g1 g2 g3 g7 g8
      have hpx := hp.lt hx
      refine T_rseq fun Kr hKr => ?_
      simp (disch := omega) only [RA, ↓reduceIte, Nat.reduceEqDiff, RD, g1, g8, hpl]
      refine hKr _ _ ?_
      clear hKr Kr
      try simp only [RN, reduceIte]
      try refine T_e rfl ?_
      refine T_wloop (fun m f H' => ∃ i y d rm, i ≤ P0 ∧ m = P0 - i ∧ y = it (pc b w c) x i ∧ (rng (pc b w c) x (16 - i) y).mapM (wrd b w k (!c)) = some rm ∧ ts = d ++ rm ∧ f 1 = I x ∧ f 2 = .bool c ∧ f 3 = P 0 0 ∧ f 7 = .string (bs (catB d)) ∧ f 8 = P 1 0 ∧ f 9 = I y ∧ H' = [some (DC n b w), some ((pc b w c).map N8)]) (P0) ?_ ?_
      · refine ⟨_, _, Gh.refl, 0, nl (pc b w c) x, [], ts, by omega, by omega, rfl, hts, rfl, ?_, ?_, ?_, ?_, ?_, ?_, rfl⟩
        any_goals (simp (disch := omega) only [RA, ↓reduceIte, Nat.reduceEqDiff, RD, RE, *] <;> rfl)
      · clear g1 g2 g3 g7 g8
        rintro m f H' R ⟨i, y, d, rm, hi, rfl, hy, hrm, hd', g1, g2, g3, g7, g8, g9, rfl⟩ hN hX hR hE
        simp only [A_spec_l05Below.l0, T_aiff]
        have hyn : y < n := by rw [hy]; exact it_lt hp hx i
        have hpy := hp.lt hyn
        refine T_rseq fun Kr hKr => ?_
        simp (disch := omega) only [RA, ↓reduceIte, Nat.reduceEqDiff, RD, g1, g9]
        refine hKr _ _ ?_
        clear hKr Kr
        try simp only [RN, reduceIte]
        try refine T_e rfl ?_
        refine T_csplit (p := ¬ y = x) (by simp only [RA, ↓reduceIte, Nat.reduceEqDiff] <;> rfl) (by (try simp only [RB]) <;> first | done | exact Iff.rfl | omega | simp) (fun hc => ?_) (fun hc => ?_) <;> (try simp only [RN, reduceIte]) <;> (try refine T_e rfl ?_)
        · have hiP : i < P0 := by
            rcases Nat.lt_or_ge i P0 with h | h
            · exact h
            · exact absurd (by rw [hy, show i = P0 by omega, hPx]) hc
          rw [rng_step hc (by omega)] at hrm
          obtain ⟨t, r, ht, hr, rfl⟩ := mapM_cons_inv hrm
          have hle := @catB_le d r t
          rw [← hd'] at hle
          obtain ⟨e1, e2, e3⟩ := sum1 (d := catB d) (t := t) (by omega)
          first | refine T_bfree rfl ?_ | refine T_bfree' rfl ?_
          try simp only [RN, reduceIte]
          try refine T_e rfl ?_
          refine T_rseq fun Kr hKr => ?_
          simp (disch := omega) only [RA, ↓reduceIte, Nat.reduceEqDiff, RD, g2, g3, g7, g9, e1, RDS, RDD]
          refine ih hyn ht (by omega) ?_
          simp (disch := omega) only [RA, ↓reduceIte, Nat.reduceEqDiff, RD, e2, e3]
          refine hKr _ _ ?_
          clear hKr Kr
          try simp only [blkQ, thenQ, loopQ]
          try simp only [RN, reduceIte]
          try refine T_e rfl ?_
          refine T_reg_k fun Kr hKr => ?_
          simp (disch := omega) only [RA, ↓reduceIte, Nat.reduceEqDiff, RD, g8, g9, hpl]
          refine hKr _ _ ?_
          clear hKr Kr
          refine hN (P0 - (i + 1)) _ _ _ _ (by omega) Gh.refl ⟨i + 1, nl (pc b w c) y, d ++ [t], r, by omega, rfl, by rw [it, hy], by rw [show 16 - (i + 1) = 16 - i - 1 by omega]; exact hr, by rw [hd']; simp, ?_, ?_, ?_, ?_, ?_, ?_, rfl⟩
          any_goals (simp (disch := omega) only [RA, ↓reduceIte, Nat.reduceEqDiff, RD, RE, *] <;> rfl)
          rw [catB_snoc]
          simp [RA, ↓reduceIte, Nat.reduceEqDiff]
        · refine hX _ _ ?_
          have hyx : y = x := Decidable.not_not.1 hc
          rw [hyx, rng_end] at hrm
          have : rm = [] := by simpa using hrm.symm
          subst this
          rw [List.append_nil] at hd'
          rw [hd'] at hK
          refine T_rseq fun Kr hKr => ?_
          simp (disch := omega) only [RA, ↓reduceIte, Nat.reduceEqDiff, RD, g7]
          refine hKr _ _ ?_
          clear hKr Kr
          try simp only [RN, reduceIte]
          try refine T_e rfl ?_
          refine bodyQ_ret (by simp (disch := omega) only [RA, ↓reduceIte, Nat.reduceEqDiff, RD, resAll, resOf]; rfl) GhV.refl ?_
          simp only [tup]
          exact ⟨NNs, hK⟩
    cases c with
    | false =>
      refine T_rseq fun Kr hKr => ?_
      simp (disch := omega) only [RA, ↓reduceIte, Nat.reduceEqDiff, RD]
      refine hKr _ _ ?_
      clear hKr Kr
      try simp only [RN, reduceIte]
      try refine T_e rfl ?_
      refine T_cseq (t := false) (by simp (disch := omega) only [RA, ↓reduceIte, Nat.reduceEqDiff, RD]) ?_
      try simp only [RN, reduceIte]
      try refine T_e rfl ?_
      refine hmain _ ?_ ?_ ?_ ?_ ?_
      any_goals (simp (disch := omega) only [RA, ↓reduceIte, Nat.reduceEqDiff, RD, RE, *] <;> rfl)
    | true =>
      refine T_rseq fun Kr hKr => ?_
      simp (disch := omega) only [RA, ↓reduceIte, Nat.reduceEqDiff, RD]
      refine hKr _ _ ?_
      clear hKr Kr
      try simp only [RN, reduceIte]
      try refine T_e rfl ?_
      refine T_cseq (t := true) (by simp (disch := omega) only [RA, ↓reduceIte, Nat.reduceEqDiff, RD]) ?_
      try simp only [RN, reduceIte]
      try refine T_e rfl ?_
      refine T_rseq fun Kr hKr => ?_
      simp (disch := omega) only [RA, ↓reduceIte, Nat.reduceEqDiff, RD, RDS, RDD, st_NN]
      refine hKr _ _ ?_
      clear hKr Kr
      try simp only [RN, reduceIte]
      try refine T_e rfl ?_
      refine hmain _ ?_ ?_ ?_ ?_ ?_
      any_goals (simp (disch := omega) only [RA, ↓reduceIte, Nat.reduceEqDiff, RD, RE, *] <;> rfl)
theorem l05At_spec (hb : By 16 b) (hw : By 16 w) (hd : Des n b w) {x0 : Bool} {x : Nat} {s : List UInt8} {H : BH} {K : Value → BH → Prop} (hx : x < n) (hs : wordAt b w x = some s) (hsl : s.length ≤ 9000000000000000000)
    (hK : K (.string (bs s)) H) : CallX x0 F_spec_l05At [DV n b w, I x] H K := by
  have hlb := hb.len
  have hlw := hw.len
  have hn := hd.1.1
  rw [wordAt, Option.map_eq_some_iff] at hs
  obtain ⟨ts, hts, rfl⟩ := hs
  obtain ⟨t0, r0, ht0, hr0, hts0⟩ := mapM_cons_inv hts
  obtain ⟨P0, hP, hPx⟩ := it_back hd.1 hx
  have hpx := hd.1.lt hx
  have hle0 := @catB_le [] r0 t0
  rw [List.nil_append, ← hts0] at hle0
  have hnil : (catB []).length = 0 := rfl
  have hcat : catB [t0] = 40 :: (t0 ++ [41]) := by simp [catB]
  obtain ⟨e1, e2, e3⟩ := sum2 (d := []) (t := t0) (by simp; omega)
  refine callP (.cons nn_D (.cons .int .nil)) ?_
  refine CallX_body Γ_spec_l05At ?_
  simp only [A_spec_l05At, T_aiff]
  refine T_rseq fun Kr hKr => ?_
  simp (disch := omega) only [RA, ↓reduceIte, Nat.reduceEqDiff, RD, RDS]
  refine hKr _ _ ?_
  clear hKr Kr
  try simp only [RN, reduceIte]
  try refine T_e rfl ?_
  refine T_rseq fun Kr hKr => ?_
  simp (disch := omega) only [RA, ↓reduceIte, Nat.reduceEqDiff, RD, RDS, RDD]
  refine l05Below_spec hb hw hd 17 hx ht0 (by omega) ?_
  simp (disch := omega) only [RA, ↓reduceIte, Nat.reduceEqDiff, RD, e1, e2]
  refine hKr _ _ ?_
  clear hKr Kr
  try simp only [blkQ, thenQ, loopQ]
  try simp only [RN, reduceIte]
  try refine T_e rfl ?_
  refine T_rseq fun Kr hKr => ?_
  simp (disch := omega) only [RA, ↓reduceIte, Nat.reduceEqDiff, RD, RDS, RDD]
  refine hKr _ _ ?_
  clear hKr Kr
  try simp only [RN, reduceIte]
  try refine T_e rfl ?_
  refine T_wloop (fun m f H' => ∃ i y d rm, i ≤ P0 ∧ m = P0 - i ∧ y = it b x i ∧ (rng b x (16 - i) y).mapM (wrd b w 17 true) = some rm ∧ ts = d ++ rm ∧ f 1 = I x ∧ f 2 = P 0 0 ∧ f 5 = .string (bs (catB d)) ∧ f 6 = I y ∧ H' = [some (DC n b w)]) (P0) ?_ ?_
  · refine ⟨_, _, Gh.refl, 0, nl b x, [t0], r0, by omega, by omega, rfl, hr0, hts0, ?_, ?_, ?_, ?_, rfl⟩
    any_goals (simp (disch := omega) only [RA, ↓reduceIte, Nat.reduceEqDiff, RD, RE, *] <;> rfl)
  · rintro m f H' R ⟨i, y, d, rm, hi, rfl, hy, hrm, hd', g1, g2, g5, g6, rfl⟩ hN hX hR hE
    simp only [A_spec_l05At.l0, T_aiff]
    have hyn : y < n := by rw [hy]; exact it_lt hd.1 hx i
    have hpy := hd.1.lt hyn
    refine T_rseq fun Kr hKr => ?_
    simp (disch := omega) only [RA, ↓reduceIte, Nat.reduceEqDiff, RD, g1, g6]
    refine hKr _ _ ?_
    clear hKr Kr
    try simp only [RN, reduceIte]
    try refine T_e rfl ?_
    refine T_csplit (p := ¬ y = x) (by simp only [RA, ↓reduceIte, Nat.reduceEqDiff] <;> rfl) (by (try simp only [RB]) <;> first | done | exact Iff.rfl | omega | simp) (fun hc => ?_) (fun hc => ?_) <;> (try simp only [RN, reduceIte]) <;> (try refine T_e rfl ?_)
    · have hiP : i < P0 := by
        rcases Nat.lt_or_ge i P0 with h | h
        · exact h
        · exact absurd (by rw [hy, show i = P0 by omega, hPx]) hc
      rw [rng_step hc (by omega)] at hrm
      obtain ⟨t, r, ht, hr, rfl⟩ := mapM_cons_inv hrm
      have hle := @catB_le d r t
      rw [← hd'] at hle
      obtain ⟨e1, e2, e3⟩ := sum1 (d := catB d) (t := t) (by omega)
      first | refine T_bfree rfl ?_ | refine T_bfree' rfl ?_
      try simp only [RN, reduceIte]
      try refine T_e rfl ?_
      refine T_rseq fun Kr hKr => ?_
      simp (disch := omega) only [RA, ↓reduceIte, Nat.reduceEqDiff, RD, g2, g5, g6, e1, RDS, RDD]
      refine l05Below_spec hb hw hd 17 hyn ht (by omega) ?_
      simp (disch := omega) only [RA, ↓reduceIte, Nat.reduceEqDiff, RD, e2, e3]
      refine hKr _ _ ?_
      clear hKr Kr
      try simp only [blkQ, thenQ, loopQ]
      try simp only [RN, reduceIte]
      try refine T_e rfl ?_
      refine T_reg_k fun Kr hKr => ?_
      simp (disch := omega) only [RA, ↓reduceIte, Nat.reduceEqDiff, RD, g2, g6, RDS, RDD]
      refine hKr _ _ ?_
      clear hKr Kr
      refine hN (P0 - (i + 1)) _ _ _ _ (by omega) Gh.refl ⟨i + 1, nl b y, d ++ [t], r, by omega, rfl, by rw [it, hy], by rw [show 16 - (i + 1) = 16 - i - 1 by omega]; exact hr, by rw [hd']; simp, ?_, ?_, ?_, ?_, rfl⟩
      any_goals (simp (disch := omega) only [RA, ↓reduceIte, Nat.reduceEqDiff, RD, RE, *] <;> rfl)
      rw [catB_snoc]
      simp [RA, ↓reduceIte, Nat.reduceEqDiff]
    · refine hX _ _ ?_
      have hyx : y = x := Decidable.not_not.1 hc
      rw [hyx, rng_end] at hrm
      have : rm = [] := by simpa using hrm.symm
      subst this
      rw [List.append_nil] at hd'
      rw [hd'] at hK
      refine T_rseq fun Kr hKr => ?_
      simp (disch := omega) only [RA, ↓reduceIte, Nat.reduceEqDiff, RD, g5]
      refine hKr _ _ ?_
      clear hKr Kr
      try simp only [RN, reduceIte]
      try refine T_e rfl ?_
      refine bodyQ_ret (by simp (disch := omega) only [RA, ↓reduceIte, Nat.reduceEqDiff, RD, resAll, resOf]; rfl) GhV.refl ?_
      simp only [tup]
      exact ⟨NNs, hK⟩
/-- The program's words: of what lies behind a dart. -/
theorem wordAt_spec (hb : By 16 b) (hw : By 16 w) (hd : Des n b w) : ∀ (k : Nat) {x0 : Bool} {c : Bool} {x : Nat} {s : List UInt8} {H : BH} {K : Value → BH → Prop}, x < n → wrd b w k c x = some s → s.length ≤ 9000000000000000000 →
    K (.string (bs s)) H → CallX x0 F_impl_wordAt [PL (pc b w c), PL (pc b w (!c)), I x, .bool false] H K := by
  have hn := hd.1.1
  intro k
  induction k with
  | zero => intro x0 c x s H K hx hs; simp [wrd] at hs
  | succ k ih =>
    intro x0 c x s H K hx hs hsl hK
    rw [wrd, Option.map_eq_some_iff] at hs
    obtain ⟨ts, hts, rfl⟩ := hs
    have hp := pc_perm hd c
    have hpl := (pc_by hb hw c).len
    have hpl' := (pc_by hb hw (!c)).len
    obtain ⟨P0, hP, hPx⟩ := it_back hp hx
    have hpx := hp.lt hx
    have ih' := fun {x0 : Bool} => @ih x0 (!c)
    rw [Bool.not_not] at ih'
    rw [ring] at hts
    generalize pc b w c = p at hts hp hpl hPx hpx ih'
    generalize pc b w (!c) = q at hpl' ih'
    refine callP (.cons (NN_agg NNL_F8) (.cons (NN_agg NNL_F8) (.cons .int (.cons .bool .nil)))) ?_
    refine CallX_body Γ_impl_wordAt ?_
    simp only [A_impl_wordAt, T_aiff]
    refine T_rseq fun Kr hKr => ?_
    simp (disch := omega) only [RA, ↓reduceIte, Nat.reduceEqDiff, RD]
    refine hKr _ _ ?_
    clear hKr Kr
    try simp only [RN, reduceIte]
    try refine T_e rfl ?_
    refine T_rseq fun Kr hKr => ?_
    simp (disch := omega) only [RA, ↓reduceIte, Nat.reduceEqDiff, RD]
    refine hKr _ _ ?_
    clear hKr Kr
    try simp only [RN, reduceIte]
    try refine T_e rfl ?_
    refine T_rseq fun Kr hKr => ?_
    simp (disch := omega) only [RA, ↓reduceIte, Nat.reduceEqDiff, RD]
    refine hKr _ _ ?_
    clear hKr Kr
    try simp only [RN, reduceIte]
    try refine T_e rfl ?_
    refine T_rseq fun Kr hKr => ?_
    simp (disch := omega) only [RA, ↓reduceIte, Nat.reduceEqDiff, RD]
    refine hKr _ _ ?_
    clear hKr Kr
    try simp only [RN, reduceIte]
    try refine T_e rfl ?_
    refine T_cseq (t := true) (by simp (disch := omega) only [RA, ↓reduceIte, Nat.reduceEqDiff, RD]) ?_
    try simp only [RN, reduceIte]
    try refine T_e rfl ?_
    refine T_rseq fun Kr hKr => ?_
    simp (disch := omega) only [RA, ↓reduceIte, Nat.reduceEqDiff, RD, hpl]
    refine hKr _ _ ?_
    clear hKr Kr
    try simp only [RN, reduceIte]
    try refine T_e rfl ?_
    refine T_rseq fun Kr hKr => ?_
    simp (disch := omega) only [RA, ↓reduceIte, Nat.reduceEqDiff, RD]
    refine hKr _ _ ?_
    clear hKr Kr
    try simp only [RN, reduceIte]
    try refine T_e rfl ?_
    refine T_wloop (fun m f H' => ∃ i y d rm fb, i ≤ P0 ∧ m = P0 - i ∧ y = it p x i ∧ (rng p x (16 - i) y).mapM (wrd b w k (!c)) = some rm ∧ ts = d ++ rm ∧ f 2 = I x ∧ f 3 = .bool false ∧ f 4 = P 0 0 ∧ f 5 = P 1 0 ∧ f 9 = .string (bs (catB d)) ∧ f 10 = I y ∧ f 11 = .bool fb ∧ H' = [some (p.map N8), some (q.map N8)]) (P0) ?_ ?_
    · refine ⟨_, _, Gh.refl, 0, nl p x, [], ts, true, by omega, by omega, rfl, hts, rfl, ?_, ?_, ?_, ?_, ?_, ?_, ?_, rfl⟩
      any_goals (simp (disch := omega) only [RA, ↓reduceIte, Nat.reduceEqDiff, RD, RE, *] <;> rfl)
    · rintro m f H' R ⟨i, y, d, rm, fb, hi, rfl, hy, hrm, hd', g2, g3, g4, g5, g9, g10, g11, rfl⟩ hN hX hR hE
      simp only [A_impl_wordAt.l0, T_aiff]
      have hyn : y < n := by rw [hy]; exact it_lt hp hx i
      have hpy := hp.lt hyn
      by_cases hc : y = x
      · have hend : ∀ f', f' 9 = .string (bs (catB d)) → R (.exit 0) f' [some (p.map N8), some (q.map N8)] := by
          intro f' g9
          refine hX _ _ ?_
          rw [hc, rng_end] at hrm
          have : rm = [] := by simpa using hrm.symm
          subst this
          rw [List.append_nil] at hd'
          rw [hd'] at hK
          refine T_rseq fun Kr hKr => ?_
          simp (disch := omega) only [RA, ↓reduceIte, Nat.reduceEqDiff, RD, g9]
          refine hKr _ _ ?_
          clear hKr Kr
          try simp only [RN, reduceIte]
          try refine T_e rfl ?_
          refine bodyQ_ret (by simp (disch := omega) only [RA, ↓reduceIte, Nat.reduceEqDiff, RD, resAll, resOf]; rfl) GhV.refl ?_
          simp only [tup]
          exact ⟨NNs, hK⟩
        cases fb with
        | false =>
          refine T_rseq fun Kr hKr => ?_
          simp (disch := omega) only [RA, ↓reduceIte, Nat.reduceEqDiff, RD, g2, g3, g10, g11]
          refine hKr _ _ ?_
          clear hKr Kr
          try simp only [RN, reduceIte]
          try refine T_e rfl ?_
          refine T_cseq (t := false) (by simp (disch := omega) only [RA, ↓reduceIte, Nat.reduceEqDiff, RD]) ?_
          try simp only [RN, reduceIte]
          try refine T_e rfl ?_
          exact hend _ (by simp (disch := omega) only [RA, ↓reduceIte, Nat.reduceEqDiff, RD, RE, *] <;> rfl)
        | true =>
          refine T_rseq fun Kr hKr => ?_
          simp (disch := omega) only [RA, ↓reduceIte, Nat.reduceEqDiff, RD, g2, g3, g10, g11]
          refine hKr _ _ ?_
          clear hKr Kr
          try simp only [RN, reduceIte]
          try refine T_e rfl ?_
          refine T_cseq (t := false) (by simp (disch := omega) only [RA, ↓reduceIte, Nat.reduceEqDiff, RD]) ?_
          try simp only [RN, reduceIte]
          try refine T_e rfl ?_
          exact hend _ (by simp (disch := omega) only [RA, ↓reduceIte, Nat.reduceEqDiff, RD, RE, *] <;> rfl)
      · have hiP : i < P0 := by
          rcases Nat.lt_or_ge i P0 with h | h
          · exact h
          · exact absurd (by rw [hy, show i = P0 by omega, hPx]) hc
        rw [rng_step hc (by omega)] at hrm
        obtain ⟨t, r, ht, hr, rfl⟩ := mapM_cons_inv hrm
        have hle := @catB_le d r t
        rw [← hd'] at hle
        obtain ⟨e1, e2, e3⟩ := sum2 (d := catB d) (t := t) (by omega)
        have hgo : ∀ f', f' 2 = I x → f' 3 = .bool false → f' 4 = P 0 0 → f' 5 = P 1 0 → f' 9 = .string (bs (catB d)) → f' 10 = I y →
            T 0 (.seq A_impl_wordAt.r8 (.seq A_impl_wordAt.r9 A_impl_wordAt.r7)) R f' [some (p.map N8), some (q.map N8)] := by
          clear g2 g3 g4 g5 g9 g10 g11
          intro f' g2 g3 g4 g5 g9 g10
          refine T_rseq fun Kr hKr => ?_
          simp (disch := omega) only [RA, ↓reduceIte, Nat.reduceEqDiff, RD, g4, g5, g9, g10, hpl, hpl']
          refine ih' hyn ht (by omega) ?_
          simp (disch := omega) only [RA, ↓reduceIte, Nat.reduceEqDiff, RD, e1, e2, e3]
          refine hKr _ _ ?_
          clear hKr Kr
          try simp only [blkQ, thenQ, loopQ]
          try simp only [RN, reduceIte]
          try refine T_e rfl ?_
          refine T_rseq fun Kr hKr => ?_
          simp (disch := omega) only [RA, ↓reduceIte, Nat.reduceEqDiff, RD, g4, g10, hpl]
          refine hKr _ _ ?_
          clear hKr Kr
          try simp only [RN, reduceIte]
          try refine T_e rfl ?_
          refine T_reg_k fun Kr hKr => ?_
          simp (disch := omega) only [RA, ↓reduceIte, Nat.reduceEqDiff, RD]
          refine hKr _ _ ?_
          clear hKr Kr
          refine hN (P0 - (i + 1)) _ _ _ _ (by omega) Gh.refl ⟨i + 1, nl p y, d ++ [t], r, false, by omega, rfl, by rw [it, hy], by rw [show 16 - (i + 1) = 16 - i - 1 by omega]; exact hr, by rw [hd']; simp, ?_, ?_, ?_, ?_, ?_, ?_, ?_, rfl⟩
          any_goals (simp (disch := omega) only [RA, ↓reduceIte, Nat.reduceEqDiff, RD, RE, *] <;> rfl)
          rw [catB_snoc]
          simp [RA, ↓reduceIte, Nat.reduceEqDiff]
        cases fb with
        | false =>
          refine T_rseq fun Kr hKr => ?_
          simp (disch := omega) only [RA, ↓reduceIte, Nat.reduceEqDiff, RD, g2, g3, g10, g11]
          refine hKr _ _ ?_
          clear hKr Kr
          try simp only [RN, reduceIte]
          try refine T_e rfl ?_
          refine T_cseq (t := true) (by simp (disch := omega) only [RA, ↓reduceIte, Nat.reduceEqDiff, RD]) ?_
          try simp only [RN, reduceIte]
          try refine T_e rfl ?_
          first | refine T_bfree rfl ?_ | refine T_bfree' rfl ?_
          try simp only [RN, reduceIte]
          try refine T_e rfl ?_
          refine hgo _ ?_ ?_ ?_ ?_ ?_ ?_
          any_goals (simp (disch := omega) only [RA, ↓reduceIte, Nat.reduceEqDiff, RD, RE, *] <;> rfl)
        | true =>
          refine T_rseq fun Kr hKr => ?_
          simp (disch := omega) only [RA, ↓reduceIte, Nat.reduceEqDiff, RD, g2, g3, g10, g11]
          refine hKr _ _ ?_
          clear hKr Kr
          try simp only [RN, reduceIte]
          try refine T_e rfl ?_
          refine T_cseq (t := true) (by simp (disch := omega) only [RA, ↓reduceIte, Nat.reduceEqDiff, RD]) ?_
          try simp only [RN, reduceIte]
          try refine T_e rfl ?_
          first | refine T_bfree rfl ?_ | refine T_bfree' rfl ?_
          try simp only [RN, reduceIte]
          try refine T_e rfl ?_
          refine hgo _ ?_ ?_ ?_ ?_ ?_ ?_
          any_goals (simp (disch := omega) only [RA, ↓reduceIte, Nat.reduceEqDiff, RD, RE, *] <;> rfl)
theorem wordAt_top (hb : By 16 b) (hw : By 16 w) (hd : Des n b w) {x0 : Bool} {x : Nat} {s : List UInt8} {H : BH} {K : Value → BH → Prop} (hx : x < n) (hs : wordAt b w x = some s) (hsl : s.length ≤ 9000000000000000000)
    (hK : K (.string (bs s)) H) : CallX x0 F_impl_wordAt [PL b, PL w, I x, .bool true] H K := by
  have hpl := hb.len
  have hpl' := hw.len
  have hn := hd.1.1
  have hp := hd.1
  rw [wordAt, Option.map_eq_some_iff] at hs
  obtain ⟨ts, hts, rfl⟩ := hs
  obtain ⟨P0, hP, hPx⟩ := it_back hd.1 hx
  have ih' := fun {x0 : Bool} {y : Nat} {s : List UInt8} {H : BH} {K : Value → BH → Prop} => @wordAt_spec b w n hb hw hd 17 x0 true y s H K
  have e0 : pc b w true = w := rfl
  have e1 : pc b w (!true) = b := rfl
  rw [e0, e1] at ih'
  refine callP (.cons (NN_agg NNL_F8) (.cons (NN_agg NNL_F8) (.cons .int (.cons .bool .nil)))) ?_
  refine CallX_body Γ_impl_wordAt ?_
  simp only [A_impl_wordAt, T_aiff]
  refine T_rseq fun Kr hKr => ?_
  simp (disch := omega) only [RA, ↓reduceIte, Nat.reduceEqDiff, RD]
  refine hKr _ _ ?_
  clear hKr Kr
  try simp only [RN, reduceIte]
  try refine T_e rfl ?_
  refine T_rseq fun Kr hKr => ?_
  simp (disch := omega) only [RA, ↓reduceIte, Nat.reduceEqDiff, RD]
  refine hKr _ _ ?_
  clear hKr Kr
  try simp only [RN, reduceIte]
  try refine T_e rfl ?_
  refine T_rseq fun Kr hKr => ?_
  simp (disch := omega) only [RA, ↓reduceIte, Nat.reduceEqDiff, RD]
  refine hKr _ _ ?_
  clear hKr Kr
  try simp only [RN, reduceIte]
  try refine T_e rfl ?_
  refine T_rseq fun Kr hKr => ?_
  simp (disch := omega) only [RA, ↓reduceIte, Nat.reduceEqDiff, RD]
  refine hKr _ _ ?_
  clear hKr Kr
  try simp only [RN, reduceIte]
  try refine T_e rfl ?_
  refine T_cseq (t := false) (by simp (disch := omega) only [RA, ↓reduceIte, Nat.reduceEqDiff, RD]) ?_
  try simp only [RN, reduceIte]
  try refine T_e rfl ?_
  refine T_rseq fun Kr hKr => ?_
  simp (disch := omega) only [RA, ↓reduceIte, Nat.reduceEqDiff, RD]
  refine hKr _ _ ?_
  clear hKr Kr
  try simp only [RN, reduceIte]
  try refine T_e rfl ?_
  refine T_wloop (fun m f H' => ∃ i y d rm fb, (fb = true ∧ y = x ∧ m = 17 ∧ d = [] ∧ rm = ts ∧ i = 0 ∨ fb = false ∧ i ≤ P0 ∧ m = P0 - i ∧ y = it b x i ∧ (rng b x (16 - i) y).mapM (wrd b w 17 true) = some rm ∧ ts = d ++ rm) ∧ f 2 = I x ∧ f 3 = .bool true ∧ f 4 = P 0 0 ∧ f 5 = P 1 0 ∧ f 9 = .string (bs (catB d)) ∧ f 10 = I y ∧ f 11 = .bool fb ∧ H' = [some (b.map N8), some (w.map N8)]) (17) ?_ ?_
  · refine ⟨_, _, Gh.refl, 0, x, [], ts, true, .inl ⟨rfl, rfl, rfl, rfl, rfl, rfl⟩, ?_, ?_, ?_, ?_, ?_, ?_, ?_, rfl⟩
    any_goals (simp (disch := omega) only [RA, ↓reduceIte, Nat.reduceEqDiff, RD, RE, *] <;> rfl)
  · rintro m f H' R ⟨i, y, d, rm, fb, hcase, g2, g3, g4, g5, g9, g10, g11, rfl⟩ hN hX hR hE
    simp only [A_impl_wordAt.l0, T_aiff]
    have hgo : ∀ t r i', i' ≤ P0 → P0 - i' < m → y < n → wrd b w 17 true y = some t → (rng b x (16 - i') (nl b y)).mapM (wrd b w 17 true) = some r → nl b y = it b x i' → ts = d ++ t :: r →
        ∀ f', f' 2 = I x → f' 3 = .bool true → f' 4 = P 0 0 → f' 5 = P 1 0 → f' 9 = .string (bs (catB d)) → f' 10 = I y →
        T 0 (.seq A_impl_wordAt.r8 (.seq A_impl_wordAt.r9 A_impl_wordAt.r7)) R f' [some (b.map N8), some (w.map N8)] := by
      clear g2 g3 g4 g5 g9 g10 g11
      intro t r i' hi' hm hyn ht hr hit hd' f' g2 g3 g4 g5 g9 g10
      have hle := @catB_le d r t
      rw [← hd'] at hle
      have hpy := hp.lt hyn
      obtain ⟨e1, e2, e3⟩ := sum2 (d := catB d) (t := t) (by omega)
      refine T_rseq fun Kr hKr => ?_
      simp (disch := omega) only [RA, ↓reduceIte, Nat.reduceEqDiff, RD, g4, g5, g9, g10, hpl, hpl']
      refine ih' hyn ht (by omega) ?_
      simp (disch := omega) only [RA, ↓reduceIte, Nat.reduceEqDiff, RD, e1, e2, e3]
      refine hKr _ _ ?_
      clear hKr Kr
      try simp only [blkQ, thenQ, loopQ]
      try simp only [RN, reduceIte]
      try refine T_e rfl ?_
      refine T_rseq fun Kr hKr => ?_
      simp (disch := omega) only [RA, ↓reduceIte, Nat.reduceEqDiff, RD, g4, g10, hpl]
      refine hKr _ _ ?_
      clear hKr Kr
      try simp only [RN, reduceIte]
      try refine T_e rfl ?_
      refine T_reg_k fun Kr hKr => ?_
      simp (disch := omega) only [RA, ↓reduceIte, Nat.reduceEqDiff, RD]
      refine hKr _ _ ?_
      clear hKr Kr
      refine hN (P0 - i') _ _ _ _ hm Gh.refl ⟨i', nl b y, d ++ [t], r, false, .inr ⟨rfl, hi', rfl, hit, hr, by rw [hd']; simp⟩, ?_, ?_, ?_, ?_, ?_, ?_, ?_, rfl⟩
      any_goals (simp (disch := omega) only [RA, ↓reduceIte, Nat.reduceEqDiff, RD, RE, *] <;> rfl)
      rw [catB_snoc]
      simp [RA, ↓reduceIte, Nat.reduceEqDiff]
    rcases hcase with ⟨rfl, rfl, rfl, rfl, rfl, rfl⟩ | ⟨rfl, hi, rfl, hy, hrm, hd'⟩
    · obtain ⟨t, r, ht, hr, hd'⟩ := mapM_cons_inv hts
      refine T_rseq fun Kr hKr => ?_
      simp (disch := omega) only [RA, ↓reduceIte, Nat.reduceEqDiff, RD, g2, g3, g10, g11]
      refine hKr _ _ ?_
      clear hKr Kr
      try simp only [RN, reduceIte]
      try refine T_e rfl ?_
      refine T_cseq (t := true) (by simp (disch := omega) only [RA, ↓reduceIte, Nat.reduceEqDiff, RD]) ?_
      try simp only [RN, reduceIte]
      try refine T_e rfl ?_
      first | refine T_bfree rfl ?_ | refine T_bfree' rfl ?_
      try simp only [RN, reduceIte]
      try refine T_e rfl ?_
      refine hgo t r 0 (by omega) (by omega) hx ht hr rfl (by rw [hd']; rfl) _ ?_ ?_ ?_ ?_ ?_ ?_
      any_goals (simp (disch := omega) only [RA, ↓reduceIte, Nat.reduceEqDiff, RD, RE, *] <;> rfl)
    · have hyn : y < n := by rw [hy]; exact it_lt hp hx i
      by_cases hc : y = x
      · refine T_rseq fun Kr hKr => ?_
        simp (disch := omega) only [RA, ↓reduceIte, Nat.reduceEqDiff, RD, g2, g3, g10, g11]
        refine hKr _ _ ?_
        clear hKr Kr
        try simp only [RN, reduceIte]
        try refine T_e rfl ?_
        refine T_cseq (t := false) (by simp (disch := omega) only [RA, ↓reduceIte, Nat.reduceEqDiff, RD]) ?_
        try simp only [RN, reduceIte]
        try refine T_e rfl ?_
        refine hX _ _ ?_
        rw [hc, rng_end] at hrm
        have : rm = [] := by simpa using hrm.symm
        subst this
        rw [List.append_nil] at hd'
        rw [hd'] at hK
        refine T_rseq fun Kr hKr => ?_
        simp (disch := omega) only [RA, ↓reduceIte, Nat.reduceEqDiff, RD, g9]
        refine hKr _ _ ?_
        clear hKr Kr
        try simp only [RN, reduceIte]
        try refine T_e rfl ?_
        refine bodyQ_ret (by simp (disch := omega) only [RA, ↓reduceIte, Nat.reduceEqDiff, RD, resAll, resOf]; rfl) GhV.refl ?_
        simp only [tup]
        exact ⟨NNs, hK⟩
      · have hiP : i < P0 := by
          rcases Nat.lt_or_ge i P0 with h | h
          · exact h
          · exact absurd (by rw [hy, show i = P0 by omega, hPx]) hc
        rw [rng_step hc (by omega)] at hrm
        obtain ⟨t, r, ht, hr, rfl⟩ := mapM_cons_inv hrm
        refine T_rseq fun Kr hKr => ?_
        simp (disch := omega) only [RA, ↓reduceIte, Nat.reduceEqDiff, RD, g2, g3, g10, g11]
        refine hKr _ _ ?_
        clear hKr Kr
        try simp only [RN, reduceIte]
        try refine T_e rfl ?_
        refine T_cseq (t := true) (by simp (disch := omega) only [RA, ↓reduceIte, Nat.reduceEqDiff, RD]) ?_
        try simp only [RN, reduceIte]
        try refine T_e rfl ?_
        first | refine T_bfree rfl ?_ | refine T_bfree' rfl ?_
        try simp only [RN, reduceIte]
        try refine T_e rfl ?_
        refine hgo t r (i + 1) (by omega) (by omega) hyn ht (by rw [show 16 - (i + 1) = 16 - i - 1 by omega]; exact hr) (by rw [it, hy]) hd' _ ?_ ?_ ?_ ?_ ?_ ?_
        any_goals (simp (disch := omega) only [RA, ↓reduceIte, Nat.reduceEqDiff, RD, RE, *] <;> rfl)
theorem wordOfTree_spec (hb : By 16 b) (hw : By 16 w) (hd : Des n b w) {x0 : Bool} {x : Nat} {s : List UInt8} {H : BH} {K : Value → BH → Prop} (hx : x < n) (hs : wordAt b w x = some s) (hsl : s.length ≤ 9000000000000000000)
    (hK : K (.string (bs s)) H) : CallX x0 F_impl_wordOfTree [DV n b w, I x] H K := by
  have hlb := hb.len
  have hlw := hw.len
  refine callP (.cons nn_D (.cons .int .nil)) ?_
  refine CallX_body Γ_impl_wordOfTree ?_
  simp only [A_impl_wordOfTree, T_aiff]
  refine T_rseq fun Kr hKr => ?_
  simp (disch := omega) only [RA, ↓reduceIte, Nat.reduceEqDiff, RD, RDS]
  refine hKr _ _ ?_
  clear hKr Kr
  try simp only [RN, reduceIte]
  try refine T_e rfl ?_
  refine T_rseq fun Kr hKr => ?_
  simp (disch := omega) only [RA, ↓reduceIte, Nat.reduceEqDiff, RD, RDS, RDD]
  refine wordAt_top hb hw hd hx hs hsl ?_
  simp (disch := omega) only [RA, ↓reduceIte, Nat.reduceEqDiff, RD]
  refine hKr _ _ ?_
  clear hKr Kr
  try simp only [blkQ, thenQ, loopQ]
  try simp only [RN, reduceIte]
  try refine T_e rfl ?_
  refine bodyQ_ret (by simp (disch := omega) only [RA, ↓reduceIte, Nat.reduceEqDiff, RD, resAll, resOf]; rfl) GhV.refl ?_
  simp only [tup]
  exact ⟨NNs, hK⟩
end
/-! ### The word at an edge -/
def wd (b w : List Nat) (x : Nat) : List UInt8 := (wordAt b w x).getD []
theorem wd_some {n : Nat} {b w : List Nat} (hd : Des n b w) (ht : Tree n b w) {x : Nat} (hx : x < n) : wordAt b w x = some (wd b w x) := by
  obtain ⟨s, hs⟩ := wordAt_some hd ht hx
  rw [wd, hs]; rfl
theorem wd_len {n : Nat} {b w : List Nat} (hd : Des n b w) (ht : Tree n b w) {x : Nat} (hx : x < n) : (wd b w x).length ≤ 9000000000000000000 := wordAt_len hd ht hx (wd_some hd ht hx)
def resWo (n : Int) (b w : List Nat) (k : Int) : List UInt8 × Int :=
  if ¬ Des n b w then ([], 1) else if ¬ (0 ≤ k ∧ k < n) then ([], 2) else if ¬ Tree n.toNat b w then ([], 5) else (wd b w k.toNat, 0)
theorem nn_SI {l : List UInt8} {a : Int} : NN (.tuple ⟨[.string (bs l), I a]⟩) := NN.tuple (NNL.cons NN.string (NNL.cons NN.int NNL.nil))
theorem spec_WordOfTree_spec {x : Bool} {n : Int} {b w : List Nat} {k : Int} {H : BH} {K : Value → BH → Prop} (hb : By 16 b) (hw : By 16 w)
    (hK : K (.tuple ⟨[.string (bs (resWo n b w k).1), I (resWo n b w k).2]⟩) H) : CallX x F_spec_WordOfTree [DV n b w, I k] H K := by
  have hlb := hb.len
  have hlw := hw.len
  refine callP (.cons nn_D (.cons .int .nil)) ?_
  refine CallX_body Γ_spec_WordOfTree ?_
  simp only [A_spec_WordOfTree, T_aiff]
  refine T_rseq fun Kr hKr => ?_
  simp (disch := omega) only [RA, ↓reduceIte, Nat.reduceEqDiff, RD, RDS]
  refine hKr _ _ ?_
  clear hKr Kr
  try simp only [RN, reduceIte]
  try refine T_e rfl ?_
  refine T_seq (T_block ?_)
  try simp only [RN, reduceIte]
  try refine T_e rfl ?_
  refine T_rseq fun Kr hKr => ?_
  simp (disch := omega) only [RA, ↓reduceIte, Nat.reduceEqDiff, RD, RDS, RDD]
  refine l01Is_spec hb hw ?_
  simp (disch := omega) only [RA, ↓reduceIte, Nat.reduceEqDiff, RD]
  refine hKr _ _ ?_
  clear hKr Kr
  try simp only [blkQ, thenQ, loopQ]
  try simp only [RN, reduceIte]
  try refine T_e rfl ?_
  refine T_csplit1 (p := ¬ Des n b w) (by simp only [RA, ↓reduceIte, Nat.reduceEqDiff] <;> rfl) (by (try simp only [RB]) <;> first | done | exact Iff.rfl | omega | simp) (fun hc => ?_) (fun hc => ?_) <;> (try simp only [RN, reduceIte]) <;> (try refine T_e rfl ?_)
  · refine T_rseq fun Kr hKr => ?_
    simp (disch := omega) only [RA, ↓reduceIte, Nat.reduceEqDiff, RD]
    refine hKr _ _ ?_
    clear hKr Kr
    try simp only [RN, reduceIte]
    try refine T_e rfl ?_
    simp only [blkQ, thenQ, loopQ, if_true]
    refine bodyQ_ret (by simp (disch := omega) only [RA, ↓reduceIte, Nat.reduceEqDiff, RD, resAll, resOf]; rfl) GhV.refl ?_
    simp only [tup]
    rw [resWo, if_pos hc] at hK
    exact ⟨nn_SI, hK⟩
  have hd := Decidable.not_not.1 hc
  rw [resWo, if_neg hc] at hK
  clear hc
  obtain ⟨m, rfl, hm1, hm2⟩ := hd.n0
  rw [Int.toNat_natCast] at hK
  refine T_rseq fun Kr hKr => ?_
  simp (disch := omega) only [RA, ↓reduceIte, Nat.reduceEqDiff, RD, RDS]
  refine l01In_spec ?_
  simp (disch := omega) only [RA, ↓reduceIte, Nat.reduceEqDiff, RD]
  refine hKr _ _ ?_
  clear hKr Kr
  try simp only [blkQ, thenQ, loopQ]
  try simp only [RN, reduceIte]
  try refine T_e rfl ?_
  refine T_csplit1 (p := ¬ (0 ≤ k ∧ k ≤ (m : Int) - 1)) (by simp only [RA, ↓reduceIte, Nat.reduceEqDiff] <;> rfl) (by (try simp only [RB]) <;> first | done | exact Iff.rfl | omega | simp) (fun hc => ?_) (fun hc => ?_) <;> (try simp only [RN, reduceIte]) <;> (try refine T_e rfl ?_)
  · refine T_rseq fun Kr hKr => ?_
    simp (disch := omega) only [RA, ↓reduceIte, Nat.reduceEqDiff, RD]
    refine hKr _ _ ?_
    clear hKr Kr
    try simp only [RN, reduceIte]
    try refine T_e rfl ?_
    simp only [blkQ, thenQ, loopQ, if_true]
    refine bodyQ_ret (by simp (disch := omega) only [RA, ↓reduceIte, Nat.reduceEqDiff, RD, resAll, resOf]; rfl) GhV.refl ?_
    simp only [tup]
    rw [if_pos (by omega)] at hK
    exact ⟨nn_SI, hK⟩
  have hk := Decidable.not_not.1 hc
  rw [if_neg (by omega)] at hK
  clear hc
  obtain ⟨y, rfl⟩ : ∃ y : Nat, k = y := ⟨k.toNat, by omega⟩
  rw [Int.toNat_natCast] at hK
  refine T_rseq fun Kr hKr => ?_
  simp (disch := omega) only [RA, ↓reduceIte, Nat.reduceEqDiff, RD, RDS, RDD]
  refine l05Tree_spec hb hw hd ?_
  simp (disch := omega) only [RA, ↓reduceIte, Nat.reduceEqDiff, RD]
  refine hKr _ _ ?_
  clear hKr Kr
  try simp only [blkQ, thenQ, loopQ]
  try simp only [RN, reduceIte]
  try refine T_e rfl ?_
  refine T_csplit1 (p := ¬ Tree m b w) (by simp only [RA, ↓reduceIte, Nat.reduceEqDiff] <;> rfl) (by (try simp only [RB]) <;> first | done | exact Iff.rfl | omega | simp) (fun hc => ?_) (fun hc => ?_) <;> (try simp only [RN, reduceIte]) <;> (try refine T_e rfl ?_)
  · refine T_rseq fun Kr hKr => ?_
    simp (disch := omega) only [RA, ↓reduceIte, Nat.reduceEqDiff, RD]
    refine hKr _ _ ?_
    clear hKr Kr
    try simp only [RN, reduceIte]
    try refine T_e rfl ?_
    simp only [blkQ, thenQ, loopQ, if_true]
    refine bodyQ_ret (by simp (disch := omega) only [RA, ↓reduceIte, Nat.reduceEqDiff, RD, resAll, resOf]; rfl) GhV.refl ?_
    simp only [tup]
    rw [if_pos hc] at hK
    exact ⟨nn_SI, hK⟩
  have ht := Decidable.not_not.1 hc
  rw [if_neg hc] at hK
  clear hc
  simp only [blkQ, thenQ, loopQ, if_true]
  refine T_rseq fun Kr hKr => ?_
  simp (disch := omega) only [RA, ↓reduceIte, Nat.reduceEqDiff, RD, RDS, RDD]
  refine l05At_spec hb hw hd (by omega) (wd_some hd ht (by omega)) (wd_len hd ht (by omega)) ?_
  simp (disch := omega) only [RA, ↓reduceIte, Nat.reduceEqDiff, RD]
  refine hKr _ _ ?_
  clear hKr Kr
  try simp only [blkQ, thenQ, loopQ]
  try simp only [RN, reduceIte]
  try refine T_e rfl ?_
  refine bodyQ_ret (by simp (disch := omega) only [RA, ↓reduceIte, Nat.reduceEqDiff, RD, resAll, resOf]; rfl) GhV.refl ?_
  simp only [tup]
  exact ⟨nn_SI, hK⟩
theorem impl_WordOfTree_spec {x : Bool} {n : Int} {b w : List Nat} {k : Int} {H : BH} {K : Value → BH → Prop} (hb : By 16 b) (hw : By 16 w)
    (hK : K (.tuple ⟨[.string (bs (resWo n b w k).1), I (resWo n b w k).2]⟩) H) : CallX x F_impl_WordOfTree [DV n b w, I k] H K := by
  have hlb := hb.len
  have hlw := hw.len
  refine callP (.cons nn_D (.cons .int .nil)) ?_
  refine CallX_body Γ_impl_WordOfTree ?_
  simp only [A_impl_WordOfTree, T_aiff]
  refine T_rseq fun Kr hKr => ?_
  simp (disch := omega) only [RA, ↓reduceIte, Nat.reduceEqDiff, Nat.reduceBEq, Nat.reduceSub, Nat.reduceAdd, Nat.reduceMul, Nat.reduceLT, Nat.reduceLeDiff, Int.reduceLE, Int.reduceLT, Int.reduceEq, Int.reduceNeg, Int.reduceToNat, Int.reduceMul, Int.reduceAdd, Int.reduceSub, Int.reduceBEq, Int.reduceBNe, reduceCtorEq, RD, RDS]
  refine hKr _ _ ?_
  clear hKr Kr
  try simp only [RN, reduceIte]
  try refine T_e rfl ?_
  refine T_rseq fun Kr hKr => ?_
  simp (disch := omega) only [RA, ↓reduceIte, Nat.reduceEqDiff, Nat.reduceBEq, Nat.reduceSub, Nat.reduceAdd, Nat.reduceMul, Nat.reduceLT, Nat.reduceLeDiff, Int.reduceLE, Int.reduceLT, Int.reduceEq, Int.reduceNeg, Int.reduceToNat, Int.reduceMul, Int.reduceAdd, Int.reduceSub, Int.reduceBEq, Int.reduceBNe, reduceCtorEq, RD, RDS, RDD]
  have h1 : 1 * 1 = ([I k] : List Value).length := rfl
  refine callFz 1 rfl (by simp only [RH]) ?_
  simp only [RZ, frz_all h1]
  refine treeCode_spec (xs := [k]) hb hw (by simp) ?_
  have hall : (∀ y ∈ [k], 0 ≤ y ∧ y < n) ↔ (0 ≤ k ∧ k < n) := by simp
  simp (disch := omega) only [RA, ↓reduceIte, Nat.reduceEqDiff, RD]
  refine hKr _ _ ?_
  clear hKr Kr
  try simp only [blkQ, thenQ, loopQ]
  try simp only [RN, reduceIte]
  try refine T_e rfl ?_
  by_cases h0 : tcode n b w [k] = 0
  · have h2 : Des n b w ∧ (0 ≤ k ∧ k < n) ∧ Tree n.toNat b w := by
      unfold tcode at h0
      split at h0
      · cases h0
      · rename_i g1
        split at h0
        · cases h0
        · rename_i g2
          split at h0
          · cases h0
          · rename_i g3
            exact ⟨Decidable.not_not.1 g1, hall.1 (Decidable.not_not.1 g2), Decidable.not_not.1 g3⟩
    obtain ⟨hd, hk, ht⟩ := h2
    rw [resWo, if_neg (by simpa using hd), if_neg (by omega), if_neg (by simpa using ht)] at hK
    obtain ⟨m, rfl, hm1, hm2⟩ := hd.n0
    rw [Int.toNat_natCast] at ht
    obtain ⟨y, rfl⟩ : ∃ y : Nat, k = y := ⟨k.toNat, by omega⟩
    rw [Int.toNat_natCast] at hK
    refine T_rseq fun Kr hKr => ?_
    simp (disch := omega) only [RA, ↓reduceIte, Nat.reduceEqDiff, RD, h0]
    refine hKr _ _ ?_
    clear hKr Kr
    try simp only [RN, reduceIte]
    try refine T_e rfl ?_
    refine T_cseq (t := false) (by simp (disch := omega) only [RA, ↓reduceIte, Nat.reduceEqDiff, RD]) ?_
    try simp only [RN, reduceIte]
    try refine T_e rfl ?_
    refine T_rseq fun Kr hKr => ?_
    simp (disch := omega) only [RA, ↓reduceIte, Nat.reduceEqDiff, Nat.reduceBEq, Nat.reduceSub, Nat.reduceAdd, Nat.reduceMul, Nat.reduceLT, Nat.reduceLeDiff, Int.reduceLE, Int.reduceLT, Int.reduceEq, Int.reduceNeg, Int.reduceToNat, Int.reduceMul, Int.reduceAdd, Int.reduceSub, Int.reduceBEq, Int.reduceBNe, reduceCtorEq, RD, RDS, RDD]
    refine wordOfTree_spec hb hw hd (by omega) (wd_some hd ht (by omega)) (wd_len hd ht (by omega)) ?_
    simp (disch := omega) only [RA, ↓reduceIte, Nat.reduceEqDiff, RD]
    refine hKr _ _ ?_
    clear hKr Kr
    try simp only [blkQ, thenQ, loopQ]
    try simp only [RN, reduceIte]
    try refine T_e rfl ?_
    refine bodyQ_ret (by simp (disch := omega) only [RA, ↓reduceIte, Nat.reduceEqDiff, RD, resAll, resOf]; rfl) GhV.refl ?_
    simp only [tup]
    exact ⟨nn_SI, hK⟩
  · have h2 : resWo n b w k = ([], tcode n b w [k]) := by
      unfold resWo tcode at *
      simp only [hall] at h0 ⊢
      split
      · rfl
      · rename_i g1
        rw [if_neg g1] at h0
        split
        · rfl
        · rename_i g2
          rw [if_neg g2] at h0
          split
          · rfl
          · rename_i g3
            rw [if_neg g3] at h0
            exact absurd rfl h0
    rw [h2] at hK
    refine T_rseq fun Kr hKr => ?_
    simp (disch := omega) only [RA, ↓reduceIte, Nat.reduceEqDiff, RD]
    refine hKr _ _ ?_
    clear hKr Kr
    try simp only [RN, reduceIte]
    try refine T_e rfl ?_
    refine T_cseq (t := true) (by simp (disch := omega) only [RA, ↓reduceIte, Nat.reduceEqDiff, RD]) ?_
    try simp only [RN, reduceIte]
    try refine T_e rfl ?_
    refine T_rseq fun Kr hKr => ?_
    simp (disch := omega) only [RA, ↓reduceIte, Nat.reduceEqDiff, RD]
    refine hKr _ _ ?_
    clear hKr Kr
    try simp only [RN, reduceIte]
    try refine T_e rfl ?_
    refine bodyQ_ret (by simp (disch := omega) only [RA, ↓reduceIte, Nat.reduceEqDiff, RD, resAll, resOf]; rfl) GhV.refl ?_
    simp only [tup]
    exact ⟨nn_SI, hK⟩
end Go.Bm
