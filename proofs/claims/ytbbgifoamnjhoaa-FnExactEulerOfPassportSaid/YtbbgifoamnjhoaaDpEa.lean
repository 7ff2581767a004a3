/- Slices of slices in laws; sums and types of lists; passports. -/
import Derived.Test.YtbbgifoamnjhoaaDpS
import Derived.Test.YtbbgifoamnjhoaaDp0
set_option linter.unusedVariables false
set_option linter.unusedSimpArgs false
namespace Go.Bm
open Go Go.Am

theorem getD_mem' {α : Type} {ls : List α} {d : α} {j : Nat} (h : j < ls.length) : ls.getD j d ∈ ls := by simp [List.getD, h]
theorem szInt64S_spec {x : Bool} {xs : List Int} {a : Int} {H : BH} {K : Value → BH → Prop} (ha : 0 ≤ a ∧ a ≤ 1048576) (hl : xs.length ≤ 9223372036854775807)
    (hK : K (I (if a - xs.length < 0 then -1 else a - xs.length)) H) : CallX x F_laws_szInt64S [FI xs, I a] H K := by
  refine callP (.cons .fz (.cons .int .nil)) ?_
  refine CallX_body Γ_laws_szInt64S ?_
  simp only [A_laws_szInt64S, T_aiff]
  refine T_rseq fun Kr hKr => ?_
  simp (disch := omega) only [RA, ↓reduceIte, Nat.reduceEqDiff, RD]
  refine hKr _ _ ?_
  clear hKr Kr
  try simp only [RN, reduceIte]
  try refine T_e rfl ?_
  refine T_rseq fun Kr hKr => ?_
  simp (disch := omega) only [RA, ↓reduceIte, Nat.reduceEqDiff, RD]
  refine hKr _ _ ?_
  clear hKr Kr
  try simp only [RN, reduceIte]
  try refine T_e rfl ?_
  refine T_rseq fun Kr hKr => ?_
  simp (disch := omega) only [RA, ↓reduceIte, Nat.reduceEqDiff, RD]
  refine hKr _ _ ?_
  clear hKr Kr
  try simp only [RN, reduceIte]
  try refine T_e rfl ?_
  refine T_csplit (p := a - xs.length < 0) (by simp only [RA, ↓reduceIte, Nat.reduceEqDiff] <;> rfl) (by (try simp only [RB]) <;> first | done | exact Iff.rfl | omega | simp) (fun hc => ?_) (fun hc => ?_) <;> (try simp only [RN, reduceIte]) <;> (try refine T_e rfl ?_)
  · refine T_rseq fun Kr hKr => ?_
    simp (disch := omega) only [RA, ↓reduceIte, Nat.reduceEqDiff, RD]
    refine hKr _ _ ?_
    clear hKr Kr
    try simp only [RN, reduceIte]
    try refine T_e rfl ?_
    refine bodyQ_ret (by simp (disch := omega) only [RA, ↓reduceIte, Nat.reduceEqDiff, RD, resAll, resOf]; rfl) GhV.refl ?_
    simp only [tup]
    rw [if_pos hc] at hK
    exact ⟨.int, hK⟩
  · refine T_rseq fun Kr hKr => ?_
    simp (disch := omega) only [RA, ↓reduceIte, Nat.reduceEqDiff, RD]
    refine hKr _ _ ?_
    clear hKr Kr
    try simp only [RN, reduceIte]
    try refine T_e rfl ?_
    refine bodyQ_ret (by simp (disch := omega) only [RA, ↓reduceIte, Nat.reduceEqDiff, RD, resAll, resOf]; rfl) GhV.refl ?_
    simp only [tup]
    rw [if_neg hc] at hK
    exact ⟨.int, hK⟩
theorem getN_FI {xs : List (List Int)} {k : Nat} (h : k < xs.length) : getN none (xs.map FI) k = some (FI (xs.getD k [])) := by
  simp [getN, h, List.getD]
theorem szInt64SS_spec {x : Bool} {xss : List (List Int)} {H : BH} {K : Value → BH → Prop} (hl : xss.length ≤ 9223372036854775807) (hll : ∀ xs ∈ xss, xs.length ≤ 9223372036854775807)
    (hK : ∀ r : Int, r ≤ 1048576 → -1 ≤ r → (0 ≤ r → xss.length ≤ 1048576 ∧ ∀ xs ∈ xss, xs.length ≤ 1048576) → K (I r) H) : CallX x F_laws_szInt64SS [FII xss, I 1048576] H K := by
  refine callP (.cons .fz (.cons .int .nil)) ?_
  refine CallX_body Γ_laws_szInt64SS ?_
  simp only [A_laws_szInt64SS, T_aiff]
  refine T_rseq fun Kr hKr => ?_
  simp (disch := omega) only [RA, ↓reduceIte, Nat.reduceEqDiff, RD]
  refine hKr _ _ ?_
  clear hKr Kr
  try simp only [RN, reduceIte]
  try refine T_e rfl ?_
  refine T_rseq fun Kr hKr => ?_
  simp (disch := omega) only [RA, ↓reduceIte, Nat.reduceEqDiff, RD]
  refine hKr _ _ ?_
  clear hKr Kr
  try simp only [RN, reduceIte]
  try refine T_e rfl ?_
  refine T_rseq fun Kr hKr => ?_
  simp (disch := omega) only [RA, ↓reduceIte, Nat.reduceEqDiff, RD]
  refine hKr _ _ ?_
  clear hKr Kr
  try simp only [RN, reduceIte]
  try refine T_e rfl ?_
  refine T_csplit (p := (1048576 : Int) - xss.length < 0) (by simp only [RA, ↓reduceIte, Nat.reduceEqDiff] <;> rfl) (by (try simp only [RB]) <;> first | done | exact Iff.rfl | omega | simp) (fun hc => ?_) (fun hc => ?_) <;> (try simp only [RN, reduceIte]) <;> (try refine T_e rfl ?_)
  · refine T_rseq fun Kr hKr => ?_
    simp (disch := omega) only [RA, ↓reduceIte, Nat.reduceEqDiff, RD]
    refine hKr _ _ ?_
    clear hKr Kr
    try simp only [RN, reduceIte]
    try refine T_e rfl ?_
    refine bodyQ_ret (by simp (disch := omega) only [RA, ↓reduceIte, Nat.reduceEqDiff, RD, resAll, resOf]; rfl) GhV.refl ?_
    simp only [tup]
    exact ⟨.int, hK (-1) (by omega) (by omega) (fun h => by omega)⟩
  have hxl : xss.length ≤ 1048576 := by omega
  clear hc
  refine T_rseq fun Kr hKr => ?_
  simp (disch := omega) only [RA, ↓reduceIte, Nat.reduceEqDiff, RD]
  refine hKr _ _ ?_
  clear hKr Kr
  try simp only [RN, reduceIte]
  try refine T_e rfl ?_
  refine T_wloop (fun m f H' => ∃ i a, i ≤ xss.length ∧ m = xss.length - i ∧ 0 ≤ a ∧ a ≤ 1048576 ∧ (∀ j, j < i → (xss.getD j []).length ≤ 1048576) ∧ f 0 = FII xss ∧ f 1 = I a ∧ f 5 = I i ∧ H' = []) (xss.length) ?_ ?_
  · refine ⟨_, _, Gh.refl, 0, 1048576 - (xss.length : Int), by omega, by omega, by omega, by omega, fun j hj => by omega, ?_, ?_, ?_, rfl⟩
    any_goals (simp (disch := omega) only [RA, ↓reduceIte, Nat.reduceEqDiff, RD, RE, *] <;> rfl)
  · rintro m f H' R ⟨i, a, hi, rfl, ha0, ha1, hall, g0, g1, g5, rfl⟩ hN hX hR hE
    simp only [A_laws_szInt64SS.l0, T_aiff]
    refine T_rseq fun Kr hKr => ?_
    simp (disch := omega) only [RA, ↓reduceIte, Nat.reduceEqDiff, RD, g0, g5]
    refine hKr _ _ ?_
    clear hKr Kr
    try simp only [RN, reduceIte]
    try refine T_e rfl ?_
    refine T_csplit (p := i < xss.length) (by simp only [RA, ↓reduceIte, Nat.reduceEqDiff] <;> rfl) (by (try simp only [RB]) <;> first | done | exact Iff.rfl | omega | simp) (fun hc => ?_) (fun hc => ?_) <;> (try simp only [RN, reduceIte]) <;> (try refine T_e rfl ?_)
    · have hxi := hll _ (getD_mem' (d := []) hc)
      first | refine T_bfree rfl ?_ | refine T_bfree' rfl ?_
      try simp only [RN, reduceIte]
      try refine T_e rfl ?_
      refine T_rseq fun Kr hKr => ?_
      simp (disch := omega) only [RA, ↓reduceIte, Nat.reduceEqDiff, RD, g0, g1, g5, getN_FI]
      refine szInt64S_spec ⟨ha0, ha1⟩ hxi ?_
      by_cases hneg : a - (xss.getD i []).length < 0
      · rw [if_pos hneg]
        simp (disch := omega) only [RA, ↓reduceIte, Nat.reduceEqDiff, RD]
        refine hKr _ _ ?_
        clear hKr Kr
        try simp only [blkQ, thenQ, loopQ]
        try simp only [RN, reduceIte]
        try refine T_e rfl ?_
        refine T_rseq fun Kr hKr => ?_
        simp (disch := omega) only [RA, ↓reduceIte, Nat.reduceEqDiff, RD]
        refine hKr _ _ ?_
        clear hKr Kr
        try simp only [RN, reduceIte]
        try refine T_e rfl ?_
        refine T_cseq (t := true) (by simp (disch := omega) only [RA, ↓reduceIte, Nat.reduceEqDiff, RD]) ?_
        try simp only [RN, reduceIte]
        try refine T_e rfl ?_
        refine T_rseq fun Kr hKr => ?_
        simp (disch := omega) only [RA, ↓reduceIte, Nat.reduceEqDiff, RD]
        refine hKr _ _ ?_
        clear hKr Kr
        try simp only [RN, reduceIte]
        try refine T_e rfl ?_
        refine hR _ _ ?_
        refine bodyQ_ret (by simp (disch := omega) only [RA, ↓reduceIte, Nat.reduceEqDiff, RD, resAll, resOf]; rfl) GhV.refl ?_
        simp only [tup]
        exact ⟨.int, hK (-1) (by omega) (by omega) (fun h => by omega)⟩
      · rw [if_neg hneg]
        have hall' : ∀ j, j < i + 1 → (xss.getD j []).length ≤ 1048576 := fun j hj => by
          by_cases e : j = i
          · rw [e]; omega
          · exact hall j (by omega)
        simp (disch := omega) only [RA, ↓reduceIte, Nat.reduceEqDiff, RD]
        refine hKr _ _ ?_
        clear hKr Kr
        try simp only [blkQ, thenQ, loopQ]
        try simp only [RN, reduceIte]
        try refine T_e rfl ?_
        refine T_rseq fun Kr hKr => ?_
        simp (disch := omega) only [RA, ↓reduceIte, Nat.reduceEqDiff, RD]
        refine hKr _ _ ?_
        clear hKr Kr
        try simp only [RN, reduceIte]
        try refine T_e rfl ?_
        refine T_cseq (t := false) (by simp (disch := omega) only [RA, ↓reduceIte, Nat.reduceEqDiff, RD]) ?_
        try simp only [RN, reduceIte]
        try refine T_e rfl ?_
        refine T_reg_k fun Kr hKr => ?_
        simp (disch := omega) only [RA, ↓reduceIte, Nat.reduceEqDiff, RD, g5]
        refine hKr _ _ ?_
        clear hKr Kr
        refine hN (xss.length - (i + 1)) _ _ _ _ (by omega) Gh.refl ⟨i + 1, a - (xss.getD i []).length, by omega, rfl, by omega, by omega, hall', ?_, ?_, ?_, rfl⟩
        any_goals (simp (disch := omega) only [RA, ↓reduceIte, Nat.reduceEqDiff, RD, RE, *] <;> rfl)
    · refine hX _ _ ?_
      refine T_rseq fun Kr hKr => ?_
      simp (disch := omega) only [RA, ↓reduceIte, Nat.reduceEqDiff, RD, g1]
      refine hKr _ _ ?_
      clear hKr Kr
      try simp only [RN, reduceIte]
      try refine T_e rfl ?_
      refine bodyQ_ret (by simp (disch := omega) only [RA, ↓reduceIte, Nat.reduceEqDiff, RD, resAll, resOf]; rfl) GhV.refl ?_
      simp only [tup]
      refine ⟨.int, hK a ha1 (by omega) fun _ => ⟨hxl, fun xs hxs => ?_⟩⟩
      obtain ⟨j, hj, rfl⟩ := List.mem_iff_getElem.1 hxs
      have := hall j (by omega)
      simpa [List.getD, hj] using this
def cpI (xs : List Int) : Nat → List Int
  | 0 => List.replicate xs.length 0
  | k + 1 => (cpI xs k).set k (el xs k)
theorem cpI_len {xs : List Int} {k : Nat} : (cpI xs k).length = xs.length := by
  induction k with
  | zero => simp [cpI]
  | succ k ih => simp [cpI, ih]
theorem cpI_el {xs : List Int} {k i : Nat} (hi : i < xs.length) (hk : i < k) : el (cpI xs k) i = el xs i := by
  induction k with
  | zero => omega
  | succ k ih =>
    rw [cpI, el_set, cpI_len]
    by_cases e : i = k
    · subst e; rw [if_pos ⟨rfl, hi⟩]
    · rw [if_neg (fun h => e h.1), ih (by omega)]
theorem cpI_all {xs : List Int} : cpI xs xs.length = xs := by
  apply List.ext_getElem cpI_len
  intro i h1 h2
  have := cpI_el (k := xs.length) h2 h2
  simpa [el, List.getD, h1, h2] using this
theorem toInt64S_run {xs : List Int} (hl : xs.length ≤ 1048576) : CallX false F_laws_toInt64S [FI xs] [] fun v H1 => ∃ j, v = S j 0 xs.length 1 ∧ blk H1 j = some (xs.map I) := by
  refine CallX_body Γ_laws_toInt64S ?_
  simp only [A_laws_toInt64S, T_aiff]
  refine T_rseq fun Kr hKr => ?_
  simp (disch := omega) only [RA, ↓reduceIte, Nat.reduceEqDiff, RD]
  refine hKr _ _ ?_
  clear hKr Kr
  try simp only [RN, reduceIte]
  try refine T_e rfl ?_
  refine T_rseq fun Kr hKr => ?_
  simp (disch := omega) only [RA, ↓reduceIte, Nat.reduceEqDiff, RD]
  refine hKr _ _ ?_
  clear hKr Kr
  try simp only [RN, reduceIte]
  try refine T_e rfl ?_
  refine T_rseq fun Kr hKr => ?_
  simp (disch := omega) only [RA, ↓reduceIte, Nat.reduceEqDiff, RD]
  refine hKr _ _ ?_
  clear hKr Kr
  try simp only [RN, reduceIte]
  try refine T_e rfl ?_
  refine T_wloop (fun m f H' => ∃ i, i ≤ xs.length ∧ m = xs.length - i ∧ f 0 = FI xs ∧ f 3 = S 0 0 xs.length 1 ∧ f 4 = I i ∧ H' = [some ((cpI xs i).map I)]) (xs.length) ?_ ?_
  · refine ⟨_, _, Gh.refl, 0, by omega, by omega, ?_, ?_, ?_, by simp [cpI]⟩
    any_goals (simp (disch := omega) only [RA, ↓reduceIte, Nat.reduceEqDiff, RD, RE, *] <;> rfl)
  · rintro m f H' R ⟨i, hi, rfl, g0, g3, g4, rfl⟩ hN hX hR hE
    simp only [A_laws_toInt64S.l0, T_aiff]
    have hcl := @cpI_len xs i
    refine T_rseq fun Kr hKr => ?_
    simp (disch := omega) only [RA, ↓reduceIte, Nat.reduceEqDiff, RD, g0, g4]
    refine hKr _ _ ?_
    clear hKr Kr
    try simp only [RN, reduceIte]
    try refine T_e rfl ?_
    refine T_csplit (p := i < xs.length) (by simp only [RA, ↓reduceIte, Nat.reduceEqDiff] <;> rfl) (by (try simp only [RB]) <;> first | done | exact Iff.rfl | omega | simp) (fun hc => ?_) (fun hc => ?_) <;> (try simp only [RN, reduceIte]) <;> (try refine T_e rfl ?_)
    · first | refine T_bfree rfl ?_ | refine T_bfree' rfl ?_
      try simp only [RN, reduceIte]
      try refine T_e rfl ?_
      refine T_rseq fun Kr hKr => ?_
      simp (disch := omega) only [RA, ↓reduceIte, Nat.reduceEqDiff, RD, g0, g3, g4, hcl]
      refine hKr _ _ ?_
      clear hKr Kr
      try simp only [RN, reduceIte]
      try refine T_e rfl ?_
      refine T_reg_k fun Kr hKr => ?_
      simp (disch := omega) only [RA, ↓reduceIte, Nat.reduceEqDiff, RD, g4]
      refine hKr _ _ ?_
      clear hKr Kr
      refine hN (xs.length - (i + 1)) _ _ _ _ (by omega) Gh.refl ⟨i + 1, by omega, rfl, ?_, ?_, ?_, rfl⟩
      any_goals (simp (disch := omega) only [RA, ↓reduceIte, Nat.reduceEqDiff, RD, RE, *] <;> rfl)
    · refine hX _ _ ?_
      obtain rfl : i = xs.length := by omega
      refine T_rseq fun Kr hKr => ?_
      simp (disch := omega) only [RA, ↓reduceIte, Nat.reduceEqDiff, RD, g3]
      refine hKr _ _ ?_
      clear hKr Kr
      try simp only [RN, reduceIte]
      try refine T_e rfl ?_
      refine bodyQ_ret (by simp (disch := omega) only [RA, ↓reduceIte, Nat.reduceEqDiff, RD, resAll, resOf, g3]; rfl) GhV.refl ?_
      simp only [tup]
      rw [cpI_all]
      exact ⟨0, rfl, rfl⟩
theorem toInt64S_spec {x : Bool} {xs : List Int} {H : BH} {K : Value → BH → Prop} (hl : xs.length ≤ 1048576) (hK : K (FI xs) H) : CallX x F_laws_toInt64S [FI xs] H K :=
  callRZ (.cons .fz .nil) NNL_I (by simp) (toInt64S_run hl) hK
/-- The first k copied, nil behind. -/
def cpII (xss : List (List Int)) (k : Nat) : List Value := (xss.take k).map FI ++ List.replicate (xss.length - k) (.slice none 0 0)
theorem cpII_len {xss : List (List Int)} {k : Nat} (h : k ≤ xss.length) : (cpII xss k).length = xss.length := by
  simp [cpII]
  omega
theorem cpII_st {xss : List (List Int)} {k b : Nat} {H : BH} (h : k < xss.length) : stO (some (cpII xss k)) H b k 1 (FI (xss.getD k [])) = some (undef, H.set b (some (cpII xss (k + 1)))) := by
  rw [stO_1 rfl rfl rfl (by rw [cpII_len (by omega)]; exact h)]
  congr 4
  have hk : ((xss.take k).map FI).length = k := by simp; omega
  have e1 : (cpII xss k).take k = (xss.take k).map FI := by
    rw [cpII, List.take_append_of_le_length (by omega), List.take_of_length_le (by omega)]
  have e2 : (cpII xss k).drop (k + 1) = List.replicate (xss.length - (k + 1)) (.slice none 0 0) := by
    rw [cpII, List.drop_append, List.drop_eq_nil_of_le (by omega), hk, List.drop_replicate, List.nil_append]
    congr 1
    omega
  show (cpII xss k).take k ++ [FI (xss.getD k [])] ++ (cpII xss k).drop (k + 1) = _
  rw [e1, e2, cpII, List.take_add_one, List.map_append]
  simp [List.getD, h]
theorem NNL_cp {xss : List (List Int)} {k : Nat} : NNL (cpII xss k) := .append NNL_FI (.replicate .nil)
theorem toInt64SS_spec {x : Bool} {xss : List (List Int)} {H : BH} {K : Value → BH → Prop} (hl : xss.length ≤ 1048576) (hll : ∀ xs ∈ xss, xs.length ≤ 1048576) (hK : K (FII xss) H) : CallX x F_laws_toInt64SS [FII xss] H K := by
  refine callRZ (.cons .fz .nil) NNL_FI (by simp) ?_ hK
  refine CallX_body Γ_laws_toInt64SS ?_
  simp only [A_laws_toInt64SS, T_aiff]
  refine T_rseq fun Kr hKr => ?_
  simp (disch := omega) only [RA, ↓reduceIte, Nat.reduceEqDiff, RD]
  refine hKr _ _ ?_
  clear hKr Kr
  try simp only [RN, reduceIte]
  try refine T_e rfl ?_
  refine T_rseq fun Kr hKr => ?_
  simp (disch := omega) only [RA, ↓reduceIte, Nat.reduceEqDiff, RD]
  refine hKr _ _ ?_
  clear hKr Kr
  try simp only [RN, reduceIte]
  try refine T_e rfl ?_
  refine T_rseq fun Kr hKr => ?_
  simp (disch := omega) only [RA, ↓reduceIte, Nat.reduceEqDiff, RD]
  refine hKr _ _ ?_
  clear hKr Kr
  try simp only [RN, reduceIte]
  try refine T_e rfl ?_
  refine T_wloop (fun m f H' => ∃ i, i ≤ xss.length ∧ m = xss.length - i ∧ f 0 = FII xss ∧ f 3 = S 0 0 xss.length 1 ∧ f 4 = I i ∧ H' = [some (cpII xss i)]) (xss.length) ?_ ?_
  · refine ⟨_, _, Gh.refl, 0, by omega, by omega, ?_, ?_, ?_, by simp [cpII]⟩
    any_goals (simp (disch := omega) only [RA, ↓reduceIte, Nat.reduceEqDiff, RD, RE, *] <;> rfl)
  · rintro m f H' R ⟨i, hi, rfl, g0, g3, g4, rfl⟩ hN hX hR hE
    simp only [A_laws_toInt64SS.l0, T_aiff]
    refine T_rseq fun Kr hKr => ?_
    simp (disch := omega) only [RA, ↓reduceIte, Nat.reduceEqDiff, RD, g0, g4]
    refine hKr _ _ ?_
    clear hKr Kr
    try simp only [RN, reduceIte]
    try refine T_e rfl ?_
    refine T_csplit (p := i < xss.length) (by simp only [RA, ↓reduceIte, Nat.reduceEqDiff] <;> rfl) (by (try simp only [RB]) <;> first | done | exact Iff.rfl | omega | simp) (fun hc => ?_) (fun hc => ?_) <;> (try simp only [RN, reduceIte]) <;> (try refine T_e rfl ?_)
    · have hxi := hll _ (getD_mem' (d := []) hc)
      first | refine T_bfree rfl ?_ | refine T_bfree' rfl ?_
      try simp only [RN, reduceIte]
      try refine T_e rfl ?_
      refine T_rseq fun Kr hKr => ?_
      simp (disch := omega) only [RA, ↓reduceIte, Nat.reduceEqDiff, RD, g0, g3, g4, getN_FI]
      refine toInt64S_spec hxi ?_
      simp (disch := omega) only [RA, ↓reduceIte, Nat.reduceEqDiff, RD, g3, g4, cpII_st]
      refine hKr _ _ ?_
      clear hKr Kr
      try simp only [blkQ, thenQ, loopQ]
      try simp only [RN, reduceIte]
      try refine T_e rfl ?_
      refine T_reg_k fun Kr hKr => ?_
      simp (disch := omega) only [RA, ↓reduceIte, Nat.reduceEqDiff, RD, g4]
      refine hKr _ _ ?_
      clear hKr Kr
      refine hN (xss.length - (i + 1)) _ _ _ _ (by omega) Gh.refl ⟨i + 1, by omega, rfl, ?_, ?_, ?_, rfl⟩
      any_goals (simp (disch := omega) only [RA, ↓reduceIte, Nat.reduceEqDiff, RD, RE, *] <;> rfl)
    · refine hX _ _ ?_
      obtain rfl : i = xss.length := by omega
      refine T_rseq fun Kr hKr => ?_
      simp (disch := omega) only [RA, ↓reduceIte, Nat.reduceEqDiff, RD, g3]
      refine hKr _ _ ?_
      clear hKr Kr
      try simp only [RN, reduceIte]
      try refine T_e rfl ?_
      refine bodyQ_ret (by simp (disch := omega) only [RA, ↓reduceIte, Nat.reduceEqDiff, RD, resAll, resOf, g3]; rfl) GhV.refl ?_
      simp only [tup]
      exact ⟨0, rfl, by simp [cpII, blk]⟩
/-- Slices of slices are equal to themselves. -/
theorem eqInt64SS_same {xss : List (List Int)} {H : BH} {K : Value → BH → Prop} (hl : xss.length ≤ 1048576) (hll : ∀ xs ∈ xss, xs.length ≤ 1048576) (hK : K (.bool true) H) : CallX false F_laws_eqInt64SS [FII xss, FII xss] H K := by
  refine callP (.cons .fz (.cons .fz .nil)) ?_
  refine CallX_body Γ_laws_eqInt64SS ?_
  simp only [A_laws_eqInt64SS, T_aiff]
  refine T_rseq fun Kr hKr => ?_
  simp (disch := omega) only [RA, ↓reduceIte, Nat.reduceEqDiff, RD]
  refine hKr _ _ ?_
  clear hKr Kr
  try simp only [RN, reduceIte]
  try refine T_e rfl ?_
  refine T_rseq fun Kr hKr => ?_
  simp (disch := omega) only [RA, ↓reduceIte, Nat.reduceEqDiff, RD]
  refine hKr _ _ ?_
  clear hKr Kr
  try simp only [RN, reduceIte]
  try refine T_e rfl ?_
  refine T_cseq (t := false) (by simp (disch := omega) only [RA, ↓reduceIte, Nat.reduceEqDiff, RD]) ?_
  try simp only [RN, reduceIte]
  try refine T_e rfl ?_
  refine T_rseq fun Kr hKr => ?_
  simp (disch := omega) only [RA, ↓reduceIte, Nat.reduceEqDiff, RD]
  refine hKr _ _ ?_
  clear hKr Kr
  try simp only [RN, reduceIte]
  try refine T_e rfl ?_
  refine T_wloop (fun m f H' => ∃ i, i ≤ xss.length ∧ m = xss.length - i ∧ f 0 = FII xss ∧ f 1 = FII xss ∧ f 5 = I i ∧ H' = []) (xss.length) ?_ ?_
  · refine ⟨_, _, Gh.refl, 0, by omega, by omega, ?_, ?_, ?_, rfl⟩
    any_goals (simp (disch := omega) only [RA, ↓reduceIte, Nat.reduceEqDiff, RD, RE, *] <;> rfl)
  · rintro m f H' R ⟨i, hi, rfl, g0, g1, g5, rfl⟩ hN hX hR hE
    simp only [A_laws_eqInt64SS.l0, T_aiff]
    refine T_rseq fun Kr hKr => ?_
    simp (disch := omega) only [RA, ↓reduceIte, Nat.reduceEqDiff, RD, g0, g5]
    refine hKr _ _ ?_
    clear hKr Kr
    try simp only [RN, reduceIte]
    try refine T_e rfl ?_
    refine T_csplit (p := i < xss.length) (by simp only [RA, ↓reduceIte, Nat.reduceEqDiff] <;> rfl) (by (try simp only [RB]) <;> first | done | exact Iff.rfl | omega | simp) (fun hc => ?_) (fun hc => ?_) <;> (try simp only [RN, reduceIte]) <;> (try refine T_e rfl ?_)
    · have hxi := hll _ (getD_mem' (d := []) hc)
      first | refine T_bfree rfl ?_ | refine T_bfree' rfl ?_
      try simp only [RN, reduceIte]
      try refine T_e rfl ?_
      refine T_rseq fun Kr hKr => ?_
      simp (disch := omega) only [RA, ↓reduceIte, Nat.reduceEqDiff, RD, g0, g1, g5, getN_FI]
      refine callP (.cons .fz (.cons .fz .nil)) ?_
      refine eqInt64S_spec Sl.fz Sl.fz (by omega) (by omega) ?_
      refine ⟨.bool, ?_⟩
      simp (disch := omega) only [RA, ↓reduceIte, Nat.reduceEqDiff, RD]
      refine hKr _ _ ?_
      clear hKr Kr
      try simp only [blkQ, thenQ, loopQ]
      try simp only [RN, reduceIte]
      try refine T_e rfl ?_
      refine T_cseq (t := false) (by simp (disch := omega) only [RA, ↓reduceIte, Nat.reduceEqDiff, RD]) ?_
      try simp only [RN, reduceIte]
      try refine T_e rfl ?_
      refine T_reg_k fun Kr hKr => ?_
      simp (disch := omega) only [RA, ↓reduceIte, Nat.reduceEqDiff, RD, g5]
      refine hKr _ _ ?_
      clear hKr Kr
      refine hN (xss.length - (i + 1)) _ _ _ _ (by omega) Gh.refl ⟨i + 1, by omega, rfl, ?_, ?_, ?_, rfl⟩
      any_goals (simp (disch := omega) only [RA, ↓reduceIte, Nat.reduceEqDiff, RD, RE, *] <;> rfl)
    · refine hX _ _ ?_
      refine T_rseq fun Kr hKr => ?_
      simp (disch := omega) only [RA, ↓reduceIte, Nat.reduceEqDiff, RD]
      refine hKr _ _ ?_
      clear hKr Kr
      try simp only [RN, reduceIte]
      try refine T_e rfl ?_
      refine bodyQ_ret (by simp (disch := omega) only [RA, ↓reduceIte, Nat.reduceEqDiff, RD, resAll, resOf]; rfl) GhV.refl ?_
      simp only [tup]
      exact ⟨.bool, hK⟩
end Go.Bm
