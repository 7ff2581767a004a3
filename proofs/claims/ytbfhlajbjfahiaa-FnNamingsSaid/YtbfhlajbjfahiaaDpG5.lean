/- DpDg, DpDo, DpDb, DpDc, DpDh -/
import Derived.Test.YtbfhlajbjfahiaaBmQ
import Derived.Test.YtbfhlajbjfahiaaDpG0
import Derived.Test.YtbfhlajbjfahiaaDpG1
import Derived.Test.YtbfhlajbjfahiaaDpG3
import Derived.Test.YtbfhlajbjfahiaaDpG4
/- Draws: permutations and stars. -/
set_option linter.unusedVariables false
set_option linter.unusedSimpArgs false
namespace Go.Bm
open Go Go.Am

/-- The same, up to k. -/
def idK : Nat → List Nat
  | 0 => z16
  | i + 1 => (idK i).set i i
def tuK (n : Nat) : Nat → List Nat
  | 0 => z16
  | i + 1 => (tuK n i).set i ((i + 1) % n)
theorem z16_nl {i : Nat} : nl z16 i = 0 := by rw [z16, nl_rep]; split <;> rfl
theorem idK_len {k : Nat} : (idK k).length = 16 := by
  induction k with
  | zero => exact z16_len
  | succ k ih => rw [idK, List.length_set, ih]
theorem tuK_len {n k : Nat} : (tuK n k).length = 16 := by
  induction k with
  | zero => exact z16_len
  | succ k ih => rw [tuK, List.length_set, ih]
theorem idK_nl {k i : Nat} (hk : k ≤ 16) : nl (idK k) i = if i < k then i else 0 := by
  induction k with
  | zero => rw [idK, z16_nl, if_neg (by omega)]
  | succ k ih =>
    rw [idK, nl_set, ih (by omega), idK_len]
    by_cases e : i = k
    · subst e; rw [if_pos ⟨rfl, by omega⟩, if_pos (by omega)]
    · rw [if_neg (by omega)]
      by_cases h : i < k
      · rw [if_pos h, if_pos (by omega)]
      · rw [if_neg h, if_neg (by omega)]
theorem tuK_nl {n k i : Nat} (hk : k ≤ 16) : nl (tuK n k) i = if i < k then (i + 1) % n else 0 := by
  induction k with
  | zero => rw [tuK, z16_nl, if_neg (by omega)]
  | succ k ih =>
    rw [tuK, nl_set, ih (by omega), tuK_len]
    by_cases e : i = k
    · subst e; rw [if_pos ⟨rfl, by omega⟩, if_pos (by omega)]
    · rw [if_neg (by omega)]
      by_cases h : i < k
      · rw [if_pos h, if_pos (by omega)]
      · rw [if_neg h, if_neg (by omega)]
theorem idK_by {k : Nat} (hk : k ≤ 16) : By 16 (idK k) := ⟨idK_len, fun i => by rw [idK_nl hk]; split <;> omega⟩
theorem tuK_by {n k : Nat} (hn : 1 ≤ n ∧ n ≤ 16) (hk : k ≤ 16) : By 16 (tuK n k) := ⟨tuK_len, fun i => by
  rw [tuK_nl hk]
  have := Nat.mod_lt (i + 1) (show 0 < n by omega)
  split <;> omega⟩
theorem Perm.of {p : List Nat} {n : Nat} (hn : 1 ≤ n ∧ n ≤ 16) (h0 : ∀ i, n ≤ i → i < 16 → nl p i = 0) (h1 : ∀ i, i < n → nl p i < n) (h2 : ∀ i j, i < n → j < i → nl p j ≠ nl p i) : Perm p n :=
  ⟨by omega, fun i hi => ⟨fun h => h0 i (by omega) hi, fun h => ⟨by have := h1 i (by omega); omega, fun j hj => h2 i j (by omega) hj⟩⟩⟩
theorem Perm.zero {p : List Nat} {n : Nat} (h : Perm p n) {i : Nat} (h1 : n ≤ i) (h2 : i < 16) : nl p i = 0 := (h.2 i h2).1 (by omega)
theorem idK_perm {n : Nat} (hn : 1 ≤ n ∧ n ≤ 16) : Perm (idK n) n := .of hn
  (fun i h1 h2 => by rw [idK_nl hn.2, if_neg (by omega)]) (fun i h => by rw [idK_nl hn.2, if_pos h]; exact h)
  (fun i j h1 h2 => by rw [idK_nl hn.2, idK_nl hn.2, if_pos h1, if_pos (by omega)]; omega)
theorem mod_one {n i : Nat} (h : i < n) : (i + 1) % n = if i + 1 = n then 0 else i + 1 := by
  split
  · rename_i e; rw [e, Nat.mod_self]
  · exact Nat.mod_eq_of_lt (by omega)
theorem tuK_perm {n : Nat} (hn : 1 ≤ n ∧ n ≤ 16) : Perm (tuK n n) n := .of hn
  (fun i h1 h2 => by rw [tuK_nl hn.2, if_neg (by omega)]) (fun i h => by rw [tuK_nl hn.2, if_pos h]; exact Nat.mod_lt _ (by omega))
  (fun i j h1 h2 => by
    rw [tuK_nl hn.2, tuK_nl hn.2, if_pos h1, if_pos (by omega), mod_one h1, mod_one (by omega)]
    split <;> split <;> omega)
theorem Perm.swap {p : List Nat} {n : Nat} (h : Perm p n) (hl : p.length = 16) {i k : Nat} (hi : i < n) (hk : k < n) : Perm ((p.set i (nl p k)).set k (nl p i)) n := by
  have hn := h.1
  have e : ∀ j, nl ((p.set i (nl p k)).set k (nl p i)) j = if j = k then nl p i else if j = i then nl p k else nl p j := fun j => by
    rw [nl_set, nl_set, List.length_set, hl]
    by_cases e1 : j = k
    · rw [if_pos ⟨e1, by omega⟩, if_pos e1]
    · rw [if_neg (by omega), if_neg e1]
      by_cases e2 : j = i
      · rw [if_pos ⟨e2, by omega⟩, if_pos e2]
      · rw [if_neg (by omega), if_neg e2]
  refine .of (by omega) (fun j h1 h2 => ?_) (fun j hj => ?_) (fun j j' hj hj' => ?_)
  · rw [e, if_neg (by omega), if_neg (by omega)]; exact h.zero h1 h2
  · rw [e]; split
    · exact h.lt hi
    · split
      · exact h.lt hk
      · exact h.lt hj
  · rw [e, e]
    intro he
    have key : ∀ a b, a < n → b < n → nl p a = nl p b → a = b := fun a b ha hb hab => h.inj ha hb hab
    split at he <;> split at he <;> (try split at he) <;> (try split at he)
    all_goals first
      | (have := key _ _ (by omega) (by omega) he; omega)
/-- A star with any white permutation. -/
theorem Des.turn {w : List Nat} {n : Nat} (hn : 1 ≤ n ∧ n ≤ 16) (hw : Perm w n) : Des n (tuK n n) w := by
  have hb := tuK_perm hn
  refine ⟨hb, hw, ?_⟩
  have h0 := ord_bf hb hw (x := 0) (by omega)
  have hcl := ord_cl hb hw (x := 0) (by omega)
  have hin : 0 ∈ ord (tuK n n) w 0 := by
    obtain ⟨r, hr⟩ := h0.pre
    rw [ord, hr]
    simp
  have hall : ∀ y, y < n → y ∈ ord (tuK n n) w 0 := by
    intro y
    induction y with
    | zero => exact fun _ => hin
    | succ y ih =>
      intro hy
      have := (hcl y (ih (by omega))).1
      rwa [tuK_nl hn.2, if_pos (by omega), mod_one (by omega), if_neg (by omega)] at this
  have h1 := nodup_le h0.nod h0.lt
  have h2 := List.Nodup.length_le_of_subset (List.nodup_range (n := n)) (l₂ := ord (tuK n n) w 0) fun y hy => hall y (List.mem_range.1 hy)
  rw [List.length_range] at h2
  have e : (Bm.reach (tuK n n) w).2.length = n := Nat.le_antisymm h1 h2
  show ((Bm.reach (tuK n n) w).2.length : Int) = n
  omega
theorem l01Same_spec {x : Bool} {n : Int} {H : BH} {K : Value → BH → Prop} (hn : n ≤ 16) (hK : K (PL (idK n.toNat)) H) : CallX x F_spec_l01Same [I n] H K := by
  have hz := z16_len
  refine callP (by simp only [RH]) ?_
  refine CallX_body Γ_spec_l01Same ?_
  simp only [A_spec_l01Same, T_aiff]
  refine T_rseq fun Kr hKr => ?_
  simp (disch := omega) only [RA, ↓reduceIte, Nat.reduceEqDiff, Nat.reduceBEq, Nat.reduceSub, Nat.reduceAdd, Nat.reduceMul, Nat.reduceLT, Nat.reduceLeDiff, Int.reduceLE, Int.reduceLT, Int.reduceEq, Int.reduceNeg, Int.reduceToNat, Int.reduceMul, Int.reduceAdd, Int.reduceSub, Int.reduceBEq, Int.reduceBNe, reduceCtorEq, RD]
  refine hKr _ _ ?_
  clear hKr Kr
  try simp only [RN, reduceIte]
  try refine T_e rfl ?_
  refine T_rseq fun Kr hKr => ?_
  simp (disch := omega) only [RA, ↓reduceIte, Nat.reduceEqDiff, Nat.reduceBEq, Nat.reduceSub, Nat.reduceAdd, Nat.reduceMul, Nat.reduceLT, Nat.reduceLeDiff, Int.reduceLE, Int.reduceLT, Int.reduceEq, Int.reduceNeg, Int.reduceToNat, Int.reduceMul, Int.reduceAdd, Int.reduceSub, Int.reduceBEq, Int.reduceBNe, reduceCtorEq, RD]
  refine hKr _ _ ?_
  clear hKr Kr
  try simp only [RN, reduceIte]
  try refine T_e rfl ?_
  refine T_rseq fun Kr hKr => ?_
  simp (disch := omega) only [RA, ↓reduceIte, Nat.reduceEqDiff, Nat.reduceBEq, Nat.reduceSub, Nat.reduceAdd, Nat.reduceMul, Nat.reduceLT, Nat.reduceLeDiff, Int.reduceLE, Int.reduceLT, Int.reduceEq, Int.reduceNeg, Int.reduceToNat, Int.reduceMul, Int.reduceAdd, Int.reduceSub, Int.reduceBEq, Int.reduceBNe, reduceCtorEq, RD]
  refine hKr _ _ ?_
  clear hKr Kr
  try simp only [RN, reduceIte]
  try refine T_e rfl ?_
  refine T_wloop (fun m f H' => ∃ k : Nat, k ≤ n.toNat ∧ m = n.toNat - k ∧ f 0 = I n ∧ f 2 = P 0 0 ∧ f 3 = P 1 0 ∧ f 4 = I k ∧ H' = [some (List.replicate 16 (.int .u8 0)), some ((idK k).map N8)]) (n.toNat) ?_ ?_
  · refine ⟨_, _, Gh.refl, 0, by omega, by omega, ?_, ?_, ?_, ?_, rfl⟩
    any_goals (simp (disch := omega) only [RA, ↓reduceIte, Nat.reduceEqDiff, Nat.reduceBEq, Nat.reduceSub, Nat.reduceAdd, Nat.reduceMul, Nat.reduceLT, Nat.reduceLeDiff, Int.reduceLE, Int.reduceLT, Int.reduceEq, Int.reduceNeg, Int.reduceToNat, Int.reduceMul, Int.reduceAdd, Int.reduceSub, Int.reduceBEq, Int.reduceBNe, reduceCtorEq, RD, RE, *] <;> rfl)
  · rintro m f H' R ⟨k, hk, rfl, g0, g2, g3, g4, rfl⟩ hN hX hR hE
    simp only [A_spec_l01Same.l0, T_aiff]
    have hlk := @idK_len k
    refine T_rseq fun Kr hKr => ?_
    simp (disch := omega) only [RA, ↓reduceIte, Nat.reduceEqDiff, Nat.reduceBEq, Nat.reduceSub, Nat.reduceAdd, Nat.reduceMul, Nat.reduceLT, Nat.reduceLeDiff, Int.reduceLE, Int.reduceLT, Int.reduceEq, Int.reduceNeg, Int.reduceToNat, Int.reduceMul, Int.reduceAdd, Int.reduceSub, Int.reduceBEq, Int.reduceBNe, reduceCtorEq, RD, g0, g4]
    refine hKr _ _ ?_
    clear hKr Kr
    try simp only [RN, reduceIte]
    try refine T_e rfl ?_
    refine T_csplit (p := (k : Int) < n) (by simp only [RA, ↓reduceIte, Nat.reduceEqDiff, Nat.reduceBEq, Nat.reduceSub, Nat.reduceAdd, Nat.reduceMul, Nat.reduceLT, Nat.reduceLeDiff, Int.reduceLE, Int.reduceLT, Int.reduceEq, Int.reduceNeg, Int.reduceToNat, Int.reduceMul, Int.reduceAdd, Int.reduceSub, Int.reduceBEq, Int.reduceBNe, reduceCtorEq] <;> rfl) (by (try simp only [RB]) <;> first | done | exact Iff.rfl | omega | simp) (fun hc => ?_) (fun hc => ?_) <;> (try simp only [RN, reduceIte]) <;> (try refine T_e rfl ?_)
    · have hk16 : k < 16 := by omega
      first | refine T_bfree rfl ?_ | refine T_bfree' rfl ?_
      try simp only [RN, reduceIte]
      try refine T_e rfl ?_
      refine T_rseq fun Kr hKr => ?_
      simp (disch := omega) only [RA, ↓reduceIte, Nat.reduceEqDiff, Nat.reduceBEq, Nat.reduceSub, Nat.reduceAdd, Nat.reduceMul, Nat.reduceLT, Nat.reduceLeDiff, Int.reduceLE, Int.reduceLT, Int.reduceEq, Int.reduceNeg, Int.reduceToNat, Int.reduceMul, Int.reduceAdd, Int.reduceSub, Int.reduceBEq, Int.reduceBNe, reduceCtorEq, RD, g3, g4, hlk]
      refine hKr _ _ ?_
      clear hKr Kr
      try simp only [RN, reduceIte]
      try refine T_e rfl ?_
      refine T_reg_k fun Kr hKr => ?_
      simp (disch := omega) only [RA, ↓reduceIte, Nat.reduceEqDiff, Nat.reduceBEq, Nat.reduceSub, Nat.reduceAdd, Nat.reduceMul, Nat.reduceLT, Nat.reduceLeDiff, Int.reduceLE, Int.reduceLT, Int.reduceEq, Int.reduceNeg, Int.reduceToNat, Int.reduceMul, Int.reduceAdd, Int.reduceSub, Int.reduceBEq, Int.reduceBNe, reduceCtorEq, RD, g4]
      refine hKr _ _ ?_
      clear hKr Kr
      refine hN (n.toNat - (k + 1)) _ _ _ _ (by omega) Gh.refl ⟨k + 1, by omega, rfl, ?_, ?_, ?_, ?_, rfl⟩
      any_goals (simp (disch := omega) only [RA, ↓reduceIte, Nat.reduceEqDiff, Nat.reduceBEq, Nat.reduceSub, Nat.reduceAdd, Nat.reduceMul, Nat.reduceLT, Nat.reduceLeDiff, Int.reduceLE, Int.reduceLT, Int.reduceEq, Int.reduceNeg, Int.reduceToNat, Int.reduceMul, Int.reduceAdd, Int.reduceSub, Int.reduceBEq, Int.reduceBNe, reduceCtorEq, RD, RE, *] <;> rfl)
    · refine hX _ _ ?_
      obtain rfl : k = n.toNat := by omega
      refine T_rseq fun Kr hKr => ?_
      simp (disch := omega) only [RA, ↓reduceIte, Nat.reduceEqDiff, Nat.reduceBEq, Nat.reduceSub, Nat.reduceAdd, Nat.reduceMul, Nat.reduceLT, Nat.reduceLeDiff, Int.reduceLE, Int.reduceLT, Int.reduceEq, Int.reduceNeg, Int.reduceToNat, Int.reduceMul, Int.reduceAdd, Int.reduceSub, Int.reduceBEq, Int.reduceBNe, reduceCtorEq, RD, g2, g3, hlk]
      refine hKr _ _ ?_
      clear hKr Kr
      try simp only [RN, reduceIte]
      try refine T_e rfl ?_
      refine bodyQ_ret (by simp (disch := omega) only [RA, ↓reduceIte, Nat.reduceEqDiff, Nat.reduceBEq, Nat.reduceSub, Nat.reduceAdd, Nat.reduceMul, Nat.reduceLT, Nat.reduceLeDiff, Int.reduceLE, Int.reduceLT, Int.reduceEq, Int.reduceNeg, Int.reduceToNat, Int.reduceMul, Int.reduceAdd, Int.reduceSub, Int.reduceBEq, Int.reduceBNe, reduceCtorEq, RD, resAll, resOf, g2, hlk]; rfl) GhV.refl ?_
      simp only [tup]
      exact ⟨NN_agg (by (simp only [RH])), hK⟩
theorem l01Turn_spec {x : Bool} {n : Nat} {H : BH} {K : Value → BH → Prop} (hn : 1 ≤ n ∧ n ≤ 16) (hK : K (PL (tuK n n)) H) : CallX x F_spec_l01Turn [I n] H K := by
  have hz := z16_len
  refine callP (by simp only [RH]) ?_
  refine CallX_body Γ_spec_l01Turn ?_
  simp only [A_spec_l01Turn, T_aiff]
  refine T_rseq fun Kr hKr => ?_
  simp (disch := omega) only [RA, ↓reduceIte, Nat.reduceEqDiff, Nat.reduceBEq, Nat.reduceSub, Nat.reduceAdd, Nat.reduceMul, Nat.reduceLT, Nat.reduceLeDiff, Int.reduceLE, Int.reduceLT, Int.reduceEq, Int.reduceNeg, Int.reduceToNat, Int.reduceMul, Int.reduceAdd, Int.reduceSub, Int.reduceBEq, Int.reduceBNe, reduceCtorEq, RD]
  refine hKr _ _ ?_
  clear hKr Kr
  try simp only [RN, reduceIte]
  try refine T_e rfl ?_
  refine T_rseq fun Kr hKr => ?_
  simp (disch := omega) only [RA, ↓reduceIte, Nat.reduceEqDiff, Nat.reduceBEq, Nat.reduceSub, Nat.reduceAdd, Nat.reduceMul, Nat.reduceLT, Nat.reduceLeDiff, Int.reduceLE, Int.reduceLT, Int.reduceEq, Int.reduceNeg, Int.reduceToNat, Int.reduceMul, Int.reduceAdd, Int.reduceSub, Int.reduceBEq, Int.reduceBNe, reduceCtorEq, RD]
  refine hKr _ _ ?_
  clear hKr Kr
  try simp only [RN, reduceIte]
  try refine T_e rfl ?_
  refine T_rseq fun Kr hKr => ?_
  simp (disch := omega) only [RA, ↓reduceIte, Nat.reduceEqDiff, Nat.reduceBEq, Nat.reduceSub, Nat.reduceAdd, Nat.reduceMul, Nat.reduceLT, Nat.reduceLeDiff, Int.reduceLE, Int.reduceLT, Int.reduceEq, Int.reduceNeg, Int.reduceToNat, Int.reduceMul, Int.reduceAdd, Int.reduceSub, Int.reduceBEq, Int.reduceBNe, reduceCtorEq, RD]
  refine hKr _ _ ?_
  clear hKr Kr
  try simp only [RN, reduceIte]
  try refine T_e rfl ?_
  refine T_wloop (fun m f H' => ∃ k : Nat, k ≤ n ∧ m = n - k ∧ f 0 = I n ∧ f 2 = P 0 0 ∧ f 3 = P 1 0 ∧ f 4 = I k ∧ H' = [some (List.replicate 16 (.int .u8 0)), some ((tuK n k).map N8)]) (n) ?_ ?_
  · refine ⟨_, _, Gh.refl, 0, by omega, by omega, ?_, ?_, ?_, ?_, rfl⟩
    any_goals (simp (disch := omega) only [RA, ↓reduceIte, Nat.reduceEqDiff, Nat.reduceBEq, Nat.reduceSub, Nat.reduceAdd, Nat.reduceMul, Nat.reduceLT, Nat.reduceLeDiff, Int.reduceLE, Int.reduceLT, Int.reduceEq, Int.reduceNeg, Int.reduceToNat, Int.reduceMul, Int.reduceAdd, Int.reduceSub, Int.reduceBEq, Int.reduceBNe, reduceCtorEq, RD, RE, *] <;> rfl)
  · rintro m f H' R ⟨k, hk, rfl, g0, g2, g3, g4, rfl⟩ hN hX hR hE
    simp only [A_spec_l01Turn.l0, T_aiff]
    have hlk := @tuK_len n k
    refine T_rseq fun Kr hKr => ?_
    simp (disch := omega) only [RA, ↓reduceIte, Nat.reduceEqDiff, Nat.reduceBEq, Nat.reduceSub, Nat.reduceAdd, Nat.reduceMul, Nat.reduceLT, Nat.reduceLeDiff, Int.reduceLE, Int.reduceLT, Int.reduceEq, Int.reduceNeg, Int.reduceToNat, Int.reduceMul, Int.reduceAdd, Int.reduceSub, Int.reduceBEq, Int.reduceBNe, reduceCtorEq, RD, g0, g4]
    refine hKr _ _ ?_
    clear hKr Kr
    try simp only [RN, reduceIte]
    try refine T_e rfl ?_
    refine T_csplit (p := k < n) (by simp only [RA, ↓reduceIte, Nat.reduceEqDiff, Nat.reduceBEq, Nat.reduceSub, Nat.reduceAdd, Nat.reduceMul, Nat.reduceLT, Nat.reduceLeDiff, Int.reduceLE, Int.reduceLT, Int.reduceEq, Int.reduceNeg, Int.reduceToNat, Int.reduceMul, Int.reduceAdd, Int.reduceSub, Int.reduceBEq, Int.reduceBNe, reduceCtorEq] <;> rfl) (by (try simp only [RB]) <;> first | done | exact Iff.rfl | omega | simp) (fun hc => ?_) (fun hc => ?_) <;> (try simp only [RN, reduceIte]) <;> (try refine T_e rfl ?_)
    · have hk16 : k < 16 := by omega
      have hn0 : (n : Int) ≠ 0 := by omega
      have hm := Nat.mod_lt (k + 1) (show 0 < n by omega)
      have e1 : ((k : Nat) : Int) + 1 = ((k + 1 : Nat) : Int) := by omega
      have e2 : (((k + 1 : Nat) : Int)).tmod (n : Int) = (((k + 1) % n : Nat) : Int) := Int.ofNat_tmod (k + 1) n
      first | refine T_bfree rfl ?_ | refine T_bfree' rfl ?_
      try simp only [RN, reduceIte]
      try refine T_e rfl ?_
      refine T_rseq fun Kr hKr => ?_
      simp (disch := omega) only [RA, ↓reduceIte, Nat.reduceEqDiff, Nat.reduceBEq, Nat.reduceSub, Nat.reduceAdd, Nat.reduceMul, Nat.reduceLT, Nat.reduceLeDiff, Int.reduceLE, Int.reduceLT, Int.reduceEq, Int.reduceNeg, Int.reduceToNat, Int.reduceMul, Int.reduceAdd, Int.reduceSub, Int.reduceBEq, Int.reduceBNe, reduceCtorEq, RD, g0, g3, g4, hlk, hn0, e1, e2]
      refine hKr _ _ ?_
      clear hKr Kr
      try simp only [RN, reduceIte]
      try refine T_e rfl ?_
      refine T_reg_k fun Kr hKr => ?_
      simp (disch := omega) only [RA, ↓reduceIte, Nat.reduceEqDiff, Nat.reduceBEq, Nat.reduceSub, Nat.reduceAdd, Nat.reduceMul, Nat.reduceLT, Nat.reduceLeDiff, Int.reduceLE, Int.reduceLT, Int.reduceEq, Int.reduceNeg, Int.reduceToNat, Int.reduceMul, Int.reduceAdd, Int.reduceSub, Int.reduceBEq, Int.reduceBNe, reduceCtorEq, RD, g4]
      refine hKr _ _ ?_
      clear hKr Kr
      refine hN (n - (k + 1)) _ _ _ _ (by omega) Gh.refl ⟨k + 1, by omega, rfl, ?_, ?_, ?_, ?_, rfl⟩
      any_goals (simp (disch := omega) only [RA, ↓reduceIte, Nat.reduceEqDiff, Nat.reduceBEq, Nat.reduceSub, Nat.reduceAdd, Nat.reduceMul, Nat.reduceLT, Nat.reduceLeDiff, Int.reduceLE, Int.reduceLT, Int.reduceEq, Int.reduceNeg, Int.reduceToNat, Int.reduceMul, Int.reduceAdd, Int.reduceSub, Int.reduceBEq, Int.reduceBNe, reduceCtorEq, RD, RE, *] <;> rfl)
    · refine hX _ _ ?_
      obtain rfl : k = n := by omega
      refine T_rseq fun Kr hKr => ?_
      simp (disch := omega) only [RA, ↓reduceIte, Nat.reduceEqDiff, Nat.reduceBEq, Nat.reduceSub, Nat.reduceAdd, Nat.reduceMul, Nat.reduceLT, Nat.reduceLeDiff, Int.reduceLE, Int.reduceLT, Int.reduceEq, Int.reduceNeg, Int.reduceToNat, Int.reduceMul, Int.reduceAdd, Int.reduceSub, Int.reduceBEq, Int.reduceBNe, reduceCtorEq, RD, g2, g3, hlk]
      refine hKr _ _ ?_
      clear hKr Kr
      try simp only [RN, reduceIte]
      try refine T_e rfl ?_
      refine bodyQ_ret (by simp (disch := omega) only [RA, ↓reduceIte, Nat.reduceEqDiff, Nat.reduceBEq, Nat.reduceSub, Nat.reduceAdd, Nat.reduceMul, Nat.reduceLT, Nat.reduceLeDiff, Int.reduceLE, Int.reduceLT, Int.reduceEq, Int.reduceNeg, Int.reduceToNat, Int.reduceMul, Int.reduceAdd, Int.reduceSub, Int.reduceBEq, Int.reduceBNe, reduceCtorEq, RD, resAll, resOf, g2, hlk]; rfl) GhV.refl ?_
      simp only [tup]
      exact ⟨NN_agg (by (simp only [RH])), hK⟩
theorem l01Star_spec {x : Bool} {n : Nat} {H : BH} {K : Value → BH → Prop} (hn : 1 ≤ n ∧ n ≤ 16) (hK : K (DV n (tuK n n) (idK n)) H) : CallX x F_spec_l01Star [I n] H K := by
  have h1 := @tuK_len n n
  have h2 := @idK_len n
  have hz := z16_len
  refine callP (by simp only [RH]) ?_
  refine CallX_body Γ_spec_l01Star ?_
  simp only [A_spec_l01Star, T_aiff]
  refine T_rseq fun Kr hKr => ?_
  simp (disch := omega) only [RA, ↓reduceIte, Nat.reduceEqDiff, Nat.reduceBEq, Nat.reduceSub, Nat.reduceAdd, Nat.reduceMul, Nat.reduceLT, Nat.reduceLeDiff, Int.reduceLE, Int.reduceLT, Int.reduceEq, Int.reduceNeg, Int.reduceToNat, Int.reduceMul, Int.reduceAdd, Int.reduceSub, Int.reduceBEq, Int.reduceBNe, reduceCtorEq, RD, RDS]
  refine hKr _ _ ?_
  clear hKr Kr
  try simp only [RN, reduceIte]
  try refine T_e rfl ?_
  refine T_rseq fun Kr hKr => ?_
  simp (disch := omega) only [RA, ↓reduceIte, Nat.reduceEqDiff, Nat.reduceBEq, Nat.reduceSub, Nat.reduceAdd, Nat.reduceMul, Nat.reduceLT, Nat.reduceLeDiff, Int.reduceLE, Int.reduceLT, Int.reduceEq, Int.reduceNeg, Int.reduceToNat, Int.reduceMul, Int.reduceAdd, Int.reduceSub, Int.reduceBEq, Int.reduceBNe, reduceCtorEq, RD, RDS, RDD]
  refine l01Turn_spec hn ?_
  simp (disch := omega) only [RA, ↓reduceIte, Nat.reduceEqDiff, Nat.reduceBEq, Nat.reduceSub, Nat.reduceAdd, Nat.reduceMul, Nat.reduceLT, Nat.reduceLeDiff, Int.reduceLE, Int.reduceLT, Int.reduceEq, Int.reduceNeg, Int.reduceToNat, Int.reduceMul, Int.reduceAdd, Int.reduceSub, Int.reduceBEq, Int.reduceBNe, reduceCtorEq, RD, RDS, RDD]
  refine l01Same_spec (by omega) ?_
  simp (disch := omega) only [RA, ↓reduceIte, Nat.reduceEqDiff, Nat.reduceBEq, Nat.reduceSub, Nat.reduceAdd, Nat.reduceMul, Nat.reduceLT, Nat.reduceLeDiff, Int.reduceLE, Int.reduceLT, Int.reduceEq, Int.reduceNeg, Int.reduceToNat, Int.reduceMul, Int.reduceAdd, Int.reduceSub, Int.reduceBEq, Int.reduceBNe, reduceCtorEq, RD, RDS, RDD]
  refine hKr _ _ ?_
  clear hKr Kr
  try simp only [blkQ, thenQ, loopQ]
  try simp only [RN, reduceIte]
  try refine T_e rfl ?_
  refine bodyQ_ret (by simp (disch := omega) only [RA, ↓reduceIte, Nat.reduceEqDiff, Nat.reduceBEq, Nat.reduceSub, Nat.reduceAdd, Nat.reduceMul, Nat.reduceLT, Nat.reduceLeDiff, Int.reduceLE, Int.reduceLT, Int.reduceEq, Int.reduceNeg, Int.reduceToNat, Int.reduceMul, Int.reduceAdd, Int.reduceSub, Int.reduceBEq, Int.reduceBNe, reduceCtorEq, RD, resAll, resOf, RDS, RDD]; rfl) GhV.refl ?_
  simp only [tup]
  exact ⟨nn_D, hK⟩
section
variable {code : List Nat} {a : Nat} {h : Int}
theorem NNL_SC : NNL (SC code a h) = True := eq_true NN_SC
theorem l01DrawPlaces_one {n : Nat} {K : Value → BH → Prop} (ha : a ≤ code.length) (hl : code.length ≤ 1048576) (hcd : ∀ i, nl code i < 256) (hn : 1 ≤ n ∧ n ≤ 16)
    (hK : ∀ p a' h', By 16 p → Perm p n → a' ≤ code.length → K (PL p) [some (SC code a' h')]) : CallX false F_spec_l01DrawPlaces [P 0 0, I n] [some (SC code a h)] K := by
  have hz := z16_len
  have hil := @idK_len n
  refine CallX_body Γ_spec_l01DrawPlaces ?_
  simp only [A_spec_l01DrawPlaces, T_aiff]
  refine T_rseq fun Kr hKr => ?_
  simp (disch := omega) only [RA, ↓reduceIte, Nat.reduceEqDiff, Nat.reduceBEq, Nat.reduceSub, Nat.reduceAdd, Nat.reduceMul, Nat.reduceLT, Nat.reduceLeDiff, Int.reduceLE, Int.reduceLT, Int.reduceEq, Int.reduceNeg, Int.reduceToNat, Int.reduceMul, Int.reduceAdd, Int.reduceSub, Int.reduceBEq, Int.reduceBNe, reduceCtorEq, RD]
  refine hKr _ _ ?_
  clear hKr Kr
  try simp only [RN, reduceIte]
  try refine T_e rfl ?_
  refine T_rseq fun Kr hKr => ?_
  simp (disch := omega) only [RA, ↓reduceIte, Nat.reduceEqDiff, Nat.reduceBEq, Nat.reduceSub, Nat.reduceAdd, Nat.reduceMul, Nat.reduceLT, Nat.reduceLeDiff, Int.reduceLE, Int.reduceLT, Int.reduceEq, Int.reduceNeg, Int.reduceToNat, Int.reduceMul, Int.reduceAdd, Int.reduceSub, Int.reduceBEq, Int.reduceBNe, reduceCtorEq, RD]
  refine l01Same_spec (by omega) ?_
  simp (disch := omega) only [RA, ↓reduceIte, Nat.reduceEqDiff, Nat.reduceBEq, Nat.reduceSub, Nat.reduceAdd, Nat.reduceMul, Nat.reduceLT, Nat.reduceLeDiff, Int.reduceLE, Int.reduceLT, Int.reduceEq, Int.reduceNeg, Int.reduceToNat, Int.reduceMul, Int.reduceAdd, Int.reduceSub, Int.reduceBEq, Int.reduceBNe, reduceCtorEq, RD]
  refine hKr _ _ ?_
  clear hKr Kr
  try simp only [blkQ, thenQ, loopQ]
  try simp only [RN, reduceIte]
  try refine T_e rfl ?_
  refine T_rseq fun Kr hKr => ?_
  simp (disch := omega) only [RA, ↓reduceIte, Nat.reduceEqDiff, Nat.reduceBEq, Nat.reduceSub, Nat.reduceAdd, Nat.reduceMul, Nat.reduceLT, Nat.reduceLeDiff, Int.reduceLE, Int.reduceLT, Int.reduceEq, Int.reduceNeg, Int.reduceToNat, Int.reduceMul, Int.reduceAdd, Int.reduceSub, Int.reduceBEq, Int.reduceBNe, reduceCtorEq, RD]
  refine l01Next_spec (i := 0) rfl ha hl hcd (by omega) fun v a h hA k2 k3 k4 k5 => ?_
  clear ha
  simp (disch := omega) only [RA, ↓reduceIte, Nat.reduceEqDiff, Nat.reduceBEq, Nat.reduceSub, Nat.reduceAdd, Nat.reduceMul, Nat.reduceLT, Nat.reduceLeDiff, Int.reduceLE, Int.reduceLT, Int.reduceEq, Int.reduceNeg, Int.reduceToNat, Int.reduceMul, Int.reduceAdd, Int.reduceSub, Int.reduceBEq, Int.reduceBNe, reduceCtorEq, RD]
  refine hKr _ _ ?_
  clear hKr Kr
  try simp only [blkQ, thenQ, loopQ]
  try simp only [RN, reduceIte]
  try refine T_e rfl ?_
  have e0 : (n : Int) - 1 = ((n - 1 : Nat) : Int) := by omega
  refine T_csplit (p := v = 0) (by simp only [RA, ↓reduceIte, Nat.reduceEqDiff, Nat.reduceBEq, Nat.reduceSub, Nat.reduceAdd, Nat.reduceMul, Nat.reduceLT, Nat.reduceLeDiff, Int.reduceLE, Int.reduceLT, Int.reduceEq, Int.reduceNeg, Int.reduceToNat, Int.reduceMul, Int.reduceAdd, Int.reduceSub, Int.reduceBEq, Int.reduceBNe, reduceCtorEq] <;> rfl) (by (try simp only [RB]) <;> first | done | exact Iff.rfl | omega | simp) (fun hc => ?_) (fun hc => ?_) <;> (try simp only [RN, reduceIte]) <;> (try refine T_e rfl ?_)
  · refine T_rseq fun Kr hKr => ?_
    simp (disch := omega) only [RA, ↓reduceIte, Nat.reduceEqDiff, Nat.reduceBEq, Nat.reduceSub, Nat.reduceAdd, Nat.reduceMul, Nat.reduceLT, Nat.reduceLeDiff, Int.reduceLE, Int.reduceLT, Int.reduceEq, Int.reduceNeg, Int.reduceToNat, Int.reduceMul, Int.reduceAdd, Int.reduceSub, Int.reduceBEq, Int.reduceBNe, reduceCtorEq, RD]
    refine hKr _ _ ?_
    clear hKr Kr
    try simp only [RN, reduceIte]
    try refine T_e rfl ?_
    refine bodyQ_ret (by simp (disch := omega) only [RA, ↓reduceIte, Nat.reduceEqDiff, Nat.reduceBEq, Nat.reduceSub, Nat.reduceAdd, Nat.reduceMul, Nat.reduceLT, Nat.reduceLeDiff, Int.reduceLE, Int.reduceLT, Int.reduceEq, Int.reduceNeg, Int.reduceToNat, Int.reduceMul, Int.reduceAdd, Int.reduceSub, Int.reduceBEq, Int.reduceBNe, reduceCtorEq, RD, resAll, resOf, hz]; rfl) (GhV.nrm [0] rfl rfl (by simp only [RH, NNL_SC]) (by simp only [tup, RH])) ?_
    simp only [tup]
    exact hK _ _ _ (idK_by hn.2) (idK_perm hn) hA
  · clear hc
    refine T_rseq fun Kr hKr => ?_
    simp (disch := omega) only [RA, ↓reduceIte, Nat.reduceEqDiff, Nat.reduceBEq, Nat.reduceSub, Nat.reduceAdd, Nat.reduceMul, Nat.reduceLT, Nat.reduceLeDiff, Int.reduceLE, Int.reduceLT, Int.reduceEq, Int.reduceNeg, Int.reduceToNat, Int.reduceMul, Int.reduceAdd, Int.reduceSub, Int.reduceBEq, Int.reduceBNe, reduceCtorEq, RD, e0]
    refine hKr _ _ ?_
    clear hKr Kr
    try simp only [RN, reduceIte]
    try refine T_e rfl ?_
    refine T_wloop (fun m f H' => ∃ i a' h' p, i < n ∧ m = i ∧ a' ≤ code.length ∧ By 16 p ∧ Perm p n ∧ f 0 = P 0 0 ∧ f 4 = P 1 0 ∧ f 5 = P 2 0 ∧ f 6 = I i ∧ H' = [some (SC code a' h'), some (List.replicate 16 (.int .u8 0)), some (p.map N8)]) (n - 1) ?_ ?_
    · refine ⟨_, _, Gh.refl, n - 1, a, h, idK n, by omega, rfl, hA, idK_by hn.2, idK_perm hn, ?_, ?_, ?_, ?_, rfl⟩
      any_goals (simp (disch := omega) only [RA, ↓reduceIte, Nat.reduceEqDiff, Nat.reduceBEq, Nat.reduceSub, Nat.reduceAdd, Nat.reduceMul, Nat.reduceLT, Nat.reduceLeDiff, Int.reduceLE, Int.reduceLT, Int.reduceEq, Int.reduceNeg, Int.reduceToNat, Int.reduceMul, Int.reduceAdd, Int.reduceSub, Int.reduceBEq, Int.reduceBNe, reduceCtorEq, RD, RE, *] <;> rfl)
    · clear hA k2 k3 k4 k5 v
      rintro i f H' R ⟨_, a, h, p, hi, rfl, hA, hb, hp, g0, g4, g5, g6, rfl⟩ hN hX hR hE
      simp only [A_spec_l01DrawPlaces.l0, T_aiff]
      have hlp := hb.len
      refine T_rseq fun Kr hKr => ?_
      simp (disch := omega) only [RA, ↓reduceIte, Nat.reduceEqDiff, Nat.reduceBEq, Nat.reduceSub, Nat.reduceAdd, Nat.reduceMul, Nat.reduceLT, Nat.reduceLeDiff, Int.reduceLE, Int.reduceLT, Int.reduceEq, Int.reduceNeg, Int.reduceToNat, Int.reduceMul, Int.reduceAdd, Int.reduceSub, Int.reduceBEq, Int.reduceBNe, reduceCtorEq, RD, g6]
      refine hKr _ _ ?_
      clear hKr Kr
      try simp only [RN, reduceIte]
      try refine T_e rfl ?_
      refine T_csplit (p := 0 < i) (by simp only [RA, ↓reduceIte, Nat.reduceEqDiff, Nat.reduceBEq, Nat.reduceSub, Nat.reduceAdd, Nat.reduceMul, Nat.reduceLT, Nat.reduceLeDiff, Int.reduceLE, Int.reduceLT, Int.reduceEq, Int.reduceNeg, Int.reduceToNat, Int.reduceMul, Int.reduceAdd, Int.reduceSub, Int.reduceBEq, Int.reduceBNe, reduceCtorEq] <;> rfl) (by (try simp only [RB]) <;> first | done | exact Iff.rfl | omega | simp) (fun hc => ?_) (fun hc => ?_) <;> (try simp only [RN, reduceIte]) <;> (try refine T_e rfl ?_)
      · have e1 : ((i : Nat) : Int) + 1 = ((i + 1 : Nat) : Int) := by omega
        have e2 : ((i : Nat) : Int) - 1 = ((i - 1 : Nat) : Int) := by omega
        first | refine T_bfree rfl ?_ | refine T_bfree' rfl ?_
        try simp only [RN, reduceIte]
        try refine T_e rfl ?_
        refine T_rseq fun Kr hKr => ?_
        simp (disch := omega) only [RA, ↓reduceIte, Nat.reduceEqDiff, Nat.reduceBEq, Nat.reduceSub, Nat.reduceAdd, Nat.reduceMul, Nat.reduceLT, Nat.reduceLeDiff, Int.reduceLE, Int.reduceLT, Int.reduceEq, Int.reduceNeg, Int.reduceToNat, Int.reduceMul, Int.reduceAdd, Int.reduceSub, Int.reduceBEq, Int.reduceBNe, reduceCtorEq, RD, g0, g6, e1]
        refine l01Next_spec (i := 0) rfl hA hl hcd (by omega) fun v a h hA k2 k3 k4 k5 => ?_
        have hv := k4 (by omega)
        obtain ⟨k, rfl⟩ : ∃ k : Nat, v = k := ⟨v.toNat, by omega⟩
        have hpi := hb.lt i
        have hpk := hb.lt k
        have hs := hp.swap hlp (i := i) (k := k) hi (by omega)
        have hl2 : (p.set i (nl p k)).length = 16 := by rw [List.length_set, hlp]
        simp (disch := omega) only [RA, ↓reduceIte, Nat.reduceEqDiff, Nat.reduceBEq, Nat.reduceSub, Nat.reduceAdd, Nat.reduceMul, Nat.reduceLT, Nat.reduceLeDiff, Int.reduceLE, Int.reduceLT, Int.reduceEq, Int.reduceNeg, Int.reduceToNat, Int.reduceMul, Int.reduceAdd, Int.reduceSub, Int.reduceBEq, Int.reduceBNe, reduceCtorEq, RD]
        refine hKr _ _ ?_
        clear hKr Kr
        try simp only [blkQ, thenQ, loopQ]
        try simp only [RN, reduceIte]
        try refine T_e rfl ?_
        refine T_rseq fun Kr hKr => ?_
        simp (disch := omega) only [RA, ↓reduceIte, Nat.reduceEqDiff, Nat.reduceBEq, Nat.reduceSub, Nat.reduceAdd, Nat.reduceMul, Nat.reduceLT, Nat.reduceLeDiff, Int.reduceLE, Int.reduceLT, Int.reduceEq, Int.reduceNeg, Int.reduceToNat, Int.reduceMul, Int.reduceAdd, Int.reduceSub, Int.reduceBEq, Int.reduceBNe, reduceCtorEq, RD, g5, g6, hlp]
        refine hKr _ _ ?_
        clear hKr Kr
        try simp only [RN, reduceIte]
        try refine T_e rfl ?_
        refine T_rseq fun Kr hKr => ?_
        simp (disch := omega) only [RA, ↓reduceIte, Nat.reduceEqDiff, Nat.reduceBEq, Nat.reduceSub, Nat.reduceAdd, Nat.reduceMul, Nat.reduceLT, Nat.reduceLeDiff, Int.reduceLE, Int.reduceLT, Int.reduceEq, Int.reduceNeg, Int.reduceToNat, Int.reduceMul, Int.reduceAdd, Int.reduceSub, Int.reduceBEq, Int.reduceBNe, reduceCtorEq, RD, g5, g6, hlp]
        refine hKr _ _ ?_
        clear hKr Kr
        try simp only [RN, reduceIte]
        try refine T_e rfl ?_
        refine T_rseq fun Kr hKr => ?_
        simp (disch := omega) only [RA, ↓reduceIte, Nat.reduceEqDiff, Nat.reduceBEq, Nat.reduceSub, Nat.reduceAdd, Nat.reduceMul, Nat.reduceLT, Nat.reduceLeDiff, Int.reduceLE, Int.reduceLT, Int.reduceEq, Int.reduceNeg, Int.reduceToNat, Int.reduceMul, Int.reduceAdd, Int.reduceSub, Int.reduceBEq, Int.reduceBNe, reduceCtorEq, RD, g5, hl2, hlp]
        refine hKr _ _ ?_
        clear hKr Kr
        try simp only [RN, reduceIte]
        try refine T_e rfl ?_
        refine T_reg_k fun Kr hKr => ?_
        simp (disch := omega) only [RA, ↓reduceIte, Nat.reduceEqDiff, Nat.reduceBEq, Nat.reduceSub, Nat.reduceAdd, Nat.reduceMul, Nat.reduceLT, Nat.reduceLeDiff, Int.reduceLE, Int.reduceLT, Int.reduceEq, Int.reduceNeg, Int.reduceToNat, Int.reduceMul, Int.reduceAdd, Int.reduceSub, Int.reduceBEq, Int.reduceBNe, reduceCtorEq, RD, g6]
        refine hKr _ _ ?_
        clear hKr Kr
        refine hN (i - 1) _ _ _ _ (by omega) Gh.refl ⟨i - 1, a, h, _, by omega, rfl, hA, (hb.set hpk).set hpi, hs, ?_, ?_, ?_, ?_, rfl⟩
        any_goals (simp (disch := omega) only [RA, ↓reduceIte, Nat.reduceEqDiff, Nat.reduceBEq, Nat.reduceSub, Nat.reduceAdd, Nat.reduceMul, Nat.reduceLT, Nat.reduceLeDiff, Int.reduceLE, Int.reduceLT, Int.reduceEq, Int.reduceNeg, Int.reduceToNat, Int.reduceMul, Int.reduceAdd, Int.reduceSub, Int.reduceBEq, Int.reduceBNe, reduceCtorEq, RD, RE, *] <;> rfl)
      · refine hX _ _ ?_
        refine T_rseq fun Kr hKr => ?_
        simp (disch := omega) only [RA, ↓reduceIte, Nat.reduceEqDiff, Nat.reduceBEq, Nat.reduceSub, Nat.reduceAdd, Nat.reduceMul, Nat.reduceLT, Nat.reduceLeDiff, Int.reduceLE, Int.reduceLT, Int.reduceEq, Int.reduceNeg, Int.reduceToNat, Int.reduceMul, Int.reduceAdd, Int.reduceSub, Int.reduceBEq, Int.reduceBNe, reduceCtorEq, RD, g4, g5, hlp]
        refine hKr _ _ ?_
        clear hKr Kr
        try simp only [RN, reduceIte]
        try refine T_e rfl ?_
        refine bodyQ_ret (by simp (disch := omega) only [RA, ↓reduceIte, Nat.reduceEqDiff, Nat.reduceBEq, Nat.reduceSub, Nat.reduceAdd, Nat.reduceMul, Nat.reduceLT, Nat.reduceLeDiff, Int.reduceLE, Int.reduceLT, Int.reduceEq, Int.reduceNeg, Int.reduceToNat, Int.reduceMul, Int.reduceAdd, Int.reduceSub, Int.reduceBEq, Int.reduceBNe, reduceCtorEq, RD, resAll, resOf, g4, hlp]; rfl) (GhV.nrm [0] rfl rfl (by simp only [RH, NNL_SC]) (by simp only [tup, RH])) ?_
        simp only [tup]
        exact hK _ _ _ hb hp hA
theorem l01DrawPlaces_spec {n : Nat} {i : Nat} {H : BH} {K : Value → BH → Prop} (hb : blk H i = some (SC code a h)) (ha : a ≤ code.length) (hl : code.length ≤ 1048576) (hcd : ∀ i, nl code i < 256) (hn : 1 ≤ n ∧ n ≤ 16)
    (hK : ∀ p a' h', By 16 p → Perm p n → a' ≤ code.length → K (PL p) (H.set i (some (SC code a' h')))) : CallX false F_spec_l01DrawPlaces [P i 0, I n] H K := by
  refine call1 hb NN_SC ?_
  have e : ([P i 0, I n] : List Value).map (ren [i]) = [P 0 0, I n] := by simp [ren, ren1, nm]
  rw [e]
  exact l01DrawPlaces_one ha hl hcd hn fun p a' h' k1 k2 k3 => ⟨NN_agg (by (simp only [RH])), HN.cons NN_SC HN.nil, hK p a' h' k1 k2 k3⟩
end
end Go.Bm

/- Renamed dessins (plain): the same types, the same canonical dessin. -/
set_option linter.unusedVariables false
set_option linter.unusedSimpArgs false
namespace Go.Bm
open Go Go.Am

theorem IsCyc.allS {p : List Nat} {n : Nat} {c : List Nat} (h : IsCyc p n c) {S : Nat → Prop} (hf : ∀ z, z < n → S z → S (nl p z)) (hb : ∀ z, z < n → S (nl p z) → S z) {x : Nat} (hx : x ∈ c) (hs : S x) : ∀ y ∈ c, S y := by
  obtain ⟨j, hj, rfl⟩ := mem_nl hx
  have h0 : S (nl c 0) := by
    have : ∀ d, d ≤ j → S (nl c (j - d)) := by
      intro d
      induction d with
      | zero => intro _; exact hs
      | succ d ih =>
        intro hd
        have h1 := ih (by omega)
        have h2 := h.step (j - (d + 1)) (by omega)
        rw [show j - (d + 1) + 1 = j - d by omega] at h2
        rw [← h2] at h1
        exact hb _ (h.lt _ (nl_mem (by omega))) h1
    have := this j (Nat.le_refl _)
    rwa [Nat.sub_self] at this
  intro y hy
  obtain ⟨i, hi, rfl⟩ := mem_nl hy
  clear hy
  induction i with
  | zero => exact h0
  | succ i ih =>
    have h1 := ih (by omega)
    rw [← h.step i hi]
    exact hf _ (h.lt _ (nl_mem (by omega))) h1
/-- The length of the cycle at a number. -/
def cl (p : List Nat) (n x : Nat) : Nat := (((cyc p n).find? (·.contains x)).getD []).length
section
variable {p q : List Nat} {n : Nat}
theorem flat_nod {α : Type} : ∀ {L : List (List α)} {c c' : List α} {x : α}, L.flatten.Nodup → c ∈ L → c' ∈ L → x ∈ c → x ∈ c' → c = c'
  | [], c, c', x, _, h, _, _, _ => by simp at h
  | d :: L, c, c', x, hn, h, h', hx, hx' => by
    rw [List.flatten_cons, List.nodup_append] at hn
    obtain ⟨_, h2, h3⟩ := hn
    rcases List.mem_cons.1 h with e | k <;> rcases List.mem_cons.1 h' with e' | k'
    · rw [e, e']
    · subst e
      exact absurd rfl (h3 x hx x (List.mem_flatten.2 ⟨c', k', hx'⟩))
    · subst e'
      exact absurd rfl (h3 x hx' x (List.mem_flatten.2 ⟨c, k, hx⟩))
    · exact flat_nod h2 k k' hx hx'
theorem cyc_nodF (hp : Perm p n) : (cyc p n).flatten.Nodup := (CycOk.all rfl hp (Nat.le_refl n)).nod
theorem cl_eq (hp : Perm p n) {c : List Nat} (hc : c ∈ cyc p n) {x : Nat} (hx : x ∈ c) : cl p n x = c.length := by
  unfold cl
  cases hf : (cyc p n).find? (·.contains x) with
  | none =>
    have := List.find?_eq_none.1 hf c hc
    simp [hx] at this
  | some d =>
    have h1 := List.mem_of_find?_eq_some hf
    have h2 := List.find?_some hf
    rw [Option.getD_some, flat_nod (cyc_nodF hp) h1 hc (by simpa using h2) hx]
theorem cl_conj {p' : List Nat} (hp : Perm p n) (hp' : Perm p' n) (hq : Perm q n) (h : ∀ y, y < n → nl p' (nl q y) = nl q (nl p y)) {x : Nat} (hx : x < n) : cl p' n (nl q x) = cl p n x := by
  obtain ⟨c, hc, hxc⟩ := cyc_at hp hx
  obtain ⟨c', hc', hxc'⟩ := cyc_at hp' (hq.lt hx)
  rw [cl_eq hp hc hxc, cl_eq hp' hc' hxc']
  have ic := cyc_is hp hc
  have ic' := cyc_is hp' hc'
  have h1 : ∀ y ∈ c, nl q y ∈ c' := ic.allS (S := fun y => nl q y ∈ c') (fun z hz hs => by rw [← h z hz]; exact ic'.fwd hs) (fun z hz hs => by rw [← h z hz] at hs; exact ic'.bwd hp' (hq.lt hz) hs) hxc hxc'
  have h2 : ∀ z ∈ c', z ∈ c.map (nl q) := ic'.allS (S := fun z => z ∈ c.map (nl q))
    (fun z hz hs => by
      obtain ⟨y, hy, rfl⟩ := List.mem_map.1 hs
      rw [h y (ic.lt y hy)]
      exact List.mem_map.2 ⟨_, ic.fwd hy, rfl⟩)
    (fun z hz hs => by
      obtain ⟨y, hy, rfl⟩ := hq.surj hz
      rw [h y hy] at hs
      obtain ⟨u, hu, he⟩ := List.mem_map.1 hs
      have := hq.inj (ic.lt u hu) (hp.lt hy) he
      subst this
      exact List.mem_map.2 ⟨y, ic.bwd hp hy hu, rfl⟩) hxc' (List.mem_map.2 ⟨x, hxc, rfl⟩)
  have hnod : (c.map (nl q)).Nodup := by
    rw [List.nodup_iff_pairwise_ne, List.pairwise_map]
    have hcn := ic.nod
    rw [List.nodup_iff_pairwise_ne] at hcn
    exact hcn.imp_of_mem fun ha hb hab he => hab (hq.inj (ic.lt _ ha) (ic.lt _ hb) he)
  have l1 := List.Nodup.length_le_of_subset hnod (l₂ := c') fun z hz => by
    obtain ⟨y, hy, rfl⟩ := List.mem_map.1 hz
    exact h1 y hy
  have l2 := List.Nodup.length_le_of_subset ic'.nod (l₂ := c.map (nl q)) h2
  rw [List.length_map] at l1 l2
  omega
theorem nod_perm {l : List Nat} (hn : l.Nodup) (h : ∀ x, x ∈ l ↔ x < n) : l.Perm (List.range n) :=
  (List.perm_ext_iff_of_nodup hn List.nodup_range).2 fun x => by rw [h, List.mem_range]
theorem cyc_flat (hp : Perm p n) : (cyc p n).flatten.Perm (List.range n) := nod_perm (cyc_nodF hp) fun x => by
  rw [List.mem_flatten]
  constructor
  · rintro ⟨c, hc, hx⟩
    exact (cyc_is hp hc).lt x hx
  · intro hx
    obtain ⟨c, hc, hxc⟩ := cyc_at hp hx
    exact ⟨c, hc, hxc⟩
theorem perm_range (hq : Perm q n) : ((List.range n).map (nl q)).Perm (List.range n) := nod_perm (by
    rw [List.nodup_iff_pairwise_ne, List.pairwise_map]
    have hr := List.nodup_range (n := n)
    rw [List.nodup_iff_pairwise_ne] at hr
    exact hr.imp_of_mem fun ha hb hab he => hab (hq.inj (List.mem_range.1 ha) (List.mem_range.1 hb) he)) fun x => by
  rw [List.mem_map]
  constructor
  · rintro ⟨y, hy, rfl⟩
    exact hq.lt (List.mem_range.1 hy)
  · intro hx
    obtain ⟨y, hy, rfl⟩ := hq.surj hx
    exact ⟨y, List.mem_range.2 hy, rfl⟩
theorem flat_cl (hp : Perm p n) : (cyc p n).flatten.map (cl p n) = (cyc p n).flatMap fun c => List.replicate c.length c.length := by
  have key : ∀ L : List (List Nat), (∀ c ∈ L, c ∈ cyc p n) → L.flatten.map (cl p n) = L.flatMap fun c => List.replicate c.length c.length := by
    intro L
    induction L with
    | nil => intro _; rfl
    | cons c L ih =>
      intro h
      rw [List.flatten_cons, List.map_append, List.flatMap_cons, ih fun d hd => h d (by simp [hd])]
      congr 1
      have hc := h c (by simp)
      rw [List.eq_replicate_iff]
      refine ⟨by rw [List.length_map], fun z hz => ?_⟩
      obtain ⟨x, hx, rfl⟩ := List.mem_map.1 hz
      exact cl_eq hp hc hx
  exact key _ fun _ h => h
theorem count_flat {k : Nat} : ∀ {L : List (List Nat)}, (L.flatMap fun c => List.replicate c.length c.length).count k = k * (L.map List.length).count k
  | [] => by simp
  | c :: L => by
    rw [List.flatMap_cons, List.count_append, count_flat, List.map_cons, List.count_cons, List.count_replicate]
    by_cases h : c.length = k
    · simp [h, Nat.mul_add]; omega
    · simp [h]
theorem lens_conj {p' : List Nat} (hp : Perm p n) (hp' : Perm p' n) (hq : Perm q n) (h : ∀ y, y < n → nl p' (nl q y) = nl q (nl p y)) : (lens p' n).Perm (lens p n) := by
  have h1 : ((cyc p' n).flatMap fun c => List.replicate c.length c.length).Perm ((cyc p n).flatMap fun c => List.replicate c.length c.length) := by
    rw [← flat_cl hp, ← flat_cl hp']
    refine ((cyc_flat hp').map _).trans (List.Perm.trans ?_ ((cyc_flat hp).map _).symm)
    refine (((perm_range hq).map (cl p' n)).symm).trans ?_
    rw [List.map_map]
    exact List.Perm.of_eq (List.map_congr_left fun x hx => cl_conj hp hp' hq h (List.mem_range.1 hx))
  rw [List.perm_iff_count]
  intro k
  rcases Nat.eq_zero_or_pos k with rfl | hk
  · rw [List.count_eq_zero.2 fun hm => by have := lens_ok hp' 0 hm; omega, List.count_eq_zero.2 fun hm => by have := lens_ok hp 0 hm; omega]
  · have := h1.count_eq k
    rw [count_flat, count_flat] at this
    exact Nat.eq_of_mul_eq_mul_left hk this
theorem typL_congr {zs zs' : List Nat} (h : zs.Perm zs') : typL zs n = typL zs' n := by
  have e : cntT zs zs.length = cntT zs' zs'.length := nl_ext (by rw [cntT_len, cntT_len]) fun i hi => by
    rw [cntT_len] at hi
    rw [cntT_nl (Nat.le_refl _) hi, cntT_nl (Nat.le_refl _) hi, List.take_length, List.take_length, h.count_eq]
  rw [typL, typL, e]
theorem typ_conj {p' : List Nat} (hp : Perm p n) (hp' : Perm p' n) (hq : Perm q n) (h : ∀ y, y < n → nl p' (nl q y) = nl q (nl p y)) : typ p' n = typ p n := typL_congr (lens_conj hp hp' hq h)
/-- A permutation under new names is one. -/
theorem rn_at (hp : Perm p n) (hq : Perm q n) {y : Nat} (hy : y < n) : nl (rnK p q n) (nl q y) = nl q (nl p y) :=
  rnK_at (n := n) (fun i j hi hj he => hq.inj hi hj he) (fun i hi => by have := hq.lt hi; have := hq.1; omega) (Nat.le_refl _) hy
theorem rn_perm (hp : Perm p n) (hq : Perm q n) : Perm (rnK p q n) n := by
  have hn := hq.1
  refine .of (by omega) (fun i h1 h2 => rnK_out (n := n) (m := n) (fun i hi => hq.lt hi) h1 (Nat.le_refl _)) (fun i hi => ?_) (fun i j hi hj => ?_)
  · obtain ⟨y, hy, rfl⟩ := hq.surj hi
    rw [rn_at hp hq hy]
    exact hq.lt (hp.lt hy)
  · obtain ⟨y, hy, rfl⟩ := hq.surj hi
    obtain ⟨z, hz, rfl⟩ := hq.surj (show j < n by omega)
    rw [rn_at hp hq hy, rn_at hp hq hz]
    intro he
    have := hp.inj hz hy (hq.inj (hp.lt hz) (hp.lt hy) he)
    subst this
    omega
end
section
variable {b w q : List Nat} {n : Nat}
theorem rn_iso (hd : Des n b w) (hq : Perm q n) : Iso n b w (rnK b q n) (rnK w q n) (nl q) :=
  ⟨fun y hy => hq.lt hy, fun y z hy hz he => hq.inj hy hz he, fun y hy => rn_at hd.1 hq hy, fun y hy => rn_at hd.2.1 hq hy⟩
theorem rn_des (hd : Des n b w) (hq : Perm q n) : Des n (rnK b q n) (rnK w q n) := by
  have hn := hq.1
  have h1 := rn_perm hd.1 hq
  have h2 := rn_perm hd.2.1 hq
  refine ⟨h1, h2, ?_⟩
  obtain ⟨x, hx, h0⟩ := hq.surj (y := 0) (by omega)
  have h3 := (rn_iso hd hq).ord (by omega) hd.1 hd.2.1 hx
  rw [h0] at h3
  have h4 := ord_len hd hx
  have h5 : (ord (rnK b q n) (rnK w q n) 0).length = n := by rw [h3, List.length_map, h4]
  show ((Bm.reach (rnK b q n) (rnK w q n)).2.length : Int) = n
  have e : (Bm.reach (rnK b q n) (rnK w q n)).2.length = n := h5
  omega
theorem rn_can (hd : Des n b w) (hq : Perm q n) : canD (rnK b q n) (rnK w q n) n = canD b w n := by
  have hn := hq.1
  refine ((can_iff hd (rn_des hd hq)).2 ⟨nl q 0, hq.lt (by omega), ?_⟩).symm
  exact (rn_iso hd hq).ren2 hd (rn_des hd hq) (by omega)
theorem nam_perm (hd : Des n b w) {x : Nat} (hx : x < n) : Perm (nam b w x) n := by
  have hn := hd.1.1
  refine .of (by omega) (fun i h1 h2 => ?_) (fun i hi => (ord_nam hd hx hi).2) (fun i j hi hj he => by have := nam_inj hd hx j i (by omega) hi he; omega)
  have hl := ord_len hd hx
  have : ∀ k, k ≤ (ord b w x).length → nl (nmK (ord b w x) k) i = 0 := by
    intro k
    induction k with
    | zero => intro _; simp only [nmK, nl_rep]; split <;> rfl
    | succ k ih =>
      intro hk
      rw [nmK, nl_set, if_neg (fun e => by have := ord_lt hd hx (j := k) (by omega); omega), ih (by omega)]
  rw [nam, this _ (Nat.le_refl _)]
theorem nam_0 (hd : Des n b w) {x : Nat} (hx : x < n) : nl (nam b w x) x = 0 := by
  have h := nam_at hd hx (j := 0) (by have := hd.1.1; omega)
  rwa [ord_0 hd hx] at h
/-- The canonical dessin is one, and its own canonical one. -/
theorem can_des (hd : Des n b w) : Des n (canD b w n).1 (canD b w n).2 ∧ canD (canD b w n).1 (canD b w n).2 n = canD b w n := by
  have hn := hd.1.1
  obtain ⟨x, hx, e⟩ := @canK_mem b w n (n - 1)
  have hx' : x < n := by omega
  have hq := nam_perm hd hx'
  have e2 : canD b w n = (rnK b (nam b w x) n, rnK w (nam b w x) n) := e
  rw [e2]
  exact ⟨rn_des hd hq, by rw [rn_can hd hq, e2]⟩
theorem face_at (hd : Des n b w) {y : Nat} (hy : y < n) : nl (faceP b w n) (nl w (nl b y)) = y := by
  have hn := hd.1.1
  have ht := then_perm hd.1 hd.2.1
  have h1 : nl (thenK b w n) y = nl w (nl b y) := by rw [thenK_nl (by omega), if_pos hy]
  rw [faceP, ← h1, back_at ht (Nat.le_refl _) hy]
theorem pass_rn (hd : Des n b w) (hq : Perm q n) : pass (rnK b q n) (rnK w q n) n = pass b w n := by
  have hd' := rn_des hd hq
  have h1 := typ_conj hd.1 hd'.1 hq fun y hy => rn_at hd.1 hq hy
  have h2 := typ_conj hd.2.1 hd'.2.1 hq fun y hy => rn_at hd.2.1 hq hy
  have h3 := typ_conj (face_perm hd.1 hd.2.1) (face_perm hd'.1 hd'.2.1) hq fun y hy => by
    -- y is the image of a dart
    obtain ⟨z, hz, rfl⟩ := (then_perm hd.1 hd.2.1).surj hy
    have hn := hd.1.1
    have e1 : nl (thenK b w n) z = nl w (nl b z) := by rw [thenK_nl (by omega), if_pos hz]
    rw [e1, face_at hd hz]
    have e2 : nl q (nl w (nl b z)) = nl (rnK w q n) (nl (rnK b q n) (nl q z)) := by
      rw [rn_at hd.1 hq hz, rn_at hd.2.1 hq (hd.1.lt hz)]
    rw [e2, face_at hd' (hq.lt hz)]
  rw [pass, pass, h1, h2, h3]
end
end Go.Bm

/- All types of a number. -/
set_option linter.unusedVariables false
set_option linter.unusedSimpArgs false
namespace Go.Bm
open Go Go.Am

end Go.Bm

/- All types of a number: the walks. -/
set_option linter.unusedVariables false
set_option linter.unusedSimpArgs false
namespace Go.Bm
open Go Go.Am

abbrev LN (ts : List (List Nat)) : Value := Fz ts.length 1 (ts.map FN)
theorem min_ii2 {k : IntKind} {x y : Int} : foldV min2 [.int k x, .int k y] = some (.int k (if y < x then y else x)) := by
  simp [foldV, min2]
end Go.Bm

/- Draws: dessins. -/
set_option linter.unusedVariables false
set_option linter.unusedSimpArgs false
namespace Go.Bm
open Go Go.Am

theorem el_mem {xs : List Int} {k : Nat} (h : k < xs.length) : el xs k ∈ xs := by simp [el, List.getD, h]
section
variable {code : List Nat} {a : Nat} {h : Int}
theorem l01Pairs_one {n : Nat} {size : Int} {K : Value → BH → Prop} (ha : a ≤ code.length) (hl : code.length ≤ 1048576) (hcd : ∀ i, nl code i < 256) (hn : 1 ≤ n ∧ n ≤ 16) (hs : size < 4611686018427387904)
    (hK : ∀ p a' h', By 16 p → a' ≤ code.length → K (PL p) [some (SC code a' h')]) : CallX false F_spec_l01Pairs [P 0 0, I n, I size] [some (SC code a h)] K := by
  have hil := @idK_len n
  refine CallX_body Γ_spec_l01Pairs ?_
  simp only [A_spec_l01Pairs, T_aiff]
  refine T_rseq fun Kr hKr => ?_
  simp (disch := omega) only [RA, ↓reduceIte, Nat.reduceEqDiff, RD]
  refine hKr _ _ ?_
  clear hKr Kr
  try simp only [RN, reduceIte]
  try refine T_e rfl ?_
  refine T_rseq fun Kr hKr => ?_
  simp (disch := omega) only [RA, ↓reduceIte, Nat.reduceEqDiff, Nat.reduceAdd, Nat.reduceMul, Int.reduceToNat, Nat.reduceLT, reduceCtorEq, RD]
  refine l01DrawPlaces_spec (i := 0) rfl ha hl hcd hn fun q a h hq hp hA => ?_
  have hlq := hq.len
  clear ha
  simp (disch := omega) only [RA, ↓reduceIte, Nat.reduceEqDiff, Nat.reduceAdd, Nat.reduceMul, Int.reduceToNat, Nat.reduceLT, reduceCtorEq, RD]
  refine l01Same_spec (by omega) ?_
  simp (disch := omega) only [RA, ↓reduceIte, Nat.reduceEqDiff, Nat.reduceAdd, Nat.reduceMul, Int.reduceToNat, Nat.reduceLT, reduceCtorEq, RD]
  refine hKr _ _ ?_
  clear hKr Kr
  try simp only [blkQ, thenQ, loopQ]
  try simp only [RN, reduceIte]
  try refine T_e rfl ?_
  have hq16 : ∀ i, nl q i < 16 := fun i => hp.lt16 hlq i
  refine T_rseq fun Kr hKr => ?_
  simp (disch := omega) only [RA, ↓reduceIte, Nat.reduceEqDiff, RD]
  refine hKr _ _ ?_
  clear hKr Kr
  try simp only [RN, reduceIte]
  try refine T_e rfl ?_
  refine T_wloop (fun m f H' => ∃ t a' h' p, t ≤ n ∧ m = n - t ∧ a' ≤ code.length ∧ By 16 p ∧ f 0 = P 0 0 ∧ f 1 = I n ∧ f 2 = I size ∧ f 6 = P 1 0 ∧ f 7 = P 2 0 ∧ f 8 = P 3 0 ∧ f 9 = I t ∧ H' = [some (SC code a' h'), some (List.replicate 16 (.int .u8 0)), some (q.map N8), some (p.map N8)]) (n) ?_ ?_
  · refine ⟨_, _, Gh.refl, 0, a, h, idK n, by omega, by omega, hA, idK_by hn.2, ?_, ?_, ?_, ?_, ?_, ?_, ?_, rfl⟩
    any_goals (simp (disch := omega) only [RA, ↓reduceIte, Nat.reduceEqDiff, RD, RE, *] <;> rfl)
  · clear hA
    rintro m f H' R ⟨t, a, h, p, ht, rfl, hA, hb, g0, g1, g2, g6, g7, g8, g9, rfl⟩ hN hX hR hE
    simp only [A_spec_l01Pairs.l1, T_aiff]
    have hlp := hb.len
    refine T_rseq fun Kr hKr => ?_
    simp (disch := omega) only [RA, ↓reduceIte, Nat.reduceEqDiff, RD, g1, g9]
    refine hKr _ _ ?_
    clear hKr Kr
    try simp only [RN, reduceIte]
    try refine T_e rfl ?_
    refine T_csplit (p := t < n) (by simp only [RA, ↓reduceIte, Nat.reduceEqDiff] <;> rfl) (by (try simp only [RB]) <;> first | done | exact Iff.rfl | omega | simp) (fun hc => ?_) (fun hc => ?_) <;> (try simp only [RN, reduceIte]) <;> (try refine T_e rfl ?_)
    · have htn : t < n := hc
      clear hc
      first | refine T_bfree rfl ?_ | refine T_bfree' rfl ?_
      try simp only [RN, reduceIte]
      try refine T_e rfl ?_
      refine T_rseq fun Kr hKr => ?_
      simp (disch := omega) only [RA, ↓reduceIte, Nat.reduceEqDiff, RD, g0, g2]
      refine l01Next_spec (i := 0) rfl hA hl hcd (by omega) fun v a h hA k2 k3 k4 k5 => ?_
      have hk : ∃ k : Nat, 1 ≤ k ∧ t + k ≤ n ∧ (if (n : Int) - t < 1 + v then (n : Int) - t else 1 + v) = k := by
        by_cases hc : (n : Int) - t < 1 + v
        · exact ⟨n - t, by omega, by omega, by rw [if_pos hc]; omega⟩
        · exact ⟨(1 + v).toNat, by omega, by omega, by rw [if_neg hc]; omega⟩
      obtain ⟨k, hk1, hk2, hk3⟩ := hk
      simp (disch := omega) only [RA, ↓reduceIte, Nat.reduceEqDiff, RD, g1, g9, min_ii2, hk3]
      refine hKr _ _ ?_
      clear hKr Kr
      try simp only [blkQ, thenQ, loopQ]
      try simp only [RN, reduceIte]
      try refine T_e rfl ?_
      refine T_rseq fun Kr hKr => ?_
      simp (disch := omega) only [RA, ↓reduceIte, Nat.reduceEqDiff, RD]
      refine hKr _ _ ?_
      clear hKr Kr
      try simp only [RN, reduceIte]
      try refine T_e rfl ?_
      refine T_wloop (fun m f H' => ∃ i p, i ≤ k ∧ m = k - i ∧ By 16 p ∧ f 0 = P 0 0 ∧ f 1 = I n ∧ f 2 = I size ∧ f 6 = P 1 0 ∧ f 7 = P 2 0 ∧ f 8 = P 3 0 ∧ f 9 = I t ∧ f 10 = I k ∧ f 11 = I i ∧ H' = [some (SC code a h), some (List.replicate 16 (.int .u8 0)), some (q.map N8), some (p.map N8)]) (k) ?_ ?_
      · refine ⟨_, _, Gh.refl, 0, p, by omega, by omega, hb, ?_, ?_, ?_, ?_, ?_, ?_, ?_, ?_, ?_, rfl⟩
        any_goals (simp (disch := omega) only [RA, ↓reduceIte, Nat.reduceEqDiff, RD, RE, *] <;> rfl)
      · clear g0 g1 g2 g6 g7 g8 g9 hb hlp p
        rintro m f H' R1 ⟨i, p, hi, rfl, hb, g0, g1, g2, g6, g7, g8, g9, g10, g11, rfl⟩ hN1 hX1 hR1 hE1
        simp only [A_spec_l01Pairs.l0, T_aiff]
        have hlp := hb.len
        refine T_rseq fun Kr hKr => ?_
        simp (disch := omega) only [RA, ↓reduceIte, Nat.reduceEqDiff, RD, g10, g11]
        refine hKr _ _ ?_
        clear hKr Kr
        try simp only [RN, reduceIte]
        try refine T_e rfl ?_
        refine T_csplit (p := i < k) (by simp only [RA, ↓reduceIte, Nat.reduceEqDiff] <;> rfl) (by (try simp only [RB]) <;> first | done | exact Iff.rfl | omega | simp) (fun hc => ?_) (fun hc => ?_) <;> (try simp only [RN, reduceIte]) <;> (try refine T_e rfl ?_)
        · have hik : i < k := hc
          clear hc
          have hk0 : (k : Int) ≠ 0 := by omega
          have hm := Nat.mod_lt (i + 1) (show 0 < k by omega)
          have e1 : ((i : Nat) : Int) + 1 = ((i + 1 : Nat) : Int) := by omega
          have e2 : (((i + 1 : Nat) : Int)).tmod (k : Int) = (((i + 1) % k : Nat) : Int) := Int.ofNat_tmod (i + 1) k
          have e3 : ((t : Nat) : Int) + ((i : Nat) : Int) = ((t + i : Nat) : Int) := by omega
          have e4 : ((t : Nat) : Int) + (((i + 1) % k : Nat) : Int) = ((t + (i + 1) % k : Nat) : Int) := by omega
          have hq1 := hq16 (t + i)
          have hq2 := hq16 (t + (i + 1) % k)
          first | refine T_bfree rfl ?_ | refine T_bfree' rfl ?_
          try simp only [RN, reduceIte]
          try refine T_e rfl ?_
          refine T_rseq fun Kr hKr => ?_
          simp (disch := omega) only [RA, ↓reduceIte, Nat.reduceEqDiff, RD, g7, g8, g9, g10, g11, hlq, hlp, hk0, e1, e2, e3, e4]
          refine hKr _ _ ?_
          clear hKr Kr
          try simp only [RN, reduceIte]
          try refine T_e rfl ?_
          refine T_reg_k fun Kr hKr => ?_
          simp (disch := omega) only [RA, ↓reduceIte, Nat.reduceEqDiff, RD, g11]
          refine hKr _ _ ?_
          clear hKr Kr
          refine hN1 (k - (i + 1)) _ _ _ _ (by omega) Gh.refl ⟨i + 1, _, by omega, rfl, hb.set (by omega), ?_, ?_, ?_, ?_, ?_, ?_, ?_, ?_, ?_, rfl⟩
          any_goals (simp (disch := omega) only [RA, ↓reduceIte, Nat.reduceEqDiff, RD, RE, *] <;> rfl)
        · refine hX1 _ _ ?_
          have e5 : ((t : Nat) : Int) + ((k : Nat) : Int) = ((t + k : Nat) : Int) := by omega
          refine T_reg_k fun Kr hKr => ?_
          simp (disch := omega) only [RA, ↓reduceIte, Nat.reduceEqDiff, RD, g9, g10, e5]
          refine hKr _ _ ?_
          clear hKr Kr
          refine hN (n - (t + k)) _ _ _ _ (by omega) Gh.refl ⟨t + k, a, h, p, by omega, rfl, hA, hb, ?_, ?_, ?_, ?_, ?_, ?_, ?_, rfl⟩
          any_goals (simp (disch := omega) only [RA, ↓reduceIte, Nat.reduceEqDiff, RD, RE, *] <;> rfl)
    · refine hX _ _ ?_
      refine T_rseq fun Kr hKr => ?_
      simp (disch := omega) only [RA, ↓reduceIte, Nat.reduceEqDiff, RD, g6, g8, hlp]
      refine hKr _ _ ?_
      clear hKr Kr
      try simp only [RN, reduceIte]
      try refine T_e rfl ?_
      refine bodyQ_ret (by simp (disch := omega) only [RA, ↓reduceIte, Nat.reduceEqDiff, RD, resAll, resOf, g6, hlp]; rfl) (GhV.nrm [0] rfl rfl (by simp only [RH, NNL_SC]) (by simp only [tup, RH])) ?_
      simp only [tup]
      exact hK _ _ _ hb hA
theorem l01Pairs_spec {n : Nat} {size : Int} {i : Nat} {H : BH} {K : Value → BH → Prop} (hb : blk H i = some (SC code a h)) (ha : a ≤ code.length) (hl : code.length ≤ 1048576) (hcd : ∀ i, nl code i < 256) (hn : 1 ≤ n ∧ n ≤ 16) (hs : size < 4611686018427387904)
    (hK : ∀ p a' h', By 16 p → a' ≤ code.length → K (PL p) (H.set i (some (SC code a' h')))) : CallX false F_spec_l01Pairs [P i 0, I n, I size] H K := by
  refine call1 hb NN_SC ?_
  have e : ([P i 0, I n, I size] : List Value).map (ren [i]) = [P 0 0, I n, I size] := by simp [ren, ren1, nm]
  rw [e]
  exact l01Pairs_one ha hl hcd hn hs fun p a' h' k1 k2 => ⟨NN_agg (by (simp only [RH])), HN.cons NN_SC HN.nil, hK p a' h' k1 k2⟩
theorem l01Draw_one {most : Int} {K : Value → BH → Prop} (ha : a ≤ code.length) (hl : code.length ≤ 1048576) (hcd : ∀ i, nl code i < 256) (hm : 1 ≤ most ∧ most ≤ 16)
    (hK : ∀ (n : Nat) b w a' h', By 16 b → By 16 w → Des n b w → (n : Int) ≤ most → a' ≤ code.length → K (DV n b w) [some (SC code a' h')]) : CallX false F_spec_l01Draw [P 0 0, I most] [some (SC code a h)] K := by
  have hz := z16_len
  refine CallX_body Γ_spec_l01Draw ?_
  simp only [A_spec_l01Draw, T_aiff]
  refine T_rseq fun Kr hKr => ?_
  simp (disch := omega) only [RA, ↓reduceIte, Nat.reduceEqDiff, RD, RDS]
  refine hKr _ _ ?_
  clear hKr Kr
  try simp only [RN, reduceIte]
  try refine T_e rfl ?_
  refine T_rseq fun Kr hKr => ?_
  simp (disch := omega) only [RA, ↓reduceIte, Nat.reduceEqDiff, RD]
  refine l01Next_spec (i := 0) rfl ha hl hcd (by omega) fun v a h hA k2 k3 k4 k5 => ?_
  clear ha
  have hv := k4 (by omega)
  obtain ⟨n, hn⟩ : ∃ n : Nat, 1 + v = n := ⟨(1 + v).toNat, by omega⟩
  have hn1 : 1 ≤ n ∧ n ≤ 16 := by omega
  have hnm : (n : Int) ≤ most := by omega
  simp (disch := omega) only [RA, ↓reduceIte, Nat.reduceEqDiff, RD, hn]
  refine hKr _ _ ?_
  clear hKr Kr
  try simp only [blkQ, thenQ, loopQ]
  try simp only [RN, reduceIte]
  try refine T_e rfl ?_
  clear k2 k3 k4 k5
  refine T_rseq fun Kr hKr => ?_
  simp (disch := omega) only [RA, ↓reduceIte, Nat.reduceEqDiff, RD]
  refine hKr _ _ ?_
  clear hKr Kr
  try simp only [RN, reduceIte]
  try refine T_e rfl ?_
  refine T_wloop (fun m f H' => ∃ k a' h', k ≤ 8 ∧ m = 8 - k ∧ a' ≤ code.length ∧ f 0 = P 0 0 ∧ f 4 = P 1 0 ∧ f 5 = I n ∧ f 6 = I k ∧ H' = [some (SC code a' h'), some (DC 0 z16 z16)]) (8) ?_ ?_
  · refine ⟨_, _, Gh.refl, 0, a, h, by omega, by omega, hA, ?_, ?_, ?_, ?_, rfl⟩
    any_goals (simp (disch := omega) only [RA, ↓reduceIte, Nat.reduceEqDiff, RD, RE, *] <;> rfl)
  · clear hA
    rintro m f H' R ⟨k, a, h, hk, rfl, hA, g0, g4, g5, g6, rfl⟩ hN hX hR hE
    simp only [A_spec_l01Draw.l0, T_aiff]
    refine T_rseq fun Kr hKr => ?_
    simp (disch := omega) only [RA, ↓reduceIte, Nat.reduceEqDiff, Nat.reduceBEq, Nat.reduceSub, Nat.reduceAdd, Nat.reduceMul, Nat.reduceLT, Nat.reduceLeDiff, Int.reduceLE, Int.reduceLT, Int.reduceEq, Int.reduceNeg, Int.reduceToNat, Int.reduceMul, Int.reduceAdd, Int.reduceSub, Int.reduceBEq, Int.reduceBNe, reduceCtorEq, RD, g6]
    refine hKr _ _ ?_
    clear hKr Kr
    try simp only [RN, reduceIte]
    try refine T_e rfl ?_
    refine T_csplit (p := k < 8) (by simp only [RA, ↓reduceIte, Nat.reduceEqDiff, Nat.reduceBEq, Nat.reduceSub, Nat.reduceAdd, Nat.reduceMul, Nat.reduceLT, Nat.reduceLeDiff, Int.reduceLE, Int.reduceLT, Int.reduceEq, Int.reduceNeg, Int.reduceToNat, Int.reduceMul, Int.reduceAdd, Int.reduceSub, Int.reduceBEq, Int.reduceBNe, reduceCtorEq] <;> rfl) (by (try simp only [RB]) <;> first | done | exact Iff.rfl | omega | simp) (fun hc => ?_) (fun hc => ?_) <;> (try simp only [RN, reduceIte]) <;> (try refine T_e rfl ?_)
    · have hk8 : k < 8 := hc
      clear hc
      first | refine T_bfree rfl ?_ | refine T_bfree' rfl ?_
      try simp only [RN, reduceIte]
      try refine T_e rfl ?_
      refine T_rseq fun Kr hKr => ?_
      simp (disch := omega) only [RA, ↓reduceIte, Nat.reduceEqDiff, Nat.reduceBEq, Nat.reduceSub, Nat.reduceAdd, Nat.reduceMul, Nat.reduceLT, Nat.reduceLeDiff, Int.reduceLE, Int.reduceLT, Int.reduceEq, Int.reduceNeg, Int.reduceToNat, Int.reduceMul, Int.reduceAdd, Int.reduceSub, Int.reduceBEq, Int.reduceBNe, reduceCtorEq, RD, g0, g5]
      refine callFz 2 rfl (by simp only [RH]) ?_
      simp only [RZ, frz_all ]
      refine l01Pick_spec (xs := [2, 3, 4, (n : Int)]) (i := 0) rfl hA hl hcd (by simp) (by simp) fun j a h hj hA => ?_
      have hj1 := el_mem hj
      simp (disch := omega) only [RA, ↓reduceIte, Nat.reduceEqDiff, Nat.reduceBEq, Nat.reduceSub, Nat.reduceAdd, Nat.reduceMul, Nat.reduceLT, Nat.reduceLeDiff, Int.reduceLE, Int.reduceLT, Int.reduceEq, Int.reduceNeg, Int.reduceToNat, Int.reduceMul, Int.reduceAdd, Int.reduceSub, Int.reduceBEq, Int.reduceBNe, reduceCtorEq, RD, g0, g5]
      refine l01Pairs_spec (i := 0) rfl hA hl hcd hn1 (by simp at hj1; omega) fun p a h hp hA => ?_
      simp (disch := omega) only [RA, ↓reduceIte, Nat.reduceEqDiff, Nat.reduceBEq, Nat.reduceSub, Nat.reduceAdd, Nat.reduceMul, Nat.reduceLT, Nat.reduceLeDiff, Int.reduceLE, Int.reduceLT, Int.reduceEq, Int.reduceNeg, Int.reduceToNat, Int.reduceMul, Int.reduceAdd, Int.reduceSub, Int.reduceBEq, Int.reduceBNe, reduceCtorEq, RD, g0, g5]
      refine callFz 3 rfl (by simp only [RH]) ?_
      simp only [RZ, frz_all ]
      refine l01Pick_spec (xs := [2, 2, 3, (n : Int)]) (i := 0) rfl hA hl hcd (by simp) (by simp) fun j a h hj hA => ?_
      have hj2 := el_mem hj
      simp (disch := omega) only [RA, ↓reduceIte, Nat.reduceEqDiff, Nat.reduceBEq, Nat.reduceSub, Nat.reduceAdd, Nat.reduceMul, Nat.reduceLT, Nat.reduceLeDiff, Int.reduceLE, Int.reduceLT, Int.reduceEq, Int.reduceNeg, Int.reduceToNat, Int.reduceMul, Int.reduceAdd, Int.reduceSub, Int.reduceBEq, Int.reduceBNe, reduceCtorEq, RD, g0, g5]
      refine l01Pairs_spec (i := 0) rfl hA hl hcd hn1 (by simp at hj2; omega) fun q a h hq hA => ?_
      have hlp := hp.len
      have hlq := hq.len
      simp (disch := omega) only [RA, ↓reduceIte, Nat.reduceEqDiff, Nat.reduceAdd, Nat.reduceMul, Int.reduceToNat, Nat.reduceLT, reduceCtorEq, RD, RDS, RDD]
      refine hKr _ _ ?_
      clear hKr Kr
      try simp only [blkQ, thenQ, loopQ]
      try simp only [RN, reduceIte]
      try refine T_e rfl ?_
      refine T_rseq fun Kr hKr => ?_
      simp (disch := omega) only [RA, ↓reduceIte, Nat.reduceEqDiff, RD, RDS, RDD]
      refine l01Is_spec hp hq ?_
      simp (disch := omega) only [RA, ↓reduceIte, Nat.reduceEqDiff, RD]
      refine hKr _ _ ?_
      clear hKr Kr
      try simp only [blkQ, thenQ, loopQ]
      try simp only [RN, reduceIte]
      try refine T_e rfl ?_
      refine T_csplit (p := Des n p q) (by simp only [RA, ↓reduceIte, Nat.reduceEqDiff] <;> rfl) (by (try simp only [RB]) <;> first | done | exact Iff.rfl | omega | simp) (fun hc => ?_) (fun hc => ?_) <;> (try simp only [RN, reduceIte]) <;> (try refine T_e rfl ?_)
      · refine T_rseq fun Kr hKr => ?_
        simp (disch := omega) only [RA, ↓reduceIte, Nat.reduceEqDiff, RD, g4, RDS, RDD]
        refine hKr _ _ ?_
        clear hKr Kr
        try simp only [RN, reduceIte]
        try refine T_e rfl ?_
        refine hR _ _ ?_
        refine bodyQ_ret (by simp (disch := omega) only [RA, ↓reduceIte, Nat.reduceEqDiff, RD, resAll, resOf, g4, RDD]; rfl) (GhV.nrm [0] rfl rfl (by simp only [RH, NNL_SC, NN_D]) (by simp only [tup, RH])) ?_
        simp only [tup]
        exact hK n p q _ _ hp hq hc hnm hA
      · refine T_reg_k fun Kr hKr => ?_
        simp (disch := omega) only [RA, ↓reduceIte, Nat.reduceEqDiff, RD, g6]
        refine hKr _ _ ?_
        clear hKr Kr
        refine hN (8 - (k + 1)) _ _ _ _ (by omega) (Gh.nrm [0, 1] rfl rfl (by simp only [RH, NNL_SC, NN_D])) ⟨k + 1, a, h, by omega, rfl, hA, ?_, ?_, ?_, ?_, rfl⟩
        any_goals (simp (disch := omega) only [RA, ↓reduceIte, Nat.reduceEqDiff, Nat.reduceAdd, Nat.reduceMul, Int.reduceToNat, Nat.reduceLT, reduceCtorEq, RD, RE, *] <;> rfl)
    · refine hX _ _ ?_
      have h1 := @tuK_len n n
      have h2 := @idK_len n
      refine T_rseq fun Kr hKr => ?_
      simp (disch := omega) only [RA, ↓reduceIte, Nat.reduceEqDiff, Nat.reduceAdd, Nat.reduceMul, Int.reduceToNat, Nat.reduceLT, reduceCtorEq, RD, g5]
      refine l01Star_spec hn1 ?_
      simp (disch := omega) only [RA, ↓reduceIte, Nat.reduceEqDiff, Nat.reduceAdd, Nat.reduceMul, Int.reduceToNat, Nat.reduceLT, reduceCtorEq, RD, RDS, RDD]
      refine hKr _ _ ?_
      clear hKr Kr
      try simp only [blkQ, thenQ, loopQ]
      try simp only [RN, reduceIte]
      try refine T_e rfl ?_
      refine T_rseq fun Kr hKr => ?_
      simp (disch := omega) only [RA, ↓reduceIte, Nat.reduceEqDiff, Nat.reduceBEq, Nat.reduceSub, Nat.reduceAdd, Nat.reduceMul, Nat.reduceLT, Nat.reduceLeDiff, Int.reduceLE, Int.reduceLT, Int.reduceEq, Int.reduceNeg, Int.reduceToNat, Int.reduceMul, Int.reduceAdd, Int.reduceSub, Int.reduceBEq, Int.reduceBNe, reduceCtorEq, RD, g0, g5]
      refine l01DrawPlaces_spec (i := 0) rfl hA hl hcd hn1 fun q a h hq hp hA => ?_
      have hlq := hq.len
      simp (disch := omega) only [RA, ↓reduceIte, Nat.reduceEqDiff, Nat.reduceAdd, Nat.reduceMul, Int.reduceToNat, Nat.reduceLT, reduceCtorEq, RD, RDS, RDD]
      refine hKr _ _ ?_
      clear hKr Kr
      try simp only [blkQ, thenQ, loopQ]
      try simp only [RN, reduceIte]
      try refine T_e rfl ?_
      refine T_rseq fun Kr hKr => ?_
      simp (disch := omega) only [RA, ↓reduceIte, Nat.reduceEqDiff, RD, g4, RDS, RDD]
      refine hKr _ _ ?_
      clear hKr Kr
      try simp only [RN, reduceIte]
      try refine T_e rfl ?_
      refine bodyQ_ret (by simp (disch := omega) only [RA, ↓reduceIte, Nat.reduceEqDiff, RD, resAll, resOf, g4, RDD]; rfl) (GhV.nrm [0] rfl rfl (by simp only [RH, NNL_SC, NN_D]) (by simp only [tup, RH])) ?_
      simp only [tup]
      exact hK n _ q _ _ (tuK_by hn1 hn1.2) hq (Des.turn hn1 hp) hnm hA
theorem l01Draw_spec {most : Int} {i : Nat} {H : BH} {K : Value → BH → Prop} (hb : blk H i = some (SC code a h)) (ha : a ≤ code.length) (hl : code.length ≤ 1048576) (hcd : ∀ i, nl code i < 256) (hm : 1 ≤ most ∧ most ≤ 16)
    (hK : ∀ (n : Nat) b w a' h', By 16 b → By 16 w → Des n b w → (n : Int) ≤ most → a' ≤ code.length → K (DV n b w) (H.set i (some (SC code a' h')))) : CallX false F_spec_l01Draw [P i 0, I most] H K := by
  refine call1 hb NN_SC ?_
  have e : ([P i 0, I most] : List Value).map (ren [i]) = [P 0 0, I most] := by simp [ren, ren1, nm]
  rw [e]
  exact l01Draw_one ha hl hcd hm fun n b w a' h' k1 k2 k3 k4 k5 => ⟨nn_D, HN.cons NN_SC HN.nil, hK n b w a' h' k1 k2 k3 k4 k5⟩
end
end Go.Bm

