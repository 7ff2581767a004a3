/- Dp0, Dp1, Dp2, Dp3, Dp4, DpK, DpL, DpM -/
import Derived.Test.YteklchkdgpoedaaBmS
/- Places, and how they are told of as permutations. -/
set_option linter.unusedVariables false
set_option linter.unusedSimpArgs false
namespace Go.Bm
open Go Go.Am

/-- Sixteen bytes. -/
structure By (m : Nat) (p : List Nat) : Prop where
  len : p.length = m
  lt : ∀ i, nl p i < 256
theorem By.mem {m : Nat} {p : List Nat} (h : By m p) : ∀ x ∈ p, x < 256 := fun x hx => by
  obtain ⟨i, hi, rfl⟩ := List.mem_iff_getElem.1 hx
  have := h.lt i
  simpa [nl, List.getD, hi] using this
theorem nl_set {p : List Nat} {i x j : Nat} : nl (p.set i x) j = if j = i ∧ i < p.length then x else nl p j := by
  unfold nl
  simp only [List.getD]
  by_cases h : i = j
  · subst h
    by_cases hi : i < p.length
    · simp [hi]
    · simp [List.getElem?_eq_none (by omega : p.length ≤ i), hi]
  · rw [List.getElem?_set_ne h, if_neg (fun e => h e.1.symm)]
theorem bl_set {p : List Bool} {i : Nat} {x : Bool} {j : Nat} : bl (p.set i x) j = if j = i ∧ i < p.length then x else bl p j := by
  unfold bl
  simp only [List.getD]
  by_cases h : i = j
  · subst h
    by_cases hi : i < p.length
    · simp [hi]
    · simp [List.getElem?_eq_none (by omega : p.length ≤ i), hi]
  · rw [List.getElem?_set_ne h, if_neg (fun e => h e.1.symm)]
theorem nl_rep {n m i : Nat} : nl (List.replicate n m) i = if i < n then m else 0 := by
  unfold nl
  simp only [List.getD, List.getElem?_replicate]
  split <;> rfl
theorem bl_rep {n i : Nat} : bl (List.replicate n false) i = false := by
  unfold bl
  simp only [List.getD, List.getElem?_replicate]
  split <;> rfl
theorem nl_out {p : List Nat} {i : Nat} (h : p.length ≤ i) : nl p i = 0 := by simp [nl, List.getD, List.getElem?_eq_none h]
theorem By.set {m : Nat} {p : List Nat} (h : By m p) {i x : Nat} (hx : x < 256) : By m (p.set i x) := ⟨by simp [h.len], fun j => by rw [nl_set]; split; exact hx; exact h.lt j⟩
theorem By.rep {m : Nat} : By m (List.replicate m 0) := ⟨by simp, fun i => by rw [nl_rep]; split <;> omega⟩

/-- A permutation of n numbers. -/
def Perm (p : List Nat) (n : Int) : Prop := (1 ≤ n ∧ n ≤ 16) ∧ ∀ i : Nat, i < 16 → ((n ≤ (i : Int) → nl p i = 0) ∧ ((i : Int) < n → (nl p i : Int) < n ∧ ∀ j, j < i → nl p j ≠ nl p i))
instance (p : List Nat) (n : Int) : Decidable (Perm p n) := by unfold Perm; infer_instance
/-- The numbers met. -/
def Met (p : List Nat) (n : Int) (k : Nat) (s : List Bool) : Prop := s.length = 16 ∧ ∀ x, bl s x = true ↔ ∃ i, i < k ∧ (i : Int) < n ∧ nl p i = x
theorem Met.zero {p : List Nat} {n : Int} : Met p n 0 (List.replicate 16 false) := ⟨by simp, fun x => by rw [bl_rep]; simp⟩
theorem Met.next {p : List Nat} {n : Int} {k : Nat} {s : List Bool} (h : Met p n k s) (hk : (k : Int) < n) (hx : nl p k < 16) : Met p n (k + 1) (s.set (nl p k) true) := ⟨by simp [h.1], fun x => by
  rw [bl_set]
  by_cases e : x = nl p k
  · subst e
    rw [if_pos ⟨rfl, by rw [h.1]; exact hx⟩]
    exact ⟨fun _ => ⟨k, by omega, hk, rfl⟩, fun _ => rfl⟩
  · rw [if_neg (fun h => e h.1), h.2]
    exact ⟨fun ⟨i, h1, h2, h3⟩ => ⟨i, by omega, h2, h3⟩, fun ⟨i, h1, h2, h3⟩ => ⟨i, by
      rcases Nat.lt_or_ge i k with q | q
      · exact q
      · obtain rfl : i = k := by omega
        exact absurd h3.symm e, h2, h3⟩⟩⟩
theorem Met.skip {p : List Nat} {n : Int} {k : Nat} {s : List Bool} (h : Met p n k s) (hk : ¬ (k : Int) < n) : Met p n (k + 1) s := ⟨h.1, fun x => by
  rw [h.2]
  exact ⟨fun ⟨i, h1, h2, h3⟩ => ⟨i, by omega, h2, h3⟩, fun ⟨i, h1, h2, h3⟩ => ⟨i, by
    rcases Nat.lt_or_ge i k with q | q
    · exact q
    · obtain rfl : i = k := by omega
      exact absurd h2 hk, h2, h3⟩⟩⟩

end Go.Bm

/- The reference's test of permutations; products and inverses. -/
set_option linter.unusedVariables false
set_option linter.unusedSimpArgs false
namespace Go.Bm
open Go Go.Am

theorem Perm.lt {p : List Nat} {n : Nat} (h : Perm p n) {i : Nat} (hi : i < n) : nl p i < n := by have := ((h.2 i (by have := h.1; omega)).2 (by omega)).1; omega
theorem Perm.lt16 {p : List Nat} {n : Nat} (h : Perm p n) (hl : p.length = 16) (i : Nat) : nl p i < 16 := by
  have h1 := h.1
  rcases Nat.lt_or_ge i n with hi | hi
  · have := h.lt hi; omega
  · rcases Nat.lt_or_ge i 16 with h2 | h2
    · rw [(h.2 i h2).1 (by omega)]; omega
    · rw [nl_out (by omega)]; omega

/-- p then q, at the first k numbers. -/
def thenK (p q : List Nat) : Nat → List Nat
  | 0 => List.replicate 16 0
  | k + 1 => (thenK p q k).set k (nl q (nl p k))
/-- The permutation that leads back, of the first k numbers. -/
def backK (p : List Nat) : Nat → List Nat
  | 0 => List.replicate 16 0
  | k + 1 => (backK p k).set (nl p k) k
theorem thenK_len {p q : List Nat} {k : Nat} : (thenK p q k).length = 16 := by
  induction k with
  | zero => simp [thenK]
  | succ k ih => simp [thenK, ih]
theorem backK_len {p : List Nat} {k : Nat} : (backK p k).length = 16 := by
  induction k with
  | zero => simp [backK]
  | succ k ih => simp [backK, ih]
theorem thenK_nl {p q : List Nat} {k i : Nat} (hk : k ≤ 16) : nl (thenK p q k) i = if i < k then nl q (nl p i) else 0 := by
  induction k with
  | zero => simp only [thenK, nl_rep]; split <;> simp
  | succ k ih =>
    simp only [thenK, nl_set, thenK_len]
    rw [ih (by omega)]
    by_cases h : i = k
    · subst h; simp [show i < 16 by omega]
    · simp only [h, false_and, if_false]
      split <;> split <;> first | rfl | omega
theorem thenK_by {p q : List Nat} {k : Nat} (hq : By 16 q) (hk : k ≤ 16) : By 16 (thenK p q k) := ⟨thenK_len, fun i => by rw [thenK_nl hk]; split; exact hq.lt _; omega⟩
theorem backK_by {p : List Nat} {k : Nat} (hk : k ≤ 16) : By 16 (backK p k) := by
  induction k with
  | zero => exact By.rep
  | succ k ih => exact (ih (by omega)).set (by omega)

theorem then_spec {x : Bool} {p q : List Nat} {n : Nat} {H : BH} {K : Value → BH → Prop} (hp : By 16 p) (hq : By 16 q) (hn : n ≤ 16) (hp16 : ∀ i, nl p i < 16) (hK : K (PL (thenK p q n)) H) : CallX x F_impl_then [PL p, PL q, I n] H K := by
  have hlen := hp.len
  have hlen' := hq.len
  refine callP (by simp only [RH]) ?_
  refine CallX_body Γ_impl_then ?_; simp only [A_impl_then, T_aiff]
  refine T_rseq fun Kr hKr => ?_; simp (disch := omega) only [RA, ↓reduceIte, Nat.reduceEqDiff, RD]; refine hKr _ _ ?_; clear hKr Kr; (try simp only [RN, reduceIte]); try refine T_e rfl ?_
  refine T_rseq fun Kr hKr => ?_; simp (disch := omega) only [RA, ↓reduceIte, Nat.reduceEqDiff, RD]; refine hKr _ _ ?_; clear hKr Kr; (try simp only [RN, reduceIte]); try refine T_e rfl ?_
  refine T_rseq fun Kr hKr => ?_; simp (disch := omega) only [RA, ↓reduceIte, Nat.reduceEqDiff, RD]; refine hKr _ _ ?_; clear hKr Kr; (try simp only [RN, reduceIte]); try refine T_e rfl ?_
  refine T_wloop (fun m f H' => ∃ k, k ≤ n ∧ m = n - k ∧ f 10 = I n ∧ f 3 = P 0 0 ∧ f 4 = P 1 0 ∧ f 6 = P 2 0 ∧ f 7 = P 3 0 ∧ f 11 = I k ∧ H' = [some (p.map N8), some (q.map N8), some (List.replicate 16 (.int .u8 0)), some ((thenK p q k).map N8)]) (n) ?_ ?_
  · refine ⟨_, _, Gh.refl, 0, by omega, by omega, by simp [RA, ↓reduceIte, Nat.reduceEqDiff], by simp [RA, ↓reduceIte, Nat.reduceEqDiff], by simp [RA, ↓reduceIte, Nat.reduceEqDiff], by simp [RA, ↓reduceIte, Nat.reduceEqDiff], by simp [RA, ↓reduceIte, Nat.reduceEqDiff], by simp [RA, ↓reduceIte, Nat.reduceEqDiff], by simp [RA, ↓reduceIte, Nat.reduceEqDiff, thenK]⟩
  · rintro m f H' R ⟨k, hk, rfl, h2, h3, h4, h6, h7, h8, rfl⟩ hN hX hR hE
    simp only [A_impl_then.l0, T_aiff]
    refine T_rseq fun Kr hKr => ?_; simp (disch := omega) only [RA, ↓reduceIte, Nat.reduceEqDiff, RD, h2, h8]; refine hKr _ _ ?_; clear hKr Kr; (try simp only [RN, reduceIte]); try refine T_e rfl ?_
    refine T_csplit (p := k < n) (by simp only [RA, ↓reduceIte, Nat.reduceEqDiff] <;> rfl) (by (try simp only [RB]) <;> first | done | exact Iff.rfl | omega | simp) (fun hc => ?_) (fun hc => ?_) <;> (try simp only [RN, reduceIte]) <;> (try refine T_e rfl ?_)
    · have hlk := @thenK_len p q k
      have hpk := hp16 k
      (first | refine T_bfree rfl ?_ | refine T_bfree' rfl ?_); (try simp only [RN, reduceIte]); try refine T_e rfl ?_
      refine T_rseq fun Kr hKr => ?_; simp (disch := omega) only [RA, ↓reduceIte, Nat.reduceEqDiff, RD, h8]; refine hKr _ _ ?_; clear hKr Kr; (try simp only [RN, reduceIte]); try refine T_e rfl ?_
      refine T_rseq fun Kr hKr => ?_; simp (disch := omega) only [RA, ↓reduceIte, Nat.reduceEqDiff, RD, h3, h4, h7, h8, hlen, hlen', hlk]; refine hKr _ _ ?_; clear hKr Kr; (try simp only [RN, reduceIte]); try refine T_e rfl ?_
      refine T_reg_k fun Kr hKr => ?_; simp (disch := omega) only [RA, ↓reduceIte, Nat.reduceEqDiff, RD, h8]; refine hKr _ _ ?_; clear hKr Kr
      refine hN (n - (k + 1)) _ _ _ _ (by omega) Gh.refl ⟨k + 1, by omega, rfl, by simp [RA, ↓reduceIte, Nat.reduceEqDiff, h2], by simp [RA, ↓reduceIte, Nat.reduceEqDiff, h3], by simp [RA, ↓reduceIte, Nat.reduceEqDiff, h4], by simp [RA, ↓reduceIte, Nat.reduceEqDiff, h6], by simp [RA, ↓reduceIte, Nat.reduceEqDiff, h7], by simp [RA, ↓reduceIte, Nat.reduceEqDiff], rfl⟩
    · refine hX _ _ ?_
      obtain rfl : k = n := by omega
      have hlk := @thenK_len p q k
      refine T_rseq fun Kr hKr => ?_; simp (disch := omega) only [RA, ↓reduceIte, Nat.reduceEqDiff, RD, h6, h7, hlk]; refine hKr _ _ ?_; clear hKr Kr; (try simp only [RN, reduceIte]); try refine T_e rfl ?_
      refine bodyQ_ret (by simp (disch := omega) only [RA, ↓reduceIte, Nat.reduceEqDiff, RD, resAll, resOf, h6, hlk]; rfl) GhV.refl ?_; simp only [tup]
      exact ⟨NN_agg (by (simp only [RH])), hK⟩
theorem back_spec {x : Bool} {p : List Nat} {n : Nat} {H : BH} {K : Value → BH → Prop} (hp : By 16 p) (hn : n ≤ 16) (hp16 : ∀ i, nl p i < 16) (hK : K (PL (backK p n)) H) : CallX x F_impl_back [PL p, I n] H K := by
  have hlen := hp.len
  refine callP (by simp only [RH]) ?_
  refine CallX_body Γ_impl_back ?_; simp only [A_impl_back, T_aiff]
  refine T_rseq fun Kr hKr => ?_; simp (disch := omega) only [RA, ↓reduceIte, Nat.reduceEqDiff, RD]; refine hKr _ _ ?_; clear hKr Kr; (try simp only [RN, reduceIte]); try refine T_e rfl ?_
  refine T_rseq fun Kr hKr => ?_; simp (disch := omega) only [RA, ↓reduceIte, Nat.reduceEqDiff, RD]; refine hKr _ _ ?_; clear hKr Kr; (try simp only [RN, reduceIte]); try refine T_e rfl ?_
  refine T_rseq fun Kr hKr => ?_; simp (disch := omega) only [RA, ↓reduceIte, Nat.reduceEqDiff, RD]; refine hKr _ _ ?_; clear hKr Kr; (try simp only [RN, reduceIte]); try refine T_e rfl ?_
  refine T_wloop (fun m f H' => ∃ k, k ≤ n ∧ m = n - k ∧ f 8 = I n ∧ f 2 = P 0 0 ∧ f 4 = P 1 0 ∧ f 5 = P 2 0 ∧ f 9 = I k ∧ H' = [some (p.map N8), some (List.replicate 16 (.int .u8 0)), some ((backK p k).map N8)]) (n) ?_ ?_
  · refine ⟨_, _, Gh.refl, 0, by omega, by omega, by simp [RA, ↓reduceIte, Nat.reduceEqDiff], by simp [RA, ↓reduceIte, Nat.reduceEqDiff], by simp [RA, ↓reduceIte, Nat.reduceEqDiff], by simp [RA, ↓reduceIte, Nat.reduceEqDiff], by simp [RA, ↓reduceIte, Nat.reduceEqDiff], by simp [RA, ↓reduceIte, Nat.reduceEqDiff, backK]⟩
  · rintro m f H' R ⟨k, hk, rfl, h1, h2, h4, h5, h6, rfl⟩ hN hX hR hE
    simp only [A_impl_back.l0, T_aiff]
    refine T_rseq fun Kr hKr => ?_; simp (disch := omega) only [RA, ↓reduceIte, Nat.reduceEqDiff, RD, h1, h6]; refine hKr _ _ ?_; clear hKr Kr; (try simp only [RN, reduceIte]); try refine T_e rfl ?_
    refine T_csplit (p := k < n) (by simp only [RA, ↓reduceIte, Nat.reduceEqDiff] <;> rfl) (by (try simp only [RB]) <;> first | done | exact Iff.rfl | omega | simp) (fun hc => ?_) (fun hc => ?_) <;> (try simp only [RN, reduceIte]) <;> (try refine T_e rfl ?_)
    · have hlk := @backK_len p k
      have hpk := hp16 k
      (first | refine T_bfree rfl ?_ | refine T_bfree' rfl ?_); (try simp only [RN, reduceIte]); try refine T_e rfl ?_
      refine T_rseq fun Kr hKr => ?_; simp (disch := omega) only [RA, ↓reduceIte, Nat.reduceEqDiff, RD, h6]; refine hKr _ _ ?_; clear hKr Kr; (try simp only [RN, reduceIte]); try refine T_e rfl ?_
      refine T_rseq fun Kr hKr => ?_; simp (disch := omega) only [RA, ↓reduceIte, Nat.reduceEqDiff, RD, h2, h4, h5, h6, hlen, hlk]; refine hKr _ _ ?_; clear hKr Kr; (try simp only [RN, reduceIte]); try refine T_e rfl ?_
      refine T_reg_k fun Kr hKr => ?_; simp (disch := omega) only [RA, ↓reduceIte, Nat.reduceEqDiff, RD, h6]; refine hKr _ _ ?_; clear hKr Kr
      refine hN (n - (k + 1)) _ _ _ _ (by omega) Gh.refl ⟨k + 1, by omega, rfl, by simp [RA, ↓reduceIte, Nat.reduceEqDiff, h1], by simp [RA, ↓reduceIte, Nat.reduceEqDiff, h2], by simp [RA, ↓reduceIte, Nat.reduceEqDiff, h4], by simp [RA, ↓reduceIte, Nat.reduceEqDiff, h5], by simp [RA, ↓reduceIte, Nat.reduceEqDiff], rfl⟩
    · refine hX _ _ ?_
      obtain rfl : k = n := by omega
      have hlk := @backK_len p k
      refine T_rseq fun Kr hKr => ?_; simp (disch := omega) only [RA, ↓reduceIte, Nat.reduceEqDiff, RD, h4, h5, hlk]; refine hKr _ _ ?_; clear hKr Kr; (try simp only [RN, reduceIte]); try refine T_e rfl ?_
      refine bodyQ_ret (by simp (disch := omega) only [RA, ↓reduceIte, Nat.reduceEqDiff, RD, resAll, resOf, h4, hlk]; rfl) GhV.refl ?_; simp only [tup]
      exact ⟨NN_agg (by (simp only [RH])), hK⟩

/-! ### Dessins -/
abbrev DC (n : Int) (b w : List Nat) : List Value := I n :: (b.map N8 ++ w.map N8)
abbrev DV (n : Int) (b w : List Nat) : Value := aggL (DC n b w)
theorem getN_D {n : Int} {b w : List Nat} : getN none (DC n b w) 0 = some (I n) := rfl
theorem getN_bk {n : Int} {b w : List Nat} (hb : b.length = 16) : getN (some 16) (DC n b w) 1 = some (PL b) := by
  rw [getN_agg (by simp [hb])]
  simp [List.take_append_of_le_length, hb]
theorem getN_wh {n : Int} {b w : List Nat} (hb : b.length = 16) (hw : w.length = 16) : getN (some 16) (DC n b w) 17 = some (PL w) := by
  rw [getN_agg (by simp [hb, hw])]
  simp [List.drop_append, hb, hw]
  rw [List.take_of_length_le (by simp [hw])]
theorem getN_all {n : Nat} {cs : List Value} (h : cs.length = n) : getN (some n) cs 0 = some (aggL cs) := by
  rw [getN_agg (by omega), List.drop_zero, List.take_of_length_le (by omega)]
theorem getN_DV {n : Int} {b w : List Nat} (hb : b.length = 16) (hw : w.length = 16) : getN (some 33) (DC n b w) 0 = some (DV n b w) := getN_all (by simp [hb, hw])
def faceP (b w : List Nat) (n : Nat) : List Nat := backK (thenK b w n) n
theorem thenK_16 {p q : List Nat} {k i : Nat} (hq : ∀ i, nl q i < 16) (hk : k ≤ 16) : nl (thenK p q k) i < 16 := by rw [thenK_nl hk]; split; exact hq _; omega
theorem face_spec {x : Bool} {b w : List Nat} {n : Nat} {H : BH} {K : Value → BH → Prop} (hb : By 16 b) (hw : By 16 w) (hn : n ≤ 16) (hb16 : ∀ i, nl b i < 16) (hw16 : ∀ i, nl w i < 16) (hK : K (PL (faceP b w n)) H) : CallX x F_impl_face [DV n b w] H K := by
  have hlb := hb.len
  have hlw := hw.len
  refine callP (by simp only [RH]) ?_
  refine CallX_body Γ_impl_face ?_; simp only [A_impl_face, T_aiff]
  refine T_rseq fun Kr hKr => ?_; simp (disch := omega) only [RA, ↓reduceIte, Nat.reduceEqDiff, RD]; refine hKr _ _ ?_; clear hKr Kr; (try simp only [RN, reduceIte]); try refine T_e rfl ?_
  refine T_rseq fun Kr hKr => ?_; simp (disch := omega) only [RA, ↓reduceIte, Nat.reduceEqDiff, RD, getN_D, getN_bk, getN_wh]
  refine then_spec hb hw hn hb16 ?_
  simp (disch := omega) only [RA, ↓reduceIte, Nat.reduceEqDiff, RD, getN_D]
  refine back_spec (thenK_by hw hn) hn (fun i => thenK_16 hw16 hn) ?_
  have hl := @backK_len (thenK b w n) n
  simp (disch := omega) only [RA, ↓reduceIte, Nat.reduceEqDiff, RD]
  refine hKr _ _ ?_; clear hKr Kr; (try simp only [blkQ, thenQ, loopQ]); (try simp only [RN, reduceIte]); try refine T_e rfl ?_
  refine bodyQ_ret (by simp (disch := omega) only [RA, ↓reduceIte, Nat.reduceEqDiff, RD, resAll, resOf, hl]; rfl) GhV.refl ?_; simp only [tup]
  exact ⟨NN_agg (by (simp only [RH])), hK⟩
end Go.Bm

/- What is reached by steps. -/
set_option linter.unusedVariables false
set_option linter.unusedSimpArgs false
namespace Go.Bm
open Go Go.Am

abbrev BS := List Bool × List Nat
def visit (st : BS) (y : Nat) : BS := if bl st.1 y = true then st else (st.1.set y true, st.2 ++ [y])
def roundX (ls : List (List Nat)) (x : Nat) (st : BS) : BS := ls.foldl (fun st p => visit st (nl p x)) st
def bfs (ls : List (List Nat)) (st : BS) : Nat → BS
  | 0 => st
  | i + 1 => if i < (bfs ls st i).2.length then roundX ls (nl (bfs ls st i).2 i) (bfs ls st i) else bfs ls st i
structure Bi (m : Nat) (st : BS) : Prop where
  len : st.1.length = m
  lt : ∀ i, i < st.2.length → nl st.2 i < m
  cnt : st.2.length ≤ st.1.count true
theorem Bi.le {m : Nat} {st : BS} (h : Bi m st) : st.2.length ≤ m := by
  have := List.count_le_length (a := true) (l := st.1)
  have := h.cnt
  have := h.len
  omega
theorem nl_append {p q : List Nat} {i : Nat} : nl (p ++ q) i = if i < p.length then nl p i else nl q (i - p.length) := by
  unfold nl
  simp only [List.getD]
  split
  · rename_i h; rw [List.getElem?_append_left h]
  · rename_i h; rw [List.getElem?_append_right (by omega)]
theorem nl_single {y : Nat} {i : Nat} (h : i < 1) : nl [y] i = y := by
  obtain rfl : i = 0 := by omega
  rfl
theorem count_set_true {s : List Bool} {y : Nat} (hy : y < s.length) (h : bl s y = false) : (s.set y true).count true = s.count true + 1 := by
  rw [List.count_set hy]
  have : s[y] = false := by simpa [bl, List.getD, hy] using h
  simp [this]
theorem Bi.visit {m : Nat} {st : BS} (h : Bi m st) {y : Nat} (hy : y < m) : Bi m (visit st y) := by
  unfold Bm.visit
  split
  · exact h
  · rename_i hb
    refine ⟨by simp [h.len], fun i hi => ?_, ?_⟩
    · simp only [List.length_append, List.length_singleton] at hi
      simp only [nl_append]
      split
      · exact h.lt i (by assumption)
      · rw [nl_single (by omega)]; exact hy
    · simp only [List.length_append, List.length_singleton]
      rw [count_set_true (by rw [h.len]; exact hy) (by simpa using hb)]
      have := h.cnt
      omega
theorem Bi.round {m : Nat} {x : Nat} : ∀ {ls : List (List Nat)} {st : BS}, Bi m st → (∀ p ∈ ls, nl p x < m) → Bi m (roundX ls x st)
  | [], st, h, _ => h
  | p :: ls, st, h, hp => Bi.round (ls := ls) (h.visit (hp p (by simp))) fun q hq => hp q (by simp [hq])
theorem Bi.bfs {m : Nat} {ls : List (List Nat)} {st : BS} (h : Bi m st) (hp : ∀ p ∈ ls, ∀ i, nl p i < m) : ∀ i, Bi m (bfs ls st i)
  | 0 => h
  | i + 1 => by
    simp only [Bm.bfs]
    split
    · exact (Bi.bfs h hp i).round fun p hq => hp p hq _
    · exact Bi.bfs h hp i
def st0 (m : Nat) : BS := ((List.replicate m false).set 0 true, [0])
theorem Bi.st0 {m : Nat} (hm : 0 < m) : Bi m (st0 m) := ⟨by simp [Bm.st0], fun i hi => by rw [show (Bm.st0 m).2 = [0] from rfl, nl_single (by simpa [Bm.st0] using hi)]; exact hm, by
  show 1 ≤ _
  have : ((List.replicate m false).set 0 true).count true = (List.replicate m false).count true + 1 := count_set_true (by simpa using hm) bl_rep
  show 1 ≤ ((List.replicate m false).set 0 true).count true
  omega⟩
/-- The numbers that are reached from 0 by two permutations. -/
def reach (b w : List Nat) : BS := bfs [b, w] (st0 16) 16

end Go.Bm

/- What is reached, the program's; dessins. -/
set_option linter.unusedVariables false
set_option linter.unusedSimpArgs false
namespace Go.Bm
open Go Go.Am

/-- A dessin. -/
def Des (n : Int) (b w : List Nat) : Prop := Perm b n ∧ Perm w n ∧ ((reach b w).2.length : Int) = n
instance (n : Int) (b w : List Nat) : Decidable (Des n b w) := by unfold Des; infer_instance
end Go.Bm

/- Dessins in memory; the laws' helpers for them. -/
set_option linter.unusedVariables false
set_option linter.unusedSimpArgs false
namespace Go.Bm
open Go Go.Am

def z16 : List Nat := List.replicate 16 0
theorem z16_len : z16.length = 16 := by simp [z16]
theorem dz : (Value.int .i64 0 :: List.replicate 32 (Value.int .u8 0)) = DC 0 z16 z16 := by rfl
theorem plain_N {b : List Nat} : (b.map N8).all Am.plain = true := all_map fun _ => rfl
theorem ones_D {n : Int} {b w : List Nat} : (DC n b w).all one2 = true := by
  simp only [DC, List.all_cons, List.all_append, Bool.and_eq_true]
  exact ⟨rfl, ones_N, ones_N⟩
theorem len_D {n : Int} {b w : List Nat} (hb : b.length = 16) (hw : w.length = 16) : (DC n b w).length = 33 := by simp [hb, hw]
theorem NN_D {n : Int} {b w : List Nat} : NNL (DC n b w) := .cons .int (.append (.map fun _ => .int) (.map fun _ => .int))
section
variable {H : BH} {i : Nat} {n m : Int} {b w b' w' p : List Nat}
theorem st_D (hb : b.length = 16) (hw : w.length = 16) (hb' : b'.length = 16) (hw' : w'.length = 16) : stO (some (DC n b w)) H i 0 33 (aggL (DC m b' w')) = some (undef, H.set i (some (DC m b' w'))) := by
  rw [stO_agg (len_D hb' hw') ones_D (by rw [len_D hb hw]; omega), splice_full (by rw [len_D hb hw, len_D hb' hw'])]
theorem st_D0 : stO (some (DC n b w)) H i 0 1 (.int .i64 m) = some (undef, H.set i (some (DC m b w))) := by
  rw [stO_int (by simp), splice_0]
theorem splice_mid {α : Type} {g : α → Value} {x y : List α} {pre post : List Value} (h : x.length = y.length) : splice (pre ++ (x.map g ++ post)) pre.length (y.map g) = pre ++ (y.map g ++ post) := by
  simp only [splice]
  rw [List.take_append_of_le_length (by omega), List.take_of_length_le (by omega)]
  rw [List.drop_append, List.drop_eq_nil_of_le (by omega), List.nil_append]
  rw [show pre.length + (List.map g y).length - pre.length = (List.map g x).length by simp [h]]
  rw [List.drop_append, List.drop_eq_nil_of_le (by omega)]
  simp
theorem splice_mid1 {α : Type} {g : α → Value} {x : List α} {y : α} {k : Nat} {pre post : List Value} (h : k < x.length) : splice (pre ++ (x.map g ++ post)) (pre.length + k) [g y] = pre ++ ((x.set k y).map g ++ post) := by
  simp only [splice, List.length_singleton]
  rw [List.take_append, List.take_of_length_le (l := pre) (by omega), show pre.length + k - pre.length = k by omega, List.take_append_of_le_length (by simp; omega)]
  rw [List.drop_append, List.drop_eq_nil_of_le (as := pre) (by omega), show pre.length + k + 1 - pre.length = k + 1 by omega, List.drop_append_of_le_length (by simp; omega)]
  rw [List.set_eq_take_append_cons_drop]
  simp [h, List.map_take, List.map_drop]
theorem getN_mid1 {α : Type} {g : α → Value} {x : List α} {k : Nat} {d : α} {pre post : List Value} (h : k < x.length) : getN none (pre ++ (x.map g ++ post)) (pre.length + k) = some (g (x.getD k d)) := by
  simp only [getN]
  rw [List.getElem?_append_right (by omega), show pre.length + k - pre.length = k by omega, List.getElem?_append_left (by simpa using h)]
  simp [List.getD, h]
theorem st_D1 (hb : b.length = 16) (hp : p.length = 16) : stO (some (DC n b w)) H i 1 16 (aggL (p.map N8)) = some (undef, H.set i (some (DC n p w))) := by
  rw [stO_agg (by simpa using hp) ones_N (by simp [hb])]
  have := splice_mid (g := N8) (x := b) (y := p) (pre := [I n]) (post := w.map N8) (by omega)
  simp only [List.length_cons, List.length_nil, List.length_map, List.cons_append, List.nil_append, List.append_nil, Nat.zero_add] at this
  rw [show splice (DC n b w) 1 (p.map N8) = DC n p w from this]
theorem st_D2 (hb : b.length = 16) (hw : w.length = 16) (hp : p.length = 16) : stO (some (DC n b w)) H i 17 16 (aggL (p.map N8)) = some (undef, H.set i (some (DC n b p))) := by
  rw [stO_agg (by simpa using hp) ones_N (by simp [hb, hw])]
  have := splice_mid (g := N8) (x := w) (y := p) (pre := I n :: b.map N8) (post := []) (by omega)
  simp only [List.length_cons, List.length_nil, List.length_map, List.cons_append, List.nil_append, List.append_nil, Nat.zero_add, hb] at this
  rw [show splice (DC n b w) 17 (p.map N8) = DC n b p from this]
theorem st_Db {k x : Nat} (h : k < b.length) : stO (some (DC n b w)) H i (1 + k) 1 (.int .u8 (x : Int)) = some (undef, H.set i (some (DC n (b.set k x) w))) := by
  rw [stO_int (by simp; omega)]
  have := splice_mid1 (g := N8) (x := b) (y := x) (k := k) (pre := [I n]) (post := w.map N8) h
  simp only [List.length_cons, List.length_nil, List.length_map, List.cons_append, List.nil_append, List.append_nil, Nat.zero_add] at this
  rw [show splice (DC n b w) (1 + k) [N8 x] = DC n (b.set k x) w from this]
theorem st_Dw {k x : Nat} (hb : b.length = 16) (h : k < w.length) : stO (some (DC n b w)) H i (17 + k) 1 (.int .u8 (x : Int)) = some (undef, H.set i (some (DC n b (w.set k x)))) := by
  rw [stO_int (by simp; omega)]
  have := splice_mid1 (g := N8) (x := w) (y := x) (k := k) (pre := I n :: b.map N8) (post := []) h
  simp only [List.length_cons, List.length_nil, List.length_map, List.cons_append, List.nil_append, List.append_nil, Nat.zero_add, hb] at this
  rw [show splice (DC n b w) (17 + k) [N8 x] = DC n b (w.set k x) from this]
theorem getN_b1 {k : Nat} (h : k < b.length) : getN none (DC n b w) (1 + k) = some (N8 (nl b k)) := by
  have := getN_mid1 (g := N8) (x := b) (k := k) (d := 0) (pre := [I n]) (post := w.map N8) h
  simp only [List.length_cons, List.length_nil, List.length_map, List.cons_append, List.nil_append, List.append_nil, Nat.zero_add] at this
  exact this
theorem getN_w1 {k : Nat} (hb : b.length = 16) (h : k < w.length) : getN none (DC n b w) (17 + k) = some (N8 (nl w k)) := by
  have := getN_mid1 (g := N8) (x := w) (k := k) (d := 0) (pre := I n :: b.map N8) (post := []) h
  simp only [List.length_cons, List.length_nil, List.length_map, List.cons_append, List.nil_append, List.append_nil, Nat.zero_add, hb] at this
  exact this
theorem fill_D0 : fillL (DC n b w) [(0, 1, .int .i64 m)] = some (DC m b w) := by
  simp [fillL, cellsL, splice]
theorem fill_D {b' w' : List Nat} (hb : b.length = 16) (hw : w.length = 16) (hb' : b'.length = 16) (hw' : w'.length = 16) : fillL (DC n b w) [(0, 1, .int .i64 m), (1, 16, PL b'), (17, 16, PL w')] = some (DC m b' w') := by
  simp only [fillL, cellsL_i, cellsL_a, List.length_singleton, List.length_map]
  rw [if_pos ⟨trivial, by simp⟩, splice_0, if_pos ⟨hb', by simp [hb]⟩]
  have h1 := splice_mid (g := N8) (x := b) (y := b') (pre := [I m]) (post := w.map N8) (by omega)
  simp only [List.length_singleton, List.cons_append, List.nil_append] at h1
  rw [h1, if_pos ⟨hw', by simp [hb', hw]⟩]
  have h2 := splice_mid (g := N8) (x := w) (y := w') (pre := I m :: b'.map N8) (post := []) (by omega)
  simp only [List.length_cons, List.length_map, hb', List.append_nil, List.cons_append] at h2
  rw [h2]
theorem fill_Dw (hb : b.length = 16) (hw : w.length = 16) (hw' : w'.length = 16) : fillL (DC n b w) [(0, 1, .int .i64 m), (17, 16, PL w')] = some (DC m b w') := by
  simp only [fillL, cellsL_i, cellsL_a, List.length_singleton, List.length_map]
  rw [if_pos ⟨trivial, by simp⟩, splice_0, if_pos ⟨hw', by simp [hb, hw]⟩]
  have h2 := splice_mid (g := N8) (x := w) (y := w') (pre := I m :: b.map N8) (post := []) (by omega)
  simp only [List.length_cons, List.length_map, hb, List.append_nil, List.cons_append] at h2
  rw [h2]
theorem getN_dv (hb : b.length = 16) (hw : w.length = 16) : getN (some 33) (DC n b w) 0 = some (aggL (DC n b w)) := getN_DV hb hw
theorem nn_D : NN (aggL (DC n b w)) := NN.agg NN_D
end
theorem plain_NN {b w : List Nat} : (b.map N8 ++ w.map N8).all Am.plain = true := by rw [List.all_append, plain_N, plain_N]; rfl
theorem RDS : (type_of% @dz) ∧ (type_of% @plain_NN) ∧ (type_of% @plain_N) ∧ (type_of% @z16_len) ∧ (type_of% @st_D0) ∧ (type_of% @getN_D) ∧ (type_of% @fill_D0) := ⟨@dz, @plain_NN, @plain_N, @z16_len, @st_D0, @getN_D, @fill_D0⟩
theorem RDD : (type_of% @st_D) ∧ (type_of% @st_D1) ∧ (type_of% @st_D2) ∧ (type_of% @st_Db) ∧ (type_of% @st_Dw) ∧ (type_of% @getN_bk) ∧ (type_of% @getN_wh) ∧ (type_of% @getN_b1) ∧ (type_of% @getN_w1) ∧ (type_of% @fill_D) ∧ (type_of% @fill_Dw) ∧ (type_of% @getN_dv) := ⟨@st_D, @st_D1, @st_D2, @st_Db, @st_Dw, @getN_bk, @getN_wh, @getN_b1, @getN_w1, @fill_D, @fill_Dw, @getN_dv⟩

theorem Des.n0 {n : Int} {b w : List Nat} (h : Des n b w) : ∃ m : Nat, n = m ∧ 1 ≤ m ∧ m ≤ 16 := by
  have := h.1.1
  exact ⟨n.toNat, by omega, by omega, by omega⟩
end Go.Bm

/- Sorting: parts of a list that are changed; insertion, reversing. -/
set_option linter.unusedVariables false
set_option linter.unusedSimpArgs false
namespace Go.Bm
open Go Go.Am

theorem el_setD {p : List Int} {i j : Nat} {x : Int} : el (p.set i x) j = if j = i ∧ i < p.length then x else el p j := by
  unfold el
  simp only [List.getD]
  by_cases h : i = j
  · subst h
    by_cases hi : i < p.length
    · simp [hi]
    · simp [List.getElem?_eq_none (by omega : p.length ≤ i), hi]
  · rw [List.getElem?_set_ne h, if_neg (fun e => h e.1.symm)]
/-- Two numbers change places. -/
def swp (p : List Int) (i j : Nat) : List Int := (p.set i (el p j)).set j (el p i)
theorem swp_len {p : List Int} {i j : Nat} : (swp p i j).length = p.length := by simp [swp]
theorem swp_el {p : List Int} {i j k : Nat} (hi : i < p.length) (hj : j < p.length) : el (swp p i j) k = if k = j then el p i else if k = i then el p j else el p k := by
  unfold swp
  rw [el_setD, el_setD]
  by_cases h : k = j
  · rw [if_pos ⟨h, by simpa using hj⟩, if_pos h]
  · rw [if_neg (fun e => h e.1), if_neg h]
    by_cases h2 : k = i
    · rw [if_pos ⟨h2, hi⟩, if_pos h2]
    · rw [if_neg (fun e => h2 e.1), if_neg h2]
theorem swp_perm {p : List Int} {i j : Nat} (hi : i < p.length) (hj : j < p.length) : (swp p i j).Perm p := by
  rw [List.perm_iff_count]
  intro a
  unfold swp
  rw [List.count_set (by simpa using hj), List.count_set hi]
  have e1 : p[i] = el p i := by simp [el, List.getD, hi]
  have e2 : p[j] = el p j := by simp [el, List.getD, hj]
  have e3 : (p.set i (el p j))[j]'(by simpa using hj) = el p j := by
    rw [List.getElem_set]
    split
    · rfl
    · exact e2
  rw [e3, e1]
  have c1 : (el p i == a) = true → 0 < p.count a := fun h => by
    rw [List.count_pos_iff, ← beq_iff_eq.1 h, ← e1]; exact List.getElem_mem hi
  by_cases h1 : (el p i == a) = true <;> by_cases h2 : (el p j == a) = true <;> simp only [h1, h2, if_true, if_false, Bool.false_eq_true] <;> first | omega | (have := c1 h1; omega)

/-- Of a list only the part from a to b has been put into another order. -/
structure Sg (a b : Nat) (p q : List Int) : Prop where
  len : q.length = p.length
  out : ∀ i, i < a ∨ b ≤ i → el q i = el p i
  src : ∀ i, a ≤ i → i < b → ∃ j, a ≤ j ∧ j < b ∧ el q i = el p j
  perm : q.Perm p
theorem Sg.refl {a b : Nat} {p : List Int} : Sg a b p p := ⟨rfl, fun _ _ => rfl, fun i h1 h2 => ⟨i, h1, h2, rfl⟩, .refl _⟩
theorem Sg.trans {a b : Nat} {p q r : List Int} (h : Sg a b p q) (k : Sg a b q r) : Sg a b p r := ⟨k.len.trans h.len, fun i hi => (k.out i hi).trans (h.out i hi), fun i h1 h2 => by
  obtain ⟨j, j1, j2, j3⟩ := k.src i h1 h2
  obtain ⟨l, l1, l2, l3⟩ := h.src j j1 j2
  exact ⟨l, l1, l2, j3.trans l3⟩, k.perm.trans h.perm⟩
theorem Sg.mono {a b a' b' : Nat} {p q : List Int} (h : Sg a b p q) (ha : a' ≤ a) (hb : b ≤ b') : Sg a' b' p q := ⟨h.len, fun i hi => h.out i (by omega), fun i h1 h2 => by
  by_cases hi : a ≤ i ∧ i < b
  · obtain ⟨j, j1, j2, j3⟩ := h.src i hi.1 hi.2
    exact ⟨j, by omega, by omega, j3⟩
  · exact ⟨i, h1, h2, h.out i (by omega)⟩, h.perm⟩
theorem Sg.swp {a b i j : Nat} {p : List Int} (h1 : a ≤ i) (h2 : i < b) (h3 : a ≤ j) (h4 : j < b) (hb : b ≤ p.length) : Sg a b p (swp p i j) := ⟨swp_len, fun k hk => by
  rw [swp_el (by omega) (by omega), if_neg (by omega), if_neg (by omega)], fun k k1 k2 => by
  rw [swp_el (by omega) (by omega)]
  split
  · exact ⟨i, h1, h2, rfl⟩
  · split
    · exact ⟨j, h3, h4, rfl⟩
    · exact ⟨k, k1, k2, rfl⟩, swp_perm (by omega) (by omega)⟩
/-- In order from a to b. -/
def Srt (a b : Nat) (p : List Int) : Prop := ∀ i j, a ≤ i → i ≤ j → j < b → el p i ≤ el p j

theorem Srt.one {a : Nat} {p : List Int} : Srt a (a + 1) p := fun i j h1 h2 h3 => by
  obtain rfl : i = j := by omega
  exact Int.le_refl _
theorem isNaN_spec {x : Bool} {a : Int} {H : BH} {K : Value → BH → Prop} (hK : K (.bool false) H) : CallX x F_cmp_isNaN_int64 [I a] H K := by
  refine callP (by simp only [RH]) ?_
  refine CallX_body Γ_cmp_isNaN_int64 ?_; simp only [A_cmp_isNaN_int64, T_aiff]
  refine T_rseq fun Kr hKr => ?_; simp (disch := omega) only [RA, ↓reduceIte, Nat.reduceEqDiff, RD]; refine hKr _ _ ?_; clear hKr Kr; (try simp only [RN, reduceIte]); try refine T_e rfl ?_
  refine T_rseq fun Kr hKr => ?_; simp (disch := omega) only [RA, ↓reduceIte, Nat.reduceEqDiff, RD]; refine hKr _ _ ?_; clear hKr Kr; (try simp only [RN, reduceIte]); try refine T_e rfl ?_
  refine bodyQ_ret (by simp (disch := omega) only [RA, ↓reduceIte, Nat.reduceEqDiff, RD, resAll, resOf]; rfl) GhV.refl ?_; simp only [tup]
  exact ⟨NN.bool, by simpa using hK⟩
theorem Less_spec {x : Bool} {a b : Int} {H : BH} {K : Value → BH → Prop} (hK : K (.bool (decide (a < b))) H) : CallX x F_cmp_Less_int64 [I a, I b] H K := by
  refine callP (by simp only [RH]) ?_
  refine CallX_body Γ_cmp_Less_int64 ?_; simp only [A_cmp_Less_int64, T_aiff]
  refine T_rseq fun Kr hKr => ?_; simp (disch := omega) only [RA, ↓reduceIte, Nat.reduceEqDiff, RD]; refine hKr _ _ ?_; clear hKr Kr; (try simp only [RN, reduceIte]); try refine T_e rfl ?_
  refine T_rseq fun Kr hKr => ?_; simp (disch := omega) only [RA, ↓reduceIte, Nat.reduceEqDiff, RD]
  refine isNaN_spec ?_
  simp (disch := omega) only [RA, ↓reduceIte, Nat.reduceEqDiff, RD]
  refine hKr _ _ ?_; clear hKr Kr; (try simp only [blkQ, thenQ, loopQ]); (try simp only [RN, reduceIte]); try refine T_e rfl ?_
  refine bodyQ_ret (by simp (disch := omega) only [RA, ↓reduceIte, Nat.reduceEqDiff, RD, resAll, resOf]; rfl) GhV.refl ?_; simp only [tup]
  exact ⟨NN.bool, hK⟩
theorem T_tail {k : Nat} {a : ACode} {Q : Ex → Fr → BH → Prop} {f : Fr} {H : BH} (h : T k (.seq a .skip) Q f H) : T k a Q f H := by
  intro ρ Z fA HA hk h1 h2
  obtain ⟨ex, fA', HA', h3, h4⟩ := h ρ Z fA HA hk h1 h2
  refine ⟨ex, fA', HA', ?_, h4⟩
  cases h3 with
  | seqN ha hb => cases hb; exact ha
  | seqX ha _ => exact ha
/-- Insertion. -/
theorem insertionSort_spec {p : List Int} {a b : Nat} {K : Value → BH → Prop} (hp : p.length ≤ 1000) (hb : b ≤ p.length) (ha : a ≤ b) (hK : ∀ q, Sg a b p q → Srt a b q → K (.tuple ⟨[]⟩) [some (q.map I)]) :
    CallX false F_slices_insertionSortOrdered_int64 [S 0 0 p.length 1, I a, I b] [some (p.map I)] K := by
  refine CallX_body Γ_slices_insertionSortOrdered_int64 ?_; simp only [A_slices_insertionSortOrdered_int64, T_aiff]
  refine T_rseq fun Kr hKr => ?_; simp (disch := omega) only [RA, ↓reduceIte, Nat.reduceEqDiff, RD]; refine hKr _ _ ?_; clear hKr Kr; (try simp only [RN, reduceIte]); try refine T_e rfl ?_
  refine T_tail ?_
  refine T_wloop (fun m f H' => ∃ (i : Nat) (q : List Int), a + 1 ≤ i ∧ (i ≤ b ∨ i = a + 1) ∧ m = b - i ∧ Sg a b p q ∧ Srt a i q ∧ f 0 = S 0 0 p.length 1 ∧ f 1 = I a ∧ f 2 = I b ∧ f 6 = I i ∧ H' = [some (q.map I)]) (b - (a + 1)) ?_ ?_
  · refine ⟨_, _, Gh.refl, a + 1, p, by omega, by omega, by omega, .refl, Srt.one, ?_, ?_, ?_, ?_, rfl⟩
    any_goals (simp (disch := omega) only [RA, ↓reduceIte, Nat.reduceEqDiff, RD, RE, *] <;> rfl)
  · rintro m f H' R ⟨i, q, hi1, hi2, rfl, hq, hs, g0, g1, g2, g6, rfl⟩ hN hX hR hE
    simp only [A_slices_insertionSortOrdered_int64.l1, T_aiff]
    refine T_rseq fun Kr hKr => ?_; simp (disch := omega) only [RA, ↓reduceIte, Nat.reduceEqDiff, RD, g2, g6]; refine hKr _ _ ?_; clear hKr Kr; (try simp only [RN, reduceIte]); try refine T_e rfl ?_
    refine T_csplit (p := i < b) (by simp only [RA, ↓reduceIte, Nat.reduceEqDiff] <;> rfl) (by (try simp only [RB]) <;> first | done | exact Iff.rfl | omega | simp) (fun hc => ?_) (fun hc => ?_) <;> (try simp only [RN, reduceIte]) <;> (try refine T_e rfl ?_)
    · (first | refine T_bfree rfl ?_ | refine T_bfree' rfl ?_); (try simp only [RN, reduceIte]); try refine T_e rfl ?_
      refine T_rseq fun Kr hKr => ?_; simp (disch := omega) only [RA, ↓reduceIte, Nat.reduceEqDiff, RD, g6]; refine hKr _ _ ?_; clear hKr Kr; (try simp only [RN, reduceIte]); try refine T_e rfl ?_
      refine T_wloop (fun m f H' => ∃ (j : Nat) (r : List Int), a ≤ j ∧ j ≤ i ∧ j = m ∧ Sg a b p r ∧ (∀ x y, a ≤ x → x < y → y ≤ i → y ≠ j → el r x ≤ el r y) ∧ f 0 = S 0 0 p.length 1 ∧ f 1 = I a ∧ f 2 = I b ∧ f 6 = I i ∧ f 7 = I j ∧ H' = [some (r.map I)]) (i) ?_ ?_
      · refine ⟨_, _, Gh.refl, i, q, by omega, by omega, by omega, hq, fun x y h1 h2 h3 h4 => hs x y h1 (by omega) (by omega), ?_, ?_, ?_, ?_, ?_, rfl⟩
        any_goals (simp (disch := omega) only [RA, ↓reduceIte, Nat.reduceEqDiff, RD, RE, *] <;> rfl)
      · clear g0 g1 g2 g6
        rintro m f H' R2 ⟨j, r, hj1, hj2, rfl, hr, hall, g0, g1, g2, g6, g7, rfl⟩ hN2 hX2 hR2 hE2
        simp only [A_slices_insertionSortOrdered_int64.l0, T_aiff]
        have hrl := hr.len
        have hdone : ∀ f', f' 0 = S 0 0 p.length 1 → f' 1 = I a → f' 2 = I b → f' 6 = I i → (j = a ∨ el r (j - 1) ≤ el r j) → T 1 A_slices_insertionSortOrdered_int64.r2 R f' [some (r.map I)] := by
          intro f' g0 g1 g2 g6 hfin
          refine T_reg_k fun Kr hKr => ?_; simp (disch := omega) only [RA, ↓reduceIte, Nat.reduceEqDiff, RD, g6]; refine hKr _ _ ?_; clear hKr Kr
          refine hN (b - (i + 1)) _ _ _ _ (by omega) Gh.refl ⟨i + 1, r, by omega, by omega, rfl, hr, fun x y h1 h2 h3 => ?_, ?_, ?_, ?_, ?_, rfl⟩
          any_goals (simp (disch := omega) only [RA, ↓reduceIte, Nat.reduceEqDiff, RD, RE, *] <;> rfl)
          rcases Nat.lt_or_ge x y with h | h
          · by_cases hy : y = j
            · subst hy
              rcases hfin with hfin | hfin
              · omega
              · rcases Nat.lt_or_ge x (y - 1) with h' | h'
                · exact Int.le_trans (hall x (y - 1) h1 h' (by omega) (by omega)) hfin
                · obtain rfl : x = y - 1 := by omega
                  exact hfin
            · exact hall x y h1 h (by omega) hy
          · obtain rfl : x = y := by omega
            exact Int.le_refl _
        by_cases hja : j = a
        · refine T_rseq fun Kr hKr => ?_; simp (disch := omega) only [RA, ↓reduceIte, Nat.reduceEqDiff, RD, g1, g7, hja]; refine hKr _ _ ?_; clear hKr Kr; (try simp only [RN, reduceIte]); try refine T_e rfl ?_
          refine T_cseq (t := false) (by simp (disch := omega) only [RA, ↓reduceIte, Nat.reduceEqDiff, RD]) ?_; (try simp only [RN, reduceIte]); try refine T_e rfl ?_
          refine hX2 _ _ ?_
          refine hdone _ ?_ ?_ ?_ ?_ (.inl hja)
          any_goals (simp (disch := omega) only [RA, ↓reduceIte, Nat.reduceEqDiff, RD, RE, *] <;> rfl)
        · have hlt : a < j := by omega
          have hj1' : (j : Int) - 1 = ((j - 1 : Nat) : Int) := by omega
          refine T_rseq fun Kr hKr => ?_; simp (disch := omega) only [RA, ↓reduceIte, Nat.reduceEqDiff, RD, g0, g1, g7, hlt, hj1', hrl]
          refine Less_spec ?_
          simp (disch := omega) only [RA, ↓reduceIte, Nat.reduceEqDiff, RD]
          refine hKr _ _ ?_; clear hKr Kr; (try simp only [blkQ, thenQ, loopQ]); (try simp only [RN, reduceIte]); try refine T_e rfl ?_
          refine T_csplit (p := el r j < el r (j - 1)) (by simp only [RA, ↓reduceIte, Nat.reduceEqDiff] <;> rfl) (by (try simp only [RB]) <;> first | done | exact Iff.rfl | omega | simp) (fun hc => ?_) (fun hc => ?_) <;> (try simp only [RN, reduceIte]) <;> (try refine T_e rfl ?_)
          · have hrs : (r.set j (el r (j - 1))).length = p.length := by simp [hrl]
            (first | refine T_bfree rfl ?_ | refine T_bfree' rfl ?_); (try simp only [RN, reduceIte]); try refine T_e rfl ?_
            refine T_rseq fun Kr hKr => ?_; simp (disch := omega) only [RA, ↓reduceIte, Nat.reduceEqDiff, RD, g0, g7, hj1', hrl]; refine hKr _ _ ?_; clear hKr Kr; (try simp only [RN, reduceIte]); try refine T_e rfl ?_
            refine T_reg_k fun Kr hKr => ?_; simp (disch := omega) only [RA, ↓reduceIte, Nat.reduceEqDiff, RD, g7, hj1']; refine hKr _ _ ?_; clear hKr Kr
            have hsw : (r.set j (el r (j - 1))).set (j - 1) (el r j) = swp r j (j - 1) := rfl
            refine hN2 (j - 1) _ _ _ _ (by omega) Gh.refl ⟨j - 1, swp r j (j - 1), by omega, by omega, rfl, hr.trans (.swp (by omega) (by omega) (by omega) (by omega) (by omega)), fun x y h1 h2 h3 h4 => ?_, ?_, ?_, ?_, ?_, ?_, rfl⟩
            any_goals (simp (disch := omega) only [RA, ↓reduceIte, Nat.reduceEqDiff, RD, RE, *] <;> rfl)
            rw [swp_el (by omega) (by omega), swp_el (by omega) (by omega)]
            by_cases hyj : y = j
            · rw [if_neg (by omega : ¬ y = j - 1), if_pos hyj]
              by_cases hxj : x = j - 1
              · rw [if_pos hxj]; omega
              · rw [if_neg hxj, if_neg (by omega)]
                exact hall x (j - 1) h1 (by omega) (by omega) (by omega)
            · rw [if_neg h4, if_neg hyj]
              by_cases hxj : x = j - 1
              · rw [if_pos hxj]
                exact hall j y (by omega) (by omega) h3 hyj
              · rw [if_neg hxj]
                by_cases hxj2 : x = j
                · rw [if_pos hxj2]
                  exact hall (j - 1) y (by omega) (by omega) h3 hyj
                · rw [if_neg hxj2]
                  exact hall x y h1 h2 h3 hyj
          · refine hX2 _ _ ?_
            refine hdone _ ?_ ?_ ?_ ?_ (.inr (by omega))
            any_goals (simp (disch := omega) only [RA, ↓reduceIte, Nat.reduceEqDiff, RD, RE, *] <;> rfl)
    · refine hX _ _ ?_
      refine T_skip ?_
      refine bodyQ_ret (by simp (disch := omega) only [RA, ↓reduceIte, Nat.reduceEqDiff, RD, resAll, resOf]; rfl) GhV.refl ?_; simp only [tup]
      refine hK q hq fun x y h1 h2 h3 => ?_
      rcases hi2 with h | h
      · exact hs x y h1 h2 (by omega)
      · obtain rfl : x = y := by omega
        exact Int.le_refl _
end Go.Bm

/- Sorting: the partitions. Written by genpart.py. -/
set_option linter.unusedVariables false
set_option linter.unusedSimpArgs false
namespace Go.Bm
open Go Go.Am

section
variable {k : Nat} {Q : Ex → Fr → BH → Prop} {f : Fr} {H : BH}
/-- A loop, and what is known when it is left. -/
theorem T_scan {id : Nat} {a rest : ACode} (J : Nat → Fr → BH → Prop) (P : Fr → BH → Prop) (n : Nat) (h0 : ∃ f1 H1, Gh k f H f1 H1 ∧ J n f1 H1)
    (hr : ∀ n f H (R : Ex → Fr → BH → Prop), J n f H → (∀ m f' H' f1 H1, m < n → Gh k f' H' f1 H1 → J m f1 H1 → R .normal f' H') → (∀ f' H', P f' H' → R (.exit id) f' H') → (∀ f' H', Q .ret f' H' → R .ret f' H') → T k a R f H)
    (hp : ∀ f H, P f H → T k rest Q f H) : T k (.seq (.block id (.loop a)) rest) Q f H :=
  T_wloop J n h0 fun n f H R hJ hN hX hR hE => hr n f H R hJ hN (fun f' H' h => hX f' H' (hp f' H' h)) hR
end
/-- A partition under way: behind a up to i what is less than v, from j on what is not. -/
structure PI (p q : List Int) (v : Int) (a b i j : Nat) : Prop where
  sg : Sg a b p q
  lo : a + 1 ≤ i
  ij : i ≤ j + 1
  jb : j < b
  ge : a ≤ j
  va : el q a = v
  lt : ∀ x, a < x → x < i → el q x < v
  gt : ∀ x, j < x → x < b → v ≤ el q x
section
variable {p q : List Int} {v : Int} {a b i j : Nat}
theorem PI.up (h : PI p q v a b i j) (hij : i ≤ j) (hx : el q i < v) : PI p q v a b (i + 1) j := ⟨h.sg, by have := h.lo; omega, by omega, h.jb, h.ge, h.va, fun x h1 h2 => by
  rcases Nat.lt_or_ge x i with h3 | h3
  · exact h.lt x h1 h3
  · obtain rfl : x = i := by omega
    exact hx, h.gt⟩
theorem PI.dn (h : PI p q v a b i j) (hij : i ≤ j) (hx : ¬ el q j < v) : PI p q v a b i (j - 1) := ⟨h.sg, h.lo, by have := h.lo; omega, by have := h.jb; omega, by have := h.lo; omega, h.va, h.lt, fun x h1 h2 => by
  rcases Nat.lt_or_ge j x with h3 | h3
  · exact h.gt x h3 h2
  · obtain rfl : x = j := by have := h.lo; omega
    omega⟩
theorem PI.keep (h : PI p q v a b i j) (hs : j < i ∨ ¬ (el q i < v)) (hij : i ≤ j) : j - 1 < i ∨ ¬ (el q i < v) := by
  rcases hs with hs | hs
  · omega
  · exact .inr hs
theorem PI.ex (h : PI p q v a b i j) (hb : b ≤ p.length) (h1 : i < j) (h2 : ¬ el q i < v) (h3 : el q j < v) : PI p (swp q i j) v a b (i + 1) (j - 1) := by
  have hl := h.sg.len
  have lo := h.lo
  have jb := h.jb
  refine ⟨h.sg.trans (.swp (by omega) (by omega) (by omega) (by omega) (by omega)), by omega, by omega, by omega, by omega, ?_, fun x x1 x2 => ?_, fun x x1 x2 => ?_⟩
  · rw [swp_el (by omega) (by omega), if_neg (by omega), if_neg (by omega)]; exact h.va
  · rw [swp_el (by omega) (by omega), if_neg (by omega)]
    split
    · exact h3
    · exact h.lt x x1 (by omega)
  · rw [swp_el (by omega) (by omega)]
    split
    · omega
    · rw [if_neg (by omega)]
      exact h.gt x (by omega) x2
/-- Done: the pivot comes to its place. -/
theorem PI.fin (h : PI p q v a b i j) (hb : b ≤ p.length) (h1 : j < i) : Sg a b p (swp q j a) ∧ (∀ x, a ≤ x → x < j → el (swp q j a) x ≤ el (swp q j a) j) ∧ (∀ x, j < x → x < b → el (swp q j a) j ≤ el (swp q j a) x) := by
  have hl := h.sg.len
  have lo := h.lo
  have jb := h.jb
  have ge := h.ge
  have ij := h.ij
  have ej : el (swp q j a) j = v := by
    rw [swp_el (by omega) (by omega)]
    split
    · rename_i e; rw [e]; exact h.va
    · rw [if_pos rfl]; exact h.va
  refine ⟨h.sg.trans (.swp (by omega) (by omega) (by omega) (by omega) (by omega)), fun x x1 x2 => ?_, fun x x1 x2 => ?_⟩
  · rw [ej, swp_el (by omega) (by omega)]
    split
    · exact Int.le_of_lt (h.lt j (by omega) (by omega))
    · rw [if_neg (by omega)]
      exact Int.le_of_lt (h.lt x (by omega) (by omega))
  · rw [ej, swp_el (by omega) (by omega), if_neg (by omega), if_neg (by omega)]
    exact h.gt x x1 x2
end
/-- The same for what equals the pivot. -/
structure PIE (p q : List Int) (v : Int) (a b i j : Nat) : Prop where
  sg : Sg a b p q
  lo : a + 1 ≤ i
  ij : i ≤ j + 1
  jb : j < b
  ge : a ≤ j
  va : el q a = v
  lt : ∀ x, a < x → x < i → el q x ≤ v
  gt : ∀ x, j < x → x < b → v < el q x
section
variable {p q : List Int} {v : Int} {a b i j : Nat}
theorem PIE.upE (h : PIE p q v a b i j) (hij : i ≤ j) (hx : ¬ v < el q i) : PIE p q v a b (i + 1) j := ⟨h.sg, by have := h.lo; omega, by omega, h.jb, h.ge, h.va, fun x h1 h2 => by
  rcases Nat.lt_or_ge x i with h3 | h3
  · exact h.lt x h1 h3
  · obtain rfl : x = i := by omega
    omega, h.gt⟩
theorem PIE.dnE (h : PIE p q v a b i j) (hij : i ≤ j) (hx : v < el q j) : PIE p q v a b i (j - 1) := ⟨h.sg, h.lo, by have := h.lo; omega, by have := h.jb; omega, by have := h.lo; omega, h.va, h.lt, fun x h1 h2 => by
  rcases Nat.lt_or_ge j x with h3 | h3
  · exact h.gt x h3 h2
  · obtain rfl : x = j := by have := h.lo; omega
    exact hx⟩
theorem PIE.keepE (h : PIE p q v a b i j) (hs : j < i ∨ ¬ (¬ v < el q i)) (hij : i ≤ j) : j - 1 < i ∨ ¬ (¬ v < el q i) := by
  rcases hs with hs | hs
  · omega
  · exact .inr hs
theorem PIE.exE (h : PIE p q v a b i j) (hb : b ≤ p.length) (h1 : i < j) (h2 : v < el q i) (h3 : ¬ v < el q j) : PIE p (swp q i j) v a b (i + 1) (j - 1) := by
  have hl := h.sg.len
  have lo := h.lo
  have jb := h.jb
  refine ⟨h.sg.trans (.swp (by omega) (by omega) (by omega) (by omega) (by omega)), by omega, by omega, by omega, by omega, ?_, fun x x1 x2 => ?_, fun x x1 x2 => ?_⟩
  · rw [swp_el (by omega) (by omega), if_neg (by omega), if_neg (by omega)]; exact h.va
  · rw [swp_el (by omega) (by omega), if_neg (by omega)]
    split
    · omega
    · exact h.lt x x1 (by omega)
  · rw [swp_el (by omega) (by omega)]
    split
    · exact h2
    · rw [if_neg (by omega)]
      exact h.gt x (by omega) x2
end
theorem PI.start {p : List Int} {a b t : Nat} (hb : b ≤ p.length) (h1 : a ≤ t) (h2 : t < b) : PI p (swp p a t) (el p t) a b (a + 1) (b - 1) := ⟨.swp (by omega) (by omega) (by omega) (by omega) hb, by omega, by omega, by omega, by omega, by
  rw [swp_el (by omega) (by omega)]
  split
  · rename_i e; rw [e]
  · rw [if_pos rfl], fun x x1 x2 => by omega, fun x x1 x2 => by omega⟩
theorem PIE.start {p : List Int} {a b t : Nat} (hb : b ≤ p.length) (h1 : a ≤ t) (h2 : t < b) : PIE p (swp p a t) (el p t) a b (a + 1) (b - 1) := ⟨.swp (by omega) (by omega) (by omega) (by omega) hb, by omega, by omega, by omega, by omega, by
  rw [swp_el (by omega) (by omega)]
  split
  · rename_i e; rw [e]
  · rw [if_pos rfl], fun x x1 x2 => by omega, fun x x1 x2 => by omega⟩

theorem partition_spec {p : List Int} {a b t : Nat} {K : Value → BH → Prop} (hpl : p.length ≤ 1000) (hb : b ≤ p.length) (h1 : a ≤ t) (h2 : t < b)
    (hK : ∀ q mid al, Sg a b p q → a ≤ mid → mid < b → (∀ x, a ≤ x → x < mid → el q x ≤ el q mid) → (∀ x, mid < x → x < b → el q mid ≤ el q x) → K (.tuple ⟨[I (mid : Nat), .bool al]⟩) [some (q.map I)]) :
    CallX false F_slices_partitionOrdered_int64 [S 0 0 p.length 1, I a, I b, I t] [some (p.map I)] K := by
  have hp0 := PI.start hb h1 h2
  have hps : (p.set a (el p t)).length = p.length := by simp
  have hb1 : (b : Int) - 1 = ((b - 1 : Nat) : Int) := by omega
  have ha1 : (a : Int) + 1 = ((a + 1 : Nat) : Int) := by omega
  refine CallX_body Γ_slices_partitionOrdered_int64 ?_; simp only [A_slices_partitionOrdered_int64, T_aiff]
  refine T_rseq fun Kr hKr => ?_; simp (disch := omega) only [RA, ↓reduceIte, Nat.reduceEqDiff, RD]; refine hKr _ _ ?_; clear hKr Kr; (try simp only [RN, reduceIte]); try refine T_e rfl ?_
  refine T_rseq fun Kr hKr => ?_; simp (disch := omega) only [RA, ↓reduceIte, Nat.reduceEqDiff, RD, hps]; refine hKr _ _ ?_; clear hKr Kr; (try simp only [RN, reduceIte]); try refine T_e rfl ?_
  refine T_rseq fun Kr hKr => ?_; simp (disch := omega) only [RA, ↓reduceIte, Nat.reduceEqDiff, RD, hb1, ha1]; refine hKr _ _ ?_; clear hKr Kr; (try simp only [RN, reduceIte]); try refine T_e rfl ?_
  have hsw : (p.set a (el p t)).set t (el p a) = swp p a t := rfl
  rw [hsw]
  generalize el p t = v at hp0
  generalize swp p a t = q at hp0
  clear hsw hps
  obtain ⟨i0, hi0⟩ : ∃ i0, i0 = a + 1 := ⟨_, rfl⟩
  obtain ⟨j, hj⟩ : ∃ j, j = b - 1 := ⟨_, rfl⟩
  rw [← hi0, ← hj] at hp0
  rw [← hi0] at ha1
  rw [← hj] at hb1
  simp only [← hi0, ← hj]
  clear hi0 hj
  refine T_scan (fun m f H' => ∃ i, i0 ≤ i ∧ PI p q v a b i j ∧ m = j + 1 - i ∧ f 0 = S 0 0 p.length 1 ∧ f 1 = I a ∧ f 10 = I i ∧ f 11 = I j ∧ H' = [some (q.map I)]) (fun f H' => ∃ i, i0 ≤ i ∧ PI p q v a b i j ∧ (j < i ∨ ¬ (el q i < v)) ∧ f 0 = S 0 0 p.length 1 ∧ f 1 = I a ∧ f 10 = I i ∧ f 11 = I j ∧ H' = [some (q.map I)]) (j + 1 - i0) ?_ ?_ ?_
  · refine ⟨_, _, Gh.refl, i0, Nat.le_refl _, hp0, rfl, ?_, ?_, ?_, ?_, rfl⟩
    any_goals (simp (disch := omega) only [RA, ↓reduceIte, Nat.reduceEqDiff, RD, RE, *] <;> rfl)
  · clear hp0 ha1 hb1
    rintro m f H' R2 ⟨i, hi0, hp, rfl, g0, g1, g10, g11, rfl⟩ hN2 hX2 hR2
    simp only [A_slices_partitionOrdered_int64.l0, T_aiff]
    have hql := hp.sg.len
    have hge := hp.ge
    have hjb := hp.jb
    have hva := hp.va
    have hlo := hp.lo
    by_cases hij : i ≤ j
    · refine T_rseq fun Kr hKr => ?_; simp (disch := omega) only [RA, ↓reduceIte, Nat.reduceEqDiff, RD, g0, g1, g10, g11, hij, hql, hva]
      refine Less_spec ?_
      simp (disch := omega) only [RA, ↓reduceIte, Nat.reduceEqDiff, RD]
      refine hKr _ _ ?_; clear hKr Kr; (try simp only [blkQ, thenQ, loopQ]); (try simp only [RN, reduceIte]); try refine T_e rfl ?_
      refine T_csplit (p := el q i < v) (by simp only [RA, ↓reduceIte, Nat.reduceEqDiff] <;> rfl) (by (try simp only [RB]) <;> first | done | exact Iff.rfl | omega | simp) (fun hc => ?_) (fun hc => ?_) <;> (try simp only [RN, reduceIte]) <;> (try refine T_e rfl ?_)
      · (first | refine T_bfree rfl ?_ | refine T_bfree' rfl ?_); (try simp only [RN, reduceIte]); try refine T_e rfl ?_
        refine T_reg_k fun Kr hKr => ?_; simp (disch := omega) only [RA, ↓reduceIte, Nat.reduceEqDiff, RD, g10]; refine hKr _ _ ?_; clear hKr Kr
        refine hN2 (j + 1 - (i + 1)) _ _ _ _ (by omega) Gh.refl ⟨i + 1, by omega, hp.up hij hc, rfl, ?_, ?_, ?_, ?_, rfl⟩
        any_goals (simp (disch := omega) only [RA, ↓reduceIte, Nat.reduceEqDiff, RD, RE, *] <;> rfl)
      · refine hX2 _ _ ⟨i, hi0, hp, .inr (by first | exact hc | exact fun h => h hc | exact fun h => hc h), ?_, ?_, ?_, ?_, rfl⟩
        any_goals (simp (disch := omega) only [RA, ↓reduceIte, Nat.reduceEqDiff, RD, RE, *] <;> rfl)
    · refine T_rseq fun Kr hKr => ?_; simp (disch := omega) only [RA, ↓reduceIte, Nat.reduceEqDiff, RD, g10, g11, hij]; refine hKr _ _ ?_; clear hKr Kr; (try simp only [RN, reduceIte]); try refine T_e rfl ?_
      refine T_cseq (t := false) (by simp (disch := omega) only [RA, ↓reduceIte, Nat.reduceEqDiff, RD]) ?_; (try simp only [RN, reduceIte]); try refine T_e rfl ?_
      refine hX2 _ _ ⟨i, hi0, hp, .inl (by omega), ?_, ?_, ?_, ?_, rfl⟩
      any_goals (simp (disch := omega) only [RA, ↓reduceIte, Nat.reduceEqDiff, RD, RE, *] <;> rfl)
  · clear hp0 ha1 hb1
    rintro f H' ⟨i, hi0, hp0, hs, g0, g1, g10, g11, rfl⟩
    clear hi0
    obtain ⟨j0, hj0⟩ : ∃ j0, j0 = j := ⟨_, rfl⟩
    rw [← hj0] at hp0 g11 hs
    clear hj0 j
    refine T_scan (fun m f H' => ∃ j, j ≤ j0 ∧ PI p q v a b i j ∧ j = m ∧ (j < i ∨ ¬ (el q i < v)) ∧ f 0 = S 0 0 p.length 1 ∧ f 1 = I a ∧ f 10 = I i ∧ f 11 = I j ∧ H' = [some (q.map I)]) (fun f H' => ∃ j, j ≤ j0 ∧ PI p q v a b i j ∧ (j < i ∨ ¬ (el q i < v)) ∧ (j < i ∨ ¬ (¬ el q j < v)) ∧ f 0 = S 0 0 p.length 1 ∧ f 1 = I a ∧ f 10 = I i ∧ f 11 = I j ∧ H' = [some (q.map I)]) (j0) ?_ ?_ ?_
    · refine ⟨_, _, Gh.refl, j0, Nat.le_refl _, hp0, rfl, hs, ?_, ?_, ?_, ?_, rfl⟩
      any_goals (simp (disch := omega) only [RA, ↓reduceIte, Nat.reduceEqDiff, RD, RE, *] <;> rfl)
    · clear hp0 g0 g1 g10 g11 hs
      rintro m f H' R2 ⟨j, hj0, hp, rfl, hs, g0, g1, g10, g11, rfl⟩ hN2 hX2 hR2
      simp only [A_slices_partitionOrdered_int64.l1, T_aiff]
      have hql := hp.sg.len
      have hge := hp.ge
      have hjb := hp.jb
      have hva := hp.va
      have hlo := hp.lo
      by_cases hij : i ≤ j
      · refine T_rseq fun Kr hKr => ?_; simp (disch := omega) only [RA, ↓reduceIte, Nat.reduceEqDiff, RD, g0, g1, g10, g11, hij, hql, hva]
        refine Less_spec ?_
        simp (disch := omega) only [RA, ↓reduceIte, Nat.reduceEqDiff, RD]
        refine hKr _ _ ?_; clear hKr Kr; (try simp only [blkQ, thenQ, loopQ]); (try simp only [RN, reduceIte]); try refine T_e rfl ?_
        refine T_csplit (p := ¬ el q j < v) (by simp only [RA, ↓reduceIte, Nat.reduceEqDiff] <;> rfl) (by (try simp only [RB]) <;> first | done | exact Iff.rfl | omega | simp) (fun hc => ?_) (fun hc => ?_) <;> (try simp only [RN, reduceIte]) <;> (try refine T_e rfl ?_)
        · (first | refine T_bfree rfl ?_ | refine T_bfree' rfl ?_); (try simp only [RN, reduceIte]); try refine T_e rfl ?_
          have hj1 : (j : Int) - 1 = ((j - 1 : Nat) : Int) := by omega
          refine T_reg_k fun Kr hKr => ?_; simp (disch := omega) only [RA, ↓reduceIte, Nat.reduceEqDiff, RD, g11, hj1]; refine hKr _ _ ?_; clear hKr Kr
          refine hN2 (j - 1) _ _ _ _ (by omega) Gh.refl ⟨j - 1, by omega, hp.dn hij hc, rfl, hp.keep hs hij, ?_, ?_, ?_, ?_, rfl⟩
          any_goals (simp (disch := omega) only [RA, ↓reduceIte, Nat.reduceEqDiff, RD, RE, *] <;> rfl)
        · refine hX2 _ _ ⟨j, hj0, hp, hs, .inr (by first | exact hc | exact fun h => h hc | exact fun h => hc h), ?_, ?_, ?_, ?_, rfl⟩
          any_goals (simp (disch := omega) only [RA, ↓reduceIte, Nat.reduceEqDiff, RD, RE, *] <;> rfl)
      · refine T_rseq fun Kr hKr => ?_; simp (disch := omega) only [RA, ↓reduceIte, Nat.reduceEqDiff, RD, g10, g11, hij]; refine hKr _ _ ?_; clear hKr Kr; (try simp only [RN, reduceIte]); try refine T_e rfl ?_
        refine T_cseq (t := false) (by simp (disch := omega) only [RA, ↓reduceIte, Nat.reduceEqDiff, RD]) ?_; (try simp only [RN, reduceIte]); try refine T_e rfl ?_
        refine hX2 _ _ ⟨j, hj0, hp, hs, .inl (by omega), ?_, ?_, ?_, ?_, rfl⟩
        any_goals (simp (disch := omega) only [RA, ↓reduceIte, Nat.reduceEqDiff, RD, RE, *] <;> rfl)
    · clear hp0 g0 g1 g10 g11 hs
      rintro f H' ⟨j, hj0, hp, hs, hs2, g0, g1, g10, g11, rfl⟩
      have hql := hp.sg.len
      have hge := hp.ge
      have hjb := hp.jb
      have hva := hp.va
      have hlo := hp.lo
      (try simp only [RN, reduceIte]); try refine T_e rfl ?_
      refine T_rseq fun Kr hKr => ?_; simp (disch := omega) only [RA, ↓reduceIte, Nat.reduceEqDiff, RD, g10, g11]; refine hKr _ _ ?_; clear hKr Kr; (try simp only [RN, reduceIte]); try refine T_e rfl ?_
      refine T_csplit (p := j < i) (by simp only [RA, ↓reduceIte, Nat.reduceEqDiff] <;> rfl) (by (try simp only [RB]) <;> first | done | exact Iff.rfl | omega | simp) (fun hc => ?_) (fun hc => ?_) <;> (try simp only [RN, reduceIte]) <;> (try refine T_e rfl ?_)
      · have hqs : (q.set j (el q a)).length = p.length := by simp [hql]
        refine T_rseq fun Kr hKr => ?_; simp (disch := omega) only [RA, ↓reduceIte, Nat.reduceEqDiff, RD, g0, g1, g11, hql, hqs]; refine hKr _ _ ?_; clear hKr Kr; (try simp only [RN, reduceIte]); try refine T_e rfl ?_
        refine T_rseq fun Kr hKr => ?_; simp (disch := omega) only [RA, ↓reduceIte, Nat.reduceEqDiff, RD, g11]; refine hKr _ _ ?_; clear hKr Kr; (try simp only [RN, reduceIte]); try refine T_e rfl ?_
        refine bodyQ_ret (by simp (disch := omega) only [RA, ↓reduceIte, Nat.reduceEqDiff, RD, resAll, resOf]; rfl) GhV.refl ?_; simp only [tup]
        obtain ⟨r1, r2, r3⟩ := hp.fin hb hc
        exact hK (swp q j a) j true r1 (by omega) (by omega) r2 r3
      · have hq1 : ¬ el q i < v := by rcases hs with h | h; omega; exact h
        have hq2 : el q j < v := by rcases hs2 with h | h; omega; omega
        have hij : i < j := by
          rcases Nat.lt_or_ge i j with h | h
          · exact h
          · have : i = j := by omega
            subst this
            exact absurd hq2 hq1
        have hqs : (q.set i (el q j)).length = p.length := by simp [hql]
        have hj1 : (j : Int) - 1 = ((j - 1 : Nat) : Int) := by omega
        have hi1 : (i : Int) + 1 = ((i + 1 : Nat) : Int) := by omega
        have hp' := hp.ex hb hij hq1 hq2
        have hsw2 : (q.set i (el q j)).set j (el q i) = swp q i j := rfl
        refine T_rseq fun Kr hKr => ?_; simp (disch := omega) only [RA, ↓reduceIte, Nat.reduceEqDiff, RD, g0, g10, g11, hql, hqs]; refine hKr _ _ ?_; clear hKr Kr; (try simp only [RN, reduceIte]); try refine T_e rfl ?_
        refine T_rseq fun Kr hKr => ?_; simp (disch := omega) only [RA, ↓reduceIte, Nat.reduceEqDiff, RD, g10, hi1]; refine hKr _ _ ?_; clear hKr Kr; (try simp only [RN, reduceIte]); try refine T_e rfl ?_
        refine T_rseq fun Kr hKr => ?_; simp (disch := omega) only [RA, ↓reduceIte, Nat.reduceEqDiff, RD, g11, hj1]; refine hKr _ _ ?_; clear hKr Kr; (try simp only [RN, reduceIte]); try refine T_e rfl ?_
        rw [hsw2]
        refine T_wloop (fun m f H' => ∃ (q : List Int) (i j : Nat), PI p q v a b i j ∧ m = j + 1 - i ∧ f 0 = S 0 0 p.length 1 ∧ f 1 = I a ∧ f 10 = I i ∧ f 11 = I j ∧ H' = [some (q.map I)]) (j - 1 + 1 - (i + 1)) ?_ ?_
        · refine ⟨_, _, Gh.refl, swp q i j, i + 1, j - 1, hp', rfl, ?_, ?_, ?_, ?_, rfl⟩
          any_goals (simp (disch := omega) only [RA, ↓reduceIte, Nat.reduceEqDiff, RD, RE, *] <;> rfl)
        · clear hql hge hjb hva hlo hc hq1 hq2 hij hqs hj1 hi1 hp' hsw2 hp hs hs2 g0 g1 g10 g11 hj0
          rintro m f H' R ⟨q, i0, j, hp0, rfl, g0, g1, g10, g11, rfl⟩ hN hX hR hE
          simp only [A_slices_partitionOrdered_int64.l4, T_aiff]
          (first | refine T_bfree rfl ?_ | refine T_bfree' rfl ?_); (try simp only [RN, reduceIte]); try refine T_e rfl ?_
          refine T_scan (fun m f H' => ∃ i, i0 ≤ i ∧ PI p q v a b i j ∧ m = j + 1 - i ∧ f 0 = S 0 0 p.length 1 ∧ f 1 = I a ∧ f 10 = I i ∧ f 11 = I j ∧ H' = [some (q.map I)]) (fun f H' => ∃ i, i0 ≤ i ∧ PI p q v a b i j ∧ (j < i ∨ ¬ (el q i < v)) ∧ f 0 = S 0 0 p.length 1 ∧ f 1 = I a ∧ f 10 = I i ∧ f 11 = I j ∧ H' = [some (q.map I)]) (j + 1 - i0) ?_ ?_ ?_
          · refine ⟨_, _, Gh.refl, i0, Nat.le_refl _, hp0, rfl, ?_, ?_, ?_, ?_, rfl⟩
            any_goals (simp (disch := omega) only [RA, ↓reduceIte, Nat.reduceEqDiff, RD, RE, *] <;> rfl)
          · clear g0 g1 g10 g11
            rintro m f H' R2 ⟨i, hi0, hp, rfl, g0, g1, g10, g11, rfl⟩ hN2 hX2 hR2
            simp only [A_slices_partitionOrdered_int64.l2, T_aiff]
            have hql := hp.sg.len
            have hge := hp.ge
            have hjb := hp.jb
            have hva := hp.va
            have hlo := hp.lo
            by_cases hij : i ≤ j
            · refine T_rseq fun Kr hKr => ?_; simp (disch := omega) only [RA, ↓reduceIte, Nat.reduceEqDiff, RD, g0, g1, g10, g11, hij, hql, hva]
              refine Less_spec ?_
              simp (disch := omega) only [RA, ↓reduceIte, Nat.reduceEqDiff, RD]
              refine hKr _ _ ?_; clear hKr Kr; (try simp only [blkQ, thenQ, loopQ]); (try simp only [RN, reduceIte]); try refine T_e rfl ?_
              refine T_csplit (p := el q i < v) (by simp only [RA, ↓reduceIte, Nat.reduceEqDiff] <;> rfl) (by (try simp only [RB]) <;> first | done | exact Iff.rfl | omega | simp) (fun hc => ?_) (fun hc => ?_) <;> (try simp only [RN, reduceIte]) <;> (try refine T_e rfl ?_)
              · (first | refine T_bfree rfl ?_ | refine T_bfree' rfl ?_); (try simp only [RN, reduceIte]); try refine T_e rfl ?_
                refine T_reg_k fun Kr hKr => ?_; simp (disch := omega) only [RA, ↓reduceIte, Nat.reduceEqDiff, RD, g10]; refine hKr _ _ ?_; clear hKr Kr
                refine hN2 (j + 1 - (i + 1)) _ _ _ _ (by omega) Gh.refl ⟨i + 1, by omega, hp.up hij hc, rfl, ?_, ?_, ?_, ?_, rfl⟩
                any_goals (simp (disch := omega) only [RA, ↓reduceIte, Nat.reduceEqDiff, RD, RE, *] <;> rfl)
              · refine hX2 _ _ ⟨i, hi0, hp, .inr (by first | exact hc | exact fun h => h hc | exact fun h => hc h), ?_, ?_, ?_, ?_, rfl⟩
                any_goals (simp (disch := omega) only [RA, ↓reduceIte, Nat.reduceEqDiff, RD, RE, *] <;> rfl)
            · refine T_rseq fun Kr hKr => ?_; simp (disch := omega) only [RA, ↓reduceIte, Nat.reduceEqDiff, RD, g10, g11, hij]; refine hKr _ _ ?_; clear hKr Kr; (try simp only [RN, reduceIte]); try refine T_e rfl ?_
              refine T_cseq (t := false) (by simp (disch := omega) only [RA, ↓reduceIte, Nat.reduceEqDiff, RD]) ?_; (try simp only [RN, reduceIte]); try refine T_e rfl ?_
              refine hX2 _ _ ⟨i, hi0, hp, .inl (by omega), ?_, ?_, ?_, ?_, rfl⟩
              any_goals (simp (disch := omega) only [RA, ↓reduceIte, Nat.reduceEqDiff, RD, RE, *] <;> rfl)
          · clear g0 g1 g10 g11
            rintro f H' ⟨i, hi0, hp1, hs, g0, g1, g10, g11, rfl⟩
            obtain ⟨j0, hj0e⟩ : ∃ j0, j0 = j := ⟨_, rfl⟩
            rw [← hj0e] at hp1 g11 hs
            rw [← hj0e] at hN
            clear hp0 hj0e j
            refine T_scan (fun m f H' => ∃ j, j ≤ j0 ∧ PI p q v a b i j ∧ j = m ∧ (j < i ∨ ¬ (el q i < v)) ∧ f 0 = S 0 0 p.length 1 ∧ f 1 = I a ∧ f 10 = I i ∧ f 11 = I j ∧ H' = [some (q.map I)]) (fun f H' => ∃ j, j ≤ j0 ∧ PI p q v a b i j ∧ (j < i ∨ ¬ (el q i < v)) ∧ (j < i ∨ ¬ (¬ el q j < v)) ∧ f 0 = S 0 0 p.length 1 ∧ f 1 = I a ∧ f 10 = I i ∧ f 11 = I j ∧ H' = [some (q.map I)]) (j0) ?_ ?_ ?_
            · refine ⟨_, _, Gh.refl, j0, Nat.le_refl _, hp1, rfl, hs, ?_, ?_, ?_, ?_, rfl⟩
              any_goals (simp (disch := omega) only [RA, ↓reduceIte, Nat.reduceEqDiff, RD, RE, *] <;> rfl)
            · clear g0 g1 g10 g11 hs
              rintro m f H' R2 ⟨j, hj0, hp, rfl, hs, g0, g1, g10, g11, rfl⟩ hN2 hX2 hR2
              simp only [A_slices_partitionOrdered_int64.l3, T_aiff]
              have hql := hp.sg.len
              have hge := hp.ge
              have hjb := hp.jb
              have hva := hp.va
              have hlo := hp.lo
              by_cases hij : i ≤ j
              · refine T_rseq fun Kr hKr => ?_; simp (disch := omega) only [RA, ↓reduceIte, Nat.reduceEqDiff, RD, g0, g1, g10, g11, hij, hql, hva]
                refine Less_spec ?_
                simp (disch := omega) only [RA, ↓reduceIte, Nat.reduceEqDiff, RD]
                refine hKr _ _ ?_; clear hKr Kr; (try simp only [blkQ, thenQ, loopQ]); (try simp only [RN, reduceIte]); try refine T_e rfl ?_
                refine T_csplit (p := ¬ el q j < v) (by simp only [RA, ↓reduceIte, Nat.reduceEqDiff] <;> rfl) (by (try simp only [RB]) <;> first | done | exact Iff.rfl | omega | simp) (fun hc => ?_) (fun hc => ?_) <;> (try simp only [RN, reduceIte]) <;> (try refine T_e rfl ?_)
                · (first | refine T_bfree rfl ?_ | refine T_bfree' rfl ?_); (try simp only [RN, reduceIte]); try refine T_e rfl ?_
                  have hj1 : (j : Int) - 1 = ((j - 1 : Nat) : Int) := by omega
                  refine T_reg_k fun Kr hKr => ?_; simp (disch := omega) only [RA, ↓reduceIte, Nat.reduceEqDiff, RD, g11, hj1]; refine hKr _ _ ?_; clear hKr Kr
                  refine hN2 (j - 1) _ _ _ _ (by omega) Gh.refl ⟨j - 1, by omega, hp.dn hij hc, rfl, hp.keep hs hij, ?_, ?_, ?_, ?_, rfl⟩
                  any_goals (simp (disch := omega) only [RA, ↓reduceIte, Nat.reduceEqDiff, RD, RE, *] <;> rfl)
                · refine hX2 _ _ ⟨j, hj0, hp, hs, .inr (by first | exact hc | exact fun h => h hc | exact fun h => hc h), ?_, ?_, ?_, ?_, rfl⟩
                  any_goals (simp (disch := omega) only [RA, ↓reduceIte, Nat.reduceEqDiff, RD, RE, *] <;> rfl)
              · refine T_rseq fun Kr hKr => ?_; simp (disch := omega) only [RA, ↓reduceIte, Nat.reduceEqDiff, RD, g10, g11, hij]; refine hKr _ _ ?_; clear hKr Kr; (try simp only [RN, reduceIte]); try refine T_e rfl ?_
                refine T_cseq (t := false) (by simp (disch := omega) only [RA, ↓reduceIte, Nat.reduceEqDiff, RD]) ?_; (try simp only [RN, reduceIte]); try refine T_e rfl ?_
                refine hX2 _ _ ⟨j, hj0, hp, hs, .inl (by omega), ?_, ?_, ?_, ?_, rfl⟩
                any_goals (simp (disch := omega) only [RA, ↓reduceIte, Nat.reduceEqDiff, RD, RE, *] <;> rfl)
            · clear g0 g1 g10 g11 hs
              rintro f H' ⟨j, hj0, hp, hs, hs2, g0, g1, g10, g11, rfl⟩
              have hql := hp.sg.len
              have hge := hp.ge
              have hjb := hp.jb
              have hva := hp.va
              have hlo := hp.lo
              (try simp only [RN, reduceIte]); try refine T_e rfl ?_
              refine T_rseq fun Kr hKr => ?_; simp (disch := omega) only [RA, ↓reduceIte, Nat.reduceEqDiff, RD, g10, g11]; refine hKr _ _ ?_; clear hKr Kr; (try simp only [RN, reduceIte]); try refine T_e rfl ?_
              refine T_csplit (p := j < i) (by simp only [RA, ↓reduceIte, Nat.reduceEqDiff] <;> rfl) (by (try simp only [RB]) <;> first | done | exact Iff.rfl | omega | simp) (fun hc => ?_) (fun hc => ?_) <;> (try simp only [RN, reduceIte]) <;> (try refine T_e rfl ?_)
              · refine hX _ _ ?_
                have hqs : (q.set j (el q a)).length = p.length := by simp [hql]
                refine T_rseq fun Kr hKr => ?_; simp (disch := omega) only [RA, ↓reduceIte, Nat.reduceEqDiff, RD, g0, g1, g11, hql, hqs]; refine hKr _ _ ?_; clear hKr Kr; (try simp only [RN, reduceIte]); try refine T_e rfl ?_
                refine T_rseq fun Kr hKr => ?_; simp (disch := omega) only [RA, ↓reduceIte, Nat.reduceEqDiff, RD, g11]; refine hKr _ _ ?_; clear hKr Kr; (try simp only [RN, reduceIte]); try refine T_e rfl ?_
                refine bodyQ_ret (by simp (disch := omega) only [RA, ↓reduceIte, Nat.reduceEqDiff, RD, resAll, resOf]; rfl) GhV.refl ?_; simp only [tup]
                obtain ⟨r1, r2, r3⟩ := hp.fin hb hc
                exact hK (swp q j a) j false r1 (by omega) (by omega) r2 r3
              · have hq1 : ¬ el q i < v := by rcases hs with h | h; omega; exact h
                have hq2 : el q j < v := by rcases hs2 with h | h; omega; omega
                have hij : i < j := by
                  rcases Nat.lt_or_ge i j with h | h
                  · exact h
                  · have : i = j := by omega
                    subst this
                    exact absurd hq2 hq1
                have hqs : (q.set i (el q j)).length = p.length := by simp [hql]
                have hj1 : (j : Int) - 1 = ((j - 1 : Nat) : Int) := by omega
                have hi1 : (i : Int) + 1 = ((i + 1 : Nat) : Int) := by omega
                have hp' := hp.ex hb hij hq1 hq2
                have hsw2 : (q.set i (el q j)).set j (el q i) = swp q i j := rfl
                refine T_rseq fun Kr hKr => ?_; simp (disch := omega) only [RA, ↓reduceIte, Nat.reduceEqDiff, RD, g0, g10, g11, hql, hqs]; refine hKr _ _ ?_; clear hKr Kr; (try simp only [RN, reduceIte]); try refine T_e rfl ?_
                rw [hsw2]
                refine T_rseq fun Kr hKr => ?_; simp (disch := omega) only [RA, ↓reduceIte, Nat.reduceEqDiff, RD, g10, hi1]; refine hKr _ _ ?_; clear hKr Kr; (try simp only [RN, reduceIte]); try refine T_e rfl ?_
                refine T_reg_k fun Kr hKr => ?_; simp (disch := omega) only [RA, ↓reduceIte, Nat.reduceEqDiff, RD, g11, hj1]; refine hKr _ _ ?_; clear hKr Kr
                refine hN (j - 1 + 1 - (i + 1)) _ _ _ _ (by omega) Gh.refl ⟨swp q i j, i + 1, j - 1, hp', rfl, ?_, ?_, ?_, ?_, rfl⟩
                any_goals (simp (disch := omega) only [RA, ↓reduceIte, Nat.reduceEqDiff, RD, RE, *] <;> rfl)
end Go.Bm

/- Sorting: what equals the pivot. Written by genpart.py. -/
set_option linter.unusedVariables false
set_option linter.unusedSimpArgs false
namespace Go.Bm
open Go Go.Am

theorem partitionEqual_spec {p : List Int} {a b t : Nat} {K : Value → BH → Prop} (hpl : p.length ≤ 1000) (hb : b ≤ p.length) (h1 : a ≤ t) (h2 : t < b) (hge : ∀ x, a ≤ x → x < b → el p t ≤ el p x)
    (hK : ∀ q mid, Sg a b p q → a < mid → mid ≤ b → (∀ x, a ≤ x → x < mid → el q x = el p t) → (∀ x, a ≤ x → x < b → el p t ≤ el q x) → K (I (mid : Nat)) [some (q.map I)]) :
    CallX false F_slices_partitionEqualOrdered_int64 [S 0 0 p.length 1, I a, I b, I t] [some (p.map I)] K := by
  have hp0 := PIE.start hb h1 h2
  have hps : (p.set a (el p t)).length = p.length := by simp
  have hb1 : (b : Int) - 1 = ((b - 1 : Nat) : Int) := by omega
  have ha1 : (a : Int) + 1 = ((a + 1 : Nat) : Int) := by omega
  have hfin : ∀ q i j, PIE p q (el p t) a b i j → j < i → K (I (i : Nat)) [some (q.map I)] := by
    intro q i j hp hji
    have h3 := hp.lo
    have h4 := hp.ij
    have h5 := hp.jb
    have hall : ∀ x, a ≤ x → x < b → el p t ≤ el q x := fun x x1 x2 => by
      obtain ⟨y, y1, y2, y3⟩ := hp.sg.src x x1 x2
      rw [y3]
      exact hge y y1 y2
    refine hK q i hp.sg (by omega) (by omega) (fun x x1 x2 => ?_) hall
    rcases Nat.lt_or_ge a x with h | h
    · have := hp.lt x h x2
      have := hall x x1 (by omega)
      omega
    · obtain rfl : x = a := by omega
      exact hp.va
  refine CallX_body Γ_slices_partitionEqualOrdered_int64 ?_; simp only [A_slices_partitionEqualOrdered_int64, T_aiff]
  refine T_rseq fun Kr hKr => ?_; simp (disch := omega) only [RA, ↓reduceIte, Nat.reduceEqDiff, RD]; refine hKr _ _ ?_; clear hKr Kr; (try simp only [RN, reduceIte]); try refine T_e rfl ?_
  refine T_rseq fun Kr hKr => ?_; simp (disch := omega) only [RA, ↓reduceIte, Nat.reduceEqDiff, RD, hps]; refine hKr _ _ ?_; clear hKr Kr; (try simp only [RN, reduceIte]); try refine T_e rfl ?_
  refine T_rseq fun Kr hKr => ?_; simp (disch := omega) only [RA, ↓reduceIte, Nat.reduceEqDiff, RD, hb1, ha1]; refine hKr _ _ ?_; clear hKr Kr; (try simp only [RN, reduceIte]); try refine T_e rfl ?_
  have hsw : (p.set a (el p t)).set t (el p a) = swp p a t := rfl
  rw [hsw]
  clear hge hK
  generalize el p t = v at hp0 hfin
  generalize swp p a t = q at hp0
  clear hsw hps
  refine T_wloop (fun m f H' => ∃ (q : List Int) (i j : Nat), PIE p q v a b i j ∧ m = j + 1 - i ∧ f 0 = S 0 0 p.length 1 ∧ f 1 = I a ∧ f 9 = I i ∧ f 10 = I j ∧ H' = [some (q.map I)]) (b - 1 + 1 - (a + 1)) ?_ ?_
  · refine ⟨_, _, Gh.refl, q, a + 1, b - 1, hp0, rfl, ?_, ?_, ?_, ?_, rfl⟩
    any_goals (simp (disch := omega) only [RA, ↓reduceIte, Nat.reduceEqDiff, RD, RE, *] <;> rfl)
  · clear hp0 ha1 hb1 q
    rintro m f H' R ⟨q, i0, j, hp0, rfl, g0, g1, g9, g10, rfl⟩ hN hX hR hE
    simp only [A_slices_partitionEqualOrdered_int64.l2, T_aiff]
    (first | refine T_bfree rfl ?_ | refine T_bfree' rfl ?_); (try simp only [RN, reduceIte]); try refine T_e rfl ?_
    refine T_scan (fun m f H' => ∃ i, i0 ≤ i ∧ PIE p q v a b i j ∧ m = j + 1 - i ∧ f 0 = S 0 0 p.length 1 ∧ f 1 = I a ∧ f 9 = I i ∧ f 10 = I j ∧ H' = [some (q.map I)]) (fun f H' => ∃ i, i0 ≤ i ∧ PIE p q v a b i j ∧ (j < i ∨ ¬ (¬ v < el q i)) ∧ f 0 = S 0 0 p.length 1 ∧ f 1 = I a ∧ f 9 = I i ∧ f 10 = I j ∧ H' = [some (q.map I)]) (j + 1 - i0) ?_ ?_ ?_
    · refine ⟨_, _, Gh.refl, i0, Nat.le_refl _, hp0, rfl, ?_, ?_, ?_, ?_, rfl⟩
      any_goals (simp (disch := omega) only [RA, ↓reduceIte, Nat.reduceEqDiff, RD, RE, *] <;> rfl)
    · clear g0 g1 g9 g10
      rintro m f H' R2 ⟨i, hi0, hp, rfl, g0, g1, g9, g10, rfl⟩ hN2 hX2 hR2
      simp only [A_slices_partitionEqualOrdered_int64.l0, T_aiff]
      have hql := hp.sg.len
      have hge := hp.ge
      have hjb := hp.jb
      have hva := hp.va
      have hlo := hp.lo
      by_cases hij : i ≤ j
      · refine T_rseq fun Kr hKr => ?_; simp (disch := omega) only [RA, ↓reduceIte, Nat.reduceEqDiff, RD, g0, g1, g9, g10, hij, hql, hva]
        refine Less_spec ?_
        simp (disch := omega) only [RA, ↓reduceIte, Nat.reduceEqDiff, RD]
        refine hKr _ _ ?_; clear hKr Kr; (try simp only [blkQ, thenQ, loopQ]); (try simp only [RN, reduceIte]); try refine T_e rfl ?_
        refine T_csplit (p := ¬ v < el q i) (by simp only [RA, ↓reduceIte, Nat.reduceEqDiff] <;> rfl) (by (try simp only [RB]) <;> first | done | exact Iff.rfl | omega | simp) (fun hc => ?_) (fun hc => ?_) <;> (try simp only [RN, reduceIte]) <;> (try refine T_e rfl ?_)
        · (first | refine T_bfree rfl ?_ | refine T_bfree' rfl ?_); (try simp only [RN, reduceIte]); try refine T_e rfl ?_
          refine T_reg_k fun Kr hKr => ?_; simp (disch := omega) only [RA, ↓reduceIte, Nat.reduceEqDiff, RD, g9]; refine hKr _ _ ?_; clear hKr Kr
          refine hN2 (j + 1 - (i + 1)) _ _ _ _ (by omega) Gh.refl ⟨i + 1, by omega, hp.upE hij hc, rfl, ?_, ?_, ?_, ?_, rfl⟩
          any_goals (simp (disch := omega) only [RA, ↓reduceIte, Nat.reduceEqDiff, RD, RE, *] <;> rfl)
        · refine hX2 _ _ ⟨i, hi0, hp, .inr (by first | exact hc | exact fun h => h hc | exact fun h => hc h), ?_, ?_, ?_, ?_, rfl⟩
          any_goals (simp (disch := omega) only [RA, ↓reduceIte, Nat.reduceEqDiff, RD, RE, *] <;> rfl)
      · refine T_rseq fun Kr hKr => ?_; simp (disch := omega) only [RA, ↓reduceIte, Nat.reduceEqDiff, RD, g9, g10, hij]; refine hKr _ _ ?_; clear hKr Kr; (try simp only [RN, reduceIte]); try refine T_e rfl ?_
        refine T_cseq (t := false) (by simp (disch := omega) only [RA, ↓reduceIte, Nat.reduceEqDiff, RD]) ?_; (try simp only [RN, reduceIte]); try refine T_e rfl ?_
        refine hX2 _ _ ⟨i, hi0, hp, .inl (by omega), ?_, ?_, ?_, ?_, rfl⟩
        any_goals (simp (disch := omega) only [RA, ↓reduceIte, Nat.reduceEqDiff, RD, RE, *] <;> rfl)
    · clear g0 g1 g9 g10
      rintro f H' ⟨i, hi0, hp1, hs, g0, g1, g9, g10, rfl⟩
      obtain ⟨j0, hj0e⟩ : ∃ j0, j0 = j := ⟨_, rfl⟩
      rw [← hj0e] at hp1 g10 hs
      rw [← hj0e] at hN
      clear hp0 hj0e j
      refine T_scan (fun m f H' => ∃ j, j ≤ j0 ∧ PIE p q v a b i j ∧ j = m ∧ (j < i ∨ ¬ (¬ v < el q i)) ∧ f 0 = S 0 0 p.length 1 ∧ f 1 = I a ∧ f 9 = I i ∧ f 10 = I j ∧ H' = [some (q.map I)]) (fun f H' => ∃ j, j ≤ j0 ∧ PIE p q v a b i j ∧ (j < i ∨ ¬ (¬ v < el q i)) ∧ (j < i ∨ ¬ (v < el q j)) ∧ f 0 = S 0 0 p.length 1 ∧ f 1 = I a ∧ f 9 = I i ∧ f 10 = I j ∧ H' = [some (q.map I)]) (j0) ?_ ?_ ?_
      · refine ⟨_, _, Gh.refl, j0, Nat.le_refl _, hp1, rfl, hs, ?_, ?_, ?_, ?_, rfl⟩
        any_goals (simp (disch := omega) only [RA, ↓reduceIte, Nat.reduceEqDiff, RD, RE, *] <;> rfl)
      · clear g0 g1 g9 g10 hs
        rintro m f H' R2 ⟨j, hj0, hp, rfl, hs, g0, g1, g9, g10, rfl⟩ hN2 hX2 hR2
        simp only [A_slices_partitionEqualOrdered_int64.l1, T_aiff]
        have hql := hp.sg.len
        have hge := hp.ge
        have hjb := hp.jb
        have hva := hp.va
        have hlo := hp.lo
        by_cases hij : i ≤ j
        · refine T_rseq fun Kr hKr => ?_; simp (disch := omega) only [RA, ↓reduceIte, Nat.reduceEqDiff, RD, g0, g1, g9, g10, hij, hql, hva]
          refine Less_spec ?_
          simp (disch := omega) only [RA, ↓reduceIte, Nat.reduceEqDiff, RD]
          refine hKr _ _ ?_; clear hKr Kr; (try simp only [blkQ, thenQ, loopQ]); (try simp only [RN, reduceIte]); try refine T_e rfl ?_
          refine T_csplit (p := v < el q j) (by simp only [RA, ↓reduceIte, Nat.reduceEqDiff] <;> rfl) (by (try simp only [RB]) <;> first | done | exact Iff.rfl | omega | simp) (fun hc => ?_) (fun hc => ?_) <;> (try simp only [RN, reduceIte]) <;> (try refine T_e rfl ?_)
          · (first | refine T_bfree rfl ?_ | refine T_bfree' rfl ?_); (try simp only [RN, reduceIte]); try refine T_e rfl ?_
            have hj1 : (j : Int) - 1 = ((j - 1 : Nat) : Int) := by omega
            refine T_reg_k fun Kr hKr => ?_; simp (disch := omega) only [RA, ↓reduceIte, Nat.reduceEqDiff, RD, g10, hj1]; refine hKr _ _ ?_; clear hKr Kr
            refine hN2 (j - 1) _ _ _ _ (by omega) Gh.refl ⟨j - 1, by omega, hp.dnE hij hc, rfl, hp.keepE hs hij, ?_, ?_, ?_, ?_, rfl⟩
            any_goals (simp (disch := omega) only [RA, ↓reduceIte, Nat.reduceEqDiff, RD, RE, *] <;> rfl)
          · refine hX2 _ _ ⟨j, hj0, hp, hs, .inr (by first | exact hc | exact fun h => h hc | exact fun h => hc h), ?_, ?_, ?_, ?_, rfl⟩
            any_goals (simp (disch := omega) only [RA, ↓reduceIte, Nat.reduceEqDiff, RD, RE, *] <;> rfl)
        · refine T_rseq fun Kr hKr => ?_; simp (disch := omega) only [RA, ↓reduceIte, Nat.reduceEqDiff, RD, g9, g10, hij]; refine hKr _ _ ?_; clear hKr Kr; (try simp only [RN, reduceIte]); try refine T_e rfl ?_
          refine T_cseq (t := false) (by simp (disch := omega) only [RA, ↓reduceIte, Nat.reduceEqDiff, RD]) ?_; (try simp only [RN, reduceIte]); try refine T_e rfl ?_
          refine hX2 _ _ ⟨j, hj0, hp, hs, .inl (by omega), ?_, ?_, ?_, ?_, rfl⟩
          any_goals (simp (disch := omega) only [RA, ↓reduceIte, Nat.reduceEqDiff, RD, RE, *] <;> rfl)
      · clear g0 g1 g9 g10 hs
        rintro f H' ⟨j, hj0, hp, hs, hs2, g0, g1, g9, g10, rfl⟩
        have hql := hp.sg.len
        have hge := hp.ge
        have hjb := hp.jb
        have hva := hp.va
        have hlo := hp.lo
        (try simp only [RN, reduceIte]); try refine T_e rfl ?_
        refine T_rseq fun Kr hKr => ?_; simp (disch := omega) only [RA, ↓reduceIte, Nat.reduceEqDiff, RD, g9, g10]; refine hKr _ _ ?_; clear hKr Kr; (try simp only [RN, reduceIte]); try refine T_e rfl ?_
        refine T_csplit (p := j < i) (by simp only [RA, ↓reduceIte, Nat.reduceEqDiff] <;> rfl) (by (try simp only [RB]) <;> first | done | exact Iff.rfl | omega | simp) (fun hc => ?_) (fun hc => ?_) <;> (try simp only [RN, reduceIte]) <;> (try refine T_e rfl ?_)
        · refine hX _ _ ?_
          refine T_rseq fun Kr hKr => ?_; simp (disch := omega) only [RA, ↓reduceIte, Nat.reduceEqDiff, RD, g9]; refine hKr _ _ ?_; clear hKr Kr; (try simp only [RN, reduceIte]); try refine T_e rfl ?_
          refine bodyQ_ret (by simp (disch := omega) only [RA, ↓reduceIte, Nat.reduceEqDiff, RD, resAll, resOf]; rfl) GhV.refl ?_; simp only [tup]
          exact hfin q i j hp hc
        · have hq1 : v < el q i := by rcases hs with h | h; omega; omega
          have hq2 : ¬ v < el q j := by rcases hs2 with h | h; omega; exact h
          have hij : i < j := by
            rcases Nat.lt_or_ge i j with h | h
            · exact h
            · have : i = j := by omega
              subst this
              exact absurd hq1 hq2
          have hqs : (q.set i (el q j)).length = p.length := by simp [hql]
          have hj1 : (j : Int) - 1 = ((j - 1 : Nat) : Int) := by omega
          have hi1 : (i : Int) + 1 = ((i + 1 : Nat) : Int) := by omega
          have hp' := hp.exE hb hij hq1 hq2
          have hsw2 : (q.set i (el q j)).set j (el q i) = swp q i j := rfl
          refine T_rseq fun Kr hKr => ?_; simp (disch := omega) only [RA, ↓reduceIte, Nat.reduceEqDiff, RD, g0, g9, g10, hql, hqs]; refine hKr _ _ ?_; clear hKr Kr; (try simp only [RN, reduceIte]); try refine T_e rfl ?_
          rw [hsw2]
          refine T_rseq fun Kr hKr => ?_; simp (disch := omega) only [RA, ↓reduceIte, Nat.reduceEqDiff, RD, g9, hi1]; refine hKr _ _ ?_; clear hKr Kr; (try simp only [RN, reduceIte]); try refine T_e rfl ?_
          refine T_reg_k fun Kr hKr => ?_; simp (disch := omega) only [RA, ↓reduceIte, Nat.reduceEqDiff, RD, g10, hj1]; refine hKr _ _ ?_; clear hKr Kr
          refine hN (j - 1 + 1 - (i + 1)) _ _ _ _ (by omega) Gh.refl ⟨swp q i j, i + 1, j - 1, hp', rfl, ?_, ?_, ?_, ?_, rfl⟩
          any_goals (simp (disch := omega) only [RA, ↓reduceIte, Nat.reduceEqDiff, RD, RE, *] <;> rfl)
end Go.Bm

