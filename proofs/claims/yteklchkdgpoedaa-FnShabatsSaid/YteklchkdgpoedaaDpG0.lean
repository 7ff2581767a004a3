/- Dp0, Dp1, Dp2, Dp3, Dp4, DpCa, DpK, DpL, DpM, DpN, DpO, DpP, Dp7a, DpQ, DpCb, DpV, DpVa, DpDa, DpCc, DpCd, DpDg, DpDb, DpDc, DpDh, DpDd, DpS, DpEa, DpEb -/
import Derived.Test.YteklchkdgpoedaaBmQ
import Derived.Test.YteklchkdgpoedaaBmR
import Derived.Test.YteklchkdgpoedaaBmS
/- Places, and how they are told of as permutations. -/
set_option linter.unusedVariables false
set_option linter.unusedSimpArgs false
namespace Go.Bm
open Go Go.Am

/-- Sixteen bytes. -/
structure By (m : Nat) (p : List Nat) : Prop where
  len : p.length = m
  lt : ∀ i, nl p i < 256
theorem By.mem {m : Nat} {p : List Nat} (h : By m p) : ∀ x ∈ p, x < 256 := fun x hx => by
  obtain ⟨i, hi, rfl⟩ := List.mem_iff_getElem.1 hx
  have := h.lt i
  simpa [nl, List.getD, hi] using this
theorem nl_set {p : List Nat} {i x j : Nat} : nl (p.set i x) j = if j = i ∧ i < p.length then x else nl p j := by
  unfold nl
  simp only [List.getD]
  by_cases h : i = j
  · subst h
    by_cases hi : i < p.length
    · simp [hi]
    · simp [List.getElem?_eq_none (by omega : p.length ≤ i), hi]
  · rw [List.getElem?_set_ne h, if_neg (fun e => h e.1.symm)]
theorem bl_set {p : List Bool} {i : Nat} {x : Bool} {j : Nat} : bl (p.set i x) j = if j = i ∧ i < p.length then x else bl p j := by
  unfold bl
  simp only [List.getD]
  by_cases h : i = j
  · subst h
    by_cases hi : i < p.length
    · simp [hi]
    · simp [List.getElem?_eq_none (by omega : p.length ≤ i), hi]
  · rw [List.getElem?_set_ne h, if_neg (fun e => h e.1.symm)]
theorem nl_rep {n m i : Nat} : nl (List.replicate n m) i = if i < n then m else 0 := by
  unfold nl
  simp only [List.getD, List.getElem?_replicate]
  split <;> rfl
theorem bl_rep {n i : Nat} : bl (List.replicate n false) i = false := by
  unfold bl
  simp only [List.getD, List.getElem?_replicate]
  split <;> rfl
theorem nl_out {p : List Nat} {i : Nat} (h : p.length ≤ i) : nl p i = 0 := by simp [nl, List.getD, List.getElem?_eq_none h]
theorem By.set {m : Nat} {p : List Nat} (h : By m p) {i x : Nat} (hx : x < 256) : By m (p.set i x) := ⟨by simp [h.len], fun j => by rw [nl_set]; split; exact hx; exact h.lt j⟩
theorem l01In_spec {x : Bool} {a b c : Int} {H : BH} {K : Value → BH → Prop} (hK : K (.bool (decide (b ≤ a ∧ a ≤ c))) H) : CallX x F_spec_l01In [I a, I b, I c] H K := by
  refine callP (by simp only [RH]) ?_
  refine CallX_body Γ_spec_l01In ?_; simp only [A_spec_l01In, T_aiff]
  refine T_rseq fun Kr hKr => ?_; simp (disch := omega) only [RA, ↓reduceIte, Nat.reduceEqDiff, RD]; refine hKr _ _ ?_; clear hKr Kr; (try simp only [RN, reduceIte]); try refine T_e rfl ?_
  by_cases h : b ≤ a
  · refine T_rseq fun Kr hKr => ?_; simp (disch := omega) only [RA, ↓reduceIte, Nat.reduceEqDiff, RD, h]; refine hKr _ _ ?_; clear hKr Kr; (try simp only [RN, reduceIte]); try refine T_e rfl ?_
    refine bodyQ_ret (by simp (disch := omega) only [RA, ↓reduceIte, Nat.reduceEqDiff, RD, resAll, resOf, h]; rfl) GhV.refl ?_; simp only [tup]
    exact ⟨NN.bool, by simpa [h] using hK⟩
  · refine T_rseq fun Kr hKr => ?_; simp (disch := omega) only [RA, ↓reduceIte, Nat.reduceEqDiff, RD, h]; refine hKr _ _ ?_; clear hKr Kr; (try simp only [RN, reduceIte]); try refine T_e rfl ?_
    refine bodyQ_ret (by simp (disch := omega) only [RA, ↓reduceIte, Nat.reduceEqDiff, RD, resAll, resOf, h]; rfl) GhV.refl ?_; simp only [tup]
    exact ⟨NN.bool, by simpa [h] using hK⟩
/-- A permutation of n numbers. -/
def Perm (p : List Nat) (n : Int) : Prop := (1 ≤ n ∧ n ≤ 16) ∧ ∀ i : Nat, i < 16 → ((n ≤ (i : Int) → nl p i = 0) ∧ ((i : Int) < n → (nl p i : Int) < n ∧ ∀ j, j < i → nl p j ≠ nl p i))
instance (p : List Nat) (n : Int) : Decidable (Perm p n) := by unfold Perm; infer_instance
/-- The numbers met. -/
def Met (p : List Nat) (n : Int) (k : Nat) (s : List Bool) : Prop := s.length = 16 ∧ ∀ x, bl s x = true ↔ ∃ i, i < k ∧ (i : Int) < n ∧ nl p i = x
theorem Met.zero {p : List Nat} {n : Int} : Met p n 0 (List.replicate 16 false) := ⟨by simp, fun x => by rw [bl_rep]; simp⟩
theorem Met.skip {p : List Nat} {n : Int} {k : Nat} {s : List Bool} (h : Met p n k s) (hk : ¬ (k : Int) < n) : Met p n (k + 1) s := ⟨h.1, fun x => by
  rw [h.2]
  exact ⟨fun ⟨i, h1, h2, h3⟩ => ⟨i, by omega, h2, h3⟩, fun ⟨i, h1, h2, h3⟩ => ⟨i, by
    rcases Nat.lt_or_ge i k with q | q
    · exact q
    · obtain rfl : i = k := by omega
      exact absurd h2 hk, h2, h3⟩⟩⟩

end Go.Bm

/- The reference's test of permutations; products and inverses. -/
set_option linter.unusedVariables false
set_option linter.unusedSimpArgs false
namespace Go.Bm
open Go Go.Am

theorem Perm.lt {p : List Nat} {n : Nat} (h : Perm p n) {i : Nat} (hi : i < n) : nl p i < n := by have := ((h.2 i (by have := h.1; omega)).2 (by omega)).1; omega
/-- p then q, at the first k numbers. -/
def thenK (p q : List Nat) : Nat → List Nat
  | 0 => List.replicate 16 0
  | k + 1 => (thenK p q k).set k (nl q (nl p k))
/-- The permutation that leads back, of the first k numbers. -/
def backK (p : List Nat) : Nat → List Nat
  | 0 => List.replicate 16 0
  | k + 1 => (backK p k).set (nl p k) k
theorem backK_len {p : List Nat} {k : Nat} : (backK p k).length = 16 := by
  induction k with
  | zero => simp [backK]
  | succ k ih => simp [backK, ih]
/-! ### Dessins -/
abbrev DC (n : Int) (b w : List Nat) : List Value := I n :: (b.map N8 ++ w.map N8)
abbrev DV (n : Int) (b w : List Nat) : Value := aggL (DC n b w)
def faceP (b w : List Nat) (n : Nat) : List Nat := backK (thenK b w n) n
end Go.Bm

/- What is reached by steps. -/
set_option linter.unusedVariables false
set_option linter.unusedSimpArgs false
namespace Go.Bm
open Go Go.Am

abbrev BS := List Bool × List Nat
def visit (st : BS) (y : Nat) : BS := if bl st.1 y = true then st else (st.1.set y true, st.2 ++ [y])
def roundX (ls : List (List Nat)) (x : Nat) (st : BS) : BS := ls.foldl (fun st p => visit st (nl p x)) st
def bfs (ls : List (List Nat)) (st : BS) : Nat → BS
  | 0 => st
  | i + 1 => if i < (bfs ls st i).2.length then roundX ls (nl (bfs ls st i).2 i) (bfs ls st i) else bfs ls st i
structure Bi (m : Nat) (st : BS) : Prop where
  len : st.1.length = m
  lt : ∀ i, i < st.2.length → nl st.2 i < m
  cnt : st.2.length ≤ st.1.count true
theorem Bi.le {m : Nat} {st : BS} (h : Bi m st) : st.2.length ≤ m := by
  have := List.count_le_length (a := true) (l := st.1)
  have := h.cnt
  have := h.len
  omega
theorem nl_append {p q : List Nat} {i : Nat} : nl (p ++ q) i = if i < p.length then nl p i else nl q (i - p.length) := by
  unfold nl
  simp only [List.getD]
  split
  · rename_i h; rw [List.getElem?_append_left h]
  · rename_i h; rw [List.getElem?_append_right (by omega)]
theorem nl_single {y : Nat} {i : Nat} (h : i < 1) : nl [y] i = y := by
  obtain rfl : i = 0 := by omega
  rfl
theorem count_set_true {s : List Bool} {y : Nat} (hy : y < s.length) (h : bl s y = false) : (s.set y true).count true = s.count true + 1 := by
  rw [List.count_set hy]
  have : s[y] = false := by simpa [bl, List.getD, hy] using h
  simp [this]
theorem Bi.visit {m : Nat} {st : BS} (h : Bi m st) {y : Nat} (hy : y < m) : Bi m (visit st y) := by
  unfold Bm.visit
  split
  · exact h
  · rename_i hb
    refine ⟨by simp [h.len], fun i hi => ?_, ?_⟩
    · simp only [List.length_append, List.length_singleton] at hi
      simp only [nl_append]
      split
      · exact h.lt i (by assumption)
      · rw [nl_single (by omega)]; exact hy
    · simp only [List.length_append, List.length_singleton]
      rw [count_set_true (by rw [h.len]; exact hy) (by simpa using hb)]
      have := h.cnt
      omega
theorem Bi.round {m : Nat} {x : Nat} : ∀ {ls : List (List Nat)} {st : BS}, Bi m st → (∀ p ∈ ls, nl p x < m) → Bi m (roundX ls x st)
  | [], st, h, _ => h
  | p :: ls, st, h, hp => Bi.round (ls := ls) (h.visit (hp p (by simp))) fun q hq => hp q (by simp [hq])
theorem Bi.bfs {m : Nat} {ls : List (List Nat)} {st : BS} (h : Bi m st) (hp : ∀ p ∈ ls, ∀ i, nl p i < m) : ∀ i, Bi m (bfs ls st i)
  | 0 => h
  | i + 1 => by
    simp only [Bm.bfs]
    split
    · exact (Bi.bfs h hp i).round fun p hq => hp p hq _
    · exact Bi.bfs h hp i
def st0 (m : Nat) : BS := ((List.replicate m false).set 0 true, [0])
theorem Bi.st0 {m : Nat} (hm : 0 < m) : Bi m (st0 m) := ⟨by simp [Bm.st0], fun i hi => by rw [show (Bm.st0 m).2 = [0] from rfl, nl_single (by simpa [Bm.st0] using hi)]; exact hm, by
  show 1 ≤ _
  have : ((List.replicate m false).set 0 true).count true = (List.replicate m false).count true + 1 := count_set_true (by simpa using hm) bl_rep
  show 1 ≤ ((List.replicate m false).set 0 true).count true
  omega⟩
/-- The numbers that are reached from 0 by two permutations. -/
def reach (b w : List Nat) : BS := bfs [b, w] (st0 16) 16

end Go.Bm

/- What is reached, the program's; dessins. -/
set_option linter.unusedVariables false
set_option linter.unusedSimpArgs false
namespace Go.Bm
open Go Go.Am

/-- A dessin. -/
def Des (n : Int) (b w : List Nat) : Prop := Perm b n ∧ Perm w n ∧ ((reach b w).2.length : Int) = n
instance (n : Int) (b w : List Nat) : Decidable (Des n b w) := by unfold Des; infer_instance
end Go.Bm

/- Dessins in memory; the laws' helpers for them. -/
set_option linter.unusedVariables false
set_option linter.unusedSimpArgs false
namespace Go.Bm
open Go Go.Am

section
variable {H : BH} {i : Nat} {n m : Int} {b w b' w' p : List Nat}
end
theorem Des.n0 {n : Int} {b w : List Nat} (h : Des n b w) : ∃ m : Nat, n = m ∧ 1 ≤ m ∧ m ≤ 16 := by
  have := h.1.1
  exact ⟨n.toNat, by omega, by omega, by omega⟩
end Go.Bm

/- The cycles of a permutation: the plain law. -/
set_option linter.unusedVariables false
set_option linter.unusedSimpArgs false
namespace Go.Bm
open Go Go.Am

/-- The numbers met, the cycle as far as it was walked, where one stands. -/
abbrev WS := List Bool × List Nat × Nat
def wstep (p : List Nat) (st : WS) : WS := if bl st.1 st.2.2 = true then st else (st.1.set st.2.2 true, st.2.1 ++ [st.2.2], nl p st.2.2)
def wk (p : List Nat) (st : WS) : Nat → WS
  | 0 => st
  | j + 1 => wstep p (wk p st j)
/-- The numbers met and the cycles, once the first k numbers have been looked at. -/
def cycK (p : List Nat) (m : Nat) : Nat → List Bool × List (List Nat)
  | 0 => (List.replicate 16 false, [])
  | k + 1 => if bl (cycK p m k).1 k = true then cycK p m k else ((wk p ((cycK p m k).1, [], k) m).1, (cycK p m k).2 ++ [(wk p ((cycK p m k).1, [], k) m).2.1])
structure IsCyc (p : List Nat) (n : Nat) (c : List Nat) : Prop where
  ne : 0 < c.length
  lt : ∀ x ∈ c, x < n
  nod : c.Nodup
  step : ∀ j, j + 1 < c.length → nl p (nl c j) = nl c (j + 1)
  last : nl p (nl c (c.length - 1)) = nl c 0
  least : ∀ x ∈ c, nl c 0 ≤ x
theorem nl_mem {c : List Nat} {j : Nat} (h : j < c.length) : nl c j ∈ c := by simp [nl, List.getD, h]
theorem mem_nl {c : List Nat} {x : Nat} (h : x ∈ c) : ∃ j, j < c.length ∧ nl c j = x := by
  obtain ⟨i, hi, rfl⟩ := List.mem_iff_getElem.1 h
  exact ⟨i, hi, by simp [nl, List.getD, hi]⟩
theorem nod_nl {c : List Nat} (h : c.Nodup) {i j : Nat} (hi : i < c.length) (hj : j < c.length) (he : nl c i = nl c j) : i = j := by
  have h' := List.pairwise_iff_getElem.1 h
  have e : ∀ k (hk : k < c.length), nl c k = c[k] := fun k hk => by simp [nl, List.getD, hk]
  rcases Nat.lt_trichotomy i j with h1 | h1 | h1
  · exact absurd (by rw [← e i hi, ← e j hj]; exact he) (h' i j hi hj h1)
  · exact h1
  · exact absurd (by rw [← e i hi, ← e j hj]; exact he.symm) (h' j i hj hi h1)
theorem Perm.inj {p : List Nat} {n : Nat} (h : Perm p n) {i j : Nat} (hi : i < n) (hj : j < n) (he : nl p i = nl p j) : i = j := by
  have h1 := h.1
  rcases Nat.lt_trichotomy i j with h2 | h2 | h2
  · exact absurd he (((h.2 j (by omega)).2 (by omega)).2 i h2)
  · exact h2
  · exact absurd he.symm (((h.2 i (by omega)).2 (by omega)).2 j h2)
/-- What stands of the walk. -/
structure WkOk (p : List Nat) (n : Nat) (s0 : List Bool) (i : Nat) (j : Nat) (st : WS) : Prop where
  len : st.1.length = 16
  at_ : st.2.2 < n
  new : bl s0 st.2.2 = false
  mem : ∀ x, bl st.1 x = true ↔ bl s0 x = true ∨ x ∈ st.2.1
  lt : ∀ x ∈ st.2.1, x < n ∧ bl s0 x = false
  nod : st.2.1.Nodup
  cnt : st.1.count true = s0.count true + st.2.1.length
  step : ∀ t, t + 1 < st.2.1.length → nl p (nl st.2.1 t) = nl st.2.1 (t + 1)
  st0 : st.2.1 = [] → st.2.2 = i
  st1 : 0 < st.2.1.length → nl st.2.1 0 = i ∧ nl p (nl st.2.1 (st.2.1.length - 1)) = st.2.2
  go : st.2.1.length = j ∨ bl st.1 st.2.2 = true
theorem WkOk.wk {p : List Nat} {n : Nat} (hp : Perm p n) {s0 : List Bool} {i : Nat} (hl : s0.length = 16) (hi : i < n) (h0 : bl s0 i = false) (hinv : ∀ x, x < n → bl s0 (nl p x) = bl s0 x) : ∀ j, WkOk p n s0 i j (wk p (s0, [], i) j)
  | 0 => by
    refine ⟨hl, hi, h0, fun x => ?_, ?_, ?_, ?_, ?_, ?_, ?_, ?_⟩ <;> simp [Bm.wk]
  | j + 1 => by
    have ih := WkOk.wk hp hl hi h0 hinv j
    have hn := hp.1
    simp only [Bm.wk]
    generalize Bm.wk p (s0, [], i) j = st at ih ⊢
    obtain ⟨s, l, k⟩ := st
    have h1 := ih.len
    have h2 := ih.at_
    have h3 := ih.new
    have h4 := ih.mem
    have h5 := ih.lt
    have h6 := ih.nod
    have h7 := ih.cnt
    have h8 := ih.step
    have h9 := ih.st0
    have h10 := ih.st1
    have h11 := ih.go
    simp only at h1 h2 h3 h4 h5 h6 h7 h8 h9 h10 h11
    unfold wstep
    by_cases hb : bl s k = true
    · rw [if_pos hb]
      exact ⟨h1, h2, h3, h4, h5, h6, h7, h8, h9, h10, .inr hb⟩
    · rw [if_neg hb]
      have hkl : k ∉ l := fun h => hb ((h4 k).2 (.inr h))
      have hk : (l ++ [k]).length = l.length + 1 := by simp
      refine ⟨by simpa using h1, hp.lt h2, by rw [hinv k h2]; exact h3, fun x => ?_, fun x hx => ?_, ?_, ?_, fun t ht => ?_, fun h => by simp at h, fun _ => ?_, .inl ?_⟩
      · show bl (s.set k true) x = true ↔ bl s0 x = true ∨ x ∈ l ++ [k]
        rw [bl_set]
        by_cases e : x = k
        · subst e
          rw [if_pos ⟨rfl, by omega⟩]
          simp
        · rw [if_neg (fun h => e h.1), h4 x]
          simp [e]
      · rcases List.mem_append.1 hx with h | h
        · exact h5 x h
        · rw [List.mem_singleton] at h
          subst h
          exact ⟨h2, h3⟩
      · show (l ++ [k]).Nodup
        rw [List.nodup_append]
        exact ⟨h6, by simp, fun a ha b hb => by
          rw [List.mem_singleton] at hb
          subst hb
          exact fun e => hkl (e ▸ ha)⟩
      · show (s.set k true).count true = s0.count true + (l ++ [k]).length
        rw [count_set_true (by omega) (by simpa using hb), h7, hk]
        omega
      · show nl p (nl (l ++ [k]) t) = nl (l ++ [k]) (t + 1)
        have ht : t + 1 < l.length + 1 := by rw [← hk]; exact ht
        rw [nl_append, nl_append, if_pos (by omega)]
        by_cases e : t + 1 < l.length
        · rw [if_pos e]
          exact h8 t e
        · rw [if_neg e, nl_single (by omega), show t = l.length - 1 by omega]
          exact (h10 (by omega)).2
      · show nl (l ++ [k]) 0 = i ∧ nl p (nl (l ++ [k]) ((l ++ [k]).length - 1)) = nl p k
        rw [hk, Nat.add_sub_cancel]
        refine ⟨?_, by rw [nl_append, if_neg (by omega), Nat.sub_self]; rfl⟩
        rw [nl_append]
        split
        · rename_i h
          exact (h10 h).1
        · rename_i h
          have : l = [] := List.eq_nil_of_length_eq_zero (by omega)
          subst this
          exact h9 rfl
      · show (l ++ [k]).length = j + 1
        rw [hk]
        rcases h11 with h | h
        · omega
        · exact absurd h hb
theorem WkOk.done {p : List Nat} {n m : Nat} (hm : m = 16) (hp : Perm p n) {s0 : List Bool} {i : Nat} (hl : s0.length = 16) (hi : i < n) (h0 : bl s0 i = false) (hinv : ∀ x, x < n → bl s0 (nl p x) = bl s0 x) :
    bl (Bm.wk p (s0, [], i) m).1 (Bm.wk p (s0, [], i) m).2.2 = true := by
  have h16 := WkOk.wk hp hl hi h0 hinv m
  have h17 := WkOk.wk hp hl hi h0 hinv (m + 1)
  rcases h16.go with h | h
  · cases hb : bl (Bm.wk p (s0, [], i) m).1 (Bm.wk p (s0, [], i) m).2.2 with
    | true => rfl
    | false =>
      have e : Bm.wk p (s0, [], i) (m + 1) = wstep p (Bm.wk p (s0, [], i) m) := rfl
      rw [wstep, if_neg (by simp [hb])] at e
      have h1 := h17.cnt
      have h2 := List.count_le_length (a := true) (l := (Bm.wk p (s0, [], i) (m + 1)).1)
      have h3 := h17.len
      have h4 : (Bm.wk p (s0, [], i) (m + 1)).2.1.length = m + 1 := by rw [e]; simp [h]
      omega
  · exact h
theorem WkOk.cyc {p : List Nat} {n m : Nat} (hm : m = 16) (hp : Perm p n) {s0 : List Bool} {i : Nat} (hl : s0.length = 16) (hi : i < n) (h0 : bl s0 i = false) (hinv : ∀ x, x < n → bl s0 (nl p x) = bl s0 x) (hup : ∀ x, x < i → bl s0 x = true) :
    IsCyc p n (Bm.wk p (s0, [], i) m).2.1 ∧ nl (Bm.wk p (s0, [], i) m).2.1 0 = i := by
  have h := WkOk.wk hp hl hi h0 hinv m
  have hd := WkOk.done hm hp hl hi h0 hinv
  generalize Bm.wk p (s0, [], i) m = st at h hd ⊢
  obtain ⟨s, l, k⟩ := st
  have hkl : k ∈ l := by
    rcases (h.mem k).1 hd with h1 | h1
    · exact absurd h1 (by have := h.new; simp only at this; simp [this])
    · exact h1
  have hne : 0 < l.length := List.length_pos_of_mem hkl
  obtain ⟨hz, hla⟩ := h.st1 hne
  simp only at hz hla
  obtain ⟨j, hj, hje⟩ := mem_nl hkl
  have hlt : ∀ t, t < l.length → nl l t < n := fun t ht => (h.lt _ (nl_mem ht)).1
  have hj0 : j = 0 := by
    rcases Nat.eq_zero_or_pos j with h1 | h1
    · exact h1
    · exfalso
      have h2 := h.step (j - 1) (by show j - 1 + 1 < l.length; omega)
      simp only at h2
      rw [show j - 1 + 1 = j by omega, hje, ← hla] at h2
      have h3 := hp.inj (hlt _ (by omega)) (hlt _ (by omega)) h2
      have h4 := nod_nl h.nod (by show j - 1 < l.length; omega) (by show l.length - 1 < l.length; omega) h3
      omega
  subst hj0
  refine ⟨⟨hne, fun x hx => (h.lt x hx).1, h.nod, h.step, by rw [hla]; exact hje.symm, fun x hx => ?_⟩, hz⟩
  rw [hz]
  rcases Nat.lt_or_ge x i with h1 | h1
  · have h2 := (h.lt x hx).2
    rw [hup x h1] at h2
    cases h2
  · exact h1
theorem IsCyc.fwd {p : List Nat} {n : Nat} {c : List Nat} (h : IsCyc p n c) {x : Nat} (hx : x ∈ c) : nl p x ∈ c := by
  obtain ⟨j, hj, rfl⟩ := mem_nl hx
  by_cases e : j + 1 < c.length
  · rw [h.step j e]
    exact nl_mem e
  · rw [show j = c.length - 1 by omega, h.last]
    exact nl_mem h.ne
theorem IsCyc.bwd {p : List Nat} {n : Nat} {c : List Nat} (hp : Perm p n) (h : IsCyc p n c) {x : Nat} (hx : x < n) (hm : nl p x ∈ c) : x ∈ c := by
  obtain ⟨j, hj, hje⟩ := mem_nl hm
  by_cases e : j = 0
  · subst e
    rw [← h.last] at hje
    have := hp.inj (h.lt _ (nl_mem (by have := h.ne; omega))) hx hje
    rw [← this]
    exact nl_mem (by have := h.ne; omega)
  · have h2 := h.step (j - 1) (by omega)
    rw [show j - 1 + 1 = j by omega, hje] at h2
    have := hp.inj (h.lt _ (nl_mem (by omega))) hx h2
    rw [← this]
    exact nl_mem (by omega)
structure CycOk (p : List Nat) (n i : Nat) (sc : List Bool × List (List Nat)) : Prop where
  len : sc.1.length = 16
  mem : ∀ x, bl sc.1 x = true ↔ ∃ c ∈ sc.2, x ∈ c
  inv : ∀ x, x < n → bl sc.1 (nl p x) = bl sc.1 x
  cyc : ∀ c ∈ sc.2, IsCyc p n c
  cnt : sc.1.count true = sc.2.flatten.length
  nod : sc.2.flatten.Nodup
  upto : ∀ x, x < i → bl sc.1 x = true
  hd : ∀ c ∈ sc.2, nl c 0 < i
  num : sc.2.length ≤ i
theorem CycOk.all {p : List Nat} {n m : Nat} (hm : m = 16) (hp : Perm p n) : ∀ {i : Nat}, i ≤ n → CycOk p n i (cycK p m i)
  | 0, _ => by
    have h0 : ∀ x, bl (List.replicate 16 false) x = false := fun x => bl_rep
    rw [show cycK p m 0 = (List.replicate 16 false, []) from rfl]
    have hno : ∀ c : List Nat, c ∉ ([] : List (List Nat)) := fun c => List.not_mem_nil
    have hc0 : (List.replicate 16 false).count true = 0 := rfl
    exact ⟨List.length_replicate, fun x => ⟨fun h => absurd ((h0 x).symm.trans h) Bool.false_ne_true, fun ⟨c, h, _⟩ => absurd h (hno c)⟩, fun x _ => (h0 _).trans (h0 x).symm, fun c h => absurd h (hno c), hc0, List.nodup_nil, fun x h => absurd h (Nat.not_lt_zero x), fun c h => absurd h (hno c), Nat.le_refl _⟩
  | i + 1, hi => by
    have ih := CycOk.all hm hp (i := i) (by omega)
    have hn := hp.1
    simp only [cycK]
    generalize cycK p m i = sc at ih ⊢
    by_cases hb : bl sc.1 i = true
    · rw [if_pos hb]
      exact ⟨ih.len, ih.mem, ih.inv, ih.cyc, ih.cnt, ih.nod, fun x hx => by
        by_cases e : x = i
        · rw [e]; exact hb
        · exact ih.upto x (by omega), fun c hc => by have := ih.hd c hc; omega, by have := ih.num; omega⟩
    · rw [if_neg hb]
      have h0 : bl sc.1 i = false := by simpa using hb
      have hw := WkOk.wk hp ih.len (show i < n by omega) h0 ih.inv m
      obtain ⟨hc, hz⟩ := WkOk.cyc hm hp ih.len (show i < n by omega) h0 ih.inv ih.upto
      generalize Bm.wk p (sc.1, [], i) m = st at hw hc hz ⊢
      obtain ⟨s, l, k⟩ := st
      have hm := hw.mem
      have hlt := hw.lt
      have hwc := hw.cnt
      simp only at hc hz hm hlt hwc ⊢
      have hil : i ∈ l := by rw [← hz]; exact nl_mem hc.ne
      refine ⟨hw.len, fun x => ?_, fun x hx => ?_, fun c hc' => ?_, ?_, ?_, fun x hx => ?_, fun c hc' => ?_, by simp; exact ih.num⟩
      · show bl s x = true ↔ _
        rw [hm x, ih.mem x]
        simp only [List.mem_append, List.mem_singleton]
        constructor
        · rintro (⟨c, h1, h2⟩ | h)
          · exact ⟨c, .inl h1, h2⟩
          · exact ⟨l, .inr rfl, h⟩
        · rintro ⟨c, h1 | rfl, h2⟩
          · exact .inl ⟨c, h1, h2⟩
          · exact .inr h2
      · show bl s (nl p x) = bl s x
        have key : bl s (nl p x) = true ↔ bl s x = true := by
          rw [hm, hm, ih.inv x hx]
          constructor
          · rintro (h | h)
            · exact .inl h
            · exact .inr (hc.bwd hp hx h)
          · rintro (h | h)
            · exact .inl h
            · exact .inr (hc.fwd h)
        exact Bool.eq_iff_iff.2 key
      · rcases List.mem_append.1 hc' with h | h
        · exact ih.cyc c h
        · rw [List.mem_singleton] at h
          subst h
          exact hc
      · show s.count true = (sc.2 ++ [l]).flatten.length
        rw [hwc, ih.cnt]
        simp
      · show (sc.2 ++ [l]).flatten.Nodup
        rw [List.flatten_append, List.nodup_append]
        refine ⟨ih.nod, by simpa using hw.nod, fun a ha b hb' => ?_⟩
        have hb'' : b ∈ l := by simpa using hb'
        rintro rfl
        obtain ⟨c, h1, h2⟩ := List.mem_flatten.1 ha
        have h3 := (ih.mem a).2 ⟨c, h1, h2⟩
        rw [(hlt a hb'').2] at h3
        cases h3
      · show bl s x = true
        rw [hm]
        by_cases e : x = i
        · rw [e]; exact .inr hil
        · exact .inl (ih.upto x (by omega))
      · rcases List.mem_append.1 hc' with h | h
        · have := ih.hd c h; omega
        · rw [List.mem_singleton] at h
          subst h
          omega
def cyc (p : List Nat) (n : Nat) : List (List Nat) := (cycK p 16 n).2
section
variable {p : List Nat} {n : Nat}
theorem cyc_at (hp : Perm p n) {x : Nat} (hx : x < n) : ∃ c ∈ cyc p n, x ∈ c := ((CycOk.all rfl hp (Nat.le_refl n)).mem x).1 ((CycOk.all rfl hp (Nat.le_refl n)).upto x hx)
theorem cyc_is (hp : Perm p n) {c : List Nat} (h : c ∈ cyc p n) : IsCyc p n c := (CycOk.all rfl hp (Nat.le_refl n)).cyc c h
end
end Go.Bm

/- Sorting: parts of a list that are changed; insertion, reversing. -/
set_option linter.unusedVariables false
set_option linter.unusedSimpArgs false
namespace Go.Bm
open Go Go.Am

theorem el_setD {p : List Int} {i j : Nat} {x : Int} : el (p.set i x) j = if j = i ∧ i < p.length then x else el p j := by
  unfold el
  simp only [List.getD]
  by_cases h : i = j
  · subst h
    by_cases hi : i < p.length
    · simp [hi]
    · simp [List.getElem?_eq_none (by omega : p.length ≤ i), hi]
  · rw [List.getElem?_set_ne h, if_neg (fun e => h e.1.symm)]
/-- Two numbers change places. -/
def swp (p : List Int) (i j : Nat) : List Int := (p.set i (el p j)).set j (el p i)
theorem swp_len {p : List Int} {i j : Nat} : (swp p i j).length = p.length := by simp [swp]
theorem swp_el {p : List Int} {i j k : Nat} (hi : i < p.length) (hj : j < p.length) : el (swp p i j) k = if k = j then el p i else if k = i then el p j else el p k := by
  unfold swp
  rw [el_setD, el_setD]
  by_cases h : k = j
  · rw [if_pos ⟨h, by simpa using hj⟩, if_pos h]
  · rw [if_neg (fun e => h e.1), if_neg h]
    by_cases h2 : k = i
    · rw [if_pos ⟨h2, hi⟩, if_pos h2]
    · rw [if_neg (fun e => h2 e.1), if_neg h2]
theorem swp_perm {p : List Int} {i j : Nat} (hi : i < p.length) (hj : j < p.length) : (swp p i j).Perm p := by
  rw [List.perm_iff_count]
  intro a
  unfold swp
  rw [List.count_set (by simpa using hj), List.count_set hi]
  have e1 : p[i] = el p i := by simp [el, List.getD, hi]
  have e2 : p[j] = el p j := by simp [el, List.getD, hj]
  have e3 : (p.set i (el p j))[j]'(by simpa using hj) = el p j := by
    rw [List.getElem_set]
    split
    · rfl
    · exact e2
  rw [e3, e1]
  have c1 : (el p i == a) = true → 0 < p.count a := fun h => by
    rw [List.count_pos_iff, ← beq_iff_eq.1 h, ← e1]; exact List.getElem_mem hi
  by_cases h1 : (el p i == a) = true <;> by_cases h2 : (el p j == a) = true <;> simp only [h1, h2, if_true, if_false, Bool.false_eq_true] <;> first | omega | (have := c1 h1; omega)

/-- Of a list only the part from a to b has been put into another order. -/
structure Sg (a b : Nat) (p q : List Int) : Prop where
  len : q.length = p.length
  out : ∀ i, i < a ∨ b ≤ i → el q i = el p i
  src : ∀ i, a ≤ i → i < b → ∃ j, a ≤ j ∧ j < b ∧ el q i = el p j
  perm : q.Perm p
theorem Sg.refl {a b : Nat} {p : List Int} : Sg a b p p := ⟨rfl, fun _ _ => rfl, fun i h1 h2 => ⟨i, h1, h2, rfl⟩, .refl _⟩
theorem Sg.trans {a b : Nat} {p q r : List Int} (h : Sg a b p q) (k : Sg a b q r) : Sg a b p r := ⟨k.len.trans h.len, fun i hi => (k.out i hi).trans (h.out i hi), fun i h1 h2 => by
  obtain ⟨j, j1, j2, j3⟩ := k.src i h1 h2
  obtain ⟨l, l1, l2, l3⟩ := h.src j j1 j2
  exact ⟨l, l1, l2, j3.trans l3⟩, k.perm.trans h.perm⟩
theorem Sg.mono {a b a' b' : Nat} {p q : List Int} (h : Sg a b p q) (ha : a' ≤ a) (hb : b ≤ b') : Sg a' b' p q := ⟨h.len, fun i hi => h.out i (by omega), fun i h1 h2 => by
  by_cases hi : a ≤ i ∧ i < b
  · obtain ⟨j, j1, j2, j3⟩ := h.src i hi.1 hi.2
    exact ⟨j, by omega, by omega, j3⟩
  · exact ⟨i, h1, h2, h.out i (by omega)⟩, h.perm⟩
theorem Sg.swp {a b i j : Nat} {p : List Int} (h1 : a ≤ i) (h2 : i < b) (h3 : a ≤ j) (h4 : j < b) (hb : b ≤ p.length) : Sg a b p (swp p i j) := ⟨swp_len, fun k hk => by
  rw [swp_el (by omega) (by omega), if_neg (by omega), if_neg (by omega)], fun k k1 k2 => by
  rw [swp_el (by omega) (by omega)]
  split
  · exact ⟨i, h1, h2, rfl⟩
  · split
    · exact ⟨j, h3, h4, rfl⟩
    · exact ⟨k, k1, k2, rfl⟩, swp_perm (by omega) (by omega)⟩
/-- In order from a to b. -/
def Srt (a b : Nat) (p : List Int) : Prop := ∀ i j, a ≤ i → i ≤ j → j < b → el p i ≤ el p j

theorem Srt.one {a : Nat} {p : List Int} : Srt a (a + 1) p := fun i j h1 h2 h3 => by
  obtain rfl : i = j := by omega
  exact Int.le_refl _
end Go.Bm

/- Sorting: the partitions. Written by genpart.py. -/
set_option linter.unusedVariables false
set_option linter.unusedSimpArgs false
namespace Go.Bm
open Go Go.Am

section
variable {k : Nat} {Q : Ex → Fr → BH → Prop} {f : Fr} {H : BH}
end
/-- A partition under way: behind a up to i what is less than v, from j on what is not. -/
structure PI (p q : List Int) (v : Int) (a b i j : Nat) : Prop where
  sg : Sg a b p q
  lo : a + 1 ≤ i
  ij : i ≤ j + 1
  jb : j < b
  ge : a ≤ j
  va : el q a = v
  lt : ∀ x, a < x → x < i → el q x < v
  gt : ∀ x, j < x → x < b → v ≤ el q x
section
variable {p q : List Int} {v : Int} {a b i j : Nat}
theorem PI.up (h : PI p q v a b i j) (hij : i ≤ j) (hx : el q i < v) : PI p q v a b (i + 1) j := ⟨h.sg, by have := h.lo; omega, by omega, h.jb, h.ge, h.va, fun x h1 h2 => by
  rcases Nat.lt_or_ge x i with h3 | h3
  · exact h.lt x h1 h3
  · obtain rfl : x = i := by omega
    exact hx, h.gt⟩
theorem PI.dn (h : PI p q v a b i j) (hij : i ≤ j) (hx : ¬ el q j < v) : PI p q v a b i (j - 1) := ⟨h.sg, h.lo, by have := h.lo; omega, by have := h.jb; omega, by have := h.lo; omega, h.va, h.lt, fun x h1 h2 => by
  rcases Nat.lt_or_ge j x with h3 | h3
  · exact h.gt x h3 h2
  · obtain rfl : x = j := by have := h.lo; omega
    omega⟩
theorem PI.keep (h : PI p q v a b i j) (hs : j < i ∨ ¬ (el q i < v)) (hij : i ≤ j) : j - 1 < i ∨ ¬ (el q i < v) := by
  rcases hs with hs | hs
  · omega
  · exact .inr hs
theorem PI.ex (h : PI p q v a b i j) (hb : b ≤ p.length) (h1 : i < j) (h2 : ¬ el q i < v) (h3 : el q j < v) : PI p (swp q i j) v a b (i + 1) (j - 1) := by
  have hl := h.sg.len
  have lo := h.lo
  have jb := h.jb
  refine ⟨h.sg.trans (.swp (by omega) (by omega) (by omega) (by omega) (by omega)), by omega, by omega, by omega, by omega, ?_, fun x x1 x2 => ?_, fun x x1 x2 => ?_⟩
  · rw [swp_el (by omega) (by omega), if_neg (by omega), if_neg (by omega)]; exact h.va
  · rw [swp_el (by omega) (by omega), if_neg (by omega)]
    split
    · exact h3
    · exact h.lt x x1 (by omega)
  · rw [swp_el (by omega) (by omega)]
    split
    · omega
    · rw [if_neg (by omega)]
      exact h.gt x (by omega) x2
/-- Done: the pivot comes to its place. -/
theorem PI.fin (h : PI p q v a b i j) (hb : b ≤ p.length) (h1 : j < i) : Sg a b p (swp q j a) ∧ (∀ x, a ≤ x → x < j → el (swp q j a) x ≤ el (swp q j a) j) ∧ (∀ x, j < x → x < b → el (swp q j a) j ≤ el (swp q j a) x) := by
  have hl := h.sg.len
  have lo := h.lo
  have jb := h.jb
  have ge := h.ge
  have ij := h.ij
  have ej : el (swp q j a) j = v := by
    rw [swp_el (by omega) (by omega)]
    split
    · rename_i e; rw [e]; exact h.va
    · rw [if_pos rfl]; exact h.va
  refine ⟨h.sg.trans (.swp (by omega) (by omega) (by omega) (by omega) (by omega)), fun x x1 x2 => ?_, fun x x1 x2 => ?_⟩
  · rw [ej, swp_el (by omega) (by omega)]
    split
    · exact Int.le_of_lt (h.lt j (by omega) (by omega))
    · rw [if_neg (by omega)]
      exact Int.le_of_lt (h.lt x (by omega) (by omega))
  · rw [ej, swp_el (by omega) (by omega), if_neg (by omega), if_neg (by omega)]
    exact h.gt x x1 x2
end
/-- The same for what equals the pivot. -/
structure PIE (p q : List Int) (v : Int) (a b i j : Nat) : Prop where
  sg : Sg a b p q
  lo : a + 1 ≤ i
  ij : i ≤ j + 1
  jb : j < b
  ge : a ≤ j
  va : el q a = v
  lt : ∀ x, a < x → x < i → el q x ≤ v
  gt : ∀ x, j < x → x < b → v < el q x
section
variable {p q : List Int} {v : Int} {a b i j : Nat}
end
theorem PI.start {p : List Int} {a b t : Nat} (hb : b ≤ p.length) (h1 : a ≤ t) (h2 : t < b) : PI p (swp p a t) (el p t) a b (a + 1) (b - 1) := ⟨.swp (by omega) (by omega) (by omega) (by omega) hb, by omega, by omega, by omega, by omega, by
  rw [swp_el (by omega) (by omega)]
  split
  · rename_i e; rw [e]
  · rw [if_pos rfl], fun x x1 x2 => by omega, fun x x1 x2 => by omega⟩
theorem PIE.start {p : List Int} {a b t : Nat} (hb : b ≤ p.length) (h1 : a ≤ t) (h2 : t < b) : PIE p (swp p a t) (el p t) a b (a + 1) (b - 1) := ⟨.swp (by omega) (by omega) (by omega) (by omega) hb, by omega, by omega, by omega, by omega, by
  rw [swp_el (by omega) (by omega)]
  split
  · rename_i e; rw [e]
  · rw [if_pos rfl], fun x x1 x2 => by omega, fun x x1 x2 => by omega⟩

end Go.Bm

/- Sorting: what equals the pivot. Written by genpart.py. -/
set_option linter.unusedVariables false
set_option linter.unusedSimpArgs false
namespace Go.Bm
open Go Go.Am

end Go.Bm

/- Sorting: reversing, the choice of a pivot, the test for order. -/
set_option linter.unusedVariables false
set_option linter.unusedSimpArgs false
namespace Go.Bm
open Go Go.Am

end Go.Bm

/- Sorting: lengths of numbers in bits, patterns broken. -/
set_option linter.unusedVariables false
set_option linter.unusedSimpArgs false
namespace Go.Bm
open Go Go.Am

set_option maxRecDepth 10000
def len8 : ByteArray := ⟨#[0, 1, 2, 2, 3, 3, 3, 3, 4, 4, 4, 4, 4, 4, 4, 4, 5, 5, 5, 5, 5, 5, 5, 5, 5, 5, 5, 5, 5, 5, 5, 5, 6, 6, 6, 6, 6, 6, 6, 6, 6, 6, 6, 6, 6, 6, 6, 6, 6, 6, 6, 6, 6, 6, 6, 6, 6, 6, 6, 6, 6, 6, 6, 6, 7, 7, 7, 7, 7, 7, 7, 7, 7, 7, 7, 7, 7, 7, 7, 7, 7, 7, 7, 7, 7, 7, 7, 7, 7, 7, 7, 7, 7, 7, 7, 7, 7, 7, 7, 7, 7, 7, 7, 7, 7, 7, 7, 7, 7, 7, 7, 7, 7, 7, 7, 7, 7, 7, 7, 7, 7, 7, 7, 7, 7, 7, 7, 7, 8, 8, 8, 8, 8, 8, 8, 8, 8, 8, 8, 8, 8, 8, 8, 8, 8, 8, 8, 8, 8, 8, 8, 8, 8, 8, 8, 8, 8, 8, 8, 8, 8, 8, 8, 8, 8, 8, 8, 8, 8, 8, 8, 8, 8, 8, 8, 8, 8, 8, 8, 8, 8, 8, 8, 8, 8, 8, 8, 8, 8, 8, 8, 8, 8, 8, 8, 8, 8, 8, 8, 8, 8, 8, 8, 8, 8, 8, 8, 8, 8, 8, 8, 8, 8, 8, 8, 8, 8, 8, 8, 8, 8, 8, 8, 8, 8, 8, 8, 8, 8, 8, 8, 8, 8, 8, 8, 8, 8, 8, 8, 8, 8, 8, 8, 8, 8, 8, 8, 8, 8, 8, 8, 8, 8, 8, 8, 8]⟩
def lenOf (x : Nat) : Nat := match len8[x]? with | some b => b.toNat | none => 0
theorem wu64 {n : Int} (h0 : 0 ≤ n) (h1 : n < 18446744073709551616) : IntKind.u64.wrap n = n := by
  have hb : (2 : Int) ^ (64 : Nat) = 18446744073709551616 := by decide
  simp only [IntKind.wrap, IntKind.bits, IntKind.signed, hb]
  simp
  omega
end Go.Bm

/- Sorting: the whole. -/
set_option linter.unusedVariables false
set_option linter.unusedSimpArgs false
namespace Go.Bm
open Go Go.Am

section
variable {k : Nat} {Q : Ex → Fr → BH → Prop} {f : Fr} {H : BH}
end
/-- All pairs are in order but for those within a part. -/
def Od (a b a' b' : Nat) (q : List Int) : Prop := ∀ x y, a ≤ x → x < y → y < b → ¬ (a' ≤ x ∧ y < b') → el q x ≤ el q y
/-- What stands ahead of a part is not above it. -/
def Pre (a b : Nat) (q : List Int) : Prop := 0 < a → ∀ x, a ≤ x → x < b → el q (a - 1) ≤ el q x
section
variable {a b a' b' m : Nat} {q r : List Int}
theorem Od.sg (h : Od a b a' b' q) (ha : a ≤ a') (hb : b' ≤ b) (k : Sg a' b' q r) : Od a b a' b' r := by
  intro x y h1 h2 h3 h4
  by_cases hx : a' ≤ x ∧ x < b'
  · obtain ⟨x', x1, x2, x3⟩ := k.src x hx.1 hx.2
    rw [x3, k.out y (by omega)]
    exact h x' y (by omega) (by omega) h3 (by omega)
  · rw [k.out x (by omega)]
    by_cases hy : a' ≤ y ∧ y < b'
    · obtain ⟨y', y1, y2, y3⟩ := k.src y hy.1 hy.2
      rw [y3]
      exact h x y' h1 (by omega) (by omega) (by omega)
    · rw [k.out y (by omega)]
      exact h x y h1 h2 h3 h4
theorem Pre.sg (h : Pre a' b' q) (k : Sg a' b' q r) : Pre a' b' r := fun h0 x h1 h2 => by
  obtain ⟨x', x1, x2, x3⟩ := k.src x h1 h2
  rw [x3, k.out (a' - 1) (by omega)]
  exact h h0 x' x1 x2
theorem Od.left (h : Od a b a' b' q) (ha : a ≤ a') (hb : b' ≤ b) (h1 : a' ≤ m) (h2 : m < b') (hl : ∀ x, a' ≤ x → x < m → el q x ≤ el q m) (hr : ∀ x, m < x → x < b' → el q m ≤ el q x) (k : Sg a' m q r) (hs : Srt a' m r) : Od a b (m + 1) b' r := by
  intro x y k1 k2 k3 k4
  by_cases hb2 : a' ≤ x ∧ y < b'
  · have em : el r m = el q m := k.out m (by omega)
    have hlow : ∀ z, a' ≤ z → z < m → el r z ≤ el q m := fun z z1 z2 => by
      obtain ⟨z', w1, w2, w3⟩ := k.src z z1 z2
      rw [w3]
      exact hl z' w1 w2
    have hup : ∀ z, m < z → z < b' → el q m ≤ el r z := fun z z1 z2 => by
      rw [k.out z (by omega)]
      exact hr z z1 z2
    rcases Nat.lt_trichotomy y m with hy | hy | hy
    · exact hs x y hb2.1 (by omega) hy
    · subst hy
      rw [em]
      exact hlow x hb2.1 k2
    · have h9 := hup y hy hb2.2
      rcases Nat.lt_or_ge x m with hx | hx
      · exact Int.le_trans (hlow x hb2.1 hx) h9
      · obtain rfl : x = m := by omega
        rw [em]
        exact h9
  · exact h.sg ha hb (k.mono (by omega) (by omega)) x y k1 k2 k3 hb2
theorem Od.right (h : Od a b a' b' q) (ha : a ≤ a') (hb : b' ≤ b) (h1 : a' ≤ m) (h2 : m < b') (hl : ∀ x, a' ≤ x → x < m → el q x ≤ el q m) (hr : ∀ x, m < x → x < b' → el q m ≤ el q x) (k : Sg (m + 1) b' q r) (hs : Srt (m + 1) b' r) : Od a b a' m r := by
  intro x y k1 k2 k3 k4
  by_cases hb2 : a' ≤ x ∧ y < b'
  · have em : el r m = el q m := k.out m (by omega)
    have hlow : ∀ z, a' ≤ z → z < m → el r z ≤ el q m := fun z z1 z2 => by
      rw [k.out z (by omega)]
      exact hl z z1 z2
    have hup : ∀ z, m < z → z < b' → el q m ≤ el r z := fun z z1 z2 => by
      obtain ⟨z', w1, w2, w3⟩ := k.src z (by omega) z2
      rw [w3]
      exact hr z' (by omega) w2
    rcases Nat.lt_trichotomy x m with hx | hx | hx
    · have h9 := hlow x hb2.1 hx
      rcases Nat.lt_or_ge m y with hy | hy
      · exact Int.le_trans h9 (hup y hy hb2.2)
      · obtain rfl : y = m := by omega
        rw [em]
        exact h9
    · subst hx
      rw [em]
      exact hup y k2 hb2.2
    · exact hs x y (by omega) (by omega) hb2.2
  · exact h.sg ha hb (k.mono (by omega) (by omega)) x y k1 k2 k3 hb2
theorem Od.done (h : Od a b a' b' q) (ha : a ≤ a') (hb : b' ≤ b) (hs : Srt a' b' q) : Srt a b q := fun x y h1 h2 h3 => by
  rcases Nat.lt_or_ge x y with hx | hx
  · by_cases hc : a' ≤ x ∧ y < b'
    · exact hs x y hc.1 h2 hc.2
    · exact h x y h1 hx h3 hc
  · obtain rfl : x = y := by omega
    exact Int.le_refl _
end
end Go.Bm

/- Lists of numbers as cells. -/
set_option linter.unusedVariables false
set_option linter.unusedSimpArgs false
namespace Go.Bm
open Go Go.Am

end Go.Bm

/- Lists in descending order. -/
set_option linter.unusedVariables false
set_option linter.unusedSimpArgs false
namespace Go.Bm
open Go Go.Am

/-- In descending order. -/
def Dsc (p : List Int) : Prop := ∀ i j, i ≤ j → j < p.length → el p j ≤ el p i
theorem Dsc.head {a : Int} {p : List Int} (h : Dsc (a :: p)) : ∀ x ∈ p, x ≤ a := fun x hx => by
  obtain ⟨i, hi, rfl⟩ := List.mem_iff_getElem.1 hx
  have := h 0 (i + 1) (by omega) (by simpa using hi)
  simpa [el, List.getD, hi] using this
end Go.Bm

/- Lists of numbers in descending order, made by counting. -/
set_option linter.unusedVariables false
set_option linter.unusedSimpArgs false
namespace Go.Bm
open Go Go.Am

section
variable {p : List Nat} {n : Nat}
end
end Go.Bm

/- Cycles in memory. -/
set_option linter.unusedVariables false
set_option linter.unusedSimpArgs false
namespace Go.Bm
open Go Go.Am

theorem frz_ne {i j o l e : Nat} {cs : List Value} (h : j ≠ i) : frz i cs (S j o l e) = S j o l e := by
  simp only [frz]
  rw [if_neg (fun k => h k.1)]
end Go.Bm

/- Lists put behind lists. -/
set_option linter.unusedVariables false
set_option linter.unusedSimpArgs false
namespace Go.Bm
open Go Go.Am

/-- More elements, out of what is only read. -/
def appz (c : Option (List Value)) (H : BH) (b l m bytes : Nat) (ys : List Value) : Option (Value × BH) :=
  match c with
  | some cs => if ys.length = m ∧ l ≤ cs.length ∧ (l + m) * bytes ≤ 140737488355328 ∧ ys.all one2 = true then some (S H.length 0 (l + m) 1, (H.set b none) ++ [some (cs.take l ++ ys)]) else bAppend 1 bytes (S b 0 l 1) (Fz m 1 ys) H
  | none => bAppend 1 bytes (S b 0 l 1) (Fz m 1 ys) H
theorem bApp_z {H : BH} {b l m bytes : Nat} {ys : List Value} : bAppend 1 bytes (S b 0 l 1) (Fz m 1 ys) H = appz (blk H b) H b l m bytes ys := by
  unfold appz
  split
  · rename_i cs hb
    split
    · rename_i h
      obtain ⟨h1, h2, h3, h4⟩ := h
      by_cases hm : m = 0
      · subst hm
        obtain rfl : ys = [] := List.eq_nil_of_length_eq_zero h1
        simp only [Nat.add_zero] at h3
        simp [bAppend, newC, Fz, hb, h2, h3]
      · simp only [bAppend, newC, Fz, if_neg hm, if_true, hb, Nat.mul_one]
        rw [if_pos ⟨h2, h3, h4⟩]
    · rfl
  · rfl
section
variable {H : BH} {b bytes : Nat}
theorem appz_g {α : Type} {g : α → Value} {xs ys : List α} (ho : ∀ a, one2 (g a) = true) (h : (xs.length + ys.length) * bytes ≤ 140737488355328) :
    appz (some (xs.map g)) H b xs.length ys.length bytes (ys.map g) = some (S H.length 0 (xs.length + ys.length) 1, (H.set b none) ++ [some ((xs ++ ys).map g)]) := by
  simp only [appz]
  rw [if_pos ⟨by simp, by simp, h, by simp [ho]⟩]
  simp [List.take_of_length_le]
theorem appz_0 {α : Type} {g : α → Value} {ys : List α} (ho : ∀ a, one2 (g a) = true) (h : ys.length * bytes ≤ 140737488355328) :
    appz (some []) H b 0 ys.length bytes (ys.map g) = some (S H.length 0 ys.length 1, (H.set b none) ++ [some (ys.map g)]) := by
  have := appz_g (H := H) (b := b) (bytes := bytes) (g := g) (xs := []) (ys := ys) ho (by simpa using h)
  simpa using this
theorem appz_I0 {ys : List Int} (h : ys.length * bytes ≤ 140737488355328) : appz (some []) H b 0 ys.length bytes (ys.map I) = some (S H.length 0 ys.length 1, (H.set b none) ++ [some (ys.map I)]) := appz_0 (fun _ => rfl) h
end
theorem Clone_spec {x : Bool} {xs : List Int} {H : BH} {K : Value → BH → Prop} (h0 : 0 < xs.length) (hl : xs.length ≤ 1000) (hK : K (S H.length 0 xs.length 1) (H ++ [some (xs.map I)])) :
    CallX x F_slices_Clone_int64_int64 [Fz xs.length 1 (xs.map I)] H K := by
  refine callRO (.cons .fz .nil) NNL_I ?_ hK
  refine CallX_body Γ_slices_Clone_int64_int64 ?_; simp only [A_slices_Clone_int64_int64, T_aiff]
  refine T_rseq fun Kr hKr => ?_; simp (disch := omega) only [RA, ↓reduceIte, Nat.reduceEqDiff, Nat.reduceBEq, Nat.reduceSub, Nat.reduceAdd, Nat.reduceMul, Nat.reduceLT, Nat.reduceLeDiff, Int.reduceLE, Int.reduceLT, Int.reduceEq, Int.reduceNeg, Int.reduceToNat, Int.reduceMul, Int.reduceAdd, Int.reduceSub, Int.reduceBEq, Int.reduceBNe, reduceCtorEq, RD]; refine hKr _ _ ?_; clear hKr Kr; (try simp only [RN, reduceIte]); try refine T_e rfl ?_
  refine T_rseq fun Kr hKr => ?_; simp (disch := omega) only [RA, ↓reduceIte, Nat.reduceEqDiff, Nat.reduceBEq, Nat.reduceSub, Nat.reduceAdd, Nat.reduceMul, Nat.reduceLT, Nat.reduceLeDiff, Int.reduceLE, Int.reduceLT, Int.reduceEq, Int.reduceNeg, Int.reduceToNat, Int.reduceMul, Int.reduceAdd, Int.reduceSub, Int.reduceBEq, Int.reduceBNe, reduceCtorEq, RD, eqnW_fz h0]; refine hKr _ _ ?_; clear hKr Kr; (try simp only [RN, reduceIte]); try refine T_e rfl ?_
  refine T_cseq (t := false) (by simp (disch := omega) only [RA, ↓reduceIte, Nat.reduceEqDiff, Nat.reduceBEq, Nat.reduceSub, Nat.reduceAdd, Nat.reduceMul, Nat.reduceLT, Nat.reduceLeDiff, Int.reduceLE, Int.reduceLT, Int.reduceEq, Int.reduceNeg, Int.reduceToNat, Int.reduceMul, Int.reduceAdd, Int.reduceSub, Int.reduceBEq, Int.reduceBNe, reduceCtorEq, RD]) ?_; (try simp only [RN, reduceIte]); try refine T_e rfl ?_
  refine T_rseq fun Kr hKr => ?_; simp (disch := omega) only [RA, ↓reduceIte, Nat.reduceEqDiff, Nat.reduceBEq, Nat.reduceSub, Nat.reduceAdd, Nat.reduceMul, Nat.reduceLT, Nat.reduceLeDiff, Int.reduceLE, Int.reduceLT, Int.reduceEq, Int.reduceNeg, Int.reduceToNat, Int.reduceMul, Int.reduceAdd, Int.reduceSub, Int.reduceBEq, Int.reduceBNe, reduceCtorEq, RD, bApp_z, appz_I0]; refine hKr _ _ ?_; clear hKr Kr; (try simp only [RN, reduceIte]); try refine T_e rfl ?_
  refine bodyQ_ret (by simp (disch := omega) only [RA, ↓reduceIte, Nat.reduceEqDiff, Nat.reduceBEq, Nat.reduceSub, Nat.reduceAdd, Nat.reduceMul, Nat.reduceLT, Nat.reduceLeDiff, Int.reduceLE, Int.reduceLT, Int.reduceEq, Int.reduceNeg, Int.reduceToNat, Int.reduceMul, Int.reduceAdd, Int.reduceSub, Int.reduceBEq, Int.reduceBNe, reduceCtorEq, RD, resAll, resOf]; rfl) GhV.refl ?_; simp only [tup]
  exact ⟨1, rfl, rfl⟩
theorem l01Own_spec {x : Bool} {xs : List Int} {H : BH} {K : Value → BH → Prop} (hl : xs.length ≤ 1000) (hK : K (S H.length 0 xs.length 1) (H ++ [some (xs.map I)])) :
    CallX x F_spec_l01Own [Fz xs.length 1 (xs.map I)] H K := by
  refine callRO (.cons .fz .nil) NNL_I ?_ hK
  refine CallX_body Γ_spec_l01Own ?_; simp only [A_spec_l01Own, T_aiff]
  refine T_rseq fun Kr hKr => ?_; simp (disch := omega) only [RA, ↓reduceIte, Nat.reduceEqDiff, Nat.reduceBEq, Nat.reduceSub, Nat.reduceAdd, Nat.reduceMul, Nat.reduceLT, Nat.reduceLeDiff, Int.reduceLE, Int.reduceLT, Int.reduceEq, Int.reduceNeg, Int.reduceToNat, Int.reduceMul, Int.reduceAdd, Int.reduceSub, Int.reduceBEq, Int.reduceBNe, reduceCtorEq, RD]; refine hKr _ _ ?_; clear hKr Kr; (try simp only [RN, reduceIte]); try refine T_e rfl ?_
  refine T_rseq fun Kr hKr => ?_; simp (disch := omega) only [RA, ↓reduceIte, Nat.reduceEqDiff, Nat.reduceBEq, Nat.reduceSub, Nat.reduceAdd, Nat.reduceMul, Nat.reduceLT, Nat.reduceLeDiff, Int.reduceLE, Int.reduceLT, Int.reduceEq, Int.reduceNeg, Int.reduceToNat, Int.reduceMul, Int.reduceAdd, Int.reduceSub, Int.reduceBEq, Int.reduceBNe, reduceCtorEq, RD, bApp_z, appz_I0]; refine hKr _ _ ?_; clear hKr Kr; (try simp only [RN, reduceIte]); try refine T_e rfl ?_
  refine bodyQ_ret (by simp (disch := omega) only [RA, ↓reduceIte, Nat.reduceEqDiff, Nat.reduceBEq, Nat.reduceSub, Nat.reduceAdd, Nat.reduceMul, Nat.reduceLT, Nat.reduceLeDiff, Int.reduceLE, Int.reduceLT, Int.reduceEq, Int.reduceNeg, Int.reduceToNat, Int.reduceMul, Int.reduceAdd, Int.reduceSub, Int.reduceBEq, Int.reduceBNe, reduceCtorEq, RD, resAll, resOf]; rfl) GhV.refl ?_; simp only [tup]
  exact ⟨1, rfl, rfl⟩
end Go.Bm

/- Draws: a source of numbers. What it draws is not followed, but its range. -/
set_option linter.unusedVariables false
set_option linter.unusedSimpArgs false
namespace Go.Bm
open Go Go.Am

abbrev U64 (h : Int) : Value := .int .u64 h
def SC (code : List Nat) (a : Nat) (h : Int) : List Value := [Fz code.length 1 (code.map N8), I a, U64 h]
section
variable {code : List Nat} {a b : Nat} {h : Int} {H : BH}
theorem sc_0 : getN none (SC code a h) 0 = some (Fz code.length 1 (code.map N8)) := rfl
theorem sc_1 : getN none (SC code a h) 1 = some (I a) := rfl
theorem sc_2 : getN none (SC code a h) 2 = some (U64 h) := rfl
theorem sc_s1 {x : Nat} : stO (some (SC code a h)) H b 1 1 (.int .i64 (x : Int)) = some (undef, H.set b (some (SC code x h))) := by
  rw [stO_1 rfl rfl rfl (by simp [SC])]
  rfl
theorem sc_s2 {x : Int} : stO (some (SC code a h)) H b 2 1 (.int .u64 x) = some (undef, H.set b (some (SC code a x))) := by
  rw [stO_1 rfl rfl rfl (by simp [SC])]
  rfl
theorem sc_f {x : Int} : fillL [.slice none 0 0, .int .i64 0, .int .u64 0] [(0, 1, Fz code.length 1 (code.map N8)), (2, 1, .int .u64 x)] = some (SC code 0 x) := by
  simp [fillL, cellsL, SC, splice, Fz]
theorem NN_SC : NNL (SC code a h) := NNL.cons .fz (NNL.cons .int (NNL.cons .int NNL.nil))
theorem and24 {x : Int} : 0 ≤ IntKind.u64.wrap ((BitVec.ofInt IntKind.u64.bits x &&& BitVec.ofInt IntKind.u64.bits 16777215).toNat : Int) ∧ IntKind.u64.wrap ((BitVec.ofInt IntKind.u64.bits x &&& BitVec.ofInt IntKind.u64.bits 16777215).toNat : Int) ≤ 16777215 := by
  have h1 : (BitVec.ofInt IntKind.u64.bits x &&& BitVec.ofInt IntKind.u64.bits 16777215).toNat ≤ 16777215 := by
    rw [BitVec.toNat_and]
    exact Nat.le_trans Nat.and_le_right (by decide)
  have h2 : IntKind.u64.wrap ((BitVec.ofInt IntKind.u64.bits x &&& BitVec.ofInt IntKind.u64.bits 16777215).toNat : Int) = ((BitVec.ofInt IntKind.u64.bits x &&& BitVec.ofInt IntKind.u64.bits 16777215).toNat : Int) := by
    generalize (BitVec.ofInt IntKind.u64.bits x &&& BitVec.ofInt IntKind.u64.bits 16777215).toNat = k at h1
    exact wu64 (by omega) (by omega)
  rw [h2]
  omega
theorem l01Next_one {n : Int} {K : Value → BH → Prop} (ha : a ≤ code.length) (hl : code.length ≤ 1048576) (hcd : ∀ i, nl code i < 256) (hn : n < 4611686018427387904)
    (hK : ∀ v a' h', a' ≤ code.length → 0 ≤ v → v ≤ 16777470 → (0 < n → v < n) → (n < 1 → v = 0) → K (I v) [some (SC code a' h')]) : CallX false F_spec_l01Next [P 0 0, I n] [some (SC code a h)] K := by
  refine CallX_body Γ_spec_l01Next ?_; simp only [A_spec_l01Next, T_aiff]
  refine T_rseq fun Kr hKr => ?_; simp (disch := omega) only [RA, ↓reduceIte, Nat.reduceEqDiff, RD]; refine hKr _ _ ?_; clear hKr Kr; (try simp only [RN, reduceIte]); try refine T_e rfl ?_
  refine T_rseq fun Kr hKr => ?_; simp (disch := omega) only [RA, ↓reduceIte, Nat.reduceEqDiff, RD]; refine hKr _ _ ?_; clear hKr Kr; (try simp only [RN, reduceIte]); try refine T_e rfl ?_
  refine T_csplit (p := n < 1) (by simp only [RA, ↓reduceIte, Nat.reduceEqDiff] <;> rfl) (by (try simp only [RB]) <;> first | done | exact Iff.rfl | omega | simp) (fun hc => ?_) (fun hc => ?_) <;> (try simp only [RN, reduceIte]) <;> (try refine T_e rfl ?_)
  · refine T_rseq fun Kr hKr => ?_; simp (disch := omega) only [RA, ↓reduceIte, Nat.reduceEqDiff, RD]; refine hKr _ _ ?_; clear hKr Kr; (try simp only [RN, reduceIte]); try refine T_e rfl ?_
    refine bodyQ_ret (by simp (disch := omega) only [RA, ↓reduceIte, Nat.reduceEqDiff, RD, resAll, resOf]; rfl) GhV.refl ?_; simp only [tup]
    exact hK 0 a h ha (by omega) (by omega) (fun h => by omega) (fun _ => rfl)
  · refine T_rseq fun Kr hKr => ?_; simp (disch := omega) only [RA, ↓reduceIte, Nat.reduceEqDiff, reduceCtorEq, RD, sc_2, sc_s2]; refine hKr _ _ ?_; clear hKr Kr; (try simp only [RN, reduceIte]); try refine T_e rfl ?_
    generalize IntKind.u64.wrap (IntKind.u64.wrap (h * 6364136223846793005) + 1442695040888963407) = h2
    refine T_rseq fun Kr hKr => ?_; simp (disch := omega) only [RA, ↓reduceIte, Nat.reduceEqDiff, Int.reduceToNat, reduceCtorEq, RD, sc_2, sc_s2]; refine hKr _ _ ?_; clear hKr Kr; (try simp only [RN, reduceIte]); try refine T_e rfl ?_
    obtain ⟨y, hy, hy0, hy1⟩ : ∃ y, IntKind.u64.wrap ((BitVec.ofInt IntKind.u64.bits (h2.fdiv (2 ^ min 33 IntKind.u64.bits)) &&& BitVec.ofInt IntKind.u64.bits 16777215).toNat : Int) = y ∧ 0 ≤ y ∧ y ≤ 16777215 := ⟨_, rfl, and24.1, and24.2⟩
    rw [hy]
    have hyw : IntKind.i64.wrap y = y := w64 (by omega) (by omega)
    rw [hyw]
    have hend : ∀ f' y' a', 0 ≤ y' → y' ≤ 16777470 → a' ≤ code.length → f' 1 = I n → f' 5 = I y' → T 1 (.seq A_spec_l01Next.r8 .ret) (bodyQ 1 [.tmp 4] K) f' [some (SC code a' h2)] := by
      intro f' y' a' k1 k2 k3 g1 g5
      have hn0 : n ≠ 0 := by omega
      refine T_rseq fun Kr hKr => ?_; simp (disch := omega) only [RA, ↓reduceIte, Nat.reduceEqDiff, RD, g1, g5, hn0]; refine hKr _ _ ?_; clear hKr Kr; (try simp only [RN, reduceIte]); try refine T_e rfl ?_
      refine bodyQ_ret (by simp (disch := omega) only [RA, ↓reduceIte, Nat.reduceEqDiff, RD, resAll, resOf]; rfl) GhV.refl ?_; simp only [tup]
      have t1 := Int.tmod_nonneg n k1
      have t2 := Int.tmod_lt_of_pos y' (show 0 < n by omega)
      have t3 : y'.tmod n ≤ y' := by
        rw [Int.tmod_eq_emod_of_nonneg k1]
        have q := Int.mul_ediv_add_emod y' n
        have q2 := Int.mul_nonneg (show 0 ≤ n by omega) (Int.ediv_nonneg k1 (show 0 ≤ n by omega))
        omega
      exact hK _ a' h2 k3 t1 (by omega) (fun _ => t2) (fun h => by omega)
    refine T_rseq fun Kr hKr => ?_; simp (disch := omega) only [RA, ↓reduceIte, Nat.reduceEqDiff, RD, sc_1, sc_0]; refine hKr _ _ ?_; clear hKr Kr; (try simp only [RN, reduceIte]); try refine T_e rfl ?_
    refine T_csplit (p := a < code.length) (by simp only [RA, ↓reduceIte, Nat.reduceEqDiff] <;> rfl) (by (try simp only [RB]) <;> first | done | exact Iff.rfl | omega | simp) (fun hc => ?_) (fun hc => ?_) <;> (try simp only [RN, reduceIte]) <;> (try refine T_e rfl ?_)
    · have hcc := hcd a
      refine T_rseq fun Kr hKr => ?_; simp (disch := omega) only [RA, ↓reduceIte, Nat.reduceEqDiff, RD, sc_1, sc_0]; refine hKr _ _ ?_; clear hKr Kr; (try simp only [RN, reduceIte]); try refine T_e rfl ?_
      have e1 : ((a : Nat) : Int) + 1 = ((a + 1 : Nat) : Int) := by omega
      refine T_rseq fun Kr hKr => ?_; simp (disch := omega) only [RA, ↓reduceIte, Nat.reduceEqDiff, RD, sc_1, e1, sc_s1]; refine hKr _ _ ?_; clear hKr Kr; (try simp only [RN, reduceIte]); try refine T_e rfl ?_
      refine hend _ (y + nl code a) (a + 1) (by omega) (by omega) (by omega) ?_ ?_
      any_goals (simp (disch := omega) only [RA, ↓reduceIte, Nat.reduceEqDiff, RD, RE, *] <;> rfl)
    · refine hend _ y a (by omega) (by omega) ha ?_ ?_
      any_goals (simp (disch := omega) only [RA, ↓reduceIte, Nat.reduceEqDiff, RD, RE, *] <;> rfl)
theorem l01Next_spec {n : Int} {i : Nat} {K : Value → BH → Prop} (hb : blk H i = some (SC code a h)) (ha : a ≤ code.length) (hl : code.length ≤ 1048576) (hcd : ∀ i, nl code i < 256) (hn : n < 4611686018427387904)
    (hK : ∀ v a' h', a' ≤ code.length → 0 ≤ v → v ≤ 16777470 → (0 < n → v < n) → (n < 1 → v = 0) → K (I v) (H.set i (some (SC code a' h')))) : CallX false F_spec_l01Next [P i 0, I n] H K := by
  refine call1 hb NN_SC ?_
  have e : ([P i 0, I n] : List Value).map (ren [i]) = [P 0 0, I n] := by simp [ren, ren1, nm]
  rw [e]
  exact l01Next_one ha hl hcd hn fun v a' h' k1 k2 k3 k4 k5 => ⟨.int, HN.cons NN_SC HN.nil, hK v a' h' k1 k2 k3 k4 k5⟩
theorem l01From_run (hl : code.length ≤ 1048576) (hcd : ∀ i, nl code i < 256) : CallX false F_spec_l01From [Fz code.length 1 (code.map N8)] [] fun v H1 => ∃ j h, v = P j 0 ∧ blk H1 j = some (SC code 0 h) := by
  refine CallX_body Γ_spec_l01From ?_; simp only [A_spec_l01From, T_aiff]
  refine T_rseq fun Kr hKr => ?_; simp (disch := omega) only [RA, ↓reduceIte, Nat.reduceEqDiff, RD]; refine hKr _ _ ?_; clear hKr Kr; (try simp only [RN, reduceIte]); try refine T_e rfl ?_
  refine T_rseq fun Kr hKr => ?_; simp (disch := omega) only [RA, ↓reduceIte, Nat.reduceEqDiff, RD, sc_f]; refine hKr _ _ ?_; clear hKr Kr; (try simp only [RN, reduceIte]); try refine T_e rfl ?_
  refine T_rseq fun Kr hKr => ?_; simp (disch := omega) only [RA, ↓reduceIte, Nat.reduceEqDiff, RD]; refine hKr _ _ ?_; clear hKr Kr; (try simp only [RN, reduceIte]); try refine T_e rfl ?_
  refine T_wloop (fun d f H' => ∃ i h, i ≤ code.length ∧ d = code.length - i ∧ f 0 = Fz code.length 1 (code.map N8) ∧ f 3 = P 0 0 ∧ f 4 = I i ∧ H' = [some (SC code 0 h)]) (code.length) ?_ ?_
  · refine ⟨_, _, Gh.refl, 0, _, by omega, by omega, ?_, ?_, ?_, rfl⟩
    any_goals (simp (disch := omega) only [RA, ↓reduceIte, Nat.reduceEqDiff, RD, RE, *] <;> rfl)
  · rintro d f H' R ⟨i, h, hi, rfl, g0, g3, g4, rfl⟩ hN hX hR hE
    simp only [A_spec_l01From.l0, T_aiff]
    by_cases h1 : i < code.length
    · by_cases h2 : i < 4096
      · have hcc := hcd i
        refine T_rseq fun Kr hKr => ?_; simp (disch := omega) only [RA, ↓reduceIte, Nat.reduceEqDiff, RD, g0, g4]; refine hKr _ _ ?_; clear hKr Kr; (try simp only [RN, reduceIte]); try refine T_e rfl ?_
        refine T_cseq (t := true) (by simp (disch := omega) only [RA, ↓reduceIte, Nat.reduceEqDiff, RD]) ?_; (try simp only [RN, reduceIte]); try refine T_e rfl ?_
        (first | refine T_bfree rfl ?_ | refine T_bfree' rfl ?_); (try simp only [RN, reduceIte]); try refine T_e rfl ?_
        refine T_rseq fun Kr hKr => ?_; simp (disch := omega) only [RA, ↓reduceIte, Nat.reduceEqDiff, RD, g0, g3, g4, sc_2, sc_s2]; refine hKr _ _ ?_; clear hKr Kr; (try simp only [RN, reduceIte]); try refine T_e rfl ?_
        refine T_reg_k fun Kr hKr => ?_; simp (disch := omega) only [RA, ↓reduceIte, Nat.reduceEqDiff, RD, g4]; refine hKr _ _ ?_; clear hKr Kr
        refine hN (code.length - (i + 1)) _ _ _ _ (by omega) Gh.refl ⟨i + 1, _, by omega, rfl, ?_, ?_, ?_, rfl⟩
        any_goals (simp (disch := omega) only [RA, ↓reduceIte, Nat.reduceEqDiff, RD, RE, *] <;> rfl)
      · refine T_rseq fun Kr hKr => ?_; simp (disch := omega) only [RA, ↓reduceIte, Nat.reduceEqDiff, RD, g0, g4]; refine hKr _ _ ?_; clear hKr Kr; (try simp only [RN, reduceIte]); try refine T_e rfl ?_
        refine T_cseq (t := false) (by simp (disch := omega) only [RA, ↓reduceIte, Nat.reduceEqDiff, RD]) ?_; (try simp only [RN, reduceIte]); try refine T_e rfl ?_
        refine hX _ _ ?_
        refine T_rseq fun Kr hKr => ?_; simp (disch := omega) only [RA, ↓reduceIte, Nat.reduceEqDiff, RD, g3]; refine hKr _ _ ?_; clear hKr Kr; (try simp only [RN, reduceIte]); try refine T_e rfl ?_
        refine bodyQ_ret (by simp (disch := omega) only [RA, ↓reduceIte, Nat.reduceEqDiff, RD, resAll, resOf]; rfl) GhV.refl ?_; simp only [tup]
        exact ⟨0, h, rfl, rfl⟩
    · refine T_rseq fun Kr hKr => ?_; simp (disch := omega) only [RA, ↓reduceIte, Nat.reduceEqDiff, RD, g0, g4]; refine hKr _ _ ?_; clear hKr Kr; (try simp only [RN, reduceIte]); try refine T_e rfl ?_
      refine T_cseq (t := false) (by simp (disch := omega) only [RA, ↓reduceIte, Nat.reduceEqDiff, RD]) ?_; (try simp only [RN, reduceIte]); try refine T_e rfl ?_
      refine hX _ _ ?_
      refine T_rseq fun Kr hKr => ?_; simp (disch := omega) only [RA, ↓reduceIte, Nat.reduceEqDiff, RD, g3]; refine hKr _ _ ?_; clear hKr Kr; (try simp only [RN, reduceIte]); try refine T_e rfl ?_
      refine bodyQ_ret (by simp (disch := omega) only [RA, ↓reduceIte, Nat.reduceEqDiff, RD, resAll, resOf]; rfl) GhV.refl ?_; simp only [tup]
      exact ⟨0, h, rfl, rfl⟩
theorem l01From_spec {x : Bool} {K : Value → BH → Prop} (hl : code.length ≤ 1048576) (hcd : ∀ i, nl code i < 256) (hK : ∀ h, K (P H.length 0) (H ++ [some (SC code 0 h)])) :
    CallX x F_spec_l01From [Fz code.length 1 (code.map N8)] H K :=
  callR2 (.cons .fz .nil) ((l01From_run hl hcd).mono fun v H1 ⟨j, h, h1, h2⟩ => ⟨j, _, _, fun ρ ρ' Z u hr hv => by
    rw [h1] at hv
    obtain ⟨b, hb, rfl⟩ := hv.ptr_inv
    exact .ptr (by rw [hr]; exact hb), h2, NN_SC, hK h⟩)
theorem l01Pick_spec {xs : List Int} {i : Nat} {K : Value → BH → Prop} (hb : blk H i = some (SC code a h)) (ha : a ≤ code.length) (hl : code.length ≤ 1048576) (hcd : ∀ i, nl code i < 256) (h0 : 0 < xs.length) (hx : xs.length ≤ 1000)
    (hK : ∀ k a' h', k < xs.length → a' ≤ code.length → K (I (el xs k)) (H.set i (some (SC code a' h')))) : CallX false F_spec_l01Pick [P i 0, Fz xs.length 1 (xs.map I)] H K := by
  refine call1 hb NN_SC ?_
  have e : ([P i 0, Fz xs.length 1 (xs.map I)] : List Value).map (ren [i]) = [P 0 0, Fz xs.length 1 (xs.map I)] := by simp [ren, ren1, nm, Fz]
  rw [e]
  refine CallX_body Γ_spec_l01Pick ?_; simp only [A_spec_l01Pick, T_aiff]
  refine T_rseq fun Kr hKr => ?_; simp (disch := omega) only [RA, ↓reduceIte, Nat.reduceEqDiff, RD]; refine hKr _ _ ?_; clear hKr Kr; (try simp only [RN, reduceIte]); try refine T_e rfl ?_
  refine T_rseq fun Kr hKr => ?_; simp (disch := omega) only [RA, ↓reduceIte, Nat.reduceEqDiff, RD]
  refine l01Next_spec (i := 0) rfl ha hl hcd (by omega) fun v a' h' k1 k2 k3 k4 k5 => ?_
  have hv := k4 (by omega)
  obtain ⟨k, rfl⟩ : ∃ k : Nat, v = k := ⟨v.toNat, by omega⟩
  simp (disch := omega) only [RA, ↓reduceIte, Nat.reduceEqDiff, RD]
  refine hKr _ _ ?_; clear hKr Kr; (try simp only [blkQ, thenQ, loopQ]); (try simp only [RN, reduceIte]); try refine T_e rfl ?_
  refine bodyQ_ret (by simp (disch := omega) only [RA, ↓reduceIte, Nat.reduceEqDiff, RD, resAll, resOf]; rfl) GhV.refl ?_; simp only [tup]
  exact ⟨.int, HN.cons NN_SC HN.nil, hK k a' h' (by omega) k1⟩
end
end Go.Bm

/- What is reached from each dart, and names from a dart: the plain law. -/
set_option linter.unusedVariables false
set_option linter.unusedSimpArgs false
namespace Go.Bm
open Go Go.Am

def none16 : List Bool := List.replicate 16 false
theorem none16_bl {x : Nat} : bl none16 x = false := bl_rep
theorem none16_len : none16.length = 16 := by simp [none16]
/-- One starts at x, nothing met but x. -/
def stA (x : Nat) : BS := (none16.set x true, [x])
/-- What stands once what the first d lead to has been met. -/
structure BfOk (ls : List (List Nat)) (n x d : Nat) (st : BS) : Prop where
  len : st.1.length = 16
  mem : ∀ y, bl st.1 y = true ↔ y ∈ st.2
  nod : st.2.Nodup
  lt : ∀ y ∈ st.2, y < n
  pre : ∃ r, st.2 = x :: r
  le : d ≤ st.2.length
  done : ∀ j, j < d → ∀ p ∈ ls, nl p (nl st.2 j) ∈ st.2
theorem BfOk.visit {ls : List (List Nat)} {n x d y : Nat} {st : BS} (hn : n ≤ 16) (h : BfOk ls n x d st) (hy : y < n) : BfOk ls n x d (Bm.visit st y) ∧ (∃ q, (Bm.visit st y).2 = st.2 ++ q) ∧ y ∈ (Bm.visit st y).2 := by
  unfold Bm.visit
  by_cases hb : bl st.1 y = true
  · rw [if_pos hb]
    exact ⟨h, ⟨[], by simp⟩, (h.mem y).1 hb⟩
  · rw [if_neg hb]
    have hny : y ∉ st.2 := fun hm => hb ((h.mem y).2 hm)
    refine ⟨⟨by simpa using h.len, fun z => ?_, ?_, fun z hz => ?_, ?_, ?_, fun j hj1 p hp => ?_⟩, ⟨[y], rfl⟩, by simp⟩
    · show bl (st.1.set y true) z = true ↔ z ∈ st.2 ++ [y]
      rw [bl_set]
      by_cases e : z = y
      · subst e
        rw [if_pos ⟨rfl, by have := h.len; omega⟩]
        simp
      · rw [if_neg (fun k => e k.1), h.mem z]
        simp [e]
    · show (st.2 ++ [y]).Nodup
      rw [List.nodup_append]
      exact ⟨h.nod, by simp, fun a ha b hb => by
        rw [List.mem_singleton] at hb
        subst hb
        exact fun e => hny (e ▸ ha)⟩
    · rcases List.mem_append.1 hz with k | k
      · exact h.lt z k
      · rw [List.mem_singleton] at k
        omega
    · obtain ⟨r, hr⟩ := h.pre
      exact ⟨r ++ [y], by show st.2 ++ [y] = _; rw [hr]; rfl⟩
    · show d ≤ (st.2 ++ [y]).length
      have := h.le
      simp
      omega
    · show nl p (nl (st.2 ++ [y]) j) ∈ st.2 ++ [y]
      rw [nl_append, if_pos (by have := h.le; omega)]
      exact List.mem_append_left _ (h.done j hj1 p hp)
theorem BfOk.round {ls : List (List Nat)} {n x d z : Nat} (hn : n ≤ 16) : ∀ {l2 : List (List Nat)} {st : BS}, BfOk ls n x d st → (∀ p ∈ l2, nl p z < n) → BfOk ls n x d (roundX l2 z st) ∧ (∃ q, (roundX l2 z st).2 = st.2 ++ q) ∧ ∀ p ∈ l2, nl p z ∈ (roundX l2 z st).2
  | [], st, h, _ => ⟨h, ⟨[], by simp [roundX]⟩, by simp⟩
  | p :: l2, st, h, hp => by
    obtain ⟨h1, ⟨q1, h2⟩, h3⟩ := h.visit hn (hp p (by simp))
    obtain ⟨h4, ⟨q2, h5⟩, h6⟩ := BfOk.round hn (l2 := l2) h1 fun q hq => hp q (by simp [hq])
    have e : roundX (p :: l2) z st = roundX l2 z (Bm.visit st (nl p z)) := rfl
    rw [e]
    refine ⟨h4, ⟨q1 ++ q2, by rw [h5, h2, List.append_assoc]⟩, fun q hq => ?_⟩
    rcases List.mem_cons.1 hq with rfl | hq
    · rw [h5]
      exact List.mem_append_left _ h3
    · exact h6 q hq
theorem BfOk.bfs {ls : List (List Nat)} {n x : Nat} {st : BS} (hn : n ≤ 16) (hl : ∀ p ∈ ls, ∀ y, y < n → nl p y < n) (h : BfOk ls n x 0 st) : ∀ i, BfOk ls n x (min i (Bm.bfs ls st i).2.length) (Bm.bfs ls st i)
  | 0 => by rw [Nat.zero_min]; exact h
  | i + 1 => by
    have ih := BfOk.bfs hn hl h i
    simp only [Bm.bfs]
    generalize Bm.bfs ls st i = s at ih ⊢
    by_cases hi : i < s.2.length
    · rw [if_pos hi]
      rw [Nat.min_eq_left (by omega)] at ih
      obtain ⟨h1, ⟨q, h2⟩, h3⟩ := ih.round hn (z := nl s.2 i) (l2 := ls) fun p hp => hl p hp _ (ih.lt _ (nl_mem hi))
      have hlen : i + 1 ≤ (roundX ls (nl s.2 i) s).2.length := by rw [h2]; simp; omega
      rw [Nat.min_eq_left hlen]
      refine ⟨h1.len, h1.mem, h1.nod, h1.lt, h1.pre, hlen, fun j hj p hp => ?_⟩
      by_cases e : j = i
      · subst e
        have : nl (roundX ls (nl s.2 j) s).2 j = nl s.2 j := by rw [h2, nl_append, if_pos hi]
        rw [this]
        exact h3 p hp
      · exact h1.done j (by omega) p hp
    · rw [if_neg hi]
      rw [Nat.min_eq_right (by omega)] at ih
      rw [Nat.min_eq_right (by omega)]
      exact ih
theorem BfOk.start {ls : List (List Nat)} {n x : Nat} (hn : n ≤ 16) (hx : x < n) : BfOk ls n x 0 (stA x) := by
  refine ⟨by simp [stA, none16_len], fun y => ?_, by simp [stA], fun y hy => ?_, ⟨[], rfl⟩, Nat.zero_le _, fun j hj => by omega⟩
  · show bl (none16.set x true) y = true ↔ y ∈ [x]
    rw [bl_set, none16_len, none16_bl]
    by_cases e : y = x
    · rw [if_pos ⟨e, by omega⟩]; simp [e]
    · rw [if_neg (fun k => e k.1)]; simp [e]
  · rw [show (stA x).2 = [x] from rfl, List.mem_singleton] at hy
    omega
theorem nodup_le {n : Nat} {l : List Nat} (h : l.Nodup) (hl : ∀ x ∈ l, x < n) : l.length ≤ n := by
  have := List.Nodup.length_le_of_subset h (l₂ := List.range n) fun x hx => List.mem_range.2 (hl x hx)
  simpa using this
theorem nodup_full {n : Nat} {l : List Nat} (h : l.Nodup) (hl : ∀ x ∈ l, x < n) (hn : n ≤ l.length) {x : Nat} (hx : x < n) : x ∈ l := by
  apply Classical.byContradiction
  intro hxl
  have := nodup_le (n := n) (l := x :: l) (List.nodup_cons.2 ⟨hxl, h⟩) (by
    intro y hy
    rcases List.mem_cons.1 hy with rfl | hy
    · exact hx
    · exact hl y hy)
  rw [List.length_cons] at this
  omega
/-- The darts in the order in which they are met from x. -/
def ord (b w : List Nat) (x : Nat) : List Nat := (bfs [b, w] (stA x) 16).2
section
variable {b w : List Nat} {n : Nat}
theorem ord_bf (hb : Perm b n) (hw : Perm w n) {x : Nat} (hx : x < n) : BfOk [b, w] n x (ord b w x).length (bfs [b, w] (stA x) 16) := by
  have hn := hb.1
  have h := (BfOk.start (ls := [b, w]) (x := x) (n := n) (by omega) hx).bfs (by omega) (by
    intro p hp y hy
    simp only [List.mem_cons, List.not_mem_nil, or_false] at hp
    rcases hp with rfl | rfl
    · exact hb.lt hy
    · exact hw.lt hy) 16
  have h16 := nodup_le h.nod h.lt
  rw [Nat.min_eq_right (by omega)] at h
  exact h
theorem ord_cl (hb : Perm b n) (hw : Perm w n) {x : Nat} (hx : x < n) : ∀ y ∈ ord b w x, nl b y ∈ ord b w x ∧ nl w y ∈ ord b w x := fun y hy => by
  have h := ord_bf hb hw hx
  obtain ⟨j, hj, rfl⟩ := mem_nl hy
  exact ⟨h.done j hj b (by simp), h.done j hj w (by simp)⟩
/-- What a permutation leads into itself is also led into itself backwards. -/
theorem closed_bwd {p : List Nat} (hp : Perm p n) {S : Nat → Prop} (hS : ∀ x, x < n → S x → S (nl p x)) {x : Nat} (hx : x < n) (h : S (nl p x)) : S x := by
  obtain ⟨c, hc, hxc⟩ := cyc_at hp hx
  have hi := cyc_is hp hc
  obtain ⟨j, hj, hje⟩ := mem_nl (hi.fwd hxc)
  have hup : ∀ d, j + d < c.length → S (nl c (j + d)) := by
    intro d
    induction d with
    | zero => intro _; rw [Nat.add_zero, hje]; exact h
    | succ d ih =>
      intro hd
      rw [← Nat.add_assoc, ← hi.step (j + d) (by omega)]
      exact hS _ (hi.lt _ (nl_mem (by omega))) (ih (by omega))
  have h0 : S (nl c 0) := by
    rw [← hi.last]
    have := hup (c.length - 1 - j) (by omega)
    rw [show j + (c.length - 1 - j) = c.length - 1 by omega] at this
    exact hS _ (hi.lt _ (nl_mem (by omega))) this
  have hall : ∀ k, k < c.length → S (nl c k) := by
    intro k
    induction k with
    | zero => intro _; exact h0
    | succ k ih =>
      intro hk
      rw [← hi.step k hk]
      exact hS _ (hi.lt _ (nl_mem (by omega))) (ih (by omega))
  obtain ⟨k, hk, rfl⟩ := mem_nl hxc
  exact hall k hk
theorem Des.reach (h : Des n b w) {y : Nat} (hy : y < n) : y ∈ ord b w 0 := by
  obtain ⟨hb, hw, hr⟩ := h
  have hn := hb.1
  have h1 := ord_bf hb hw (x := 0) (by omega)
  refine nodup_full h1.nod h1.lt ?_ hy
  have : (Bm.reach b w).2.length = n := by omega
  have e : (bfs [b, w] (stA 0) 16).2.length = n := this
  omega
/-- What is true of 0 and led on by both permutations is true of all darts. -/
theorem Des.ind (h : Des n b w) (S : Nat → Prop) (s1 : ∀ z, z < n → S z → S (nl b z)) (s2 : ∀ z, z < n → S z → S (nl w z)) (s0 : S 0) : ∀ z, z < n → S z := by
  obtain ⟨hb, hw, hr⟩ := id h
  have hn := hb.1
  intro z hz
  have hcl : ∀ i, ∀ z ∈ (bfs [b, w] (stA 0) i).2, z < n ∧ S z := by
    have hv : ∀ (st : BS) (y : Nat), (∀ z ∈ st.2, z < n ∧ S z) → y < n → S y → ∀ z ∈ (visit st y).2, z < n ∧ S z := by
      intro st y h1 h2 h3 z hz
      unfold visit at hz
      split at hz
      · exact h1 z hz
      · rcases List.mem_append.1 hz with k | k
        · exact h1 z k
        · rw [List.mem_singleton] at k
          subst k
          exact ⟨h2, h3⟩
    intro i
    induction i with
    | zero =>
      intro z hz
      have : z = 0 := by simpa [bfs, stA] using hz
      subst this
      exact ⟨by omega, s0⟩
    | succ i ih =>
      simp only [bfs]
      split
      · rename_i hi
        obtain ⟨hz1, hz2⟩ := ih _ (nl_mem hi)
        exact hv _ _ (hv _ _ ih (hb.lt hz1) (s1 _ hz1 hz2)) (hw.lt hz1) (s2 _ hz1 hz2)
      · exact ih
  exact (hcl 16 z (h.reach hz)).2
/-- From each dart all are reached. -/
theorem Des.all (h : Des n b w) {x y : Nat} (hx : x < n) (hy : y < n) : y ∈ ord b w x := by
  obtain ⟨hb, hw, hr⟩ := id h
  have hn := hb.1
  have h0 := h.ind
  have hx0 : (ord b w x) = (ord b w x) := rfl
  have hfw := ord_cl hb hw hx
  have key : ∀ z, z < n → (z ∈ ord b w x ↔ 0 ∈ ord b w x) := by
    refine h0 _ ?_ ?_ Iff.rfl
    · intro z hz hS
      rw [← hS]
      exact ⟨closed_bwd hb (S := fun z => z ∈ ord b w x) (fun z _ h => (hfw z h).1) hz, fun h => (hfw z h).1⟩
    · intro z hz hS
      rw [← hS]
      exact ⟨closed_bwd hw (S := fun z => z ∈ ord b w x) (fun z _ h => (hfw z h).2) hz, fun h => (hfw z h).2⟩
  have hxx : x ∈ ord b w x := by
    obtain ⟨r, hr⟩ := (ord_bf hb hw hx).pre
    rw [ord, hr]
    simp
  exact (key y hy).2 ((key x hx).1 hxx)
/-! ### Names -/
end
section
variable {b w b' w' : List Nat} {n : Nat}
/-- Two dessins that a map of the darts leads to each other. -/
structure Iso (n : Nat) (b w b' w' : List Nat) (φ : Nat → Nat) : Prop where
  lt : ∀ y, y < n → φ y < n
  inj : ∀ y z, y < n → z < n → φ y = φ z → y = z
  b : ∀ y, y < n → nl b' (φ y) = φ (nl b y)
  w : ∀ y, y < n → nl w' (φ y) = φ (nl w y)
structure BfRel (n : Nat) (φ : Nat → Nat) (st st' : BS) : Prop where
  ord : st'.2 = st.2.map φ
  lt : ∀ y ∈ st.2, y < n
  met : ∀ y, y < n → bl st'.1 (φ y) = bl st.1 y
  len : st.1.length = 16 ∧ st'.1.length = 16
theorem BfRel.visit {φ : Nat → Nat} {st st' : BS} {y : Nat} (hn : n ≤ 16) (hl : ∀ y, y < n → φ y < n) (hinj : ∀ y z, y < n → z < n → φ y = φ z → y = z) (h : BfRel n φ st st') (hy : y < n) : BfRel n φ (Bm.visit st y) (Bm.visit st' (φ y)) := by
  unfold Bm.visit
  rw [h.met y hy]
  by_cases hb : bl st.1 y = true
  · rw [if_pos hb, if_pos hb]; exact h
  · rw [if_neg hb, if_neg hb]
    refine ⟨by simp [h.ord], fun z hz => ?_, fun z hz => ?_, by simpa using h.len⟩
    · rcases List.mem_append.1 hz with k | k
      · exact h.lt z k
      · rw [List.mem_singleton] at k; omega
    · show bl (st'.1.set (φ y) true) (φ z) = bl (st.1.set y true) z
      have := hl y hy
      rw [bl_set, bl_set, h.len.1, h.len.2, h.met z hz]
      by_cases e : z = y
      · subst e; rw [if_pos ⟨rfl, by omega⟩, if_pos ⟨rfl, by omega⟩]
      · rw [if_neg (fun k => e (hinj _ _ hz hy k.1)), if_neg (fun k => e k.1)]
theorem nl_map {φ : Nat → Nat} {l : List Nat} {i : Nat} (h : i < l.length) : nl (l.map φ) i = φ (nl l i) := by simp [nl, List.getD, h]
theorem Iso.ord {φ : Nat → Nat} (hn : n ≤ 16) (hb : Perm b n) (hw : Perm w n) (h : Iso n b w b' w' φ) {x : Nat} (hx : x < n) : Bm.ord b' w' (φ x) = (Bm.ord b w x).map φ := by
  have key : ∀ i, BfRel n φ (bfs [b, w] (stA x) i) (bfs [b', w'] (stA (φ x)) i) := by
    intro i
    induction i with
    | zero =>
      refine ⟨rfl, fun y hy => ?_, fun y hy => ?_, by simp [bfs, stA, none16_len]⟩
      · have : y = x := by simpa [bfs, stA] using hy
        omega
      · show bl (none16.set (φ x) true) (φ y) = bl (none16.set x true) y
        have := h.lt x hx
        rw [bl_set, bl_set, none16_len, none16_bl, none16_bl]
        by_cases e : y = x
        · subst e; rw [if_pos ⟨rfl, by omega⟩, if_pos ⟨rfl, by omega⟩]
        · rw [if_neg (fun k => e (h.inj _ _ hy hx k.1)), if_neg (fun k => e k.1)]
    | succ i ih =>
      simp only [bfs]
      generalize bfs [b, w] (stA x) i = st at ih ⊢
      generalize bfs [b', w'] (stA (φ x)) i = st' at ih ⊢
      have hle : st'.2.length = st.2.length := by rw [ih.ord, List.length_map]
      rw [hle]
      by_cases hi : i < st.2.length
      · rw [if_pos hi, if_pos hi]
        have e : nl st'.2 i = φ (nl st.2 i) := by rw [ih.ord, nl_map hi]
        rw [e]
        generalize hz : nl st.2 i = z
        have hz1 : z < n := by rw [← hz]; exact ih.lt _ (nl_mem hi)
        show BfRel n φ (Bm.visit (Bm.visit st (nl b z)) (nl w z)) (Bm.visit (Bm.visit st' (nl b' (φ z))) (nl w' (φ z)))
        rw [h.b z hz1, h.w z hz1]
        exact (ih.visit hn h.lt h.inj (hb.lt hz1)).visit hn h.lt h.inj (hw.lt hz1)
      · rw [if_neg hi, if_neg hi]
        exact ih
  exact (key 16).ord
end

/-! ### The least one -/
abbrev L2 := List Nat × List Nat
def lt2 (x y : L2) : Prop := x.1 < y.1 ∨ (x.1 = y.1 ∧ x.2 < y.2)
instance (x y : L2) : Decidable (lt2 x y) := by unfold lt2; infer_instance
section
variable {b w b' w' : List Nat} {n : Nat}
end
end Go.Bm

/- Mirror images are dessins: the plain law. -/
set_option linter.unusedVariables false
set_option linter.unusedSimpArgs false
namespace Go.Bm
open Go Go.Am

/-! ### Mirror images are dessins -/
section
variable {p b w : List Nat} {n : Nat}
theorem Perm.surj (hp : Perm p n) {y : Nat} (hy : y < n) : ∃ x, x < n ∧ nl p x = y := by
  obtain ⟨c, hc, hyc⟩ := cyc_at hp hy
  have hi := cyc_is hp hc
  obtain ⟨j, hj, rfl⟩ := mem_nl hyc
  by_cases e : j = 0
  · subst e
    exact ⟨_, hi.lt _ (nl_mem (by omega)), hi.last⟩
  · have := hi.step (j - 1) (by omega)
    rw [show j - 1 + 1 = j by omega] at this
    exact ⟨_, hi.lt _ (nl_mem (by omega)), this⟩
theorem back_at (hp : Perm p n) : ∀ {k i : Nat}, k ≤ n → i < k → nl (backK p k) (nl p i) = i
  | 0, _, _, h => by omega
  | k + 1, i, hk, hi => by
    have hn := hp.1
    rw [backK, nl_set, backK_len]
    by_cases e : i = k
    · subst e
      rw [if_pos ⟨rfl, by have := hp.lt (show i < n by omega); omega⟩]
    · rw [if_neg (fun h => e (hp.inj (by omega) (by omega) h.1)), back_at hp (by omega) (by omega)]
theorem back_out (hp : Perm p n) {i : Nat} (hi : n ≤ i) : ∀ {k : Nat}, k ≤ n → nl (backK p k) i = 0
  | 0, _ => by simp only [backK, nl_rep]; split <;> rfl
  | k + 1, hk => by
    have := hp.lt (show k < n by omega)
    rw [backK, nl_set, if_neg (by omega), back_out hp hi (by omega)]
theorem Perm.back (hp : Perm p n) : Perm (backK p n) n := by
  refine ⟨hp.1, fun i _ => ⟨fun h => back_out hp (by omega) (Nat.le_refl _), fun h => ?_⟩⟩
  obtain ⟨x, hx, rfl⟩ := hp.surj (show i < n by omega)
  rw [back_at hp (Nat.le_refl _) hx]
  refine ⟨by omega, fun j hj => ?_⟩
  obtain ⟨y, hy, rfl⟩ := hp.surj (show j < n by omega)
  rw [back_at hp (Nat.le_refl _) hy]
  intro e
  subst e
  omega
end
end Go.Bm

/- Draws: permutations and stars. -/
set_option linter.unusedVariables false
set_option linter.unusedSimpArgs false
namespace Go.Bm
open Go Go.Am

theorem Perm.of {p : List Nat} {n : Nat} (hn : 1 ≤ n ∧ n ≤ 16) (h0 : ∀ i, n ≤ i → i < 16 → nl p i = 0) (h1 : ∀ i, i < n → nl p i < n) (h2 : ∀ i j, i < n → j < i → nl p j ≠ nl p i) : Perm p n :=
  ⟨by omega, fun i hi => ⟨fun h => h0 i (by omega) hi, fun h => ⟨by have := h1 i (by omega); omega, fun j hj => h2 i j (by omega) hj⟩⟩⟩
theorem Perm.zero {p : List Nat} {n : Nat} (h : Perm p n) {i : Nat} (h1 : n ≤ i) (h2 : i < 16) : nl p i = 0 := (h.2 i h2).1 (by omega)
section
variable {code : List Nat} {a : Nat} {h : Int}
theorem NNL_SC : NNL (SC code a h) = True := eq_true NN_SC
end
end Go.Bm

/- All types of a number. -/
set_option linter.unusedVariables false
set_option linter.unusedSimpArgs false
namespace Go.Bm
open Go Go.Am

end Go.Bm

/- All types of a number: the walks. -/
set_option linter.unusedVariables false
set_option linter.unusedSimpArgs false
namespace Go.Bm
open Go Go.Am

end Go.Bm

/- Draws: dessins. -/
set_option linter.unusedVariables false
set_option linter.unusedSimpArgs false
namespace Go.Bm
open Go Go.Am

theorem el_mem {xs : List Int} {k : Nat} (h : k < xs.length) : el xs k ∈ xs := by simp [el, List.getD, h]
section
variable {code : List Nat} {a : Nat} {h : Int}
end
end Go.Bm

/- All types of a number: the reference's walk. -/
set_option linter.unusedVariables false
set_option linter.unusedSimpArgs false
namespace Go.Bm
open Go Go.Am

end Go.Bm

/- What laws do with slices: equal, marked, held. -/
set_option linter.unusedVariables false
set_option linter.unusedSimpArgs false
namespace Go.Bm
open Go Go.Am

/-- A slice of numbers: nil, a block of one's own, or one that is only read. -/
def Sl (H : BH) (v : Value) (xs : List Int) : Prop := (v = .slice none 0 0 ∧ xs = []) ∨ (∃ i, v = S i 0 xs.length 1 ∧ blk H i = some (xs.map I)) ∨ v = FI xs
theorem Sl.own {H : BH} {i : Nat} {xs : List Int} (h : blk H i = some (xs.map I)) : Sl H (S i 0 xs.length 1) xs := .inr (.inl ⟨i, rfl, h⟩)
theorem Sl.fz {H : BH} {xs : List Int} : Sl H (FI xs) xs := .inr (.inr rfl)
theorem Sl.nil {H : BH} : Sl H (.slice none 0 0) [] := .inl ⟨rfl, rfl⟩
theorem Sl.len {H : BH} {v : Value} {xs : List Int} (h : Sl H v xs) : lenW v = some (I xs.length) := by
  rcases h with ⟨rfl, rfl⟩ | ⟨i, rfl, _⟩ | rfl <;> rfl
theorem Sl.get {H : BH} {v : Value} {xs : List Int} (h : Sl H v xs) {j : Nat} (hj : j < xs.length) : ∃ p, idxW 1 v (I j) = some p ∧ loadW none H p = some (I (el xs j)) := by
  rcases h with ⟨rfl, rfl⟩ | ⟨i, rfl, hb⟩ | rfl
  · simp at hj
  · refine ⟨_, idxW_s (by omega), ?_⟩
    rw [loadW_p, hb, getO_some, getN_I0 (by omega)]
    simp
  · refine ⟨_, idxW_fz (by omega), ?_⟩
    rw [loadW_fp, getN_I0 (by omega)]
    simp
end Go.Bm

/- Slices of slices in laws; sums and types of lists; passports. -/
set_option linter.unusedVariables false
set_option linter.unusedSimpArgs false
namespace Go.Bm
open Go Go.Am

theorem getD_mem' {α : Type} {ls : List α} {d : α} {j : Nat} (h : j < ls.length) : ls.getD j d ∈ ls := by simp [List.getD, h]
theorem getN_FI {xs : List (List Int)} {k : Nat} (h : k < xs.length) : getN none (xs.map FI) k = some (FI (xs.getD k [])) := by
  simp [getN, h, List.getD]
end Go.Bm

/- Sums and types of lists; passports and their Euler numbers. -/
set_option linter.unusedVariables false
set_option linter.unusedSimpArgs false
namespace Go.Bm
open Go Go.Am

def sumK (xs : List Int) : Nat → Int
  | 0 => 0
  | i + 1 => sumK xs i + el xs i
def sumI (xs : List Int) : Int := sumK xs xs.length
def OkAt (xs : List Int) (i : Nat) : Prop := (1 ≤ el xs i ∧ el xs i ≤ 16) ∧ (0 < i → el xs i ≤ el xs (i - 1))
instance (xs : List Int) (i : Nat) : Decidable (OkAt xs i) := by unfold OkAt; infer_instance
def TypeP (xs : List Int) : Prop := (1 ≤ xs.length ∧ xs.length ≤ 16) ∧ (∀ i, i < xs.length → OkAt xs i) ∧ sumI xs ≤ 16
instance (xs : List Int) : Decidable (TypeP xs) := by unfold TypeP; infer_instance
theorem sumK_ge {xs : List Int} : ∀ {i : Nat}, (∀ j, j < i → OkAt xs j) → (i : Int) ≤ sumK xs i ∧ sumK xs i ≤ 16 * i
  | 0, _ => by simp [sumK]
  | i + 1, h => by
    have ih := sumK_ge (i := i) fun j hj => h j (by omega)
    have := (h i (by omega)).1
    simp only [sumK]
    omega
theorem sumK_mono {xs : List Int} {i : Nat} : ∀ {k : Nat}, (∀ j, j < k → OkAt xs j) → i ≤ k → sumK xs i ≤ sumK xs k
  | 0, _, h => by
    obtain rfl : i = 0 := by omega
    exact Int.le_refl _
  | k + 1, hk, h => by
    by_cases e : i = k + 1
    · rw [e]; exact Int.le_refl _
    · have ih := sumK_mono (i := i) (k := k) (fun j hj => hk j (by omega)) (by omega)
      have := (hk k (by omega)).1
      simp only [sumK]
      omega
theorem TypeP.pos {xs : List Int} (h : TypeP xs) : 1 ≤ sumI xs := by
  have := (sumK_ge h.2.1).1
  have := h.1
  rw [sumI]
  omega
theorem sumOfType_spec {x : Bool} {xs : List Int} {H : BH} {K : Value → BH → Prop} (hl : xs.length ≤ 1048576) (hK : K (I (if TypeP xs then sumI xs else 0)) H) : CallX x F_impl_sumOfType [FI xs] H K := by
  refine callP (.cons .fz .nil) ?_
  refine CallX_body Γ_impl_sumOfType ?_; simp only [A_impl_sumOfType, T_aiff]
  refine T_rseq fun Kr hKr => ?_; simp (disch := omega) only [RA, ↓reduceIte, Nat.reduceEqDiff, RD]; refine hKr _ _ ?_; clear hKr Kr; (try simp only [RN, reduceIte]); try refine T_e rfl ?_
  refine T_rseq fun Kr hKr => ?_; simp (disch := omega) only [RA, ↓reduceIte, Nat.reduceEqDiff, RD]; refine hKr _ _ ?_; clear hKr Kr; (try simp only [RN, reduceIte]); try refine T_e rfl ?_
  refine T_rseq fun Kr hKr => ?_; simp (disch := omega) only [RA, ↓reduceIte, Nat.reduceEqDiff, RD]; refine hKr _ _ ?_; clear hKr Kr; (try simp only [RN, reduceIte]); try refine T_e rfl ?_
  refine T_wloop (fun m f H' => ∃ i, i ≤ xs.length ∧ m = xs.length - i ∧ (∀ j, j < i → OkAt xs j) ∧ sumK xs i ≤ 16 ∧ f 0 = FI xs ∧ f 3 = I (sumK xs i) ∧ f 6 = FI xs ∧ f 7 = I xs.length ∧ f 8 = I i ∧ H' = []) (xs.length) ?_ ?_
  · refine ⟨_, _, Gh.refl, 0, by omega, by omega, fun j hj => by omega, by simp [sumK], ?_, ?_, ?_, ?_, ?_, rfl⟩
    any_goals (simp (disch := omega) only [RA, ↓reduceIte, Nat.reduceEqDiff, RD, RE, *] <;> rfl)
  · rintro m f H' R ⟨i, hi, rfl, hall, hs16, g0, g3, g6, g7, g8, rfl⟩ hN hX hR hE
    simp only [A_impl_sumOfType.l0, T_aiff]
    have hs := sumK_ge hall
    refine T_rseq fun Kr hKr => ?_; simp (disch := omega) only [RA, ↓reduceIte, Nat.reduceEqDiff, RD, g7, g8]; refine hKr _ _ ?_; clear hKr Kr; (try simp only [RN, reduceIte]); try refine T_e rfl ?_
    refine T_csplit (p := i < xs.length) (by simp only [RA, ↓reduceIte, Nat.reduceEqDiff] <;> rfl) (by (try simp only [RB]) <;> first | done | exact Iff.rfl | omega | simp) (fun hc => ?_) (fun hc => ?_) <;> (try simp only [RN, reduceIte]) <;> (try refine T_e rfl ?_)
    · have hil : i < xs.length := by assumption
      have hno : ¬ OkAt xs i → (if TypeP xs then sumI xs else 0) = 0 := fun h => if_neg fun ht => h (ht.2.1 i hil)
      have hbad : ∀ f' rest, ¬ TypeP xs → T 0 (.seq A_impl_sumOfType.r6 (.seq .ret rest)) R f' [] := fun f' rest h => by
        rw [if_neg h] at hK
        refine T_rseq fun Kr hKr => ?_; simp (disch := omega) only [RA, ↓reduceIte, Nat.reduceEqDiff, RD]; refine hKr _ _ ?_; clear hKr Kr; (try simp only [RN, reduceIte]); try refine T_e rfl ?_
        refine hR _ _ ?_
        refine bodyQ_ret (by simp (disch := omega) only [RA, ↓reduceIte, Nat.reduceEqDiff, RD, resAll, resOf]; rfl) GhV.refl ?_; simp only [tup]
        exact ⟨.int, hK⟩
      have hgood : ∀ f', OkAt xs i → f' 0 = FI xs → f' 3 = I (sumK xs i) → f' 5 = I (el xs i) → f' 6 = FI xs → f' 7 = I xs.length → f' 8 = I i →
          T 0 (.seq A_impl_sumOfType.r7 (.seq (.seq A_impl_sumOfType.r8 (.cond (.t 36) (.seq A_impl_sumOfType.r9 .ret) .skip)) A_impl_sumOfType.r10)) R f' [] := by
        clear g0 g3 g6 g7 g8
        intro f' ho g0 g3 g5 g6 g7 g8
        have ho1 := ho.1
        have e1 : sumK xs (i + 1) = sumK xs i + el xs i := rfl
        have hall' : ∀ j, j < i + 1 → OkAt xs j := fun j hj => by
          by_cases e : j = i
          · rw [e]; exact ho
          · exact hall j (by omega)
        refine T_rseq fun Kr hKr => ?_; simp (disch := omega) only [RA, ↓reduceIte, Nat.reduceEqDiff, RD, g3, g5]; refine hKr _ _ ?_; clear hKr Kr; (try simp only [RN, reduceIte]); try refine T_e rfl ?_
        refine T_rseq fun Kr hKr => ?_; simp (disch := omega) only [RA, ↓reduceIte, Nat.reduceEqDiff, RD]; refine hKr _ _ ?_; clear hKr Kr; (try simp only [RN, reduceIte]); try refine T_e rfl ?_
        refine T_csplit (p := 16 < sumK xs i + el xs i) (by simp only [RA, ↓reduceIte, Nat.reduceEqDiff] <;> rfl) (by (try simp only [RB]) <;> first | done | exact Iff.rfl | omega | simp) (fun hc => ?_) (fun hc => ?_) <;> (try simp only [RN, reduceIte]) <;> (try refine T_e rfl ?_)
        · have hnt : ¬ TypeP xs := fun ht => by
            have := sumK_mono (i := i + 1) ht.2.1 (by omega)
            have := ht.2.2
            rw [sumI] at this
            omega
          rw [if_neg hnt] at hK
          refine T_rseq fun Kr hKr => ?_; simp (disch := omega) only [RA, ↓reduceIte, Nat.reduceEqDiff, RD]; refine hKr _ _ ?_; clear hKr Kr; (try simp only [RN, reduceIte]); try refine T_e rfl ?_
          refine hR _ _ ?_
          refine bodyQ_ret (by simp (disch := omega) only [RA, ↓reduceIte, Nat.reduceEqDiff, RD, resAll, resOf]; rfl) GhV.refl ?_; simp only [tup]
          exact ⟨.int, hK⟩
        · (try simp only [RN, reduceIte]); try refine T_e rfl ?_
          refine T_reg_k fun Kr hKr => ?_; simp (disch := omega) only [RA, ↓reduceIte, Nat.reduceEqDiff, RD, g8]; refine hKr _ _ ?_; clear hKr Kr
          refine hN (xs.length - (i + 1)) _ _ _ _ (by omega) Gh.refl ⟨i + 1, by omega, rfl, hall', by omega, ?_, ?_, ?_, ?_, ?_, rfl⟩
          any_goals (simp (disch := omega) only [RA, ↓reduceIte, Nat.reduceEqDiff, RD, RE, *] <;> rfl)
          all_goals (rw [e1]; simp (disch := omega) only [RA, ↓reduceIte, Nat.reduceEqDiff, RD, *])
      (first | refine T_bfree rfl ?_ | refine T_bfree' rfl ?_); (try simp only [RN, reduceIte]); try refine T_e rfl ?_
      refine T_rseq fun Kr hKr => ?_; simp (disch := omega) only [RA, ↓reduceIte, Nat.reduceEqDiff, RD, g6, g8]; refine hKr _ _ ?_; clear hKr Kr; (try simp only [RN, reduceIte]); try refine T_e rfl ?_
      by_cases h1 : el xs i < 1
      · refine T_rseq fun Kr hKr => ?_; simp (disch := omega) only [RA, ↓reduceIte, Nat.reduceEqDiff, RD]; refine hKr _ _ ?_; clear hKr Kr; (try simp only [RN, reduceIte]); try refine T_e rfl ?_
        refine T_cseq (t := true) (by simp (disch := omega) only [RA, ↓reduceIte, Nat.reduceEqDiff, RD]) ?_; (try simp only [RN, reduceIte]); try refine T_e rfl ?_
        exact hbad _ _ fun ht => by have := (ht.2.1 i hil).1; omega
      by_cases h2 : 16 < el xs i
      · refine T_rseq fun Kr hKr => ?_; simp (disch := omega) only [RA, ↓reduceIte, Nat.reduceEqDiff, RD]; refine hKr _ _ ?_; clear hKr Kr; (try simp only [RN, reduceIte]); try refine T_e rfl ?_
        refine T_cseq (t := true) (by simp (disch := omega) only [RA, ↓reduceIte, Nat.reduceEqDiff, RD]) ?_; (try simp only [RN, reduceIte]); try refine T_e rfl ?_
        exact hbad _ _ fun ht => by have := (ht.2.1 i hil).1; omega
      by_cases h3 : i = 0
      · subst h3
        refine T_rseq fun Kr hKr => ?_; simp (disch := omega) only [RA, ↓reduceIte, Nat.reduceEqDiff, RD]; refine hKr _ _ ?_; clear hKr Kr; (try simp only [RN, reduceIte]); try refine T_e rfl ?_
        refine T_cseq (t := false) (by simp (disch := omega) only [RA, ↓reduceIte, Nat.reduceEqDiff, RD]) ?_; (try simp only [RN, reduceIte]); try refine T_e rfl ?_
        (try simp only [RN, reduceIte]); try refine T_e rfl ?_
        refine hgood _ ⟨by omega, fun h => by omega⟩ ?_ ?_ ?_ ?_ ?_ ?_
        any_goals (simp (disch := omega) only [RA, ↓reduceIte, Nat.reduceEqDiff, RD, RE, *] <;> rfl)
      · have e2 : (i : Int) - 1 = ((i - 1 : Nat) : Int) := by omega
        have h5 : i - 1 < xs.length := by omega
        by_cases h4 : el xs (i - 1) < el xs i
        · refine T_rseq fun Kr hKr => ?_; simp (disch := omega) only [RA, ↓reduceIte, Nat.reduceEqDiff, RD, g0, e2]; refine hKr _ _ ?_; clear hKr Kr; (try simp only [RN, reduceIte]); try refine T_e rfl ?_
          refine T_cseq (t := true) (by simp (disch := omega) only [RA, ↓reduceIte, Nat.reduceEqDiff, RD]) ?_; (try simp only [RN, reduceIte]); try refine T_e rfl ?_
          exact hbad _ _ fun ht => by have := (ht.2.1 i hil).2; omega
        · refine T_rseq fun Kr hKr => ?_; simp (disch := omega) only [RA, ↓reduceIte, Nat.reduceEqDiff, RD, g0, e2]; refine hKr _ _ ?_; clear hKr Kr; (try simp only [RN, reduceIte]); try refine T_e rfl ?_
          refine T_cseq (t := false) (by simp (disch := omega) only [RA, ↓reduceIte, Nat.reduceEqDiff, RD]) ?_; (try simp only [RN, reduceIte]); try refine T_e rfl ?_
          (try simp only [RN, reduceIte]); try refine T_e rfl ?_
          refine hgood _ ⟨by omega, fun h => by omega⟩ ?_ ?_ ?_ ?_ ?_ ?_
          any_goals (simp (disch := omega) only [RA, ↓reduceIte, Nat.reduceEqDiff, RD, RE, *] <;> rfl)
    · refine hX _ _ ?_
      obtain rfl : i = xs.length := by omega
      have e : (if TypeP xs then sumI xs else 0) = sumK xs xs.length := by
        by_cases ht : TypeP xs
        · rw [if_pos ht]; rfl
        · rw [if_neg ht]
          rcases Nat.eq_zero_or_pos xs.length with h | h
          · rw [h]; rfl
          · exact absurd ⟨⟨h, by omega⟩, hall, hs16⟩ ht
      rw [e] at hK
      refine T_rseq fun Kr hKr => ?_; simp (disch := omega) only [RA, ↓reduceIte, Nat.reduceEqDiff, RD, g3]; refine hKr _ _ ?_; clear hKr Kr; (try simp only [RN, reduceIte]); try refine T_e rfl ?_
      refine bodyQ_ret (by simp (disch := omega) only [RA, ↓reduceIte, Nat.reduceEqDiff, RD, resAll, resOf]; rfl) GhV.refl ?_; simp only [tup]
      exact ⟨.int, hK⟩
def at3 (xss : List (List Int)) (i : Nat) : List Int := xss.getD i []
def PassP (xss : List (List Int)) : Prop := xss.length = 3 ∧ ∀ i, i < 3 → TypeP (at3 xss i) ∧ sumI (at3 xss i) = sumI (at3 xss 0)
instance (xss : List (List Int)) : Decidable (PassP xss) := by unfold PassP; infer_instance
def passSum (xss : List (List Int)) : Int := if PassP xss then sumI (at3 xss 0) else 0
theorem sumOfPassport_spec {x : Bool} {xss : List (List Int)} {H : BH} {K : Value → BH → Prop} (hl : xss.length ≤ 1048576) (hll : ∀ xs ∈ xss, xs.length ≤ 1048576) (hK : K (I (passSum xss)) H) : CallX x F_impl_sumOfPassport [FII xss] H K := by
  refine callP (.cons .fz .nil) ?_
  refine CallX_body Γ_impl_sumOfPassport ?_; simp only [A_impl_sumOfPassport, T_aiff]
  refine T_rseq fun Kr hKr => ?_; simp (disch := omega) only [RA, ↓reduceIte, Nat.reduceEqDiff, RD]; refine hKr _ _ ?_; clear hKr Kr; (try simp only [RN, reduceIte]); try refine T_e rfl ?_
  refine T_rseq fun Kr hKr => ?_; simp (disch := omega) only [RA, ↓reduceIte, Nat.reduceEqDiff, RD]; refine hKr _ _ ?_; clear hKr Kr; (try simp only [RN, reduceIte]); try refine T_e rfl ?_
  refine T_csplit (p := ¬ xss.length = 3) (by simp only [RA, ↓reduceIte, Nat.reduceEqDiff] <;> rfl) (by (try simp only [RB]) <;> first | done | exact Iff.rfl | omega | simp) (fun hc => ?_) (fun hc => ?_) <;> (try simp only [RN, reduceIte]) <;> (try refine T_e rfl ?_)
  · refine T_rseq fun Kr hKr => ?_; simp (disch := omega) only [RA, ↓reduceIte, Nat.reduceEqDiff, RD]; refine hKr _ _ ?_; clear hKr Kr; (try simp only [RN, reduceIte]); try refine T_e rfl ?_
    refine bodyQ_ret (by simp (disch := omega) only [RA, ↓reduceIte, Nat.reduceEqDiff, RD, resAll, resOf]; rfl) GhV.refl ?_; simp only [tup]
    rw [passSum, if_neg (fun h => hc h.1)] at hK
    exact ⟨.int, hK⟩
  have h3 := Decidable.not_not.1 hc
  clear hc
  have hg : ∀ i, i < 3 → getN none (xss.map FI) i = some (FI (at3 xss i)) := fun i hi => getN_FI (by omega)
  have hm : ∀ i, i < 3 → (at3 xss i).length ≤ 1048576 := fun i hi => hll _ (getD_mem' (by omega))
  have hg0 := hg 0 (by omega)
  have hg1 := hg 1 (by omega)
  have hg2 := hg 2 (by omega)
  have hv : ∀ i, i < 3 → ∃ s, (if TypeP (at3 xss i) then sumI (at3 xss i) else 0) = s ∧ (s = 0 ↔ ¬ TypeP (at3 xss i)) ∧ (TypeP (at3 xss i) → sumI (at3 xss i) = s) := fun i _ => by
    by_cases h : TypeP (at3 xss i)
    · have := h.pos
      exact ⟨_, if_pos h, ⟨fun e => by omega, fun hn => absurd h hn⟩, fun _ => rfl⟩
    · exact ⟨0, if_neg h, by simp [h], fun hn => absurd hn h⟩
  obtain ⟨s0, e0, z0, v0⟩ := hv 0 (by omega)
  obtain ⟨s1, e1, z1, v1⟩ := hv 1 (by omega)
  obtain ⟨s2, e2, z2, v2⟩ := hv 2 (by omega)
  have hps : passSum xss = if s1 = s0 ∧ s2 = s0 then s0 else 0 := by
    unfold passSum
    by_cases hp : PassP xss
    · have p0 := hp.2 0 (by omega)
      have p1 := hp.2 1 (by omega)
      have p2 := hp.2 2 (by omega)
      have a0 := v0 p0.1
      have a1 := v1 p1.1
      have a2 := v2 p2.1
      rw [if_pos hp, if_pos ⟨by rw [← a1, ← a0]; exact p1.2, by rw [← a2, ← a0]; exact p2.2⟩, a0]
    · rw [if_neg hp]
      by_cases hs : s1 = s0 ∧ s2 = s0
      · rw [if_pos hs]
        apply Classical.byContradiction
        intro hne
        have t0 : TypeP (at3 xss 0) := Classical.byContradiction fun h => hne (z0.2 h).symm
        have t1 : TypeP (at3 xss 1) := Classical.byContradiction fun h => hne (by rw [← hs.1]; exact (z1.2 h).symm)
        have t2 : TypeP (at3 xss 2) := Classical.byContradiction fun h => hne (by rw [← hs.2]; exact (z2.2 h).symm)
        refine hp ⟨h3, fun i hi => ?_⟩
        have : i = 0 ∨ i = 1 ∨ i = 2 := by omega
        rcases this with rfl | rfl | rfl
        · exact ⟨t0, rfl⟩
        · exact ⟨t1, by rw [v1 t1, v0 t0]; exact hs.1⟩
        · exact ⟨t2, by rw [v2 t2, v0 t0]; exact hs.2⟩
      · rw [if_neg hs]
  rw [hps] at hK
  refine T_rseq fun Kr hKr => ?_; simp (disch := omega) only [RA, ↓reduceIte, Nat.reduceEqDiff, reduceCtorEq, RD, hg0]
  refine sumOfType_spec (hm 0 (by omega)) ?_
  rw [e0]
  simp (disch := omega) only [RA, ↓reduceIte, Nat.reduceEqDiff, RD]
  refine hKr _ _ ?_; clear hKr Kr; (try simp only [blkQ, thenQ, loopQ]); (try simp only [RN, reduceIte]); try refine T_e rfl ?_
  refine T_rseq fun Kr hKr => ?_; simp (disch := omega) only [RA, ↓reduceIte, Nat.reduceEqDiff, Int.reduceToNat, reduceCtorEq, RD, hg1]
  refine sumOfType_spec (hm 1 (by omega)) ?_
  rw [e1]
  by_cases h1 : s1 = s0
  · simp (disch := omega) only [RA, ↓reduceIte, Nat.reduceEqDiff, Int.reduceToNat, reduceCtorEq, RD, hg2]
    refine sumOfType_spec (hm 2 (by omega)) ?_
    rw [e2]
    by_cases h2 : s2 = s0
    · simp (disch := omega) only [RA, ↓reduceIte, Nat.reduceEqDiff, RD]
      refine hKr _ _ ?_; clear hKr Kr; (try simp only [blkQ, thenQ, loopQ]); (try simp only [RN, reduceIte]); try refine T_e rfl ?_
      refine T_cseq (t := false) (by simp (disch := omega) only [RA, ↓reduceIte, Nat.reduceEqDiff, RD]) ?_; (try simp only [RN, reduceIte]); try refine T_e rfl ?_
      refine T_rseq fun Kr hKr => ?_; simp (disch := omega) only [RA, ↓reduceIte, Nat.reduceEqDiff, RD]; refine hKr _ _ ?_; clear hKr Kr; (try simp only [RN, reduceIte]); try refine T_e rfl ?_
      refine bodyQ_ret (by simp (disch := omega) only [RA, ↓reduceIte, Nat.reduceEqDiff, RD, resAll, resOf]; rfl) GhV.refl ?_; simp only [tup]
      rw [if_pos ⟨h1, h2⟩] at hK
      exact ⟨.int, hK⟩
    · simp (disch := omega) only [RA, ↓reduceIte, Nat.reduceEqDiff, RD]
      refine hKr _ _ ?_; clear hKr Kr; (try simp only [blkQ, thenQ, loopQ]); (try simp only [RN, reduceIte]); try refine T_e rfl ?_
      refine T_cseq (t := true) (by simp (disch := omega) only [RA, ↓reduceIte, Nat.reduceEqDiff, RD]) ?_; (try simp only [RN, reduceIte]); try refine T_e rfl ?_
      refine T_rseq fun Kr hKr => ?_; simp (disch := omega) only [RA, ↓reduceIte, Nat.reduceEqDiff, RD]; refine hKr _ _ ?_; clear hKr Kr; (try simp only [RN, reduceIte]); try refine T_e rfl ?_
      refine bodyQ_ret (by simp (disch := omega) only [RA, ↓reduceIte, Nat.reduceEqDiff, RD, resAll, resOf]; rfl) GhV.refl ?_; simp only [tup]
      rw [if_neg (fun h => h2 h.2)] at hK
      exact ⟨.int, hK⟩
  · simp (disch := omega) only [RA, ↓reduceIte, Nat.reduceEqDiff, RD]
    refine hKr _ _ ?_; clear hKr Kr; (try simp only [blkQ, thenQ, loopQ]); (try simp only [RN, reduceIte]); try refine T_e rfl ?_
    refine T_cseq (t := true) (by simp (disch := omega) only [RA, ↓reduceIte, Nat.reduceEqDiff, RD]) ?_; (try simp only [RN, reduceIte]); try refine T_e rfl ?_
    refine T_rseq fun Kr hKr => ?_; simp (disch := omega) only [RA, ↓reduceIte, Nat.reduceEqDiff, RD]; refine hKr _ _ ?_; clear hKr Kr; (try simp only [RN, reduceIte]); try refine T_e rfl ?_
    refine bodyQ_ret (by simp (disch := omega) only [RA, ↓reduceIte, Nat.reduceEqDiff, RD, resAll, resOf]; rfl) GhV.refl ?_; simp only [tup]
    rw [if_neg (fun h => h1 h.1)] at hK
    exact ⟨.int, hK⟩
def resEp (xss : List (List Int)) : Int × Int :=
  if PassP xss then (((at3 xss 0).length : Int) + (at3 xss 1).length + (at3 xss 2).length - sumI (at3 xss 0), 0) else (0, 1)
theorem nn_I2 {a c : Int} : NN (.tuple ⟨[I a, I c]⟩) := NN.tuple (NNL.cons NN.int (NNL.cons NN.int NNL.nil))
theorem eulerOf_spec {x : Bool} {xss : List (List Int)} {n : Int} {H : BH} {K : Value → BH → Prop} (hp : PassP xss) (hn : 0 ≤ n ∧ n ≤ 16) (hK : K (I (((at3 xss 0).length : Int) + (at3 xss 1).length + (at3 xss 2).length - n)) H) : CallX x F_impl_eulerOf [FII xss, I n] H K := by
  have h3 := hp.1
  have hg : ∀ i, i < 3 → getN none (xss.map FI) i = some (FI (at3 xss i)) := fun i hi => getN_FI (by omega)
  have hg0 := hg 0 (by omega)
  have hg1 := hg 1 (by omega)
  have hg2 := hg 2 (by omega)
  have b0 := (hp.2 0 (by omega)).1.1
  have b1 := (hp.2 1 (by omega)).1.1
  have b2 := (hp.2 2 (by omega)).1.1
  refine callP (.cons .fz (.cons .int .nil)) ?_
  refine CallX_body Γ_impl_eulerOf ?_; simp only [A_impl_eulerOf, T_aiff]
  refine T_rseq fun Kr hKr => ?_; simp (disch := omega) only [RA, ↓reduceIte, Nat.reduceEqDiff, RD]; refine hKr _ _ ?_; clear hKr Kr; (try simp only [RN, reduceIte]); try refine T_e rfl ?_
  refine T_rseq fun Kr hKr => ?_; simp (disch := omega) only [RA, ↓reduceIte, Nat.reduceEqDiff, Int.reduceToNat, reduceCtorEq, RD, hg0, hg1, hg2]; refine hKr _ _ ?_; clear hKr Kr; (try simp only [RN, reduceIte]); try refine T_e rfl ?_
  refine bodyQ_ret (by simp (disch := omega) only [RA, ↓reduceIte, Nat.reduceEqDiff, RD, resAll, resOf]; rfl) GhV.refl ?_; simp only [tup]
  exact ⟨.int, hK⟩
theorem impl_EulerOfPassport_spec {x : Bool} {xss : List (List Int)} {H : BH} {K : Value → BH → Prop} (hl : xss.length ≤ 1048576) (hll : ∀ xs ∈ xss, xs.length ≤ 1048576)
    (hK : K (.tuple ⟨[I (resEp xss).1, I (resEp xss).2]⟩) H) : CallX x F_impl_EulerOfPassport [FII xss] H K := by
  refine callP (.cons .fz .nil) ?_
  refine CallX_body Γ_impl_EulerOfPassport ?_; simp only [A_impl_EulerOfPassport, T_aiff]
  refine T_rseq fun Kr hKr => ?_; simp (disch := omega) only [RA, ↓reduceIte, Nat.reduceEqDiff, RD]; refine hKr _ _ ?_; clear hKr Kr; (try simp only [RN, reduceIte]); try refine T_e rfl ?_
  refine T_rseq fun Kr hKr => ?_; simp (disch := omega) only [RA, ↓reduceIte, Nat.reduceEqDiff, RD]
  refine sumOfPassport_spec hl hll ?_
  by_cases hp : PassP xss
  · rw [passSum, if_pos hp]
    rw [resEp, if_pos hp] at hK
    have t0 := (hp.2 0 (by omega)).1
    have h1 := t0.pos
    have h2 := t0.2.2
    simp (disch := omega) only [RA, ↓reduceIte, Nat.reduceEqDiff, RD]
    refine hKr _ _ ?_; clear hKr Kr; (try simp only [blkQ, thenQ, loopQ]); (try simp only [RN, reduceIte]); try refine T_e rfl ?_
    refine T_rseq fun Kr hKr => ?_; simp (disch := omega) only [RA, ↓reduceIte, Nat.reduceEqDiff, RD]; refine hKr _ _ ?_; clear hKr Kr; (try simp only [RN, reduceIte]); try refine T_e rfl ?_
    refine T_cseq (t := false) (by simp (disch := omega) only [RA, ↓reduceIte, Nat.reduceEqDiff, RD]) ?_; (try simp only [RN, reduceIte]); try refine T_e rfl ?_
    refine T_rseq fun Kr hKr => ?_; simp (disch := omega) only [RA, ↓reduceIte, Nat.reduceEqDiff, RD]
    refine eulerOf_spec hp (by omega) ?_
    simp (disch := omega) only [RA, ↓reduceIte, Nat.reduceEqDiff, RD]
    refine hKr _ _ ?_; clear hKr Kr; (try simp only [blkQ, thenQ, loopQ]); (try simp only [RN, reduceIte]); try refine T_e rfl ?_
    refine bodyQ_ret (by simp (disch := omega) only [RA, ↓reduceIte, Nat.reduceEqDiff, RD, resAll, resOf]; rfl) GhV.refl ?_; simp only [tup]
    exact ⟨nn_I2, hK⟩
  · rw [passSum, if_neg hp]
    rw [resEp, if_neg hp] at hK
    simp (disch := omega) only [RA, ↓reduceIte, Nat.reduceEqDiff, RD]
    refine hKr _ _ ?_; clear hKr Kr; (try simp only [blkQ, thenQ, loopQ]); (try simp only [RN, reduceIte]); try refine T_e rfl ?_
    refine T_rseq fun Kr hKr => ?_; simp (disch := omega) only [RA, ↓reduceIte, Nat.reduceEqDiff, RD]; refine hKr _ _ ?_; clear hKr Kr; (try simp only [RN, reduceIte]); try refine T_e rfl ?_
    refine T_cseq (t := true) (by simp (disch := omega) only [RA, ↓reduceIte, Nat.reduceEqDiff, RD]) ?_; (try simp only [RN, reduceIte]); try refine T_e rfl ?_
    refine T_rseq fun Kr hKr => ?_; simp (disch := omega) only [RA, ↓reduceIte, Nat.reduceEqDiff, RD]; refine hKr _ _ ?_; clear hKr Kr; (try simp only [RN, reduceIte]); try refine T_e rfl ?_
    refine bodyQ_ret (by simp (disch := omega) only [RA, ↓reduceIte, Nat.reduceEqDiff, RD, resAll, resOf]; rfl) GhV.refl ?_; simp only [tup]
    exact ⟨nn_I2, hK⟩
end Go.Bm

