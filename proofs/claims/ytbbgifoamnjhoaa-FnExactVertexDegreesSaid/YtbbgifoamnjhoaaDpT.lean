/- Sets of flags that are reached by an exchange of pairs have two each at least. -/
import Derived.Test.YtbbgifoamnjhoaaDpR
set_option linter.unusedVariables false
set_option linter.unusedSimpArgs false
namespace Go.Bm
open Go Go.Am

theorem memnl {c : List Nat} {x : Nat} (h : x ∈ c) : ∃ j, j < c.length ∧ nl c j = x := by
  obtain ⟨i, hi, rfl⟩ := List.mem_iff_getElem.1 h
  exact ⟨i, hi, by simp [nl, List.getD, hi]⟩
structure BfC (ls : List (List Nat)) (m : Nat) (s0 : List Bool) (d : Nat) (st : BS) : Prop where
  bi : Bi m st
  new : ∀ y, bl st.1 y = true → bl s0 y = true ∨ y ∈ st.2
  old : ∀ y, bl s0 y = true → bl st.1 y = true
  le : d ≤ st.2.length
  done : ∀ j, j < d → ∀ p ∈ ls, bl st.1 (nl p (nl st.2 j)) = true
theorem visit_mono {st : BS} {y z : Nat} (h : bl st.1 y = true) : bl (visit st z).1 y = true := by
  unfold visit
  split
  · exact h
  · show bl (st.1.set z true) y = true
    rw [bl_set]
    split
    · rfl
    · exact h
theorem visit_seen {m : Nat} {st : BS} {y : Nat} (h : Bi m st) (hy : y < m) : bl (visit st y).1 y = true := by
  unfold visit
  split
  · assumption
  · show bl (st.1.set y true) y = true
    rw [bl_set, if_pos ⟨rfl, by rw [h.len]; exact hy⟩]
theorem BfC.visit {ls : List (List Nat)} {m d y : Nat} {s0 : List Bool} {st : BS} (h : BfC ls m s0 d st) (hy : y < m) : BfC ls m s0 d (Bm.visit st y) := by
  obtain ⟨q, hq⟩ := @visit_pre st y
  refine ⟨h.bi.visit hy, fun z hz => ?_, fun z hz => visit_mono (h.old z hz), ?_, fun j hj p hp => ?_⟩
  · unfold Bm.visit at hz ⊢
    split at hz
    · rename_i hb
      rw [if_pos hb]
      exact h.new z hz
    · rename_i hb
      rw [if_neg hb]
      have hz' : bl (st.1.set y true) z = true := hz
      show bl s0 z = true ∨ z ∈ st.2 ++ [y]
      rw [bl_set] at hz'
      split at hz'
      · rename_i hc
        exact .inr (by simp [hc.1])
      · rcases h.new z hz' with k | k
        · exact .inl k
        · exact .inr (by simp [k])
  · rw [hq]
    have := h.le
    simp
    omega
  · have : nl (Bm.visit st y).2 j = nl st.2 j := by rw [hq, nl_append, if_pos (by have := h.le; omega)]
    rw [this]
    exact visit_mono (h.done j hj p hp)
theorem BfC.round {ls : List (List Nat)} {m d z : Nat} {s0 : List Bool} : ∀ {l2 : List (List Nat)} {st : BS}, BfC ls m s0 d st → (∀ p ∈ l2, nl p z < m) → BfC ls m s0 d (roundX l2 z st) ∧ (∀ y, bl st.1 y = true → bl (roundX l2 z st).1 y = true) ∧ ∀ p ∈ l2, bl (roundX l2 z st).1 (nl p z) = true
  | [], st, h, _ => ⟨h, fun y hy => hy, by simp⟩
  | p :: l2, st, h, hp => by
    have h1 := h.visit (hp p (by simp))
    obtain ⟨h4, h5, h6⟩ := BfC.round (l2 := l2) h1 fun q hq => hp q (by simp [hq])
    have e : roundX (p :: l2) z st = roundX l2 z (Bm.visit st (nl p z)) := rfl
    rw [e]
    refine ⟨h4, fun y hy => h5 y (visit_mono hy), fun q hq => ?_⟩
    rcases List.mem_cons.1 hq with rfl | hq
    · exact h5 _ (visit_seen h.bi (hp _ (by simp)))
    · exact h6 q hq
theorem BfC.bfs {ls : List (List Nat)} {m : Nat} {s0 : List Bool} {st : BS} (hl : ∀ p ∈ ls, ∀ y, nl p y < m) (h : BfC ls m s0 0 st) : ∀ i, BfC ls m s0 (min i (Bm.bfs ls st i).2.length) (Bm.bfs ls st i)
  | 0 => by rw [Nat.zero_min]; exact h
  | i + 1 => by
    have ih := BfC.bfs hl h i
    simp only [Bm.bfs]
    generalize Bm.bfs ls st i = s at ih ⊢
    by_cases hi : i < s.2.length
    · rw [if_pos hi]
      rw [Nat.min_eq_left (by omega)] at ih
      obtain ⟨h1, h2, h3⟩ := ih.round (z := nl s.2 i) (l2 := ls) fun p hp => hl p hp _
      obtain ⟨q, hq⟩ := @round_pre (nl s.2 i) ls s
      have hlen : i + 1 ≤ (roundX ls (nl s.2 i) s).2.length := by rw [hq]; simp; omega
      rw [Nat.min_eq_left hlen]
      refine ⟨h1.bi, h1.new, h1.old, hlen, fun j hj p hp => ?_⟩
      by_cases e : j = i
      · subst e
        have : nl (roundX ls (nl s.2 j) s).2 j = nl s.2 j := by rw [hq, nl_append, if_pos hi]
        rw [this]
        exact h3 p hp
      · exact h1.done j (by omega) p hp
    · rw [if_neg hi]
      rw [Nat.min_eq_right (by omega)] at ih
      rw [Nat.min_eq_right (by omega)]
      exact ih
/-- What was reached at the end. -/
structure OrbC (ls : List (List Nat)) (so : List Bool × List Nat) : Prop where
  len : so.1.length = 32
  cl : ∀ y, bl so.1 y = true → ∀ p ∈ ls, bl so.1 (nl p y) = true
  two : 2 * so.2.length ≤ so.1.count true
theorem orb_two {t : List Nat} {ls : List (List Nat)} {n : Nat} (hn : n ≤ 32) (hl : ∀ p ∈ t :: ls, ∀ i, nl p i < 32) (ht : ∀ x, x < n → nl t x ≠ x ∧ nl t (nl t x) = x) : ∀ k, k ≤ n → OrbC (t :: ls) (orbK (t :: ls) k)
  | 0, _ => by
    have h0 : ∀ y, bl (List.replicate 32 false) y = false := fun y => bl_rep
    exact ⟨List.length_replicate, fun y hy => absurd ((h0 y).symm.trans hy) Bool.false_ne_true, Nat.zero_le _⟩
  | x + 1, hk => by
    have ih := orb_two hn hl ht x (by omega)
    simp only [orbK]
    generalize orbK (t :: ls) x = so at ih ⊢
    by_cases hb : bl so.1 x = true
    · rw [if_pos hb]
      exact ih
    · rw [if_neg hb]
      have n0 : bl so.1 x = false := by simpa using hb
      obtain ⟨h1, h2⟩ := ht x (by omega)
      have n1 : bl so.1 (nl t x) = false := by
        cases hc : bl so.1 (nl t x) with
        | false => rfl
        | true =>
          have := ih.cl _ hc t (by simp)
          rw [h2, n0] at this
          cases this
      have hx32 : x < 32 := by omega
      have hB := Bi.stX ih.len hx32 n0
      have hC : BfC (t :: ls) 32 so.1 0 (stX so.1 x) := by
        refine ⟨hB, fun y hy => ?_, fun y hy => ?_, Nat.zero_le _, fun j hj => absurd hj (Nat.not_lt_zero j)⟩
        · have hy' : bl (so.1.set x true) y = true := hy
          rw [bl_set] at hy'
          split at hy'
          · rename_i hc
            exact .inr (by simp [stX, hc.1])
          · exact .inl hy'
        · show bl (so.1.set x true) y = true
          rw [bl_set]
          split
          · rfl
          · exact hy
      have hcnt : ∀ k, so.1.count true + (bfs (t :: ls) (stX so.1 x) k).2.length = (bfs (t :: ls) (stX so.1 x) k).1.count true := by
        have hv : ∀ (st : BS) (y : Nat), Bi 32 st → y < 32 → so.1.count true + st.2.length = st.1.count true → so.1.count true + (visit st y).2.length = (visit st y).1.count true := by
          intro st y g1 g2 g3
          unfold visit
          split
          · exact g3
          · rename_i hb
            show so.1.count true + (st.2 ++ [y]).length = (st.1.set y true).count true
            rw [count_set_true (by rw [g1.len]; exact g2) (by simpa using hb)]
            simp
            omega
        have hr : ∀ (l2 : List (List Nat)) (st : BS) (z : Nat), (∀ p ∈ l2, ∀ i, nl p i < 32) → Bi 32 st → so.1.count true + st.2.length = st.1.count true → so.1.count true + (roundX l2 z st).2.length = (roundX l2 z st).1.count true := by
          intro l2
          induction l2 with
          | nil => intro st z _ _ g; exact g
          | cons p l2 ih2 =>
            intro st z g1 g2 g3
            exact ih2 _ _ (fun q hq => g1 q (by simp [hq])) (g2.visit (g1 p (by simp) z)) (hv st _ g2 (g1 p (by simp) z) g3)
        intro k
        induction k with
        | zero =>
          show so.1.count true + 1 = (so.1.set x true).count true
          rw [count_set_true (by rw [ih.len]; exact hx32) n0]
        | succ k ihk =>
          have hBk := hB.bfs hl k
          simp only [bfs]
          split
          · exact hr _ _ _ hl hBk ihk
          · exact ihk
      have hge : ∀ k, 2 ≤ (bfs (t :: ls) (stX so.1 x) (k + 1)).2.length := by
        intro k
        induction k with
        | zero =>
          have e1 : bfs (t :: ls) (stX so.1 x) 1 = roundX ls x (visit (stX so.1 x) (nl t x)) := rfl
          have e2 : visit (stX so.1 x) (nl t x) = ((so.1.set x true).set (nl t x) true, [x, nl t x]) := by
            unfold visit
            rw [if_neg]
            · rfl
            · show ¬ bl (so.1.set x true) (nl t x) = true
              rw [bl_set, if_neg (fun h => h1 h.1), n1]
              exact Bool.false_ne_true
          obtain ⟨q, hq⟩ := @round_pre x ls (visit (stX so.1 x) (nl t x))
          rw [e1, hq, e2]
          simp
        | succ k ihk =>
          rw [bfs]
          split
          · obtain ⟨q, hq⟩ := @round_pre (nl (bfs (t :: ls) (stX so.1 x) (k + 1)).2 (k + 1)) (t :: ls) (bfs (t :: ls) (stX so.1 x) (k + 1))
            rw [hq]
            simp
            omega
          · exact ihk
      have hF := hC.bfs hl 32
      have hge' := hge 31
      have hcn := hcnt 32
      have hle := (hB.bfs hl 32).le
      have htw := ih.two
      rw [Nat.min_eq_right hle] at hF
      generalize bfs (t :: ls) (stX so.1 x) 32 = st at hF hge' hcn hle ⊢
      refine ⟨hF.bi.len, fun y hy p hp => ?_, ?_⟩
      · show bl st.1 (nl p y) = true
        rcases hF.new y hy with h | h
        · exact hF.old _ (ih.cl y h p hp)
        · obtain ⟨j, hj, rfl⟩ := memnl h
          exact hF.done j hj p hp
      · show 2 * (so.2 ++ [st.2.length]).length ≤ st.1.count true
        have : (31 : Nat) + 1 = 32 := rfl
        simp
        omega
theorem orb_16 {t : List Nat} {ls : List (List Nat)} {n : Nat} (hn : n ≤ 32) (hl : ∀ p ∈ t :: ls, ∀ i, nl p i < 32) (ht : ∀ x, x < n → nl t x ≠ x ∧ nl t (nl t x) = x) : (orbK (t :: ls) n).2.length ≤ 16 := by
  have h := orb_two hn hl ht n (Nat.le_refl _)
  have h1 := h.two
  have h2 := List.count_le_length (a := true) (l := (orbK (t :: ls) n).1)
  have h3 := h.len
  omega
end Go.Bm
