/- DpCa, DpCc, DpCd, DpTa, DpTf, DpTg, DpK -/
import Derived.Test.YthjjfdiofpdknaaBmS
import Derived.Test.YthjjfdiofpdknaaDpG0
/- The cycles of a permutation: the plain law. -/
set_option linter.unusedVariables false
set_option linter.unusedSimpArgs false
namespace Go.Bm
open Go Go.Am

/-- The numbers met, the cycle as far as it was walked, where one stands. -/
abbrev WS := List Bool × List Nat × Nat
def wstep (p : List Nat) (st : WS) : WS := if bl st.1 st.2.2 = true then st else (st.1.set st.2.2 true, st.2.1 ++ [st.2.2], nl p st.2.2)
def wk (p : List Nat) (st : WS) : Nat → WS
  | 0 => st
  | j + 1 => wstep p (wk p st j)
theorem wk_stop {p : List Nat} {st : WS} {i : Nat} (h : bl (wk p st i).1 (wk p st i).2.2 = true) : ∀ j, i ≤ j → wk p st j = wk p st i
  | 0, hj => by
    obtain rfl : i = 0 := by omega
    rfl
  | j + 1, hj => by
    rcases Nat.lt_or_ge j i with h1 | h1
    · obtain rfl : i = j + 1 := by omega
      rfl
    · have ih := wk_stop h j h1
      simp only [wk]
      rw [ih, wstep, if_pos h]
/-- The numbers met and the cycles, once the first k numbers have been looked at. -/
def cycK (p : List Nat) (m : Nat) : Nat → List Bool × List (List Nat)
  | 0 => (List.replicate 16 false, [])
  | k + 1 => if bl (cycK p m k).1 k = true then cycK p m k else ((wk p ((cycK p m k).1, [], k) m).1, (cycK p m k).2 ++ [(wk p ((cycK p m k).1, [], k) m).2.1])
structure IsCyc (p : List Nat) (n : Nat) (c : List Nat) : Prop where
  ne : 0 < c.length
  lt : ∀ x ∈ c, x < n
  nod : c.Nodup
  step : ∀ j, j + 1 < c.length → nl p (nl c j) = nl c (j + 1)
  last : nl p (nl c (c.length - 1)) = nl c 0
  least : ∀ x ∈ c, nl c 0 ≤ x
theorem nl_mem {c : List Nat} {j : Nat} (h : j < c.length) : nl c j ∈ c := by simp [nl, List.getD, h]
theorem mem_nl {c : List Nat} {x : Nat} (h : x ∈ c) : ∃ j, j < c.length ∧ nl c j = x := by
  obtain ⟨i, hi, rfl⟩ := List.mem_iff_getElem.1 h
  exact ⟨i, hi, by simp [nl, List.getD, hi]⟩
theorem nod_nl {c : List Nat} (h : c.Nodup) {i j : Nat} (hi : i < c.length) (hj : j < c.length) (he : nl c i = nl c j) : i = j := by
  have h' := List.pairwise_iff_getElem.1 h
  have e : ∀ k (hk : k < c.length), nl c k = c[k] := fun k hk => by simp [nl, List.getD, hk]
  rcases Nat.lt_trichotomy i j with h1 | h1 | h1
  · exact absurd (by rw [← e i hi, ← e j hj]; exact he) (h' i j hi hj h1)
  · exact h1
  · exact absurd (by rw [← e i hi, ← e j hj]; exact he.symm) (h' j i hj hi h1)
theorem Perm.inj {p : List Nat} {n : Nat} (h : Perm p n) {i j : Nat} (hi : i < n) (hj : j < n) (he : nl p i = nl p j) : i = j := by
  have h1 := h.1
  rcases Nat.lt_trichotomy i j with h2 | h2 | h2
  · exact absurd he (((h.2 j (by omega)).2 (by omega)).2 i h2)
  · exact h2
  · exact absurd he.symm (((h.2 i (by omega)).2 (by omega)).2 j h2)
/-- What stands of the walk. -/
structure WkOk (p : List Nat) (n : Nat) (s0 : List Bool) (i : Nat) (j : Nat) (st : WS) : Prop where
  len : st.1.length = 16
  at_ : st.2.2 < n
  new : bl s0 st.2.2 = false
  mem : ∀ x, bl st.1 x = true ↔ bl s0 x = true ∨ x ∈ st.2.1
  lt : ∀ x ∈ st.2.1, x < n ∧ bl s0 x = false
  nod : st.2.1.Nodup
  cnt : st.1.count true = s0.count true + st.2.1.length
  step : ∀ t, t + 1 < st.2.1.length → nl p (nl st.2.1 t) = nl st.2.1 (t + 1)
  st0 : st.2.1 = [] → st.2.2 = i
  st1 : 0 < st.2.1.length → nl st.2.1 0 = i ∧ nl p (nl st.2.1 (st.2.1.length - 1)) = st.2.2
  go : st.2.1.length = j ∨ bl st.1 st.2.2 = true
theorem WkOk.wk {p : List Nat} {n : Nat} (hp : Perm p n) {s0 : List Bool} {i : Nat} (hl : s0.length = 16) (hi : i < n) (h0 : bl s0 i = false) (hinv : ∀ x, x < n → bl s0 (nl p x) = bl s0 x) : ∀ j, WkOk p n s0 i j (wk p (s0, [], i) j)
  | 0 => by
    refine ⟨hl, hi, h0, fun x => ?_, ?_, ?_, ?_, ?_, ?_, ?_, ?_⟩ <;> simp [Bm.wk]
  | j + 1 => by
    have ih := WkOk.wk hp hl hi h0 hinv j
    have hn := hp.1
    simp only [Bm.wk]
    generalize Bm.wk p (s0, [], i) j = st at ih ⊢
    obtain ⟨s, l, k⟩ := st
    have h1 := ih.len
    have h2 := ih.at_
    have h3 := ih.new
    have h4 := ih.mem
    have h5 := ih.lt
    have h6 := ih.nod
    have h7 := ih.cnt
    have h8 := ih.step
    have h9 := ih.st0
    have h10 := ih.st1
    have h11 := ih.go
    simp only at h1 h2 h3 h4 h5 h6 h7 h8 h9 h10 h11
    unfold wstep
    by_cases hb : bl s k = true
    · rw [if_pos hb]
      exact ⟨h1, h2, h3, h4, h5, h6, h7, h8, h9, h10, .inr hb⟩
    · rw [if_neg hb]
      have hkl : k ∉ l := fun h => hb ((h4 k).2 (.inr h))
      have hk : (l ++ [k]).length = l.length + 1 := by simp
      refine ⟨by simpa using h1, hp.lt h2, by rw [hinv k h2]; exact h3, fun x => ?_, fun x hx => ?_, ?_, ?_, fun t ht => ?_, fun h => by simp at h, fun _ => ?_, .inl ?_⟩
      · show bl (s.set k true) x = true ↔ bl s0 x = true ∨ x ∈ l ++ [k]
        rw [bl_set]
        by_cases e : x = k
        · subst e
          rw [if_pos ⟨rfl, by omega⟩]
          simp
        · rw [if_neg (fun h => e h.1), h4 x]
          simp [e]
      · rcases List.mem_append.1 hx with h | h
        · exact h5 x h
        · rw [List.mem_singleton] at h
          subst h
          exact ⟨h2, h3⟩
      · show (l ++ [k]).Nodup
        rw [List.nodup_append]
        exact ⟨h6, by simp, fun a ha b hb => by
          rw [List.mem_singleton] at hb
          subst hb
          exact fun e => hkl (e ▸ ha)⟩
      · show (s.set k true).count true = s0.count true + (l ++ [k]).length
        rw [count_set_true (by omega) (by simpa using hb), h7, hk]
        omega
      · show nl p (nl (l ++ [k]) t) = nl (l ++ [k]) (t + 1)
        have ht : t + 1 < l.length + 1 := by rw [← hk]; exact ht
        rw [nl_append, nl_append, if_pos (by omega)]
        by_cases e : t + 1 < l.length
        · rw [if_pos e]
          exact h8 t e
        · rw [if_neg e, nl_single (by omega), show t = l.length - 1 by omega]
          exact (h10 (by omega)).2
      · show nl (l ++ [k]) 0 = i ∧ nl p (nl (l ++ [k]) ((l ++ [k]).length - 1)) = nl p k
        rw [hk, Nat.add_sub_cancel]
        refine ⟨?_, by rw [nl_append, if_neg (by omega), Nat.sub_self]; rfl⟩
        rw [nl_append]
        split
        · rename_i h
          exact (h10 h).1
        · rename_i h
          have : l = [] := List.eq_nil_of_length_eq_zero (by omega)
          subst this
          exact h9 rfl
      · show (l ++ [k]).length = j + 1
        rw [hk]
        rcases h11 with h | h
        · omega
        · exact absurd h hb
theorem WkOk.done {p : List Nat} {n m : Nat} (hm : m = 16) (hp : Perm p n) {s0 : List Bool} {i : Nat} (hl : s0.length = 16) (hi : i < n) (h0 : bl s0 i = false) (hinv : ∀ x, x < n → bl s0 (nl p x) = bl s0 x) :
    bl (Bm.wk p (s0, [], i) m).1 (Bm.wk p (s0, [], i) m).2.2 = true := by
  have h16 := WkOk.wk hp hl hi h0 hinv m
  have h17 := WkOk.wk hp hl hi h0 hinv (m + 1)
  rcases h16.go with h | h
  · cases hb : bl (Bm.wk p (s0, [], i) m).1 (Bm.wk p (s0, [], i) m).2.2 with
    | true => rfl
    | false =>
      have e : Bm.wk p (s0, [], i) (m + 1) = wstep p (Bm.wk p (s0, [], i) m) := rfl
      rw [wstep, if_neg (by simp [hb])] at e
      have h1 := h17.cnt
      have h2 := List.count_le_length (a := true) (l := (Bm.wk p (s0, [], i) (m + 1)).1)
      have h3 := h17.len
      have h4 : (Bm.wk p (s0, [], i) (m + 1)).2.1.length = m + 1 := by rw [e]; simp [h]
      omega
  · exact h
theorem WkOk.cyc {p : List Nat} {n m : Nat} (hm : m = 16) (hp : Perm p n) {s0 : List Bool} {i : Nat} (hl : s0.length = 16) (hi : i < n) (h0 : bl s0 i = false) (hinv : ∀ x, x < n → bl s0 (nl p x) = bl s0 x) (hup : ∀ x, x < i → bl s0 x = true) :
    IsCyc p n (Bm.wk p (s0, [], i) m).2.1 ∧ nl (Bm.wk p (s0, [], i) m).2.1 0 = i := by
  have h := WkOk.wk hp hl hi h0 hinv m
  have hd := WkOk.done hm hp hl hi h0 hinv
  generalize Bm.wk p (s0, [], i) m = st at h hd ⊢
  obtain ⟨s, l, k⟩ := st
  have hkl : k ∈ l := by
    rcases (h.mem k).1 hd with h1 | h1
    · exact absurd h1 (by have := h.new; simp only at this; simp [this])
    · exact h1
  have hne : 0 < l.length := List.length_pos_of_mem hkl
  obtain ⟨hz, hla⟩ := h.st1 hne
  simp only at hz hla
  obtain ⟨j, hj, hje⟩ := mem_nl hkl
  have hlt : ∀ t, t < l.length → nl l t < n := fun t ht => (h.lt _ (nl_mem ht)).1
  have hj0 : j = 0 := by
    rcases Nat.eq_zero_or_pos j with h1 | h1
    · exact h1
    · exfalso
      have h2 := h.step (j - 1) (by show j - 1 + 1 < l.length; omega)
      simp only at h2
      rw [show j - 1 + 1 = j by omega, hje, ← hla] at h2
      have h3 := hp.inj (hlt _ (by omega)) (hlt _ (by omega)) h2
      have h4 := nod_nl h.nod (by show j - 1 < l.length; omega) (by show l.length - 1 < l.length; omega) h3
      omega
  subst hj0
  refine ⟨⟨hne, fun x hx => (h.lt x hx).1, h.nod, h.step, by rw [hla]; exact hje.symm, fun x hx => ?_⟩, hz⟩
  rw [hz]
  rcases Nat.lt_or_ge x i with h1 | h1
  · have h2 := (h.lt x hx).2
    rw [hup x h1] at h2
    cases h2
  · exact h1
theorem IsCyc.fwd {p : List Nat} {n : Nat} {c : List Nat} (h : IsCyc p n c) {x : Nat} (hx : x ∈ c) : nl p x ∈ c := by
  obtain ⟨j, hj, rfl⟩ := mem_nl hx
  by_cases e : j + 1 < c.length
  · rw [h.step j e]
    exact nl_mem e
  · rw [show j = c.length - 1 by omega, h.last]
    exact nl_mem h.ne
theorem IsCyc.bwd {p : List Nat} {n : Nat} {c : List Nat} (hp : Perm p n) (h : IsCyc p n c) {x : Nat} (hx : x < n) (hm : nl p x ∈ c) : x ∈ c := by
  obtain ⟨j, hj, hje⟩ := mem_nl hm
  by_cases e : j = 0
  · subst e
    rw [← h.last] at hje
    have := hp.inj (h.lt _ (nl_mem (by have := h.ne; omega))) hx hje
    rw [← this]
    exact nl_mem (by have := h.ne; omega)
  · have h2 := h.step (j - 1) (by omega)
    rw [show j - 1 + 1 = j by omega, hje] at h2
    have := hp.inj (h.lt _ (nl_mem (by omega))) hx h2
    rw [← this]
    exact nl_mem (by omega)
structure CycOk (p : List Nat) (n i : Nat) (sc : List Bool × List (List Nat)) : Prop where
  len : sc.1.length = 16
  mem : ∀ x, bl sc.1 x = true ↔ ∃ c ∈ sc.2, x ∈ c
  inv : ∀ x, x < n → bl sc.1 (nl p x) = bl sc.1 x
  cyc : ∀ c ∈ sc.2, IsCyc p n c
  cnt : sc.1.count true = sc.2.flatten.length
  nod : sc.2.flatten.Nodup
  upto : ∀ x, x < i → bl sc.1 x = true
  hd : ∀ c ∈ sc.2, nl c 0 < i
  num : sc.2.length ≤ i
theorem CycOk.all {p : List Nat} {n m : Nat} (hm : m = 16) (hp : Perm p n) : ∀ {i : Nat}, i ≤ n → CycOk p n i (cycK p m i)
  | 0, _ => by
    have h0 : ∀ x, bl (List.replicate 16 false) x = false := fun x => bl_rep
    rw [show cycK p m 0 = (List.replicate 16 false, []) from rfl]
    have hno : ∀ c : List Nat, c ∉ ([] : List (List Nat)) := fun c => List.not_mem_nil
    have hc0 : (List.replicate 16 false).count true = 0 := rfl
    exact ⟨List.length_replicate, fun x => ⟨fun h => absurd ((h0 x).symm.trans h) Bool.false_ne_true, fun ⟨c, h, _⟩ => absurd h (hno c)⟩, fun x _ => (h0 _).trans (h0 x).symm, fun c h => absurd h (hno c), hc0, List.nodup_nil, fun x h => absurd h (Nat.not_lt_zero x), fun c h => absurd h (hno c), Nat.le_refl _⟩
  | i + 1, hi => by
    have ih := CycOk.all hm hp (i := i) (by omega)
    have hn := hp.1
    simp only [cycK]
    generalize cycK p m i = sc at ih ⊢
    by_cases hb : bl sc.1 i = true
    · rw [if_pos hb]
      exact ⟨ih.len, ih.mem, ih.inv, ih.cyc, ih.cnt, ih.nod, fun x hx => by
        by_cases e : x = i
        · rw [e]; exact hb
        · exact ih.upto x (by omega), fun c hc => by have := ih.hd c hc; omega, by have := ih.num; omega⟩
    · rw [if_neg hb]
      have h0 : bl sc.1 i = false := by simpa using hb
      have hw := WkOk.wk hp ih.len (show i < n by omega) h0 ih.inv m
      obtain ⟨hc, hz⟩ := WkOk.cyc hm hp ih.len (show i < n by omega) h0 ih.inv ih.upto
      generalize Bm.wk p (sc.1, [], i) m = st at hw hc hz ⊢
      obtain ⟨s, l, k⟩ := st
      have hm := hw.mem
      have hlt := hw.lt
      have hwc := hw.cnt
      simp only at hc hz hm hlt hwc ⊢
      have hil : i ∈ l := by rw [← hz]; exact nl_mem hc.ne
      refine ⟨hw.len, fun x => ?_, fun x hx => ?_, fun c hc' => ?_, ?_, ?_, fun x hx => ?_, fun c hc' => ?_, by simp; exact ih.num⟩
      · show bl s x = true ↔ _
        rw [hm x, ih.mem x]
        simp only [List.mem_append, List.mem_singleton]
        constructor
        · rintro (⟨c, h1, h2⟩ | h)
          · exact ⟨c, .inl h1, h2⟩
          · exact ⟨l, .inr rfl, h⟩
        · rintro ⟨c, h1 | rfl, h2⟩
          · exact .inl ⟨c, h1, h2⟩
          · exact .inr h2
      · show bl s (nl p x) = bl s x
        have key : bl s (nl p x) = true ↔ bl s x = true := by
          rw [hm, hm, ih.inv x hx]
          constructor
          · rintro (h | h)
            · exact .inl h
            · exact .inr (hc.bwd hp hx h)
          · rintro (h | h)
            · exact .inl h
            · exact .inr (hc.fwd h)
        exact Bool.eq_iff_iff.2 key
      · rcases List.mem_append.1 hc' with h | h
        · exact ih.cyc c h
        · rw [List.mem_singleton] at h
          subst h
          exact hc
      · show s.count true = (sc.2 ++ [l]).flatten.length
        rw [hwc, ih.cnt]
        simp
      · show (sc.2 ++ [l]).flatten.Nodup
        rw [List.flatten_append, List.nodup_append]
        refine ⟨ih.nod, by simpa using hw.nod, fun a ha b hb' => ?_⟩
        have hb'' : b ∈ l := by simpa using hb'
        rintro rfl
        obtain ⟨c, h1, h2⟩ := List.mem_flatten.1 ha
        have h3 := (ih.mem a).2 ⟨c, h1, h2⟩
        rw [(hlt a hb'').2] at h3
        cases h3
      · show bl s x = true
        rw [hm]
        by_cases e : x = i
        · rw [e]; exact .inr hil
        · exact .inl (ih.upto x (by omega))
      · rcases List.mem_append.1 hc' with h | h
        · have := ih.hd c h; omega
        · rw [List.mem_singleton] at h
          subst h
          omega
def cyc (p : List Nat) (n : Nat) : List (List Nat) := (cycK p 16 n).2
section
variable {p : List Nat} {n : Nat}
theorem cyc_at (hp : Perm p n) {x : Nat} (hx : x < n) : ∃ c ∈ cyc p n, x ∈ c := ((CycOk.all rfl hp (Nat.le_refl n)).mem x).1 ((CycOk.all rfl hp (Nat.le_refl n)).upto x hx)
theorem cyc_is (hp : Perm p n) {c : List Nat} (h : c ∈ cyc p n) : IsCyc p n c := (CycOk.all rfl hp (Nat.le_refl n)).cyc c h
theorem cyc_num (hp : Perm p n) : (cyc p n).length ≤ n := (CycOk.all rfl hp (Nat.le_refl n)).num
theorem cyc_len (hp : Perm p n) {c : List Nat} (h : c ∈ cyc p n) : 1 ≤ c.length ∧ c.length ≤ n := by
  have hc := cyc_is hp h
  refine ⟨hc.ne, ?_⟩
  have : ∀ (m : Nat) (c : List Nat), c.Nodup → (∀ x ∈ c, x < m) → c.length ≤ m := by
    intro m
    induction m with
    | zero =>
      intro c _ hc
      cases c with
      | nil => simp
      | cons a c => exact absurd (hc a (by simp)) (by omega)
    | succ m ih =>
      intro c hn hc
      have h1 := ih (c.erase m) (hn.erase m) fun x hx => by
        have h2 := hc x (List.mem_of_mem_erase hx)
        have h3 : x ≠ m := fun e => by
          subst e
          exact (List.Nodup.not_mem_erase hn) hx
        omega
      have h4 := List.length_erase (a := m) (l := c)
      split at h4 <;> omega
  exact this n c hc.nod hc.lt
end
end Go.Bm

/- What is reached from each dart, and names from a dart: the plain law. -/
set_option linter.unusedVariables false
set_option linter.unusedSimpArgs false
namespace Go.Bm
open Go Go.Am

def none16 : List Bool := List.replicate 16 false
theorem none16_bl {x : Nat} : bl none16 x = false := bl_rep
theorem none16_len : none16.length = 16 := by simp [none16]
/-- One starts at x, nothing met but x. -/
def stA (x : Nat) : BS := (none16.set x true, [x])
/-- What stands once what the first d lead to has been met. -/
structure BfOk (ls : List (List Nat)) (n x d : Nat) (st : BS) : Prop where
  len : st.1.length = 16
  mem : ∀ y, bl st.1 y = true ↔ y ∈ st.2
  nod : st.2.Nodup
  lt : ∀ y ∈ st.2, y < n
  pre : ∃ r, st.2 = x :: r
  le : d ≤ st.2.length
  done : ∀ j, j < d → ∀ p ∈ ls, nl p (nl st.2 j) ∈ st.2
theorem BfOk.visit {ls : List (List Nat)} {n x d y : Nat} {st : BS} (hn : n ≤ 16) (h : BfOk ls n x d st) (hy : y < n) : BfOk ls n x d (Bm.visit st y) ∧ (∃ q, (Bm.visit st y).2 = st.2 ++ q) ∧ y ∈ (Bm.visit st y).2 := by
  unfold Bm.visit
  by_cases hb : bl st.1 y = true
  · rw [if_pos hb]
    exact ⟨h, ⟨[], by simp⟩, (h.mem y).1 hb⟩
  · rw [if_neg hb]
    have hny : y ∉ st.2 := fun hm => hb ((h.mem y).2 hm)
    refine ⟨⟨by simpa using h.len, fun z => ?_, ?_, fun z hz => ?_, ?_, ?_, fun j hj1 p hp => ?_⟩, ⟨[y], rfl⟩, by simp⟩
    · show bl (st.1.set y true) z = true ↔ z ∈ st.2 ++ [y]
      rw [bl_set]
      by_cases e : z = y
      · subst e
        rw [if_pos ⟨rfl, by have := h.len; omega⟩]
        simp
      · rw [if_neg (fun k => e k.1), h.mem z]
        simp [e]
    · show (st.2 ++ [y]).Nodup
      rw [List.nodup_append]
      exact ⟨h.nod, by simp, fun a ha b hb => by
        rw [List.mem_singleton] at hb
        subst hb
        exact fun e => hny (e ▸ ha)⟩
    · rcases List.mem_append.1 hz with k | k
      · exact h.lt z k
      · rw [List.mem_singleton] at k
        omega
    · obtain ⟨r, hr⟩ := h.pre
      exact ⟨r ++ [y], by show st.2 ++ [y] = _; rw [hr]; rfl⟩
    · show d ≤ (st.2 ++ [y]).length
      have := h.le
      simp
      omega
    · show nl p (nl (st.2 ++ [y]) j) ∈ st.2 ++ [y]
      rw [nl_append, if_pos (by have := h.le; omega)]
      exact List.mem_append_left _ (h.done j hj1 p hp)
theorem BfOk.round {ls : List (List Nat)} {n x d z : Nat} (hn : n ≤ 16) : ∀ {l2 : List (List Nat)} {st : BS}, BfOk ls n x d st → (∀ p ∈ l2, nl p z < n) → BfOk ls n x d (roundX l2 z st) ∧ (∃ q, (roundX l2 z st).2 = st.2 ++ q) ∧ ∀ p ∈ l2, nl p z ∈ (roundX l2 z st).2
  | [], st, h, _ => ⟨h, ⟨[], by simp [roundX]⟩, by simp⟩
  | p :: l2, st, h, hp => by
    obtain ⟨h1, ⟨q1, h2⟩, h3⟩ := h.visit hn (hp p (by simp))
    obtain ⟨h4, ⟨q2, h5⟩, h6⟩ := BfOk.round hn (l2 := l2) h1 fun q hq => hp q (by simp [hq])
    have e : roundX (p :: l2) z st = roundX l2 z (Bm.visit st (nl p z)) := rfl
    rw [e]
    refine ⟨h4, ⟨q1 ++ q2, by rw [h5, h2, List.append_assoc]⟩, fun q hq => ?_⟩
    rcases List.mem_cons.1 hq with rfl | hq
    · rw [h5]
      exact List.mem_append_left _ h3
    · exact h6 q hq
theorem BfOk.bfs {ls : List (List Nat)} {n x : Nat} {st : BS} (hn : n ≤ 16) (hl : ∀ p ∈ ls, ∀ y, y < n → nl p y < n) (h : BfOk ls n x 0 st) : ∀ i, BfOk ls n x (min i (Bm.bfs ls st i).2.length) (Bm.bfs ls st i)
  | 0 => by rw [Nat.zero_min]; exact h
  | i + 1 => by
    have ih := BfOk.bfs hn hl h i
    simp only [Bm.bfs]
    generalize Bm.bfs ls st i = s at ih ⊢
    by_cases hi : i < s.2.length
    · rw [if_pos hi]
      rw [Nat.min_eq_left (by omega)] at ih
      obtain ⟨h1, ⟨q, h2⟩, h3⟩ := ih.round hn (z := nl s.2 i) (l2 := ls) fun p hp => hl p hp _ (ih.lt _ (nl_mem hi))
      have hlen : i + 1 ≤ (roundX ls (nl s.2 i) s).2.length := by rw [h2]; simp; omega
      rw [Nat.min_eq_left hlen]
      refine ⟨h1.len, h1.mem, h1.nod, h1.lt, h1.pre, hlen, fun j hj p hp => ?_⟩
      by_cases e : j = i
      · subst e
        have : nl (roundX ls (nl s.2 j) s).2 j = nl s.2 j := by rw [h2, nl_append, if_pos hi]
        rw [this]
        exact h3 p hp
      · exact h1.done j (by omega) p hp
    · rw [if_neg hi]
      rw [Nat.min_eq_right (by omega)] at ih
      rw [Nat.min_eq_right (by omega)]
      exact ih
theorem BfOk.start {ls : List (List Nat)} {n x : Nat} (hn : n ≤ 16) (hx : x < n) : BfOk ls n x 0 (stA x) := by
  refine ⟨by simp [stA, none16_len], fun y => ?_, by simp [stA], fun y hy => ?_, ⟨[], rfl⟩, Nat.zero_le _, fun j hj => by omega⟩
  · show bl (none16.set x true) y = true ↔ y ∈ [x]
    rw [bl_set, none16_len, none16_bl]
    by_cases e : y = x
    · rw [if_pos ⟨e, by omega⟩]; simp [e]
    · rw [if_neg (fun k => e k.1)]; simp [e]
  · rw [show (stA x).2 = [x] from rfl, List.mem_singleton] at hy
    omega
theorem nodup_le {n : Nat} {l : List Nat} (h : l.Nodup) (hl : ∀ x ∈ l, x < n) : l.length ≤ n := by
  have := List.Nodup.length_le_of_subset h (l₂ := List.range n) fun x hx => List.mem_range.2 (hl x hx)
  simpa using this
theorem nodup_full {n : Nat} {l : List Nat} (h : l.Nodup) (hl : ∀ x ∈ l, x < n) (hn : n ≤ l.length) {x : Nat} (hx : x < n) : x ∈ l := by
  apply Classical.byContradiction
  intro hxl
  have := nodup_le (n := n) (l := x :: l) (List.nodup_cons.2 ⟨hxl, h⟩) (by
    intro y hy
    rcases List.mem_cons.1 hy with rfl | hy
    · exact hx
    · exact hl y hy)
  rw [List.length_cons] at this
  omega
/-- The darts in the order in which they are met from x. -/
def ord (b w : List Nat) (x : Nat) : List Nat := (bfs [b, w] (stA x) 16).2
section
variable {b w : List Nat} {n : Nat}
theorem ord_bf (hb : Perm b n) (hw : Perm w n) {x : Nat} (hx : x < n) : BfOk [b, w] n x (ord b w x).length (bfs [b, w] (stA x) 16) := by
  have hn := hb.1
  have h := (BfOk.start (ls := [b, w]) (x := x) (n := n) (by omega) hx).bfs (by omega) (by
    intro p hp y hy
    simp only [List.mem_cons, List.not_mem_nil, or_false] at hp
    rcases hp with rfl | rfl
    · exact hb.lt hy
    · exact hw.lt hy) 16
  have h16 := nodup_le h.nod h.lt
  rw [Nat.min_eq_right (by omega)] at h
  exact h
theorem ord_cl (hb : Perm b n) (hw : Perm w n) {x : Nat} (hx : x < n) : ∀ y ∈ ord b w x, nl b y ∈ ord b w x ∧ nl w y ∈ ord b w x := fun y hy => by
  have h := ord_bf hb hw hx
  obtain ⟨j, hj, rfl⟩ := mem_nl hy
  exact ⟨h.done j hj b (by simp), h.done j hj w (by simp)⟩
/-- What a permutation leads into itself is also led into itself backwards. -/
theorem closed_bwd {p : List Nat} (hp : Perm p n) {S : Nat → Prop} (hS : ∀ x, x < n → S x → S (nl p x)) {x : Nat} (hx : x < n) (h : S (nl p x)) : S x := by
  obtain ⟨c, hc, hxc⟩ := cyc_at hp hx
  have hi := cyc_is hp hc
  obtain ⟨j, hj, hje⟩ := mem_nl (hi.fwd hxc)
  have hup : ∀ d, j + d < c.length → S (nl c (j + d)) := by
    intro d
    induction d with
    | zero => intro _; rw [Nat.add_zero, hje]; exact h
    | succ d ih =>
      intro hd
      rw [← Nat.add_assoc, ← hi.step (j + d) (by omega)]
      exact hS _ (hi.lt _ (nl_mem (by omega))) (ih (by omega))
  have h0 : S (nl c 0) := by
    rw [← hi.last]
    have := hup (c.length - 1 - j) (by omega)
    rw [show j + (c.length - 1 - j) = c.length - 1 by omega] at this
    exact hS _ (hi.lt _ (nl_mem (by omega))) this
  have hall : ∀ k, k < c.length → S (nl c k) := by
    intro k
    induction k with
    | zero => intro _; exact h0
    | succ k ih =>
      intro hk
      rw [← hi.step k hk]
      exact hS _ (hi.lt _ (nl_mem (by omega))) (ih (by omega))
  obtain ⟨k, hk, rfl⟩ := mem_nl hxc
  exact hall k hk
theorem Des.reach (h : Des n b w) {y : Nat} (hy : y < n) : y ∈ ord b w 0 := by
  obtain ⟨hb, hw, hr⟩ := h
  have hn := hb.1
  have h1 := ord_bf hb hw (x := 0) (by omega)
  refine nodup_full h1.nod h1.lt ?_ hy
  have : (Bm.reach b w).2.length = n := by omega
  have e : (bfs [b, w] (stA 0) 16).2.length = n := this
  omega
/-- What is true of 0 and led on by both permutations is true of all darts. -/
theorem Des.ind (h : Des n b w) (S : Nat → Prop) (s1 : ∀ z, z < n → S z → S (nl b z)) (s2 : ∀ z, z < n → S z → S (nl w z)) (s0 : S 0) : ∀ z, z < n → S z := by
  obtain ⟨hb, hw, hr⟩ := id h
  have hn := hb.1
  intro z hz
  have hcl : ∀ i, ∀ z ∈ (bfs [b, w] (stA 0) i).2, z < n ∧ S z := by
    have hv : ∀ (st : BS) (y : Nat), (∀ z ∈ st.2, z < n ∧ S z) → y < n → S y → ∀ z ∈ (visit st y).2, z < n ∧ S z := by
      intro st y h1 h2 h3 z hz
      unfold visit at hz
      split at hz
      · exact h1 z hz
      · rcases List.mem_append.1 hz with k | k
        · exact h1 z k
        · rw [List.mem_singleton] at k
          subst k
          exact ⟨h2, h3⟩
    intro i
    induction i with
    | zero =>
      intro z hz
      have : z = 0 := by simpa [bfs, stA] using hz
      subst this
      exact ⟨by omega, s0⟩
    | succ i ih =>
      simp only [bfs]
      split
      · rename_i hi
        obtain ⟨hz1, hz2⟩ := ih _ (nl_mem hi)
        exact hv _ _ (hv _ _ ih (hb.lt hz1) (s1 _ hz1 hz2)) (hw.lt hz1) (s2 _ hz1 hz2)
      · exact ih
  exact (hcl 16 z (h.reach hz)).2
/-- From each dart all are reached. -/
theorem Des.all (h : Des n b w) {x y : Nat} (hx : x < n) (hy : y < n) : y ∈ ord b w x := by
  obtain ⟨hb, hw, hr⟩ := id h
  have hn := hb.1
  have h0 := h.ind
  have hx0 : (ord b w x) = (ord b w x) := rfl
  have hfw := ord_cl hb hw hx
  have key : ∀ z, z < n → (z ∈ ord b w x ↔ 0 ∈ ord b w x) := by
    refine h0 _ ?_ ?_ Iff.rfl
    · intro z hz hS
      rw [← hS]
      exact ⟨closed_bwd hb (S := fun z => z ∈ ord b w x) (fun z _ h => (hfw z h).1) hz, fun h => (hfw z h).1⟩
    · intro z hz hS
      rw [← hS]
      exact ⟨closed_bwd hw (S := fun z => z ∈ ord b w x) (fun z _ h => (hfw z h).2) hz, fun h => (hfw z h).2⟩
  have hxx : x ∈ ord b w x := by
    obtain ⟨r, hr⟩ := (ord_bf hb hw hx).pre
    rw [ord, hr]
    simp
  exact (key y hy).2 ((key x hx).1 hxx)
/-! ### Names -/
end
section
variable {b w b' w' : List Nat} {n : Nat}
/-- Two dessins that a map of the darts leads to each other. -/
structure Iso (n : Nat) (b w b' w' : List Nat) (φ : Nat → Nat) : Prop where
  lt : ∀ y, y < n → φ y < n
  inj : ∀ y z, y < n → z < n → φ y = φ z → y = z
  b : ∀ y, y < n → nl b' (φ y) = φ (nl b y)
  w : ∀ y, y < n → nl w' (φ y) = φ (nl w y)
structure BfRel (n : Nat) (φ : Nat → Nat) (st st' : BS) : Prop where
  ord : st'.2 = st.2.map φ
  lt : ∀ y ∈ st.2, y < n
  met : ∀ y, y < n → bl st'.1 (φ y) = bl st.1 y
  len : st.1.length = 16 ∧ st'.1.length = 16
theorem BfRel.visit {φ : Nat → Nat} {st st' : BS} {y : Nat} (hn : n ≤ 16) (hl : ∀ y, y < n → φ y < n) (hinj : ∀ y z, y < n → z < n → φ y = φ z → y = z) (h : BfRel n φ st st') (hy : y < n) : BfRel n φ (Bm.visit st y) (Bm.visit st' (φ y)) := by
  unfold Bm.visit
  rw [h.met y hy]
  by_cases hb : bl st.1 y = true
  · rw [if_pos hb, if_pos hb]; exact h
  · rw [if_neg hb, if_neg hb]
    refine ⟨by simp [h.ord], fun z hz => ?_, fun z hz => ?_, by simpa using h.len⟩
    · rcases List.mem_append.1 hz with k | k
      · exact h.lt z k
      · rw [List.mem_singleton] at k; omega
    · show bl (st'.1.set (φ y) true) (φ z) = bl (st.1.set y true) z
      have := hl y hy
      rw [bl_set, bl_set, h.len.1, h.len.2, h.met z hz]
      by_cases e : z = y
      · subst e; rw [if_pos ⟨rfl, by omega⟩, if_pos ⟨rfl, by omega⟩]
      · rw [if_neg (fun k => e (hinj _ _ hz hy k.1)), if_neg (fun k => e k.1)]
theorem nl_map {φ : Nat → Nat} {l : List Nat} {i : Nat} (h : i < l.length) : nl (l.map φ) i = φ (nl l i) := by simp [nl, List.getD, h]
theorem Iso.ord {φ : Nat → Nat} (hn : n ≤ 16) (hb : Perm b n) (hw : Perm w n) (h : Iso n b w b' w' φ) {x : Nat} (hx : x < n) : Bm.ord b' w' (φ x) = (Bm.ord b w x).map φ := by
  have key : ∀ i, BfRel n φ (bfs [b, w] (stA x) i) (bfs [b', w'] (stA (φ x)) i) := by
    intro i
    induction i with
    | zero =>
      refine ⟨rfl, fun y hy => ?_, fun y hy => ?_, by simp [bfs, stA, none16_len]⟩
      · have : y = x := by simpa [bfs, stA] using hy
        omega
      · show bl (none16.set (φ x) true) (φ y) = bl (none16.set x true) y
        have := h.lt x hx
        rw [bl_set, bl_set, none16_len, none16_bl, none16_bl]
        by_cases e : y = x
        · subst e; rw [if_pos ⟨rfl, by omega⟩, if_pos ⟨rfl, by omega⟩]
        · rw [if_neg (fun k => e (h.inj _ _ hy hx k.1)), if_neg (fun k => e k.1)]
    | succ i ih =>
      simp only [bfs]
      generalize bfs [b, w] (stA x) i = st at ih ⊢
      generalize bfs [b', w'] (stA (φ x)) i = st' at ih ⊢
      have hle : st'.2.length = st.2.length := by rw [ih.ord, List.length_map]
      rw [hle]
      by_cases hi : i < st.2.length
      · rw [if_pos hi, if_pos hi]
        have e : nl st'.2 i = φ (nl st.2 i) := by rw [ih.ord, nl_map hi]
        rw [e]
        generalize hz : nl st.2 i = z
        have hz1 : z < n := by rw [← hz]; exact ih.lt _ (nl_mem hi)
        show BfRel n φ (Bm.visit (Bm.visit st (nl b z)) (nl w z)) (Bm.visit (Bm.visit st' (nl b' (φ z))) (nl w' (φ z)))
        rw [h.b z hz1, h.w z hz1]
        exact (ih.visit hn h.lt h.inj (hb.lt hz1)).visit hn h.lt h.inj (hw.lt hz1)
      · rw [if_neg hi, if_neg hi]
        exact ih
  exact (key 16).ord
end

/-! ### The least one -/
abbrev L2 := List Nat × List Nat
def lt2 (x y : L2) : Prop := x.1 < y.1 ∨ (x.1 = y.1 ∧ x.2 < y.2)
instance (x y : L2) : Decidable (lt2 x y) := by unfold lt2; infer_instance
section
variable {b w b' w' : List Nat} {n : Nat}
end
end Go.Bm

/- Mirror images are dessins: the plain law. -/
set_option linter.unusedVariables false
set_option linter.unusedSimpArgs false
namespace Go.Bm
open Go Go.Am

/-! ### Mirror images are dessins -/
section
variable {p b w : List Nat} {n : Nat}
theorem Perm.surj (hp : Perm p n) {y : Nat} (hy : y < n) : ∃ x, x < n ∧ nl p x = y := by
  obtain ⟨c, hc, hyc⟩ := cyc_at hp hy
  have hi := cyc_is hp hc
  obtain ⟨j, hj, rfl⟩ := mem_nl hyc
  by_cases e : j = 0
  · subst e
    exact ⟨_, hi.lt _ (nl_mem (by omega)), hi.last⟩
  · have := hi.step (j - 1) (by omega)
    rw [show j - 1 + 1 = j by omega] at this
    exact ⟨_, hi.lt _ (nl_mem (by omega)), this⟩
theorem back_at (hp : Perm p n) : ∀ {k i : Nat}, k ≤ n → i < k → nl (backK p k) (nl p i) = i
  | 0, _, _, h => by omega
  | k + 1, i, hk, hi => by
    have hn := hp.1
    rw [backK, nl_set, backK_len]
    by_cases e : i = k
    · subst e
      rw [if_pos ⟨rfl, by have := hp.lt (show i < n by omega); omega⟩]
    · rw [if_neg (fun h => e (hp.inj (by omega) (by omega) h.1)), back_at hp (by omega) (by omega)]
theorem back_out (hp : Perm p n) {i : Nat} (hi : n ≤ i) : ∀ {k : Nat}, k ≤ n → nl (backK p k) i = 0
  | 0, _ => by simp only [backK, nl_rep]; split <;> rfl
  | k + 1, hk => by
    have := hp.lt (show k < n by omega)
    rw [backK, nl_set, if_neg (by omega), back_out hp hi (by omega)]
theorem Perm.back (hp : Perm p n) : Perm (backK p n) n := by
  refine ⟨hp.1, fun i _ => ⟨fun h => back_out hp (by omega) (Nat.le_refl _), fun h => ?_⟩⟩
  obtain ⟨x, hx, rfl⟩ := hp.surj (show i < n by omega)
  rw [back_at hp (Nat.le_refl _) hx]
  refine ⟨by omega, fun j hj => ?_⟩
  obtain ⟨y, hy, rfl⟩ := hp.surj (show j < n by omega)
  rw [back_at hp (Nat.le_refl _) hy]
  intro e
  subst e
  omega
end
end Go.Bm

/- Trees: the plain law. Without any one dart a tree falls apart; what lies behind a dart is less and less. -/
set_option linter.unusedVariables false
set_option linter.unusedSimpArgs false
namespace Go.Bm
open Go Go.Am

theorem then_perm {b w : List Nat} {n : Nat} (hb : Perm b n) (hw : Perm w n) : Perm (thenK b w n) n := by
  have hn := hb.1
  refine ⟨hb.1, fun i _ => ⟨fun h => by rw [thenK_nl (by omega), if_neg (by omega)], fun h => ?_⟩⟩
  have hi : i < n := by omega
  rw [thenK_nl (by omega), if_pos hi]
  have h1 := hw.lt (hb.lt hi)
  refine ⟨by omega, fun j hj e => ?_⟩
  rw [thenK_nl (by omega), if_pos (by omega)] at e
  have := hb.inj (by omega) hi (hw.inj (hb.lt (by omega)) (hb.lt hi) e)
  omega
theorem face_perm {b w : List Nat} {n : Nat} (hb : Perm b n) (hw : Perm w n) : Perm (faceP b w n) n := (then_perm hb hw).back
/-- A tree: one face, and one vertex more than edges. -/
def Tree (n : Nat) (b w : List Nat) : Prop := (cyc (faceP b w n) n).length = 1 ∧ (cyc b n).length + (cyc w n).length = n + 1
instance (n : Nat) (b w : List Nat) : Decidable (Tree n b w) := by unfold Tree; infer_instance

/-! ### Vertices by number -/
def vix (p : List Nat) (n x : Nat) : Nat := (cyc p n).findIdx fun c => c.contains x
theorem vix_lt {p : List Nat} {n x : Nat} (hp : Perm p n) (hx : x < n) : vix p n x < (cyc p n).length := by
  obtain ⟨c, hc, hxc⟩ := cyc_at hp hx
  exact List.findIdx_lt_length_of_exists ⟨c, hc, by simpa using hxc⟩
theorem vix_mem {p : List Nat} {n x : Nat} (hp : Perm p n) (hx : x < n) : x ∈ (cyc p n)[vix p n x]'(vix_lt hp hx) := by
  have h2 : ((cyc p n)[vix p n x]'(vix_lt hp hx)).contains x = true := List.findIdx_getElem (w := vix_lt hp hx)
  simpa using h2
theorem cyc_nod {p : List Nat} {n : Nat} (hp : Perm p n) : (cyc p n).flatten.Nodup := (CycOk.all rfl hp (Nat.le_refl n)).nod
/-- A number is in one cycle only. -/
theorem flat_uniq : ∀ {cs : List (List Nat)} {i j x : Nat} (hi : i < cs.length) (hj : j < cs.length), cs.flatten.Nodup → x ∈ cs[i] → x ∈ cs[j] → i = j
  | c :: cs, 0, 0, x, _, _, _, _, _ => rfl
  | c :: cs, 0, j + 1, x, _, hj, hn, h1, h2 => by
    rw [List.flatten_cons, List.nodup_append] at hn
    exact absurd rfl (hn.2.2 x h1 x (List.mem_flatten.2 ⟨_, List.getElem_mem (by simpa using hj), h2⟩))
  | c :: cs, i + 1, 0, x, hi, _, hn, h1, h2 => by
    rw [List.flatten_cons, List.nodup_append] at hn
    exact absurd rfl (hn.2.2 x h2 x (List.mem_flatten.2 ⟨_, List.getElem_mem (by simpa using hi), h1⟩))
  | c :: cs, i + 1, j + 1, x, hi, hj, hn, h1, h2 => by
    rw [List.flatten_cons, List.nodup_append] at hn
    rw [flat_uniq (cs := cs) (by simpa using hi) (by simpa using hj) hn.2.1 h1 h2]
theorem vix_of {p : List Nat} {n x i : Nat} (hp : Perm p n) (hx : x < n) (hi : i < (cyc p n).length) (h : x ∈ (cyc p n)[i]) : vix p n x = i :=
  flat_uniq (vix_lt hp hx) hi (cyc_nod hp) (vix_mem hp hx) h
theorem vix_step {p : List Nat} {n x : Nat} (hp : Perm p n) (hx : x < n) : vix p n (nl p x) = vix p n x :=
  vix_of hp (hp.lt hx) (vix_lt hp hx) ((cyc_is hp (List.getElem_mem _)).fwd (vix_mem hp hx))
theorem vix_surj {p : List Nat} {n i : Nat} (hp : Perm p n) (hi : i < (cyc p n).length) : ∃ x, x < n ∧ vix p n x = i := by
  have hc := cyc_is hp (List.getElem_mem hi)
  have hm : nl (cyc p n)[i] 0 ∈ (cyc p n)[i] := nl_mem hc.ne
  exact ⟨_, hc.lt _ hm, vix_of hp (hc.lt _ hm) hi hm⟩

/-! ### Pieces: numbers of vertices that stay connected, edge by edge -/
def merge (f : Nat → Nat) (e : Nat × Nat) : Nat → Nat := fun x => if f x = f e.1 then f e.2 else f x
def pieces (es : List (Nat × Nat)) : Nat → Nat := es.foldl merge id
theorem pieces_two : ∀ (es : List (Nat × Nat)) (f : Nat → Nat) (V m : Nat) (S : List Nat), S.Nodup → m + es.length ≤ S.length → (∀ a ∈ S, ∃ x, x < V ∧ f x = a) →
    ∃ S' : List Nat, S'.Nodup ∧ m ≤ S'.length ∧ ∀ a ∈ S', ∃ x, x < V ∧ (es.foldl merge f) x = a
  | [], f, V, m, S, h1, h2, h3 => ⟨S, h1, by simpa using h2, h3⟩
  | e :: es, f, V, m, S, h1, h2, h3 => by
    have hl := List.length_erase (a := f e.1) (l := S)
    refine pieces_two es (merge f e) V m (S.erase (f e.1)) (h1.erase _) ?_ fun a ha => ?_
    · simp only [List.length_cons] at h2
      split at hl <;> omega
    · obtain ⟨x, hx, hxa⟩ := h3 a (List.mem_of_mem_erase ha)
      refine ⟨x, hx, ?_⟩
      have hne : a ≠ f e.1 := fun h => by
        subst h
        exact (List.Nodup.not_mem_erase h1) ha
      rw [merge, if_neg (by rw [hxa]; exact hne), hxa]
theorem pieces_mono : ∀ (es : List (Nat × Nat)) (f : Nat → Nat) (x y : Nat), f x = f y → (es.foldl merge f) x = (es.foldl merge f) y
  | [], f, x, y, h => h
  | e :: es, f, x, y, h => pieces_mono es (merge f e) x y (by simp only [merge, h])
theorem pieces_edge : ∀ (es : List (Nat × Nat)) (f : Nat → Nat) (e : Nat × Nat), e ∈ es → (es.foldl merge f) e.1 = (es.foldl merge f) e.2
  | e' :: es, f, e, h => by
    rcases List.mem_cons.1 h with rfl | h
    · exact pieces_mono es _ _ _ (by
        simp only [merge, if_true]
        split
        · rfl
        · rfl)
    · exact pieces_edge es (merge f e') e h
section
variable {b w : List Nat} {n : Nat}
/-- The vertices of a dart; those of w behind those of b. -/
def ends (b w : List Nat) (n : Nat) (c : Bool) (x : Nat) : Nat := if c then (cyc b n).length + vix w n x else vix b n x
def others (b w : List Nat) (n y : Nat) : List (Nat × Nat) := ((List.range n).filter fun z => z != y).map fun z => (ends b w n false z, ends b w n true z)
/-- The piece of each vertex when one dart is taken out. -/
def lab (b w : List Nat) (n y : Nat) : Nat → Nat := pieces (others b w n y)
theorem lab_edge {y z : Nat} (hz : z < n) (h : z ≠ y) (c c' : Bool) : lab b w n y (ends b w n c z) = lab b w n y (ends b w n c' z) := by
  have key : lab b w n y (ends b w n false z) = lab b w n y (ends b w n true z) :=
    pieces_edge _ id (ends b w n false z, ends b w n true z) (List.mem_map.2 ⟨z, List.mem_filter.2 ⟨List.mem_range.2 hz, by simpa using h⟩, rfl⟩)
  cases c <;> cases c' <;> first | rfl | exact key | exact key.symm
theorem filter_ne_len {y : Nat} (hy : y < n) : ((List.range n).filter fun z => z != y).length + 1 = n := by
  have h1 : ((List.range n).filter fun z => z != y) = (List.range n).erase y := (List.Nodup.erase_eq_filter List.nodup_range y).symm
  rw [h1, List.length_erase_of_mem (List.mem_range.2 hy), List.length_range]
  omega
/-- A tree falls apart without any one dart. -/
theorem Tree.apart (hd : Des n b w) (ht : Tree n b w) {y : Nat} (hy : y < n) : lab b w n y (ends b w n false y) ≠ lab b w n y (ends b w n true y) := by
  intro he
  obtain ⟨hb, hw, _⟩ := id hd
  have hall : ∀ z, z < n → lab b w n y (ends b w n false z) = lab b w n y (ends b w n true z) := fun z hz => by
    by_cases e : z = y
    · rw [e]; exact he
    · exact lab_edge hz e _ _
  have hone := hd.ind (fun z => lab b w n y (ends b w n false z) = lab b w n y (ends b w n false 0))
    (fun z hz hS => by
      have e : ends b w n false (nl b z) = ends b w n false z := by simp only [ends]; exact vix_step hb hz
      rw [e]; exact hS)
    (fun z hz hS => by
      have e : ends b w n true (nl w z) = ends b w n true z := by simp only [ends, if_true]; rw [vix_step hw hz]
      rw [hall _ (hw.lt hz), e, ← hall z hz]; exact hS) rfl
  obtain ⟨S, h1, h2, h3⟩ := pieces_two (others b w n y) id (n + 1) 2 (List.range (n + 1)) List.nodup_range (by
    have := filter_ne_len hy
    rw [others, List.length_map, List.length_range]
    omega) (fun a ha => ⟨a, List.mem_range.1 ha, rfl⟩)
  have hvert : ∀ v, v < n + 1 → lab b w n y v = lab b w n y (ends b w n false 0) := fun v hv => by
    have ht2 := ht.2
    rcases Nat.lt_or_ge v (cyc b n).length with h | h
    · obtain ⟨x, hx, rfl⟩ := vix_surj hb h
      exact hone x hx
    · obtain ⟨x, hx, hxv⟩ := vix_surj hw (show v - (cyc b n).length < (cyc w n).length by omega)
      have e : v = ends b w n true x := by simp only [ends, if_true]; omega
      rw [e, ← hall x hx]
      exact hone x hx
  match S, h1, h2, h3 with
  | [], _, h2, _ => simp at h2
  | [_], _, h2, _ => simp at h2
  | a :: a' :: _, h1, _, h3 =>
    obtain ⟨x, hx, hxa⟩ := h3 a (by simp)
    obtain ⟨x', hx', hxa'⟩ := h3 a' (by simp)
    have e1 : lab b w n y x = a := hxa
    have e2 : lab b w n y x' = a' := hxa'
    have : a = a' := by rw [← e1, ← e2, hvert x hx, hvert x' hx']
    simp only [List.nodup_cons, List.mem_cons] at h1
    exact h1.1 (.inl this)
theorem Tree.apart' (hd : Des n b w) (ht : Tree n b w) {y : Nat} (hy : y < n) (c : Bool) : lab b w n y (ends b w n c y) ≠ lab b w n y (ends b w n (!c) y) := by
  cases c
  · exact ht.apart hd hy
  · exact (ht.apart hd hy).symm
/-- What is led on from a dart is true of all. -/
theorem Des.indx (h : Des n b w) {x : Nat} (hx : x < n) (S : Nat → Prop) (s1 : ∀ z, z < n → S z → S (nl b z)) (s2 : ∀ z, z < n → S z → S (nl w z)) (s0 : S x) : ∀ z, z < n → S z := by
  have key := h.ind (fun z => S z ↔ S 0)
    (fun z hz hS => by rw [← hS]; exact ⟨closed_bwd h.1 s1 hz, s1 z hz⟩)
    (fun z hz hS => by rw [← hS]; exact ⟨closed_bwd h.2.1 s2 hz, s2 z hz⟩) Iff.rfl
  exact fun z hz => (key z hz).2 ((key x hx).1 s0)
/-- The darts behind a dart at its vertex of one colour. -/
def behind (b w : List Nat) (n : Nat) (c : Bool) (x : Nat) : List Nat := (List.range n).filter fun z => z != x && lab b w n x (ends b w n false z) == lab b w n x (ends b w n c x)
theorem behind_mem {c : Bool} {x z : Nat} : z ∈ behind b w n c x ↔ z < n ∧ z ≠ x ∧ lab b w n x (ends b w n false z) = lab b w n x (ends b w n c x) := by
  simp [behind]
theorem behind_nod {c : Bool} {x : Nat} : (behind b w n c x).Nodup := List.Pairwise.filter _ List.nodup_range
theorem behind_less (hd : Des n b w) (ht : Tree n b w) {c : Bool} {x y : Nat} (hx : x < n) (hy : y < n) (hxy : y ≠ x) (hc : ends b w n c y = ends b w n c x) :
    (behind b w n (!c) y).length < (behind b w n c x).length := by
  obtain ⟨hb, hw, _⟩ := id hd
  have hap := ht.apart' hd hy c
  have hA : ∀ z, z < n → z ≠ y → lab b w n y (ends b w n false z) = lab b w n y (ends b w n (!c) y) → z ≠ x := fun z hz hzy h e => by
    subst e
    rw [lab_edge hz hzy false c, ← hc] at h
    exact hap h
  have hyx : ∀ c', lab b w n x (ends b w n c' y) = lab b w n x (ends b w n c x) := fun c' => by rw [lab_edge hy hxy c' c, hc]
  have hsub := hd.indx hx (fun z => ¬ ((z ≠ y ∧ lab b w n y (ends b w n false z) = lab b w n y (ends b w n (!c) y)) ∧ ¬ lab b w n x (ends b w n false z) = lab b w n x (ends b w n c x)))
    (fun z hz hS hB => by
      obtain ⟨⟨h1, h2⟩, h3⟩ := hB
      have e : ends b w n false (nl b z) = ends b w n false z := by simp only [ends]; exact vix_step hb hz
      rw [e] at h2 h3
      refine hS ⟨⟨fun hzy => ?_, h2⟩, h3⟩
      subst hzy
      exact h3 (hyx _))
    (fun z hz hS hB => by
      obtain ⟨⟨h1, h2⟩, h3⟩ := hB
      have e : ends b w n true (nl w z) = ends b w n true z := by simp only [ends, if_true]; rw [vix_step hw hz]
      have hzx' := hA _ (hw.lt hz) h1 h2
      rw [lab_edge (hw.lt hz) h1 false true, e] at h2
      rw [lab_edge (hw.lt hz) hzx' false true, e] at h3
      by_cases hzy : z = y
      · subst hzy
        exact h3 (hyx _)
      · rw [lab_edge hz hzy true false] at h2
        have hzx := hA z hz hzy h2
        rw [lab_edge hz hzx true false] at h3
        exact hS ⟨⟨hzy, h2⟩, h3⟩)
    (fun hB => hA x hx hB.1.1 hB.1.2 rfl)
  have := List.Nodup.length_le_of_subset (l₁ := y :: behind b w n (!c) y) (l₂ := behind b w n c x) (List.nodup_cons.2 ⟨fun h => (behind_mem.1 h).2.1 rfl, behind_nod⟩) (fun z hz => by
    rw [behind_mem]
    rcases List.mem_cons.1 hz with rfl | hz
    · exact ⟨hy, hxy, hyx _⟩
    · obtain ⟨h1, h2, h3⟩ := behind_mem.1 hz
      refine ⟨h1, hA z h1 h2 h3, ?_⟩
      have := hsub z h1
      exact Classical.byContradiction fun hn => this ⟨⟨h2, h3⟩, hn⟩)
  rw [List.length_cons] at this
  omega

/-! ### Words -/
abbrev pc (b w : List Nat) (c : Bool) : List Nat := if c then w else b
theorem behind_le {c : Bool} {x : Nat} : (behind b w n c x).length ≤ n := nodup_le behind_nod fun z hz => (behind_mem.1 hz).1
/-! ### Round a vertex -/
def it (p : List Nat) (x : Nat) : Nat → Nat
  | 0 => nl p x
  | i + 1 => nl p (it p x i)
theorem it_lt {p : List Nat} (hp : Perm p n) {x : Nat} (hx : x < n) : ∀ i, it p x i < n
  | 0 => hp.lt hx
  | i + 1 => hp.lt (it_lt hp hx i)
theorem cyc_next {p c : List Nat} (h : IsCyc p n c) {m : Nat} (hm : m < c.length) : nl p (nl c m) = nl c ((m + 1) % c.length) := by
  by_cases e : m + 1 < c.length
  · rw [h.step m e, Nat.mod_eq_of_lt e]
  · obtain rfl : m = c.length - 1 := by omega
    rw [h.last, Nat.sub_add_cancel h.ne, Nat.mod_self]
theorem it_cyc {p c : List Nat} (h : IsCyc p n c) {j : Nat} (hj : j < c.length) : ∀ i, it p (nl c j) i = nl c ((j + 1 + i) % c.length)
  | 0 => cyc_next h hj
  | i + 1 => by
    rw [it, it_cyc h hj i, cyc_next h (Nat.mod_lt _ h.ne), Nat.mod_add_mod]
    congr 1
end
/-- Bytes as a string. -/
def bs (l : List UInt8) : ByteArray := ⟨l.toArray⟩
end Go.Bm

/- Longest paths in trees: the plain law. The middle of a longest path from an end of a longest path is the same, whatever ends are chosen. -/
set_option linter.unusedVariables false
set_option linter.unusedSimpArgs false
namespace Go.Bm
open Go Go.Am

section
variable {n : Nat} {b w : List Nat}
/-- y is another edge at x's vertex of one colour. -/
def Nb (b w : List Nat) (n : Nat) (c : Bool) (x y : Nat) : Prop := y < n ∧ y ≠ x ∧ ends b w n c y = ends b w n c x
instance (c : Bool) (x y : Nat) : Decidable (Nb b w n c x y) := by unfold Nb; infer_instance
theorem Nb.symm {c : Bool} {x y : Nat} (hx : x < n) (h : Nb b w n c x y) : Nb b w n c y x := ⟨hx, h.2.1.symm, h.2.2.symm⟩
def nbs (b w : List Nat) (n : Nat) (c : Bool) (x : Nat) : List Nat := (List.range n).filter fun y => decide (Nb b w n c x y)
theorem mem_nbs {c : Bool} {x y : Nat} : y ∈ nbs b w n c x ↔ Nb b w n c x y := by
  simp only [nbs, List.mem_filter, List.mem_range, decide_eq_true_eq]
  exact ⟨fun h => h.2, fun h => ⟨h.1, h⟩⟩
def mx (f : Nat → Nat) (l : List Nat) : Nat := l.foldr (fun y m => max (f y + 1) m) 0
theorem mx_ge {f : Nat → Nat} : ∀ {l : List Nat} {y : Nat}, y ∈ l → f y + 1 ≤ mx f l
  | a :: l, y, h => by
    simp only [mx, List.foldr_cons]
    rcases List.mem_cons.1 h with rfl | h
    · omega
    · have := mx_ge (f := f) h
      simp only [mx] at this
      omega
theorem mx_at {f : Nat → Nat} : ∀ {l : List Nat}, (l = [] ∧ mx f l = 0) ∨ ∃ y ∈ l, mx f l = f y + 1
  | [] => .inl ⟨rfl, rfl⟩
  | a :: l => by
    refine .inr ?_
    simp only [mx, List.foldr_cons]
    rcases mx_at (f := f) (l := l) with ⟨rfl, h⟩ | ⟨y, hy, h⟩
    · exact ⟨a, by simp, by simp⟩
    · simp only [mx] at h
      rw [h]
      rcases Nat.le_total (f a + 1) (f y + 1) with h1 | h1
      · exact ⟨y, by simp [hy], by omega⟩
      · exact ⟨a, by simp, by omega⟩
theorem mx_congr {f g : Nat → Nat} : ∀ {l : List Nat}, (∀ y ∈ l, f y = g y) → mx f l = mx g l
  | [], _ => rfl
  | a :: l, h => by
    have ih := mx_congr (l := l) fun y hy => h y (by simp [hy])
    simp only [mx, List.foldr_cons] at ih ⊢
    rw [ih, h a (by simp)]
/-- The length of a longest path from an edge's vertex of one colour that goes away from the edge. -/
def hg (b w : List Nat) (n : Nat) : Nat → Bool → Nat → Nat
  | 0, _, _ => 0
  | k + 1, c, x => mx (hg b w n k (!c)) (nbs b w n c x)
theorem hg_eq (hd : Des n b w) (ht : Tree n b w) : ∀ (r k : Nat) (c : Bool) (x : Nat), x < n → (behind b w n c x).length ≤ r → r ≤ k → hg b w n k c x = hg b w n (k + 1) c x
  | 0, k, c, x, hx, hr, hk => by
    have : nbs b w n c x = [] := List.eq_nil_iff_forall_not_mem.2 fun y hy => by
      obtain ⟨h1, h2, h3⟩ := mem_nbs.1 hy
      have := behind_less hd ht hx h1 h2 h3
      omega
    cases k <;> simp only [hg, this] <;> rfl
  | r + 1, 0, c, x, hx, hr, hk => by omega
  | r + 1, k + 1, c, x, hx, hr, hk => by
    rw [hg, hg]
    refine mx_congr fun y hy => ?_
    obtain ⟨h1, h2, h3⟩ := mem_nbs.1 hy
    have := behind_less hd ht hx h1 h2 h3
    exact hg_eq hd ht r k (!c) y h1 (by omega) (by omega)
def hgt (b w : List Nat) (n : Nat) (c : Bool) (x : Nat) : Nat := hg b w n n c x
theorem hgt_rec (hd : Des n b w) (ht : Tree n b w) {c : Bool} {x : Nat} (hx : x < n) : hgt b w n c x = mx (hgt b w n (!c)) (nbs b w n c x) := by
  rw [hgt, hg_eq hd ht n n c x hx behind_le (Nat.le_refl n)]
  rfl
theorem hgt_nb (hd : Des n b w) (ht : Tree n b w) {c : Bool} {x y : Nat} (hx : x < n) (h : Nb b w n c x y) : hgt b w n (!c) y + 1 ≤ hgt b w n c x := by
  rw [hgt_rec hd ht (c := c) hx]
  exact mx_ge (mem_nbs.2 h)
theorem hgt_lt (hd : Des n b w) (ht : Tree n b w) : ∀ (r : Nat) (c : Bool) (x : Nat), x < n → (behind b w n c x).length ≤ r → hgt b w n c x ≤ r := by
  intro r
  induction r with
  | zero =>
    intro c x hx hr
    rw [hgt_rec hd ht hx]
    rcases mx_at (f := hgt b w n (!c)) (l := nbs b w n c x) with ⟨_, h⟩ | ⟨y, hy, h⟩
    · omega
    · obtain ⟨h1, h2, h3⟩ := mem_nbs.1 hy
      have := behind_less hd ht hx h1 h2 h3
      omega
  | succ r ih =>
    intro c x hx hr
    rw [hgt_rec hd ht hx]
    rcases mx_at (f := hgt b w n (!c)) (l := nbs b w n c x) with ⟨_, h⟩ | ⟨y, hy, h⟩
    · omega
    · obtain ⟨h1, h2, h3⟩ := mem_nbs.1 hy
      have := behind_less hd ht hx h1 h2 h3
      have := ih (!c) y h1 (by omega)
      omega
theorem hgt_le (hd : Des n b w) (ht : Tree n b w) {c : Bool} {x : Nat} (hx : x < n) : hgt b w n c x ≤ n := hgt_lt hd ht n c x hx behind_le

/-! ### Edges far from each other -/
inductive Rc (b w : List Nat) (n : Nat) (c : Bool) (x : Nat) : Bool → Nat → Nat → Prop where
  | one {y} : Nb b w n c x y → Rc b w n c x (!c) y 1
  | more {c' y d z} : Rc b w n c x c' y d → Nb b w n c' y z → Rc b w n c x (!c') z (d + 1)
theorem Rc.lt {c c' : Bool} {x y d : Nat} (h : Rc b w n c x c' y d) : y < n := by
  cases h with
  | one h => exact h.1
  | more _ h => exact h.1
theorem Rc.far (hd : Des n b w) (ht : Tree n b w) {c c' : Bool} {x y d : Nat} (hx : x < n) (h : Rc b w n c x c' y d) :
    hgt b w n c' y + d ≤ hgt b w n c x ∧ hgt b w n (!c) x + d ≤ hgt b w n (!c') y := by
  induction h with
  | one h =>
    have h1 := hgt_nb hd ht hx h
    have h2 := hgt_nb hd ht h.1 (h.symm hx)
    simp only [Bool.not_not]
    omega
  | @more c' y d z h1 h2 ih =>
    have h3 := hgt_nb hd ht h1.lt h2
    have h4 := hgt_nb hd ht h2.1 (h2.symm h1.lt)
    simp only [Bool.not_not]
    omega
theorem Rc.pos {c c' : Bool} {x y d : Nat} (h : Rc b w n c x c' y d) : 0 < d := by
  cases h <;> omega
/-- From edge to edge round one vertex. -/
theorem Rc.turn {c' : Bool} {x y z : Nat} (hx : x < n) (hz : z < n) (c0 : Bool) (he : ends b w n c0 z = ends b w n c0 y) (h : y = x ∨ ∃ c d, Rc b w n c x c' y d) :
    z = x ∨ ∃ c c' d, Rc b w n c x c' z d := by
  by_cases hzx : z = x
  · exact .inl hzx
  refine .inr ?_
  rcases h with rfl | ⟨c, d, h⟩
  · exact ⟨c0, _, _, .one ⟨hz, hzx, he⟩⟩
  · by_cases hzy : z = y
    · subst hzy
      exact ⟨_, _, _, h⟩
    by_cases hc : c' = c0
    · subst hc
      exact ⟨c, _, _, h.more ⟨hz, hzy, he⟩⟩
    · cases h with
      | one h1 =>
        have : c0 = c := by cases c <;> cases c0 <;> simp_all
        subst this
        exact ⟨_, _, _, .one ⟨hz, hzx, he.trans h1.2.2⟩⟩
      | @more c2 y2 d2 _ h1 h2 =>
        have : c0 = c2 := by cases c2 <;> cases c0 <;> simp_all
        subst this
        by_cases hz2 : z = y2
        · subst hz2
          exact ⟨_, _, _, h1⟩
        · exact ⟨_, _, _, h1.more ⟨hz, hz2, he.trans h2.2.2⟩⟩
theorem Rc.all (hd : Des n b w) {x : Nat} (hx : x < n) : ∀ z, z < n → z = x ∨ ∃ c c' d, Rc b w n c x c' z d := by
  obtain ⟨hb, hw, _⟩ := id hd
  refine hd.indx hx _ (fun z hz h => ?_) (fun z hz h => ?_) (.inl rfl)
  · have e : ends b w n false (nl b z) = ends b w n false z := by simp only [ends]; exact vix_step hb hz
    rcases h with h | ⟨c, c', d, h⟩
    · exact Rc.turn (c' := false) hx (hb.lt hz) false e (.inl h)
    · exact Rc.turn hx (hb.lt hz) false e (.inr ⟨c, d, h⟩)
  · have e : ends b w n true (nl w z) = ends b w n true z := by simp only [ends, if_true]; rw [vix_step hw hz]
    rcases h with h | ⟨c, c', d, h⟩
    · exact Rc.turn (c' := false) hx (hw.lt hz) true e (.inl h)
    · exact Rc.turn hx (hw.lt hz) true e (.inr ⟨c, d, h⟩)
/-- A middle edge, or an edge at the middle vertex (of colour c). -/
def Mid (b w : List Nat) (n : Nat) (c : Bool) (x : Nat) (k : Nat) : Prop :=
  x < n ∧ ((k = 2 * hgt b w n c x + 1 ∧ hgt b w n (!c) x = hgt b w n c x) ∨ (k = 2 * hgt b w n c x ∧ hgt b w n c x = hgt b w n (!c) x + 1))
theorem Mid.uniq (hd : Des n b w) (ht : Tree n b w) {c c' : Bool} {x x' k k' : Nat} (h : Mid b w n c x k) (h' : Mid b w n c' x' k') :
    k = k' ∧ (k % 2 = 1 → x = x') ∧ (k % 2 = 0 → ends b w n c x = ends b w n c' x' ∧ c = c') := by
  obtain ⟨hx, h⟩ := h
  obtain ⟨hx', h'⟩ := h'
  rcases Rc.all hd hx x' hx' with rfl | ⟨a, a', d, hr⟩
  · by_cases e : c = c'
    · subst e
      exact ⟨by omega, fun _ => rfl, fun _ => ⟨rfl, rfl⟩⟩
    · obtain rfl : c' = !c := by cases c <;> cases c' <;> simp_all
      rw [Bool.not_not] at h'
      exact ⟨by omega, fun _ => rfl, fun _ => by omega⟩
  · have hd0 := hr.pos
    obtain ⟨f1, f2⟩ := hr.far hd ht hx
    have hA : (hgt b w n a x = hgt b w n c x ∧ hgt b w n (!a) x = hgt b w n (!c) x ∧ a = c) ∨ (hgt b w n a x = hgt b w n (!c) x ∧ hgt b w n (!a) x = hgt b w n c x ∧ a = !c) := by
      cases a <;> cases c <;> simp
    have hB : (hgt b w n a' x' = hgt b w n c' x' ∧ hgt b w n (!a') x' = hgt b w n (!c') x' ∧ a' = c') ∨ (hgt b w n a' x' = hgt b w n (!c') x' ∧ hgt b w n (!a') x' = hgt b w n c' x' ∧ a' = !c') := by
      cases a' <;> cases c' <;> simp
    have key : d = 1 ∧ a = c ∧ a' = !c' ∧ k = k' ∧ k % 2 = 0 := by
      rcases hA with ⟨g1, g2, g3⟩ | ⟨g1, g2, g3⟩ <;> rcases hB with ⟨g4, g5, g6⟩ | ⟨g4, g5, g6⟩ <;> rcases h with h | h <;> rcases h' with h' | h' <;>
        first | exact ⟨by omega, g3, g6, by omega, by omega⟩ | (exfalso; omega)
    obtain ⟨rfl, rfl, k2, k3, k4⟩ := key
    refine ⟨k3, fun _ => by omega, fun _ => ?_⟩
    cases hr with
    | one h1 =>
      have : a = c' := by cases a <;> cases c' <;> simp_all
      subst this
      exact ⟨h1.2.2.symm, rfl⟩
    | more h1 h2 => have := h1.pos; omega

/-! ### Two sweeps -/
/-- A longest path that goes away from an edge at its vertex of one colour. -/
def Lg (b w : List Nat) (n : Nat) : Bool → Nat → List Nat → Prop
  | c, x, [] => hgt b w n c x = 0
  | c, x, y :: l => Nb b w n c x y ∧ hgt b w n c x = hgt b w n (!c) y + 1 ∧ Lg b w n (!c) y l
theorem Lg.len : ∀ {c : Bool} {x : Nat} {l : List Nat}, Lg b w n c x l → l.length = hgt b w n c x
  | c, x, [], h => by rw [Lg] at h; rw [h]; rfl
  | c, x, y :: l, h => by
    rw [Lg] at h
    rw [List.length_cons, h.2.2.len, h.2.1]
/-- A longest path that begins with an edge at a vertex of some colour. -/
def VLg (b w : List Nat) (n : Nat) (c : Bool) (v : Nat) : List Nat → Prop
  | [] => False
  | y :: l => y < n ∧ ends b w n c y = v ∧ Lg b w n (!c) y l ∧ ∀ z, z < n → ends b w n c z = v → hgt b w n (!c) z ≤ hgt b w n (!c) y
/-- The vertices on a path. -/
def sn (b w : List Nat) (n : Nat) : Bool → Nat → List Nat → List Nat
  | c, x, [] => [ends b w n c x]
  | c, x, y :: l => ends b w n c x :: sn b w n (!c) y l
theorem sn_len : ∀ {c : Bool} {x : Nat} {l : List Nat}, (sn b w n c x l).length = l.length + 1
  | c, x, [] => rfl
  | c, x, y :: l => by rw [sn, List.length_cons, sn_len, List.length_cons]
/-- The way back from an edge to where a longest path began. -/
def Back (b w : List Nat) (n : Nat) : Bool → Nat → Nat → List Nat → Prop
  | c, x, d, [] => x < n ∧ hgt b w n c x = d ∧ ∀ z, z < n → ends b w n (!c) z = ends b w n (!c) x → hgt b w n c z ≤ d
  | c, x, d, y :: g => x < n ∧ hgt b w n c x = d ∧ Nb b w n (!c) x y ∧ Back b w n (!c) y (d + 1) g
theorem Back.mid (hd : Des n b w) (ht : Tree n b w) : ∀ (g : List Nat) (c : Bool) (x d : Nat) (pre l : List Nat) (cu : Bool), Back b w n c x d g → Lg b w n (!c) x l → pre.length = d → d ≤ l.length → (c = (cu ^^ decide (d % 2 = 1))) →
    ∃ pre' x' l' c', pre ++ x :: l = pre' ++ x' :: l' ∧ c' = (cu ^^ decide (pre'.length % 2 = 1)) ∧ Mid b w n (!c') x' (pre ++ x :: l).length ∧ (l'.length = pre'.length ∨ l'.length = pre'.length + 1)
  | g, c, x, d, pre, l, cu, hB, hL, hp, hdl, hc => by
    have hll := hL.len
    have hxd : x < n ∧ hgt b w n c x = d := by cases g <;> rw [Back] at hB <;> exact ⟨hB.1, hB.2.1⟩
    by_cases hm : l.length ≤ d + 1
    · refine ⟨pre, x, l, c, rfl, by rw [hp]; exact hc, ⟨hxd.1, ?_⟩, by omega⟩
      rw [Bool.not_not, List.length_append, List.length_cons]
      omega
    · match l, hL, hll, hdl, hm with
      | [], _, _, _, hm => exact absurd (Nat.zero_le _) hm
      | y' :: l, hL, hll, hdl, hm =>
        rw [Lg] at hL
        obtain ⟨h1, h2, h3⟩ := hL
        rw [List.length_cons] at hll hdl hm
        match g, hB with
        | [], hB =>
          rw [Back] at hB
          have h5 := hB.2.2 y' h1.1 h1.2.2
          rw [Bool.not_not] at h2
          omega
        | y :: g, hB =>
          rw [Back] at hB
          obtain ⟨_, _, h5, h6⟩ := hB
          have hyy : y' = y := Classical.byContradiction fun hne => by
            have hy : hgt b w n (!c) y = d + 1 := by cases g <;> rw [Back] at h6 <;> exact h6.2.1
            have h7 := hgt_nb hd ht h5.1 (c := !c) (y := y') ⟨h1.1, hne, h1.2.2.trans h5.2.2.symm⟩
            omega
          subst hyy
          have := Back.mid hd ht g (!c) y' (d + 1) (pre ++ [x]) l cu h6 h3 (by simp [hp]) (by omega) (by
            rw [hc]
            rcases Nat.mod_two_eq_zero_or_one d with e | e <;> cases cu <;> simp [e] <;> omega)
          rw [List.append_assoc] at this
          exact this
termination_by g => g.length
/-- A path turned round. -/
theorem Back.of : ∀ {l : List Nat} {c : Bool} {x : Nat} {g : List Nat}, Lg b w n c x l → Back b w n c x l.length g →
    ∃ x' g', Back b w n (c ^^ decide (l.length % 2 = 1)) x' 0 g' ∧ (sn b w n c x l).getD l.length 0 = ends b w n (c ^^ decide (l.length % 2 = 1)) x' ∧ (x :: l).getD l.length 0 = x'
  | [], c, x, g, hL, hB => ⟨x, g, by simpa using hB, by simp [sn], rfl⟩
  | y :: l, c, x, g, hL, hB => by
    rw [Lg] at hL
    obtain ⟨h1, h2, h3⟩ := hL
    have hx : x < n := by cases g <;> rw [Back] at hB <;> exact hB.1
    obtain ⟨x', g', k1, k2, k3⟩ := Back.of (l := l) (c := !c) (x := y) (g := x :: g) h3 (by
      rw [Back, Bool.not_not]
      exact ⟨h1.1, h3.len.symm, h1.symm hx, by simpa using hB⟩)
    have e : ((!c) ^^ decide (l.length % 2 = 1)) = (c ^^ decide ((y :: l).length % 2 = 1)) := by
      rw [List.length_cons]
      rcases Nat.mod_two_eq_zero_or_one l.length with e | e <;> cases c <;> simp [e] <;> omega
    rw [e] at k1 k2
    exact ⟨x', g', k1, by simpa [sn] using k2, by simpa using k3⟩
/-- The middle of the second sweep. -/
theorem sweep (hd : Des n b w) (ht : Tree n b w) {c0 : Bool} {v u : Nat} {f0 : Nat} {f : List Nat} (h0 : VLg b w n c0 v (f0 :: f)) {e : List Nat} {cu : Bool}
    (hcu : cu = ((!c0) ^^ decide (f.length % 2 = 1))) (hu : u = (sn b w n (!c0) f0 f).getD f.length 0) (he : VLg b w n cu u e) :
    ∃ pre x l c, e = pre ++ x :: l ∧ c = (cu ^^ decide (pre.length % 2 = 1)) ∧ Mid b w n (!c) x e.length ∧ (l.length = pre.length ∨ l.length = pre.length + 1) := by
  obtain ⟨h1, h2, h3, h4⟩ := h0
  obtain ⟨x', g', k1, k2, k3⟩ := Back.of (g := []) h3 (by
    rw [Back]
    refine ⟨h1, h3.len.symm, fun z hz hez => ?_⟩
    rw [Bool.not_not] at hez
    rw [h3.len]
    exact h4 z hz (hez.trans h2))
  rw [← hcu] at k1 k2
  rw [← hu] at k2
  match e, he with
  | y :: l, he =>
    obtain ⟨g1, g2, g3, g4⟩ := he
    have hxn : x' < n := by cases g' <;> rw [Back] at k1 <;> exact k1.1
    have hx0 : hgt b w n cu x' = 0 := by cases g' <;> rw [Back] at k1 <;> exact k1.2.1
    have hyx : y = x' := Classical.byContradiction fun hne => by
      have := hgt_nb hd ht hxn (c := cu) (y := y) ⟨g1, hne, by rw [g2, k2]⟩
      omega
    subst hyx
    have := Back.mid hd ht g' cu y 0 [] l cu k1 g3 rfl (by omega) (by simp)
    simpa using this
end
end Go.Bm

/- Weights of trees: the plain law. Some vertex has just one of any edges that are left; weights with given sums are one or none. -/
set_option linter.unusedVariables false
set_option linter.unusedSimpArgs false
namespace Go.Bm
open Go Go.Am

section
variable {n : Nat} {b w : List Nat}
/-- The edges of all vertices, black ones first. -/
def verts (b w : List Nat) (n : Nat) : List (List Nat) := cyc b n ++ cyc w n
theorem verts_at (hd : Des n b w) {v : Nat} (hv : v < (verts b w n).length) : ∃ c, (∃ x, x < n ∧ ends b w n c x = v) ∧ ∀ y, y < n → (y ∈ (verts b w n)[v] ↔ ends b w n c y = v) := by
  obtain ⟨hb, hw, _⟩ := id hd
  have hv' : v < (cyc b n).length + (cyc w n).length := by rw [← List.length_append]; exact hv
  by_cases h : v < (cyc b n).length
  · have e : (verts b w n)[v] = (cyc b n)[v] := List.getElem_append_left h
    obtain ⟨x, hx, hxv⟩ := vix_surj hb h
    refine ⟨false, ⟨x, hx, by simp [ends, hxv]⟩, fun y hy => ?_⟩
    rw [e]
    simp only [ends, Bool.false_eq_true, if_false]
    refine ⟨fun hm => vix_of hb hy h hm, fun hm => ?_⟩
    subst hm
    exact vix_mem hb hy
  · have hvw : v - (cyc b n).length < (cyc w n).length := by omega
    have e : (verts b w n)[v] = (cyc w n)[v - (cyc b n).length] := List.getElem_append_right (by omega)
    obtain ⟨x, hx, hxv⟩ := vix_surj hw hvw
    refine ⟨true, ⟨x, hx, by simp only [ends, if_true, hxv]; omega⟩, fun y hy => ?_⟩
    rw [e]
    simp only [ends, if_true]
    refine ⟨fun hm => by rw [vix_of hw hy hvw hm]; omega, fun hm => ?_⟩
    have : vix w n y = v - (cyc b n).length := by omega
    simp only [← this]
    exact vix_mem hw hy
theorem verts_lt (hd : Des n b w) {v y : Nat} (hv : v < (verts b w n).length) (h : y ∈ (verts b w n)[v]) : y < n := by
  obtain ⟨hb, hw, _⟩ := id hd
  have : (verts b w n)[v] ∈ cyc b n ++ cyc w n := List.getElem_mem hv
  rcases List.mem_append.1 this with h1 | h1
  · exact (cyc_is hb h1).lt _ h
  · exact (cyc_is hw h1).lt _ h
theorem verts_nod (hd : Des n b w) {v : Nat} (hv : v < (verts b w n).length) : ((verts b w n)[v]).Nodup := by
  obtain ⟨hb, hw, _⟩ := id hd
  have : (verts b w n)[v] ∈ cyc b n ++ cyc w n := List.getElem_mem hv
  rcases List.mem_append.1 this with h1 | h1
  · exact (cyc_is hb h1).nod
  · exact (cyc_is hw h1).nod
theorem ends_lt (hd : Des n b w) {c : Bool} {x : Nat} (hx : x < n) : ends b w n c x < (verts b w n).length := by
  obtain ⟨hb, hw, _⟩ := id hd
  rw [verts, List.length_append]
  cases c
  · have := vix_lt hb hx
    simp only [ends, Bool.false_eq_true, if_false]
    omega
  · have := vix_lt hw hx
    simp only [ends, if_true]
    omega
theorem mem_verts (hd : Des n b w) {c : Bool} {x y : Nat} (hx : x < n) (hy : y < n) : y ∈ (verts b w n)[ends b w n c x]'(ends_lt hd hx) ↔ ends b w n c y = ends b w n c x := by
  obtain ⟨hb, hw, _⟩ := id hd
  cases c
  · have hv := vix_lt hb hx
    have e0 : ends b w n false x = vix b n x := by simp [ends]
    have e1 : ends b w n false y = vix b n y := by simp [ends]
    rw [e1]
    have e : (verts b w n)[ends b w n false x]'(ends_lt hd hx) = (cyc b n)[vix b n x] := by
      simp only [e0]
      exact List.getElem_append_left hv
    rw [e, e0]
    refine ⟨fun hm => vix_of hb hy hv hm, fun hm => ?_⟩
    simp only [← hm]
    exact vix_mem hb hy
  · have hv := vix_lt hw hx
    have e0 : ends b w n true x = (cyc b n).length + vix w n x := by simp [ends]
    have e1 : ends b w n true y = (cyc b n).length + vix w n y := by simp [ends]
    have e : (verts b w n)[ends b w n true x]'(ends_lt hd hx) = (cyc w n)[vix w n x] := by
      simp only [e0, verts]
      rw [List.getElem_append_right (by omega)]
      simp only [Nat.add_sub_cancel_left]
    rw [e, e0, e1]
    refine ⟨fun hm => by rw [vix_of hw hy hv hm], fun hm => ?_⟩
    have : vix w n y = vix w n x := by omega
    simp only [← this]
    exact vix_mem hw hy
/-- Of any edges, some vertex has just one. -/
theorem leaf (hd : Des n b w) (ht : Tree n b w) (O : Nat → Prop) : (∃ x, x < n ∧ O x) → ∃ c x, x < n ∧ O x ∧ ∀ y, y < n → O y → ends b w n c y = ends b w n c x → y = x := by
  rintro ⟨x0, hx0, ho0⟩
  have key : ∀ (r : Nat) (c : Bool) (x : Nat), x < n → O x → (behind b w n c x).length ≤ r → ∃ c x, x < n ∧ O x ∧ ∀ y, y < n → O y → ends b w n c y = ends b w n c x → y = x := by
    intro r
    induction r with
    | zero =>
      intro c x hx ho hr
      refine ⟨c, x, hx, ho, fun y hy hoy he => Classical.byContradiction fun hne => ?_⟩
      have := behind_less hd ht hx hy hne he
      omega
    | succ r ih =>
      intro c x hx ho hr
      by_cases h : ∃ y, y < n ∧ O y ∧ ends b w n c y = ends b w n c x ∧ y ≠ x
      · obtain ⟨y, hy, hoy, he, hne⟩ := h
        have := behind_less hd ht hx hy hne he
        exact ih (!c) y hy hoy (by omega)
      · exact ⟨c, x, hx, ho, fun y hy hoy he => Classical.byContradiction fun hne => h ⟨y, hy, hoy, he, hne⟩⟩
  exact key _ false x0 hx0 ho0 (Nat.le_refl _)

/-! ### Weights -/
abbrev at_ (o : List Int) (x : Nat) : Int := o.getD x 0
def vsum (o : List Int) (l : List Nat) : Int := (l.map (at_ o)).sum
/-- Weights of edges that have given sums at the vertices. -/
structure Good (b w : List Nat) (n : Nat) (s : List Int) (W : List Int) : Prop where
  len : W.length = n
  pos : ∀ x, x < n → 1 ≤ at_ W x
  sum : ∀ v (hv : v < (verts b w n).length), vsum W (verts b w n)[v] = at_ s v
theorem at_ext {o o' : List Int} (h : o.length = o'.length) (h2 : ∀ x, x < o.length → at_ o x = at_ o' x) : o = o' := by
  refine List.ext_getElem h fun i h3 h4 => ?_
  have := h2 i h3
  simpa [at_, List.getD, h3, h4] using this
theorem vsum_one {o o' : List Int} : ∀ {l : List Nat} {x : Nat}, l.Nodup → x ∈ l → (∀ y ∈ l, y ≠ x → at_ o y = at_ o' y) → vsum o l - vsum o' l = at_ o x - at_ o' x
  | a :: l, x, hn, hx, h => by
    rw [List.nodup_cons] at hn
    simp only [vsum, List.map_cons, List.sum_cons]
    by_cases e : a = x
    · subst e
      have : l.map (at_ o) = l.map (at_ o') := List.map_congr_left fun y hy => h y (by simp [hy]) (fun e => hn.1 (e ▸ hy))
      rw [this]
      omega
    · have hx' : x ∈ l := by
        rcases List.mem_cons.1 hx with h | h
        · exact absurd h.symm e
        · exact h
      have ih := vsum_one (o := o) (o' := o') hn.2 hx' fun y hy => h y (by simp [hy])
      have := h a (by simp) e
      simp only [vsum] at ih
      omega
theorem vsum_congr {o o' : List Int} {l : List Nat} (h : ∀ y ∈ l, at_ o y = at_ o' y) : vsum o l = vsum o' l := by
  simp only [vsum]
  rw [List.map_congr_left h]
theorem Good.uniq (hd : Des n b w) (ht : Tree n b w) {s W W' : List Int} (h : Good b w n s W) (h' : Good b w n s W') : W = W' := by
  refine at_ext (by rw [h.len, h'.len]) fun x hx => Classical.byContradiction fun hne => ?_
  obtain ⟨c, x, hx, ho, hu⟩ := leaf hd ht (fun x => at_ W x ≠ at_ W' x) ⟨x, by rw [h.len] at hx; exact hx, hne⟩
  have hv := ends_lt hd (c := c) hx
  have h1 := vsum_one (o := W) (o' := W') (verts_nod hd hv) ((mem_verts hd hx hx).2 rfl) fun y hy hyx => Classical.byContradiction fun hne => by
    have hyn := verts_lt hd hv hy
    exact hyx (hu y hyn hne ((mem_verts hd hx hyn).1 hy))
  rw [h.sum _ hv, h'.sum _ hv] at h1
  omega
/-- The weights told so far: each 0 or positive, and those of all good ones. -/
structure Part (b w : List Nat) (n : Nat) (s : List Int) (o : List Int) : Prop where
  len : o.length = n
  nn : ∀ x, x < n → 0 ≤ at_ o x
  good : ∀ W, Good b w n s W → ∀ x, x < n → at_ o x ≠ 0 → at_ o x = at_ W x
def opens (o : List Int) (l : List Nat) : List Nat := l.filter fun x => at_ o x == 0
theorem mem_opens {o : List Int} {l : List Nat} {x : Nat} : x ∈ opens o l ↔ x ∈ l ∧ at_ o x = 0 := by simp [opens]
theorem Part.zero {s : List Int} : Part b w n s (List.replicate n 0) := by
  have h : ∀ x, x < n → at_ (List.replicate n (0 : Int)) x = 0 := fun x hx => by simp [at_, List.getD, hx]
  exact ⟨by simp, fun x hx => by rw [h x hx]; exact Int.le_refl _, fun W _ x hx hne => absurd (h x hx) hne⟩
/-- The one edge without a weight has the rest. -/
theorem Part.one (hd : Des n b w) {s o W : List Int} (hp : Part b w n s o) (hW : Good b w n s W) {v x : Nat} (hv : v < (verts b w n).length) (h : opens o (verts b w n)[v] = [x]) :
    at_ W x = at_ s v - vsum o (verts b w n)[v] := by
  have hx : x ∈ opens o (verts b w n)[v] := by rw [h]; simp
  obtain ⟨hx1, hx2⟩ := mem_opens.1 hx
  have h1 := vsum_one (o := W) (o' := o) (verts_nod hd hv) hx1 fun y hy hyx => by
    have hyn := verts_lt hd hv hy
    refine (hp.good W hW y hyn fun h0 => ?_).symm
    have : y ∈ opens o (verts b w n)[v] := mem_opens.2 ⟨hy, h0⟩
    rw [h, List.mem_singleton] at this
    exact hyx this
  rw [hW.sum v hv, hx2] at h1
  omega
theorem Part.none (hd : Des n b w) {s o W : List Int} (hp : Part b w n s o) (hW : Good b w n s W) {v : Nat} (hv : v < (verts b w n).length) (h : opens o (verts b w n)[v] = []) :
    at_ s v - vsum o (verts b w n)[v] = 0 := by
  have : vsum o (verts b w n)[v] = vsum W (verts b w n)[v] := vsum_congr fun y hy => hp.good W hW y (verts_lt hd hv hy) fun h0 => by
    have : y ∈ opens o (verts b w n)[v] := mem_opens.2 ⟨hy, h0⟩
    rw [h] at this
    cases this
  rw [this, hW.sum v hv]
  omega
theorem at_set {o : List Int} {x y : Nat} {r : Int} (hx : x < o.length) : at_ (o.set x r) y = if y = x then r else at_ o y := by
  simp only [at_, List.getD, List.getElem?_set]
  by_cases e : y = x
  · subst e; simp [hx]
  · rw [if_neg (Ne.symm e), if_neg e]
theorem Part.set (hd : Des n b w) {s o : List Int} (hp : Part b w n s o) {v x : Nat} (hv : v < (verts b w n).length) (h : opens o (verts b w n)[v] = [x])
    (hr : 1 ≤ at_ s v - vsum o (verts b w n)[v]) : Part b w n s (o.set x (at_ s v - vsum o (verts b w n)[v])) := by
  have hx : x ∈ opens o (verts b w n)[v] := by rw [h]; simp
  have hxn := verts_lt hd hv (mem_opens.1 hx).1
  refine ⟨by rw [List.length_set]; exact hp.len, fun y hy => ?_, fun W hW y hy hne => ?_⟩
  · rw [at_set (by rw [hp.len]; exact hxn)]
    split
    · omega
    · exact hp.nn y hy
  · rw [at_set (by rw [hp.len]; exact hxn)] at hne ⊢
    split
    · rename_i e
      subst e
      exact (hp.one hd hW hv h).symm
    · rename_i e
      rw [if_neg e] at hne
      exact hp.good W hW y hy hne
/-- How many have no weight yet. -/
def left (o : List Int) (n : Nat) : Nat := (opens o (List.range n)).length
theorem left_set {o : List Int} {x : Nat} {r : Int} (hn : o.length = n) (hx : x < n) (h0 : at_ o x = 0) (hr : r ≠ 0) : left (o.set x r) n + 1 = left o n := by
  have e : opens (o.set x r) (List.range n) = (opens o (List.range n)).erase x := by
    have hnd : (opens o (List.range n)).Nodup := List.Pairwise.filter _ List.nodup_range
    rw [List.Nodup.erase_eq_filter hnd, opens, opens, List.filter_filter]
    refine List.filter_congr fun y hy => ?_
    rw [at_set (by omega)]
    by_cases e : y = x
    · subst e; simp [hr]
    · simp [e]
  rw [left, left, e, List.length_erase_of_mem (mem_opens.2 ⟨by simpa using hx, h0⟩)]
  have : 0 < (opens o (List.range n)).length := List.length_pos_of_mem (mem_opens.2 ⟨by simpa using hx, h0⟩)
  omega
theorem left_zero {o : List Int} (h : left o n = 0) : ∀ x, x < n → at_ o x ≠ 0 := fun x hx h0 => by
  have : x ∈ opens o (List.range n) := mem_opens.2 ⟨by simpa using hx, h0⟩
  rw [List.eq_nil_of_length_eq_zero h] at this
  cases this
/-- What both return. -/
def Res (b w : List Nat) (n : Nat) (s : List Int) : Option (List Int) → Prop
  | some o => Good b w n s o
  | none => ∀ W, ¬ Good b w n s W
theorem Res.uniq (hd : Des n b w) (ht : Tree n b w) {s : List Int} {r r' : Option (List Int)} (h : Res b w n s r) (h' : Res b w n s r') : r = r' := by
  cases r with
  | none =>
    cases r' with
    | none => rfl
    | some o => exact absurd h' (h o)
  | some o =>
    cases r' with
    | none => exact absurd h (h' o)
    | some o' => rw [Good.uniq hd ht h h']
end
end Go.Bm

/- Sorting: parts of a list that are changed; insertion, reversing. -/
set_option linter.unusedVariables false
set_option linter.unusedSimpArgs false
namespace Go.Bm
open Go Go.Am

theorem el_setD {p : List Int} {i j : Nat} {x : Int} : el (p.set i x) j = if j = i ∧ i < p.length then x else el p j := by
  unfold el
  simp only [List.getD]
  by_cases h : i = j
  · subst h
    by_cases hi : i < p.length
    · simp [hi]
    · simp [List.getElem?_eq_none (by omega : p.length ≤ i), hi]
  · rw [List.getElem?_set_ne h, if_neg (fun e => h e.1.symm)]
/-- Two numbers change places. -/
def swp (p : List Int) (i j : Nat) : List Int := (p.set i (el p j)).set j (el p i)
theorem swp_len {p : List Int} {i j : Nat} : (swp p i j).length = p.length := by simp [swp]
theorem swp_el {p : List Int} {i j k : Nat} (hi : i < p.length) (hj : j < p.length) : el (swp p i j) k = if k = j then el p i else if k = i then el p j else el p k := by
  unfold swp
  rw [el_setD, el_setD]
  by_cases h : k = j
  · rw [if_pos ⟨h, by simpa using hj⟩, if_pos h]
  · rw [if_neg (fun e => h e.1), if_neg h]
    by_cases h2 : k = i
    · rw [if_pos ⟨h2, hi⟩, if_pos h2]
    · rw [if_neg (fun e => h2 e.1), if_neg h2]
theorem swp_perm {p : List Int} {i j : Nat} (hi : i < p.length) (hj : j < p.length) : (swp p i j).Perm p := by
  rw [List.perm_iff_count]
  intro a
  unfold swp
  rw [List.count_set (by simpa using hj), List.count_set hi]
  have e1 : p[i] = el p i := by simp [el, List.getD, hi]
  have e2 : p[j] = el p j := by simp [el, List.getD, hj]
  have e3 : (p.set i (el p j))[j]'(by simpa using hj) = el p j := by
    rw [List.getElem_set]
    split
    · rfl
    · exact e2
  rw [e3, e1]
  have c1 : (el p i == a) = true → 0 < p.count a := fun h => by
    rw [List.count_pos_iff, ← beq_iff_eq.1 h, ← e1]; exact List.getElem_mem hi
  by_cases h1 : (el p i == a) = true <;> by_cases h2 : (el p j == a) = true <;> simp only [h1, h2, if_true, if_false, Bool.false_eq_true] <;> first | omega | (have := c1 h1; omega)

/-- Of a list only the part from a to b has been put into another order. -/
structure Sg (a b : Nat) (p q : List Int) : Prop where
  len : q.length = p.length
  out : ∀ i, i < a ∨ b ≤ i → el q i = el p i
  src : ∀ i, a ≤ i → i < b → ∃ j, a ≤ j ∧ j < b ∧ el q i = el p j
  perm : q.Perm p
theorem Sg.refl {a b : Nat} {p : List Int} : Sg a b p p := ⟨rfl, fun _ _ => rfl, fun i h1 h2 => ⟨i, h1, h2, rfl⟩, .refl _⟩
theorem Sg.trans {a b : Nat} {p q r : List Int} (h : Sg a b p q) (k : Sg a b q r) : Sg a b p r := ⟨k.len.trans h.len, fun i hi => (k.out i hi).trans (h.out i hi), fun i h1 h2 => by
  obtain ⟨j, j1, j2, j3⟩ := k.src i h1 h2
  obtain ⟨l, l1, l2, l3⟩ := h.src j j1 j2
  exact ⟨l, l1, l2, j3.trans l3⟩, k.perm.trans h.perm⟩
theorem Sg.mono {a b a' b' : Nat} {p q : List Int} (h : Sg a b p q) (ha : a' ≤ a) (hb : b ≤ b') : Sg a' b' p q := ⟨h.len, fun i hi => h.out i (by omega), fun i h1 h2 => by
  by_cases hi : a ≤ i ∧ i < b
  · obtain ⟨j, j1, j2, j3⟩ := h.src i hi.1 hi.2
    exact ⟨j, by omega, by omega, j3⟩
  · exact ⟨i, h1, h2, h.out i (by omega)⟩, h.perm⟩
theorem Sg.swp {a b i j : Nat} {p : List Int} (h1 : a ≤ i) (h2 : i < b) (h3 : a ≤ j) (h4 : j < b) (hb : b ≤ p.length) : Sg a b p (swp p i j) := ⟨swp_len, fun k hk => by
  rw [swp_el (by omega) (by omega), if_neg (by omega), if_neg (by omega)], fun k k1 k2 => by
  rw [swp_el (by omega) (by omega)]
  split
  · exact ⟨i, h1, h2, rfl⟩
  · split
    · exact ⟨j, h3, h4, rfl⟩
    · exact ⟨k, k1, k2, rfl⟩, swp_perm (by omega) (by omega)⟩
/-- In order from a to b. -/
def Srt (a b : Nat) (p : List Int) : Prop := ∀ i j, a ≤ i → i ≤ j → j < b → el p i ≤ el p j

theorem Srt.one {a : Nat} {p : List Int} : Srt a (a + 1) p := fun i j h1 h2 h3 => by
  obtain rfl : i = j := by omega
  exact Int.le_refl _
theorem isNaN_spec {x : Bool} {a : Int} {H : BH} {K : Value → BH → Prop} (hK : K (.bool false) H) : CallX x F_cmp_isNaN_int64 [I a] H K := by
  refine callP (by simp only [RH]) ?_
  refine CallX_body Γ_cmp_isNaN_int64 ?_
  simp only [A_cmp_isNaN_int64, T_aiff]
  refine T_rseq fun Kr hKr => ?_
  simp (disch := omega) only [RA, ↓reduceIte, Nat.reduceEqDiff, RD]
  refine hKr _ _ ?_
  clear hKr Kr
  try simp only [RN, reduceIte]
  try refine T_e rfl ?_
  refine T_rseq fun Kr hKr => ?_
  simp (disch := omega) only [RA, ↓reduceIte, Nat.reduceEqDiff, RD]
  refine hKr _ _ ?_
  clear hKr Kr
  try simp only [RN, reduceIte]
  try refine T_e rfl ?_
  refine bodyQ_ret (by simp (disch := omega) only [RA, ↓reduceIte, Nat.reduceEqDiff, RD, resAll, resOf]; rfl) GhV.refl ?_
  simp only [tup]
  exact ⟨NN.bool, by simpa using hK⟩
theorem Less_spec {x : Bool} {a b : Int} {H : BH} {K : Value → BH → Prop} (hK : K (.bool (decide (a < b))) H) : CallX x F_cmp_Less_int64 [I a, I b] H K := by
  refine callP (by simp only [RH]) ?_
  refine CallX_body Γ_cmp_Less_int64 ?_
  simp only [A_cmp_Less_int64, T_aiff]
  refine T_rseq fun Kr hKr => ?_
  simp (disch := omega) only [RA, ↓reduceIte, Nat.reduceEqDiff, RD]
  refine hKr _ _ ?_
  clear hKr Kr
  try simp only [RN, reduceIte]
  try refine T_e rfl ?_
  refine T_rseq fun Kr hKr => ?_
  simp (disch := omega) only [RA, ↓reduceIte, Nat.reduceEqDiff, RD]
  refine isNaN_spec ?_
  simp (disch := omega) only [RA, ↓reduceIte, Nat.reduceEqDiff, RD]
  refine hKr _ _ ?_
  clear hKr Kr
  try simp only [blkQ, thenQ, loopQ]
  try simp only [RN, reduceIte]
  try refine T_e rfl ?_
  refine bodyQ_ret (by simp (disch := omega) only [RA, ↓reduceIte, Nat.reduceEqDiff, RD, resAll, resOf]; rfl) GhV.refl ?_
  simp only [tup]
  exact ⟨NN.bool, hK⟩
theorem T_tail {k : Nat} {a : ACode} {Q : Ex → Fr → BH → Prop} {f : Fr} {H : BH} (h : T k (.seq a .skip) Q f H) : T k a Q f H := by
  intro ρ Z fA HA hk h1 h2
  obtain ⟨ex, fA', HA', h3, h4⟩ := h ρ Z fA HA hk h1 h2
  refine ⟨ex, fA', HA', ?_, h4⟩
  cases h3 with
  | seqN ha hb => cases hb; exact ha
  | seqX ha _ => exact ha
/-- Insertion. -/
theorem insertionSort_spec {p : List Int} {a b : Nat} {K : Value → BH → Prop} (hp : p.length ≤ 1000) (hb : b ≤ p.length) (ha : a ≤ b) (hK : ∀ q, Sg a b p q → Srt a b q → K (.tuple ⟨[]⟩) [some (q.map I)]) :
    CallX false F_slices_insertionSortOrdered_int64 [S 0 0 p.length 1, I a, I b] [some (p.map I)] K := by
  refine CallX_body Γ_slices_insertionSortOrdered_int64 ?_
  simp only [A_slices_insertionSortOrdered_int64, T_aiff]
  refine T_rseq fun Kr hKr => ?_
  simp (disch := omega) only [RA, ↓reduceIte, Nat.reduceEqDiff, RD]
  refine hKr _ _ ?_
  clear hKr Kr
  try simp only [RN, reduceIte]
  try refine T_e rfl ?_
  refine T_tail ?_
  refine T_wloop (fun m f H' => ∃ (i : Nat) (q : List Int), a + 1 ≤ i ∧ (i ≤ b ∨ i = a + 1) ∧ m = b - i ∧ Sg a b p q ∧ Srt a i q ∧ f 0 = S 0 0 p.length 1 ∧ f 1 = I a ∧ f 2 = I b ∧ f 6 = I i ∧ H' = [some (q.map I)]) (b - (a + 1)) ?_ ?_
  · refine ⟨_, _, Gh.refl, a + 1, p, by omega, by omega, by omega, .refl, Srt.one, ?_, ?_, ?_, ?_, rfl⟩
    any_goals (simp (disch := omega) only [RA, ↓reduceIte, Nat.reduceEqDiff, RD, RE, *] <;> rfl)
  · rintro m f H' R ⟨i, q, hi1, hi2, rfl, hq, hs, g0, g1, g2, g6, rfl⟩ hN hX hR hE
    simp only [A_slices_insertionSortOrdered_int64.l1, T_aiff]
    refine T_rseq fun Kr hKr => ?_
    simp (disch := omega) only [RA, ↓reduceIte, Nat.reduceEqDiff, RD, g2, g6]
    refine hKr _ _ ?_
    clear hKr Kr
    try simp only [RN, reduceIte]
    try refine T_e rfl ?_
    refine T_csplit (p := i < b) (by simp only [RA, ↓reduceIte, Nat.reduceEqDiff] <;> rfl) (by (try simp only [RB]) <;> first | done | exact Iff.rfl | omega | simp) (fun hc => ?_) (fun hc => ?_) <;> (try simp only [RN, reduceIte]) <;> (try refine T_e rfl ?_)
    · first | refine T_bfree rfl ?_ | refine T_bfree' rfl ?_
      try simp only [RN, reduceIte]
      try refine T_e rfl ?_
      refine T_rseq fun Kr hKr => ?_
      simp (disch := omega) only [RA, ↓reduceIte, Nat.reduceEqDiff, RD, g6]
      refine hKr _ _ ?_
      clear hKr Kr
      try simp only [RN, reduceIte]
      try refine T_e rfl ?_
      refine T_wloop (fun m f H' => ∃ (j : Nat) (r : List Int), a ≤ j ∧ j ≤ i ∧ j = m ∧ Sg a b p r ∧ (∀ x y, a ≤ x → x < y → y ≤ i → y ≠ j → el r x ≤ el r y) ∧ f 0 = S 0 0 p.length 1 ∧ f 1 = I a ∧ f 2 = I b ∧ f 6 = I i ∧ f 7 = I j ∧ H' = [some (r.map I)]) (i) ?_ ?_
      · refine ⟨_, _, Gh.refl, i, q, by omega, by omega, by omega, hq, fun x y h1 h2 h3 h4 => hs x y h1 (by omega) (by omega), ?_, ?_, ?_, ?_, ?_, rfl⟩
        any_goals (simp (disch := omega) only [RA, ↓reduceIte, Nat.reduceEqDiff, RD, RE, *] <;> rfl)
      · clear g0 g1 g2 g6
        rintro m f H' R2 ⟨j, r, hj1, hj2, rfl, hr, hall, g0, g1, g2, g6, g7, rfl⟩ hN2 hX2 hR2 hE2
        simp only [A_slices_insertionSortOrdered_int64.l0, T_aiff]
        have hrl := hr.len
        have hdone : ∀ f', f' 0 = S 0 0 p.length 1 → f' 1 = I a → f' 2 = I b → f' 6 = I i → (j = a ∨ el r (j - 1) ≤ el r j) → T 1 A_slices_insertionSortOrdered_int64.r2 R f' [some (r.map I)] := by
          intro f' g0 g1 g2 g6 hfin
          refine T_reg_k fun Kr hKr => ?_
          simp (disch := omega) only [RA, ↓reduceIte, Nat.reduceEqDiff, RD, g6]
          refine hKr _ _ ?_
          clear hKr Kr
          refine hN (b - (i + 1)) _ _ _ _ (by omega) Gh.refl ⟨i + 1, r, by omega, by omega, rfl, hr, fun x y h1 h2 h3 => ?_, ?_, ?_, ?_, ?_, rfl⟩
          any_goals (simp (disch := omega) only [RA, ↓reduceIte, Nat.reduceEqDiff, RD, RE, *] <;> rfl)
          rcases Nat.lt_or_ge x y with h | h
          · by_cases hy : y = j
            · subst hy
              rcases hfin with hfin | hfin
              · omega
              · rcases Nat.lt_or_ge x (y - 1) with h' | h'
                · exact Int.le_trans (hall x (y - 1) h1 h' (by omega) (by omega)) hfin
                · obtain rfl : x = y - 1 := by omega
                  exact hfin
            · exact hall x y h1 h (by omega) hy
          · obtain rfl : x = y := by omega
            exact Int.le_refl _
        by_cases hja : j = a
        · refine T_rseq fun Kr hKr => ?_
          simp (disch := omega) only [RA, ↓reduceIte, Nat.reduceEqDiff, RD, g1, g7, hja]
          refine hKr _ _ ?_
          clear hKr Kr
          try simp only [RN, reduceIte]
          try refine T_e rfl ?_
          refine T_cseq (t := false) (by simp (disch := omega) only [RA, ↓reduceIte, Nat.reduceEqDiff, RD]) ?_
          try simp only [RN, reduceIte]
          try refine T_e rfl ?_
          refine hX2 _ _ ?_
          refine hdone _ ?_ ?_ ?_ ?_ (.inl hja)
          any_goals (simp (disch := omega) only [RA, ↓reduceIte, Nat.reduceEqDiff, RD, RE, *] <;> rfl)
        · have hlt : a < j := by omega
          have hj1' : (j : Int) - 1 = ((j - 1 : Nat) : Int) := by omega
          refine T_rseq fun Kr hKr => ?_
          simp (disch := omega) only [RA, ↓reduceIte, Nat.reduceEqDiff, RD, g0, g1, g7, hlt, hj1', hrl]
          refine Less_spec ?_
          simp (disch := omega) only [RA, ↓reduceIte, Nat.reduceEqDiff, RD]
          refine hKr _ _ ?_
          clear hKr Kr
          try simp only [blkQ, thenQ, loopQ]
          try simp only [RN, reduceIte]
          try refine T_e rfl ?_
          refine T_csplit (p := el r j < el r (j - 1)) (by simp only [RA, ↓reduceIte, Nat.reduceEqDiff] <;> rfl) (by (try simp only [RB]) <;> first | done | exact Iff.rfl | omega | simp) (fun hc => ?_) (fun hc => ?_) <;> (try simp only [RN, reduceIte]) <;> (try refine T_e rfl ?_)
          · have hrs : (r.set j (el r (j - 1))).length = p.length := by simp [hrl]
            first | refine T_bfree rfl ?_ | refine T_bfree' rfl ?_
            try simp only [RN, reduceIte]
            try refine T_e rfl ?_
            refine T_rseq fun Kr hKr => ?_
            simp (disch := omega) only [RA, ↓reduceIte, Nat.reduceEqDiff, RD, g0, g7, hj1', hrl]
            refine hKr _ _ ?_
            clear hKr Kr
            try simp only [RN, reduceIte]
            try refine T_e rfl ?_
            refine T_reg_k fun Kr hKr => ?_
            simp (disch := omega) only [RA, ↓reduceIte, Nat.reduceEqDiff, RD, g7, hj1']
            refine hKr _ _ ?_
            clear hKr Kr
            have hsw : (r.set j (el r (j - 1))).set (j - 1) (el r j) = swp r j (j - 1) := rfl
            refine hN2 (j - 1) _ _ _ _ (by omega) Gh.refl ⟨j - 1, swp r j (j - 1), by omega, by omega, rfl, hr.trans (.swp (by omega) (by omega) (by omega) (by omega) (by omega)), fun x y h1 h2 h3 h4 => ?_, ?_, ?_, ?_, ?_, ?_, rfl⟩
            any_goals (simp (disch := omega) only [RA, ↓reduceIte, Nat.reduceEqDiff, RD, RE, *] <;> rfl)
            rw [swp_el (by omega) (by omega), swp_el (by omega) (by omega)]
            by_cases hyj : y = j
            · rw [if_neg (by omega : ¬ y = j - 1), if_pos hyj]
              by_cases hxj : x = j - 1
              · rw [if_pos hxj]; omega
              · rw [if_neg hxj, if_neg (by omega)]
                exact hall x (j - 1) h1 (by omega) (by omega) (by omega)
            · rw [if_neg h4, if_neg hyj]
              by_cases hxj : x = j - 1
              · rw [if_pos hxj]
                exact hall j y (by omega) (by omega) h3 hyj
              · rw [if_neg hxj]
                by_cases hxj2 : x = j
                · rw [if_pos hxj2]
                  exact hall (j - 1) y (by omega) (by omega) h3 hyj
                · rw [if_neg hxj2]
                  exact hall x y h1 h2 h3 hyj
          · refine hX2 _ _ ?_
            refine hdone _ ?_ ?_ ?_ ?_ (.inr (by omega))
            any_goals (simp (disch := omega) only [RA, ↓reduceIte, Nat.reduceEqDiff, RD, RE, *] <;> rfl)
    · refine hX _ _ ?_
      refine T_skip ?_
      refine bodyQ_ret (by simp (disch := omega) only [RA, ↓reduceIte, Nat.reduceEqDiff, RD, resAll, resOf]; rfl) GhV.refl ?_
      simp only [tup]
      refine hK q hq fun x y h1 h2 h3 => ?_
      rcases hi2 with h | h
      · exact hs x y h1 h2 (by omega)
      · obtain rfl : x = y := by omega
        exact Int.le_refl _
end Go.Bm

