/- The cycles of a permutation: the plain law. -/
import Derived.Test.YtbbgifoamnjhoaaDp2
set_option linter.unusedVariables false
set_option linter.unusedSimpArgs false
namespace Go.Bm
open Go Go.Am

/-- The numbers met, the cycle as far as it was walked, where one stands. -/
abbrev WS := List Bool × List Nat × Nat
def wstep (p : List Nat) (st : WS) : WS := if bl st.1 st.2.2 = true then st else (st.1.set st.2.2 true, st.2.1 ++ [st.2.2], nl p st.2.2)
def wk (p : List Nat) (st : WS) : Nat → WS
  | 0 => st
  | j + 1 => wstep p (wk p st j)
theorem wk_stop {p : List Nat} {st : WS} {i : Nat} (h : bl (wk p st i).1 (wk p st i).2.2 = true) : ∀ j, i ≤ j → wk p st j = wk p st i
  | 0, hj => by
    obtain rfl : i = 0 := by omega
    rfl
  | j + 1, hj => by
    rcases Nat.lt_or_ge j i with h1 | h1
    · obtain rfl : i = j + 1 := by omega
      rfl
    · have ih := wk_stop h j h1
      simp only [wk]
      rw [ih, wstep, if_pos h]
/-- The numbers met and the cycles, once the first k numbers have been looked at. -/
def cycK (p : List Nat) (m : Nat) : Nat → List Bool × List (List Nat)
  | 0 => (List.replicate 16 false, [])
  | k + 1 => if bl (cycK p m k).1 k = true then cycK p m k else ((wk p ((cycK p m k).1, [], k) m).1, (cycK p m k).2 ++ [(wk p ((cycK p m k).1, [], k) m).2.1])
structure IsCyc (p : List Nat) (n : Nat) (c : List Nat) : Prop where
  ne : 0 < c.length
  lt : ∀ x ∈ c, x < n
  nod : c.Nodup
  step : ∀ j, j + 1 < c.length → nl p (nl c j) = nl c (j + 1)
  last : nl p (nl c (c.length - 1)) = nl c 0
  least : ∀ x ∈ c, nl c 0 ≤ x
theorem nl_mem {c : List Nat} {j : Nat} (h : j < c.length) : nl c j ∈ c := by simp [nl, List.getD, h]
theorem mem_nl {c : List Nat} {x : Nat} (h : x ∈ c) : ∃ j, j < c.length ∧ nl c j = x := by
  obtain ⟨i, hi, rfl⟩ := List.mem_iff_getElem.1 h
  exact ⟨i, hi, by simp [nl, List.getD, hi]⟩
theorem nod_nl {c : List Nat} (h : c.Nodup) {i j : Nat} (hi : i < c.length) (hj : j < c.length) (he : nl c i = nl c j) : i = j := by
  have h' := List.pairwise_iff_getElem.1 h
  have e : ∀ k (hk : k < c.length), nl c k = c[k] := fun k hk => by simp [nl, List.getD, hk]
  rcases Nat.lt_trichotomy i j with h1 | h1 | h1
  · exact absurd (by rw [← e i hi, ← e j hj]; exact he) (h' i j hi hj h1)
  · exact h1
  · exact absurd (by rw [← e i hi, ← e j hj]; exact he.symm) (h' j i hj hi h1)
theorem Perm.inj {p : List Nat} {n : Nat} (h : Perm p n) {i j : Nat} (hi : i < n) (hj : j < n) (he : nl p i = nl p j) : i = j := by
  have h1 := h.1
  rcases Nat.lt_trichotomy i j with h2 | h2 | h2
  · exact absurd he (((h.2 j (by omega)).2 (by omega)).2 i h2)
  · exact h2
  · exact absurd he.symm (((h.2 i (by omega)).2 (by omega)).2 j h2)
/-- What stands of the walk. -/
structure WkOk (p : List Nat) (n : Nat) (s0 : List Bool) (i : Nat) (j : Nat) (st : WS) : Prop where
  len : st.1.length = 16
  at_ : st.2.2 < n
  new : bl s0 st.2.2 = false
  mem : ∀ x, bl st.1 x = true ↔ bl s0 x = true ∨ x ∈ st.2.1
  lt : ∀ x ∈ st.2.1, x < n ∧ bl s0 x = false
  nod : st.2.1.Nodup
  cnt : st.1.count true = s0.count true + st.2.1.length
  step : ∀ t, t + 1 < st.2.1.length → nl p (nl st.2.1 t) = nl st.2.1 (t + 1)
  st0 : st.2.1 = [] → st.2.2 = i
  st1 : 0 < st.2.1.length → nl st.2.1 0 = i ∧ nl p (nl st.2.1 (st.2.1.length - 1)) = st.2.2
  go : st.2.1.length = j ∨ bl st.1 st.2.2 = true
theorem WkOk.wk {p : List Nat} {n : Nat} (hp : Perm p n) {s0 : List Bool} {i : Nat} (hl : s0.length = 16) (hi : i < n) (h0 : bl s0 i = false) (hinv : ∀ x, x < n → bl s0 (nl p x) = bl s0 x) : ∀ j, WkOk p n s0 i j (wk p (s0, [], i) j)
  | 0 => by
    refine ⟨hl, hi, h0, fun x => ?_, ?_, ?_, ?_, ?_, ?_, ?_, ?_⟩ <;> simp [Bm.wk]
  | j + 1 => by
    have ih := WkOk.wk hp hl hi h0 hinv j
    have hn := hp.1
    simp only [Bm.wk]
    generalize Bm.wk p (s0, [], i) j = st at ih ⊢
    obtain ⟨s, l, k⟩ := st
    have h1 := ih.len
    have h2 := ih.at_
    have h3 := ih.new
    have h4 := ih.mem
    have h5 := ih.lt
    have h6 := ih.nod
    have h7 := ih.cnt
    have h8 := ih.step
    have h9 := ih.st0
    have h10 := ih.st1
    have h11 := ih.go
    simp only at h1 h2 h3 h4 h5 h6 h7 h8 h9 h10 h11
    unfold wstep
    by_cases hb : bl s k = true
    · rw [if_pos hb]
      exact ⟨h1, h2, h3, h4, h5, h6, h7, h8, h9, h10, .inr hb⟩
    · rw [if_neg hb]
      have hkl : k ∉ l := fun h => hb ((h4 k).2 (.inr h))
      have hk : (l ++ [k]).length = l.length + 1 := by simp
      refine ⟨by simpa using h1, hp.lt h2, by rw [hinv k h2]; exact h3, fun x => ?_, fun x hx => ?_, ?_, ?_, fun t ht => ?_, fun h => by simp at h, fun _ => ?_, .inl ?_⟩
      · show bl (s.set k true) x = true ↔ bl s0 x = true ∨ x ∈ l ++ [k]
        rw [bl_set]
        by_cases e : x = k
        · subst e
          rw [if_pos ⟨rfl, by omega⟩]
          simp
        · rw [if_neg (fun h => e h.1), h4 x]
          simp [e]
      · rcases List.mem_append.1 hx with h | h
        · exact h5 x h
        · rw [List.mem_singleton] at h
          subst h
          exact ⟨h2, h3⟩
      · show (l ++ [k]).Nodup
        rw [List.nodup_append]
        exact ⟨h6, by simp, fun a ha b hb => by
          rw [List.mem_singleton] at hb
          subst hb
          exact fun e => hkl (e ▸ ha)⟩
      · show (s.set k true).count true = s0.count true + (l ++ [k]).length
        rw [count_set_true (by omega) (by simpa using hb), h7, hk]
        omega
      · show nl p (nl (l ++ [k]) t) = nl (l ++ [k]) (t + 1)
        have ht : t + 1 < l.length + 1 := by rw [← hk]; exact ht
        rw [nl_append, nl_append, if_pos (by omega)]
        by_cases e : t + 1 < l.length
        · rw [if_pos e]
          exact h8 t e
        · rw [if_neg e, nl_single (by omega), show t = l.length - 1 by omega]
          exact (h10 (by omega)).2
      · show nl (l ++ [k]) 0 = i ∧ nl p (nl (l ++ [k]) ((l ++ [k]).length - 1)) = nl p k
        rw [hk, Nat.add_sub_cancel]
        refine ⟨?_, by rw [nl_append, if_neg (by omega), Nat.sub_self]; rfl⟩
        rw [nl_append]
        split
        · rename_i h
          exact (h10 h).1
        · rename_i h
          have : l = [] := List.eq_nil_of_length_eq_zero (by omega)
          subst this
          exact h9 rfl
      · show (l ++ [k]).length = j + 1
        rw [hk]
        rcases h11 with h | h
        · omega
        · exact absurd h hb
theorem WkOk.done {p : List Nat} {n m : Nat} (hm : m = 16) (hp : Perm p n) {s0 : List Bool} {i : Nat} (hl : s0.length = 16) (hi : i < n) (h0 : bl s0 i = false) (hinv : ∀ x, x < n → bl s0 (nl p x) = bl s0 x) :
    bl (Bm.wk p (s0, [], i) m).1 (Bm.wk p (s0, [], i) m).2.2 = true := by
  have h16 := WkOk.wk hp hl hi h0 hinv m
  have h17 := WkOk.wk hp hl hi h0 hinv (m + 1)
  rcases h16.go with h | h
  · cases hb : bl (Bm.wk p (s0, [], i) m).1 (Bm.wk p (s0, [], i) m).2.2 with
    | true => rfl
    | false =>
      have e : Bm.wk p (s0, [], i) (m + 1) = wstep p (Bm.wk p (s0, [], i) m) := rfl
      rw [wstep, if_neg (by simp [hb])] at e
      have h1 := h17.cnt
      have h2 := List.count_le_length (a := true) (l := (Bm.wk p (s0, [], i) (m + 1)).1)
      have h3 := h17.len
      have h4 : (Bm.wk p (s0, [], i) (m + 1)).2.1.length = m + 1 := by rw [e]; simp [h]
      omega
  · exact h
theorem WkOk.cyc {p : List Nat} {n m : Nat} (hm : m = 16) (hp : Perm p n) {s0 : List Bool} {i : Nat} (hl : s0.length = 16) (hi : i < n) (h0 : bl s0 i = false) (hinv : ∀ x, x < n → bl s0 (nl p x) = bl s0 x) (hup : ∀ x, x < i → bl s0 x = true) :
    IsCyc p n (Bm.wk p (s0, [], i) m).2.1 ∧ nl (Bm.wk p (s0, [], i) m).2.1 0 = i := by
  have h := WkOk.wk hp hl hi h0 hinv m
  have hd := WkOk.done hm hp hl hi h0 hinv
  generalize Bm.wk p (s0, [], i) m = st at h hd ⊢
  obtain ⟨s, l, k⟩ := st
  have hkl : k ∈ l := by
    rcases (h.mem k).1 hd with h1 | h1
    · exact absurd h1 (by have := h.new; simp only at this; simp [this])
    · exact h1
  have hne : 0 < l.length := List.length_pos_of_mem hkl
  obtain ⟨hz, hla⟩ := h.st1 hne
  simp only at hz hla
  obtain ⟨j, hj, hje⟩ := mem_nl hkl
  have hlt : ∀ t, t < l.length → nl l t < n := fun t ht => (h.lt _ (nl_mem ht)).1
  have hj0 : j = 0 := by
    rcases Nat.eq_zero_or_pos j with h1 | h1
    · exact h1
    · exfalso
      have h2 := h.step (j - 1) (by show j - 1 + 1 < l.length; omega)
      simp only at h2
      rw [show j - 1 + 1 = j by omega, hje, ← hla] at h2
      have h3 := hp.inj (hlt _ (by omega)) (hlt _ (by omega)) h2
      have h4 := nod_nl h.nod (by show j - 1 < l.length; omega) (by show l.length - 1 < l.length; omega) h3
      omega
  subst hj0
  refine ⟨⟨hne, fun x hx => (h.lt x hx).1, h.nod, h.step, by rw [hla]; exact hje.symm, fun x hx => ?_⟩, hz⟩
  rw [hz]
  rcases Nat.lt_or_ge x i with h1 | h1
  · have h2 := (h.lt x hx).2
    rw [hup x h1] at h2
    cases h2
  · exact h1
theorem IsCyc.fwd {p : List Nat} {n : Nat} {c : List Nat} (h : IsCyc p n c) {x : Nat} (hx : x ∈ c) : nl p x ∈ c := by
  obtain ⟨j, hj, rfl⟩ := mem_nl hx
  by_cases e : j + 1 < c.length
  · rw [h.step j e]
    exact nl_mem e
  · rw [show j = c.length - 1 by omega, h.last]
    exact nl_mem h.ne
theorem IsCyc.bwd {p : List Nat} {n : Nat} {c : List Nat} (hp : Perm p n) (h : IsCyc p n c) {x : Nat} (hx : x < n) (hm : nl p x ∈ c) : x ∈ c := by
  obtain ⟨j, hj, hje⟩ := mem_nl hm
  by_cases e : j = 0
  · subst e
    rw [← h.last] at hje
    have := hp.inj (h.lt _ (nl_mem (by have := h.ne; omega))) hx hje
    rw [← this]
    exact nl_mem (by have := h.ne; omega)
  · have h2 := h.step (j - 1) (by omega)
    rw [show j - 1 + 1 = j by omega, hje] at h2
    have := hp.inj (h.lt _ (nl_mem (by omega))) hx h2
    rw [← this]
    exact nl_mem (by omega)
structure CycOk (p : List Nat) (n i : Nat) (sc : List Bool × List (List Nat)) : Prop where
  len : sc.1.length = 16
  mem : ∀ x, bl sc.1 x = true ↔ ∃ c ∈ sc.2, x ∈ c
  inv : ∀ x, x < n → bl sc.1 (nl p x) = bl sc.1 x
  cyc : ∀ c ∈ sc.2, IsCyc p n c
  cnt : sc.1.count true = sc.2.flatten.length
  nod : sc.2.flatten.Nodup
  upto : ∀ x, x < i → bl sc.1 x = true
  hd : ∀ c ∈ sc.2, nl c 0 < i
  num : sc.2.length ≤ i
theorem CycOk.all {p : List Nat} {n m : Nat} (hm : m = 16) (hp : Perm p n) : ∀ {i : Nat}, i ≤ n → CycOk p n i (cycK p m i)
  | 0, _ => by
    have h0 : ∀ x, bl (List.replicate 16 false) x = false := fun x => bl_rep
    rw [show cycK p m 0 = (List.replicate 16 false, []) from rfl]
    have hno : ∀ c : List Nat, c ∉ ([] : List (List Nat)) := fun c => List.not_mem_nil
    have hc0 : (List.replicate 16 false).count true = 0 := rfl
    exact ⟨List.length_replicate, fun x => ⟨fun h => absurd ((h0 x).symm.trans h) Bool.false_ne_true, fun ⟨c, h, _⟩ => absurd h (hno c)⟩, fun x _ => (h0 _).trans (h0 x).symm, fun c h => absurd h (hno c), hc0, List.nodup_nil, fun x h => absurd h (Nat.not_lt_zero x), fun c h => absurd h (hno c), Nat.le_refl _⟩
  | i + 1, hi => by
    have ih := CycOk.all hm hp (i := i) (by omega)
    have hn := hp.1
    simp only [cycK]
    generalize cycK p m i = sc at ih ⊢
    by_cases hb : bl sc.1 i = true
    · rw [if_pos hb]
      exact ⟨ih.len, ih.mem, ih.inv, ih.cyc, ih.cnt, ih.nod, fun x hx => by
        by_cases e : x = i
        · rw [e]; exact hb
        · exact ih.upto x (by omega), fun c hc => by have := ih.hd c hc; omega, by have := ih.num; omega⟩
    · rw [if_neg hb]
      have h0 : bl sc.1 i = false := by simpa using hb
      have hw := WkOk.wk hp ih.len (show i < n by omega) h0 ih.inv m
      obtain ⟨hc, hz⟩ := WkOk.cyc hm hp ih.len (show i < n by omega) h0 ih.inv ih.upto
      generalize Bm.wk p (sc.1, [], i) m = st at hw hc hz ⊢
      obtain ⟨s, l, k⟩ := st
      have hm := hw.mem
      have hlt := hw.lt
      have hwc := hw.cnt
      simp only at hc hz hm hlt hwc ⊢
      have hil : i ∈ l := by rw [← hz]; exact nl_mem hc.ne
      refine ⟨hw.len, fun x => ?_, fun x hx => ?_, fun c hc' => ?_, ?_, ?_, fun x hx => ?_, fun c hc' => ?_, by simp; exact ih.num⟩
      · show bl s x = true ↔ _
        rw [hm x, ih.mem x]
        simp only [List.mem_append, List.mem_singleton]
        constructor
        · rintro (⟨c, h1, h2⟩ | h)
          · exact ⟨c, .inl h1, h2⟩
          · exact ⟨l, .inr rfl, h⟩
        · rintro ⟨c, h1 | rfl, h2⟩
          · exact .inl ⟨c, h1, h2⟩
          · exact .inr h2
      · show bl s (nl p x) = bl s x
        have key : bl s (nl p x) = true ↔ bl s x = true := by
          rw [hm, hm, ih.inv x hx]
          constructor
          · rintro (h | h)
            · exact .inl h
            · exact .inr (hc.bwd hp hx h)
          · rintro (h | h)
            · exact .inl h
            · exact .inr (hc.fwd h)
        exact Bool.eq_iff_iff.2 key
      · rcases List.mem_append.1 hc' with h | h
        · exact ih.cyc c h
        · rw [List.mem_singleton] at h
          subst h
          exact hc
      · show s.count true = (sc.2 ++ [l]).flatten.length
        rw [hwc, ih.cnt]
        simp
      · show (sc.2 ++ [l]).flatten.Nodup
        rw [List.flatten_append, List.nodup_append]
        refine ⟨ih.nod, by simpa using hw.nod, fun a ha b hb' => ?_⟩
        have hb'' : b ∈ l := by simpa using hb'
        rintro rfl
        obtain ⟨c, h1, h2⟩ := List.mem_flatten.1 ha
        have h3 := (ih.mem a).2 ⟨c, h1, h2⟩
        rw [(hlt a hb'').2] at h3
        cases h3
      · show bl s x = true
        rw [hm]
        by_cases e : x = i
        · rw [e]; exact .inr hil
        · exact .inl (ih.upto x (by omega))
      · rcases List.mem_append.1 hc' with h | h
        · have := ih.hd c h; omega
        · rw [List.mem_singleton] at h
          subst h
          omega
def cyc (p : List Nat) (n : Nat) : List (List Nat) := (cycK p 16 n).2
section
variable {p : List Nat} {n : Nat}
theorem cyc_at (hp : Perm p n) {x : Nat} (hx : x < n) : ∃ c ∈ cyc p n, x ∈ c := ((CycOk.all rfl hp (Nat.le_refl n)).mem x).1 ((CycOk.all rfl hp (Nat.le_refl n)).upto x hx)
theorem cyc_is (hp : Perm p n) {c : List Nat} (h : c ∈ cyc p n) : IsCyc p n c := (CycOk.all rfl hp (Nat.le_refl n)).cyc c h
theorem cyc_lt (hp : Perm p n) {x : Nat} : bl (cycK p 16 n).1 x = decide (x < n) := by
  have h := CycOk.all rfl hp (Nat.le_refl n)
  by_cases hx : x < n
  · rw [h.upto x hx]; simp [hx]
  · cases hb : bl (cycK p 16 n).1 x with
    | false => simp [hx]
    | true =>
      obtain ⟨c, h1, h2⟩ := (h.mem x).1 hb
      exact absurd ((h.cyc c h1).lt x h2) hx
theorem cyc_num (hp : Perm p n) : (cyc p n).length ≤ n := (CycOk.all rfl hp (Nat.le_refl n)).num
theorem cyc_ne {hp : Perm p n} : cyc p n ≠ [] := by
  obtain ⟨c, h, _⟩ := cyc_at hp (show 0 < n by have := hp.1; omega)
  intro e
  rw [e] at h
  cases h
theorem cyc_len (hp : Perm p n) {c : List Nat} (h : c ∈ cyc p n) : 1 ≤ c.length ∧ c.length ≤ n := by
  have hc := cyc_is hp h
  refine ⟨hc.ne, ?_⟩
  have : ∀ (m : Nat) (c : List Nat), c.Nodup → (∀ x ∈ c, x < m) → c.length ≤ m := by
    intro m
    induction m with
    | zero =>
      intro c _ hc
      cases c with
      | nil => simp
      | cons a c => exact absurd (hc a (by simp)) (by omega)
    | succ m ih =>
      intro c hn hc
      have h1 := ih (c.erase m) (hn.erase m) fun x hx => by
        have h2 := hc x (List.mem_of_mem_erase hx)
        have h3 : x ≠ m := fun e => by
          subst e
          exact (List.Nodup.not_mem_erase hn) hx
        omega
      have h4 := List.length_erase (a := m) (l := c)
      split at h4 <;> omega
  exact this n c hc.nod hc.lt
/-- All cycles have two numbers if and only if it exchanges pairs. -/
theorem cyc_clean (hp : Perm p n) : (∀ c ∈ cyc p n, c.length = 2) ↔ ∀ x, x < n → nl p x ≠ x ∧ nl p (nl p x) = x := by
  constructor
  · intro h x hx
    obtain ⟨c, hc, hxc⟩ := cyc_at hp hx
    have h2 := h c hc
    have hi := cyc_is hp hc
    obtain ⟨j, hj, rfl⟩ := mem_nl hxc
    have e1 : nl p (nl c 0) = nl c 1 := hi.step 0 (by omega)
    have e2 : nl p (nl c 1) = nl c 0 := by
      have := hi.last
      rw [h2] at this
      exact this
    have hne : nl c 0 ≠ nl c 1 := fun e => by
      have := nod_nl hi.nod (by omega) (by omega) e
      omega
    have : j = 0 ∨ j = 1 := by omega
    rcases this with rfl | rfl
    · rw [e1, e2]; exact ⟨hne.symm, rfl⟩
    · rw [e2, e1]; exact ⟨hne, rfl⟩
  · intro h c hc
    have hi := cyc_is hp hc
    have h0 := hi.ne
    obtain ⟨h1, h2⟩ := h (nl c 0) (hi.lt _ (nl_mem h0))
    have hl := hi.last
    rcases Nat.lt_or_ge c.length 2 with h3 | h3
    · rw [show c.length - 1 = 0 by omega] at hl
      exact absurd hl h1
    · have e1 := hi.step 0 (by omega)
      rcases Nat.lt_or_ge 2 c.length with h4 | h4
      · have e2 := hi.step 1 (by omega)
        rw [e1, e2] at h2
        have := nod_nl hi.nod h4 h0 h2
        omega
      · omega
end
end Go.Bm
