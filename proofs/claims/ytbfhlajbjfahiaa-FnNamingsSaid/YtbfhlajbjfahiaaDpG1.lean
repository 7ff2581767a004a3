/- DpCc, BmX, Dp7a, DpY, Dp0b, DpK -/
import Derived.Test.YtbfhlajbjfahiaaBmS
import Derived.Test.YtbfhlajbjfahiaaDpG0
/- What is reached from each dart, and names from a dart: the plain law. -/
set_option linter.unusedVariables false
set_option linter.unusedSimpArgs false
namespace Go.Bm
open Go Go.Am

def none16 : List Bool := List.replicate 16 false
theorem none16_bl {x : Nat} : bl none16 x = false := bl_rep
theorem none16_len : none16.length = 16 := by simp [none16]
/-- One starts at x, nothing met but x. -/
def stA (x : Nat) : BS := (none16.set x true, [x])
/-- What stands once what the first d lead to has been met. -/
structure BfOk (ls : List (List Nat)) (n x d : Nat) (st : BS) : Prop where
  len : st.1.length = 16
  mem : ∀ y, bl st.1 y = true ↔ y ∈ st.2
  nod : st.2.Nodup
  lt : ∀ y ∈ st.2, y < n
  pre : ∃ r, st.2 = x :: r
  le : d ≤ st.2.length
  done : ∀ j, j < d → ∀ p ∈ ls, nl p (nl st.2 j) ∈ st.2
theorem BfOk.visit {ls : List (List Nat)} {n x d y : Nat} {st : BS} (hn : n ≤ 16) (h : BfOk ls n x d st) (hy : y < n) : BfOk ls n x d (Bm.visit st y) ∧ (∃ q, (Bm.visit st y).2 = st.2 ++ q) ∧ y ∈ (Bm.visit st y).2 := by
  unfold Bm.visit
  by_cases hb : bl st.1 y = true
  · rw [if_pos hb]
    exact ⟨h, ⟨[], by simp⟩, (h.mem y).1 hb⟩
  · rw [if_neg hb]
    have hny : y ∉ st.2 := fun hm => hb ((h.mem y).2 hm)
    refine ⟨⟨by simpa using h.len, fun z => ?_, ?_, fun z hz => ?_, ?_, ?_, fun j hj1 p hp => ?_⟩, ⟨[y], rfl⟩, by simp⟩
    · show bl (st.1.set y true) z = true ↔ z ∈ st.2 ++ [y]
      rw [bl_set]
      by_cases e : z = y
      · subst e
        rw [if_pos ⟨rfl, by have := h.len; omega⟩]
        simp
      · rw [if_neg (fun k => e k.1), h.mem z]
        simp [e]
    · show (st.2 ++ [y]).Nodup
      rw [List.nodup_append]
      exact ⟨h.nod, by simp, fun a ha b hb => by
        rw [List.mem_singleton] at hb
        subst hb
        exact fun e => hny (e ▸ ha)⟩
    · rcases List.mem_append.1 hz with k | k
      · exact h.lt z k
      · rw [List.mem_singleton] at k
        omega
    · obtain ⟨r, hr⟩ := h.pre
      exact ⟨r ++ [y], by show st.2 ++ [y] = _; rw [hr]; rfl⟩
    · show d ≤ (st.2 ++ [y]).length
      have := h.le
      simp
      omega
    · show nl p (nl (st.2 ++ [y]) j) ∈ st.2 ++ [y]
      rw [nl_append, if_pos (by have := h.le; omega)]
      exact List.mem_append_left _ (h.done j hj1 p hp)
theorem BfOk.round {ls : List (List Nat)} {n x d z : Nat} (hn : n ≤ 16) : ∀ {l2 : List (List Nat)} {st : BS}, BfOk ls n x d st → (∀ p ∈ l2, nl p z < n) → BfOk ls n x d (roundX l2 z st) ∧ (∃ q, (roundX l2 z st).2 = st.2 ++ q) ∧ ∀ p ∈ l2, nl p z ∈ (roundX l2 z st).2
  | [], st, h, _ => ⟨h, ⟨[], by simp [roundX]⟩, by simp⟩
  | p :: l2, st, h, hp => by
    obtain ⟨h1, ⟨q1, h2⟩, h3⟩ := h.visit hn (hp p (by simp))
    obtain ⟨h4, ⟨q2, h5⟩, h6⟩ := BfOk.round hn (l2 := l2) h1 fun q hq => hp q (by simp [hq])
    have e : roundX (p :: l2) z st = roundX l2 z (Bm.visit st (nl p z)) := rfl
    rw [e]
    refine ⟨h4, ⟨q1 ++ q2, by rw [h5, h2, List.append_assoc]⟩, fun q hq => ?_⟩
    rcases List.mem_cons.1 hq with rfl | hq
    · rw [h5]
      exact List.mem_append_left _ h3
    · exact h6 q hq
theorem BfOk.bfs {ls : List (List Nat)} {n x : Nat} {st : BS} (hn : n ≤ 16) (hl : ∀ p ∈ ls, ∀ y, y < n → nl p y < n) (h : BfOk ls n x 0 st) : ∀ i, BfOk ls n x (min i (Bm.bfs ls st i).2.length) (Bm.bfs ls st i)
  | 0 => by rw [Nat.zero_min]; exact h
  | i + 1 => by
    have ih := BfOk.bfs hn hl h i
    simp only [Bm.bfs]
    generalize Bm.bfs ls st i = s at ih ⊢
    by_cases hi : i < s.2.length
    · rw [if_pos hi]
      rw [Nat.min_eq_left (by omega)] at ih
      obtain ⟨h1, ⟨q, h2⟩, h3⟩ := ih.round hn (z := nl s.2 i) (l2 := ls) fun p hp => hl p hp _ (ih.lt _ (nl_mem hi))
      have hlen : i + 1 ≤ (roundX ls (nl s.2 i) s).2.length := by rw [h2]; simp; omega
      rw [Nat.min_eq_left hlen]
      refine ⟨h1.len, h1.mem, h1.nod, h1.lt, h1.pre, hlen, fun j hj p hp => ?_⟩
      by_cases e : j = i
      · subst e
        have : nl (roundX ls (nl s.2 j) s).2 j = nl s.2 j := by rw [h2, nl_append, if_pos hi]
        rw [this]
        exact h3 p hp
      · exact h1.done j (by omega) p hp
    · rw [if_neg hi]
      rw [Nat.min_eq_right (by omega)] at ih
      rw [Nat.min_eq_right (by omega)]
      exact ih
theorem BfOk.start {ls : List (List Nat)} {n x : Nat} (hn : n ≤ 16) (hx : x < n) : BfOk ls n x 0 (stA x) := by
  refine ⟨by simp [stA, none16_len], fun y => ?_, by simp [stA], fun y hy => ?_, ⟨[], rfl⟩, Nat.zero_le _, fun j hj => by omega⟩
  · show bl (none16.set x true) y = true ↔ y ∈ [x]
    rw [bl_set, none16_len, none16_bl]
    by_cases e : y = x
    · rw [if_pos ⟨e, by omega⟩]; simp [e]
    · rw [if_neg (fun k => e k.1)]; simp [e]
  · rw [show (stA x).2 = [x] from rfl, List.mem_singleton] at hy
    omega
theorem nodup_le {n : Nat} {l : List Nat} (h : l.Nodup) (hl : ∀ x ∈ l, x < n) : l.length ≤ n := by
  have := List.Nodup.length_le_of_subset h (l₂ := List.range n) fun x hx => List.mem_range.2 (hl x hx)
  simpa using this
theorem nodup_full {n : Nat} {l : List Nat} (h : l.Nodup) (hl : ∀ x ∈ l, x < n) (hn : n ≤ l.length) {x : Nat} (hx : x < n) : x ∈ l := by
  apply Classical.byContradiction
  intro hxl
  have := nodup_le (n := n) (l := x :: l) (List.nodup_cons.2 ⟨hxl, h⟩) (by
    intro y hy
    rcases List.mem_cons.1 hy with rfl | hy
    · exact hx
    · exact hl y hy)
  rw [List.length_cons] at this
  omega
/-- The darts in the order in which they are met from x. -/
def ord (b w : List Nat) (x : Nat) : List Nat := (bfs [b, w] (stA x) 16).2
section
variable {b w : List Nat} {n : Nat}
theorem ord_bf (hb : Perm b n) (hw : Perm w n) {x : Nat} (hx : x < n) : BfOk [b, w] n x (ord b w x).length (bfs [b, w] (stA x) 16) := by
  have hn := hb.1
  have h := (BfOk.start (ls := [b, w]) (x := x) (n := n) (by omega) hx).bfs (by omega) (by
    intro p hp y hy
    simp only [List.mem_cons, List.not_mem_nil, or_false] at hp
    rcases hp with rfl | rfl
    · exact hb.lt hy
    · exact hw.lt hy) 16
  have h16 := nodup_le h.nod h.lt
  rw [Nat.min_eq_right (by omega)] at h
  exact h
theorem ord_cl (hb : Perm b n) (hw : Perm w n) {x : Nat} (hx : x < n) : ∀ y ∈ ord b w x, nl b y ∈ ord b w x ∧ nl w y ∈ ord b w x := fun y hy => by
  have h := ord_bf hb hw hx
  obtain ⟨j, hj, rfl⟩ := mem_nl hy
  exact ⟨h.done j hj b (by simp), h.done j hj w (by simp)⟩
/-- What a permutation leads into itself is also led into itself backwards. -/
theorem closed_bwd {p : List Nat} (hp : Perm p n) {S : Nat → Prop} (hS : ∀ x, x < n → S x → S (nl p x)) {x : Nat} (hx : x < n) (h : S (nl p x)) : S x := by
  obtain ⟨c, hc, hxc⟩ := cyc_at hp hx
  have hi := cyc_is hp hc
  obtain ⟨j, hj, hje⟩ := mem_nl (hi.fwd hxc)
  have hup : ∀ d, j + d < c.length → S (nl c (j + d)) := by
    intro d
    induction d with
    | zero => intro _; rw [Nat.add_zero, hje]; exact h
    | succ d ih =>
      intro hd
      rw [← Nat.add_assoc, ← hi.step (j + d) (by omega)]
      exact hS _ (hi.lt _ (nl_mem (by omega))) (ih (by omega))
  have h0 : S (nl c 0) := by
    rw [← hi.last]
    have := hup (c.length - 1 - j) (by omega)
    rw [show j + (c.length - 1 - j) = c.length - 1 by omega] at this
    exact hS _ (hi.lt _ (nl_mem (by omega))) this
  have hall : ∀ k, k < c.length → S (nl c k) := by
    intro k
    induction k with
    | zero => intro _; exact h0
    | succ k ih =>
      intro hk
      rw [← hi.step k hk]
      exact hS _ (hi.lt _ (nl_mem (by omega))) (ih (by omega))
  obtain ⟨k, hk, rfl⟩ := mem_nl hxc
  exact hall k hk
theorem Des.reach (h : Des n b w) {y : Nat} (hy : y < n) : y ∈ ord b w 0 := by
  obtain ⟨hb, hw, hr⟩ := h
  have hn := hb.1
  have h1 := ord_bf hb hw (x := 0) (by omega)
  refine nodup_full h1.nod h1.lt ?_ hy
  have : (Bm.reach b w).2.length = n := by omega
  have e : (bfs [b, w] (stA 0) 16).2.length = n := this
  omega
/-- What is true of 0 and led on by both permutations is true of all darts. -/
theorem Des.ind (h : Des n b w) (S : Nat → Prop) (s1 : ∀ z, z < n → S z → S (nl b z)) (s2 : ∀ z, z < n → S z → S (nl w z)) (s0 : S 0) : ∀ z, z < n → S z := by
  obtain ⟨hb, hw, hr⟩ := id h
  have hn := hb.1
  intro z hz
  have hcl : ∀ i, ∀ z ∈ (bfs [b, w] (stA 0) i).2, z < n ∧ S z := by
    have hv : ∀ (st : BS) (y : Nat), (∀ z ∈ st.2, z < n ∧ S z) → y < n → S y → ∀ z ∈ (visit st y).2, z < n ∧ S z := by
      intro st y h1 h2 h3 z hz
      unfold visit at hz
      split at hz
      · exact h1 z hz
      · rcases List.mem_append.1 hz with k | k
        · exact h1 z k
        · rw [List.mem_singleton] at k
          subst k
          exact ⟨h2, h3⟩
    intro i
    induction i with
    | zero =>
      intro z hz
      have : z = 0 := by simpa [bfs, stA] using hz
      subst this
      exact ⟨by omega, s0⟩
    | succ i ih =>
      simp only [bfs]
      split
      · rename_i hi
        obtain ⟨hz1, hz2⟩ := ih _ (nl_mem hi)
        exact hv _ _ (hv _ _ ih (hb.lt hz1) (s1 _ hz1 hz2)) (hw.lt hz1) (s2 _ hz1 hz2)
      · exact ih
  exact (hcl 16 z (h.reach hz)).2
/-- From each dart all are reached. -/
theorem Des.all (h : Des n b w) {x y : Nat} (hx : x < n) (hy : y < n) : y ∈ ord b w x := by
  obtain ⟨hb, hw, hr⟩ := id h
  have hn := hb.1
  have h0 := h.ind
  have hx0 : (ord b w x) = (ord b w x) := rfl
  have hfw := ord_cl hb hw hx
  have key : ∀ z, z < n → (z ∈ ord b w x ↔ 0 ∈ ord b w x) := by
    refine h0 _ ?_ ?_ Iff.rfl
    · intro z hz hS
      rw [← hS]
      exact ⟨closed_bwd hb (S := fun z => z ∈ ord b w x) (fun z _ h => (hfw z h).1) hz, fun h => (hfw z h).1⟩
    · intro z hz hS
      rw [← hS]
      exact ⟨closed_bwd hw (S := fun z => z ∈ ord b w x) (fun z _ h => (hfw z h).2) hz, fun h => (hfw z h).2⟩
  have hxx : x ∈ ord b w x := by
    obtain ⟨r, hr⟩ := (ord_bf hb hw hx).pre
    rw [ord, hr]
    simp
  exact (key y hy).2 ((key x hx).1 hxx)
theorem ord_len (h : Des n b w) {x : Nat} (hx : x < n) : (ord b w x).length = n := by
  have h1 := ord_bf h.1 h.2.1 hx
  have h2 := nodup_le h1.nod h1.lt
  have h3 := List.Nodup.length_le_of_subset (List.nodup_range (n := n)) (l₂ := ord b w x) fun y hy => h.all hx (List.mem_range.1 hy)
  rw [List.length_range] at h3
  have : (ord b w x).length ≤ n := h2
  omega
theorem ord_nod (h : Des n b w) {x : Nat} (hx : x < n) : (ord b w x).Nodup := (ord_bf h.1 h.2.1 hx).nod
theorem ord_lt (h : Des n b w) {x : Nat} (hx : x < n) {j : Nat} (hj : j < n) : nl (ord b w x) j < n := (ord_bf h.1 h.2.1 hx).lt _ (nl_mem (by have := ord_len h hx; rw [ord] at this; omega))
theorem ord_0 (h : Des n b w) {x : Nat} (hx : x < n) : nl (ord b w x) 0 = x := by
  obtain ⟨r, hr⟩ := (ord_bf h.1 h.2.1 hx).pre
  rw [ord, hr]
  rfl

/-! ### Names -/
/-- The places of the first k of a list. -/
def nmK (l : List Nat) : Nat → List Nat
  | 0 => List.replicate 16 0
  | k + 1 => (nmK l k).set (nl l k) k
theorem nmK_len {l : List Nat} {k : Nat} : (nmK l k).length = 16 := by
  induction k with
  | zero => simp [nmK]
  | succ k ih => simp [nmK, ih]
theorem nmK_lt {l : List Nat} {k i : Nat} : nl (nmK l k) i ≤ k := by
  induction k generalizing i with
  | zero => simp only [nmK, nl_rep]; split <;> omega
  | succ k ih =>
    rw [nmK, nl_set]
    split
    · omega
    · have := @ih i; omega
theorem nmK_at {l : List Nat} (hd : l.Nodup) (hl : ∀ x ∈ l, x < 16) : ∀ {k j : Nat}, k ≤ l.length → j < k → nl (nmK l k) (nl l j) = j
  | 0, j, _, h => by omega
  | k + 1, j, hk, hj => by
    rw [nmK, nl_set, nmK_len]
    by_cases e : j = k
    · subst e
      rw [if_pos ⟨rfl, hl _ (nl_mem (by omega))⟩]
    · rw [if_neg (fun h => e (nod_nl hd (by omega) (by omega) h.1)), nmK_at hd hl (by omega) (by omega)]
def nam (b w : List Nat) (x : Nat) : List Nat := nmK (ord b w x) (ord b w x).length
theorem nam_at (h : Des n b w) {x : Nat} (hx : x < n) {j : Nat} (hj : j < n) : nl (nam b w x) (nl (ord b w x) j) = j := by
  have hn := h.1.1
  have hl := ord_len h hx
  exact nmK_at (ord_nod h hx) (fun y hy => by have := (ord_bf h.1 h.2.1 hx).lt y hy; omega) (Nat.le_refl _) (by omega)
theorem ord_nam (h : Des n b w) {x : Nat} (hx : x < n) {y : Nat} (hy : y < n) : nl (ord b w x) (nl (nam b w x) y) = y ∧ nl (nam b w x) y < n := by
  obtain ⟨j, hj, rfl⟩ := mem_nl (h.all hx hy)
  rw [ord_len h hx] at hj
  rw [nam_at h hx hj]
  exact ⟨rfl, hj⟩
/-- A permutation under new names. -/
def rnK (p nm : List Nat) : Nat → List Nat
  | 0 => List.replicate 16 0
  | k + 1 => (rnK p nm k).set (nl nm k) (nl nm (nl p k))
theorem rnK_len {p nm : List Nat} {k : Nat} : (rnK p nm k).length = 16 := by
  induction k with
  | zero => simp [rnK]
  | succ k ih => simp [rnK, ih]
theorem rnK_at {p nm : List Nat} (hd : ∀ i j, i < n → j < n → nl nm i = nl nm j → i = j) (hl : ∀ i, i < n → nl nm i < 16) : ∀ {k j : Nat}, k ≤ n → j < k → nl (rnK p nm k) (nl nm j) = nl nm (nl p j)
  | 0, j, _, h => by omega
  | k + 1, j, hk, hj => by
    rw [rnK, nl_set, rnK_len]
    by_cases e : j = k
    · subst e
      rw [if_pos ⟨rfl, hl _ (by omega)⟩]
    · rw [if_neg (fun h => e (hd _ _ (by omega) (by omega) h.1)), rnK_at hd hl (by omega) (by omega)]
theorem rnK_out {p nm : List Nat} {m i : Nat} (hl : ∀ i, i < n → nl nm i < m) (hi : m ≤ i) : ∀ {k : Nat}, k ≤ n → nl (rnK p nm k) i = 0
  | 0, _ => by simp only [rnK, nl_rep]; split <;> rfl
  | k + 1, hk => by
    have := hl k (by omega)
    rw [rnK, nl_set, if_neg (by omega), rnK_out hl hi (by omega)]
/-- The dessin with names from x. -/
def ren2 (b w : List Nat) (n x : Nat) : List Nat × List Nat := (rnK b (nam b w x) n, rnK w (nam b w x) n)
theorem nam_inj (h : Des n b w) {x : Nat} (hx : x < n) : ∀ i j, i < n → j < n → nl (nam b w x) i = nl (nam b w x) j → i = j := fun i j hi hj he => by
  have h1 := (ord_nam h hx hi).1
  rw [he, (ord_nam h hx hj).1] at h1
  exact h1.symm
theorem ren2_b (h : Des n b w) {x : Nat} (hx : x < n) {y : Nat} (hy : y < n) : nl (ren2 b w n x).1 (nl (nam b w x) y) = nl (nam b w x) (nl b y) :=
  rnK_at (nam_inj h hx) (fun i hi => by have := (ord_nam h hx hi).2; have := h.1.1; omega) (Nat.le_refl _) hy
theorem ren2_w (h : Des n b w) {x : Nat} (hx : x < n) {y : Nat} (hy : y < n) : nl (ren2 b w n x).2 (nl (nam b w x) y) = nl (nam b w x) (nl w y) :=
  rnK_at (nam_inj h hx) (fun i hi => by have := (ord_nam h hx hi).2; have := h.1.1; omega) (Nat.le_refl _) hy
end
section
variable {b w b' w' : List Nat} {n : Nat}
/-- Two dessins that a map of the darts leads to each other. -/
structure Iso (n : Nat) (b w b' w' : List Nat) (φ : Nat → Nat) : Prop where
  lt : ∀ y, y < n → φ y < n
  inj : ∀ y z, y < n → z < n → φ y = φ z → y = z
  b : ∀ y, y < n → nl b' (φ y) = φ (nl b y)
  w : ∀ y, y < n → nl w' (φ y) = φ (nl w y)
structure BfRel (n : Nat) (φ : Nat → Nat) (st st' : BS) : Prop where
  ord : st'.2 = st.2.map φ
  lt : ∀ y ∈ st.2, y < n
  met : ∀ y, y < n → bl st'.1 (φ y) = bl st.1 y
  len : st.1.length = 16 ∧ st'.1.length = 16
theorem BfRel.visit {φ : Nat → Nat} {st st' : BS} {y : Nat} (hn : n ≤ 16) (hl : ∀ y, y < n → φ y < n) (hinj : ∀ y z, y < n → z < n → φ y = φ z → y = z) (h : BfRel n φ st st') (hy : y < n) : BfRel n φ (Bm.visit st y) (Bm.visit st' (φ y)) := by
  unfold Bm.visit
  rw [h.met y hy]
  by_cases hb : bl st.1 y = true
  · rw [if_pos hb, if_pos hb]; exact h
  · rw [if_neg hb, if_neg hb]
    refine ⟨by simp [h.ord], fun z hz => ?_, fun z hz => ?_, by simpa using h.len⟩
    · rcases List.mem_append.1 hz with k | k
      · exact h.lt z k
      · rw [List.mem_singleton] at k; omega
    · show bl (st'.1.set (φ y) true) (φ z) = bl (st.1.set y true) z
      have := hl y hy
      rw [bl_set, bl_set, h.len.1, h.len.2, h.met z hz]
      by_cases e : z = y
      · subst e; rw [if_pos ⟨rfl, by omega⟩, if_pos ⟨rfl, by omega⟩]
      · rw [if_neg (fun k => e (hinj _ _ hz hy k.1)), if_neg (fun k => e k.1)]
theorem nl_map {φ : Nat → Nat} {l : List Nat} {i : Nat} (h : i < l.length) : nl (l.map φ) i = φ (nl l i) := by simp [nl, List.getD, h]
theorem Iso.ord {φ : Nat → Nat} (hn : n ≤ 16) (hb : Perm b n) (hw : Perm w n) (h : Iso n b w b' w' φ) {x : Nat} (hx : x < n) : Bm.ord b' w' (φ x) = (Bm.ord b w x).map φ := by
  have key : ∀ i, BfRel n φ (bfs [b, w] (stA x) i) (bfs [b', w'] (stA (φ x)) i) := by
    intro i
    induction i with
    | zero =>
      refine ⟨rfl, fun y hy => ?_, fun y hy => ?_, by simp [bfs, stA, none16_len]⟩
      · have : y = x := by simpa [bfs, stA] using hy
        omega
      · show bl (none16.set (φ x) true) (φ y) = bl (none16.set x true) y
        have := h.lt x hx
        rw [bl_set, bl_set, none16_len, none16_bl, none16_bl]
        by_cases e : y = x
        · subst e; rw [if_pos ⟨rfl, by omega⟩, if_pos ⟨rfl, by omega⟩]
        · rw [if_neg (fun k => e (h.inj _ _ hy hx k.1)), if_neg (fun k => e k.1)]
    | succ i ih =>
      simp only [bfs]
      generalize bfs [b, w] (stA x) i = st at ih ⊢
      generalize bfs [b', w'] (stA (φ x)) i = st' at ih ⊢
      have hle : st'.2.length = st.2.length := by rw [ih.ord, List.length_map]
      rw [hle]
      by_cases hi : i < st.2.length
      · rw [if_pos hi, if_pos hi]
        have e : nl st'.2 i = φ (nl st.2 i) := by rw [ih.ord, nl_map hi]
        rw [e]
        generalize hz : nl st.2 i = z
        have hz1 : z < n := by rw [← hz]; exact ih.lt _ (nl_mem hi)
        show BfRel n φ (Bm.visit (Bm.visit st (nl b z)) (nl w z)) (Bm.visit (Bm.visit st' (nl b' (φ z))) (nl w' (φ z)))
        rw [h.b z hz1, h.w z hz1]
        exact (ih.visit hn h.lt h.inj (hb.lt hz1)).visit hn h.lt h.inj (hw.lt hz1)
      · rw [if_neg hi, if_neg hi]
        exact ih
  exact (key 16).ord
theorem Iso.nam {φ : Nat → Nat} (hd : Des n b w) (hd' : Des n b' w') (h : Iso n b w b' w' φ) {x : Nat} (hx : x < n) {y : Nat} (hy : y < n) : nl (Bm.nam b' w' (φ x)) (φ y) = nl (Bm.nam b w x) y := by
  have hn := hd.1.1
  obtain ⟨h1, h2⟩ := ord_nam hd hx hy
  have h3 := h.ord (by omega) hd.1 hd.2.1 hx
  have h4 := nam_at hd' (h.lt x hx) h2
  rw [h3, nl_map (by rw [ord_len hd hx]; exact h2), h1] at h4
  exact h4
/-- Names are those of the image. -/
theorem Iso.ren2 {φ : Nat → Nat} (hd : Des n b w) (hd' : Des n b' w') (h : Iso n b w b' w' φ) {x : Nat} (hx : x < n) : Bm.ren2 b' w' n (φ x) = Bm.ren2 b w n x := by
  have hn := hd.1.1
  have hx' := h.lt x hx
  have hz : ∀ {b w : List Nat}, Des n b w → ∀ {x}, x < n → ∀ i, n ≤ i → nl (Bm.ren2 b w n x).1 i = 0 ∧ nl (Bm.ren2 b w n x).2 i = 0 := fun hd x hx i hi =>
    ⟨rnK_out (n := n) (m := n) (fun i hi => (ord_nam hd hx hi).2) hi (Nat.le_refl _), rnK_out (n := n) (m := n) (fun i hi => (ord_nam hd hx hi).2) hi (Nat.le_refl _)⟩
  have key : ∀ i, i < 16 → nl (Bm.ren2 b' w' n (φ x)).1 i = nl (Bm.ren2 b w n x).1 i ∧ nl (Bm.ren2 b' w' n (φ x)).2 i = nl (Bm.ren2 b w n x).2 i := by
    intro i _
    rcases Nat.lt_or_ge i n with hi | hi
    · have hy := ord_lt hd hx hi
      have e := nam_at hd hx hi
      generalize hyd : nl (Bm.ord b w x) i = y at hy e
      have e' := h.nam hd hd' hx hy
      rw [e] at e'
      have f1 := ren2_b hd' hx' (h.lt y hy)
      have f2 := ren2_w hd' hx' (h.lt y hy)
      have g1 := ren2_b hd hx hy
      have g2 := ren2_w hd hx hy
      rw [e', h.b y hy, h.nam hd hd' hx (hd.1.lt hy)] at f1
      rw [e', h.w y hy, h.nam hd hd' hx (hd.2.1.lt hy)] at f2
      rw [e] at g1 g2
      rw [f1, f2, g1, g2]
      exact ⟨rfl, rfl⟩
    · obtain ⟨h1, h2⟩ := hz hd hx i hi
      obtain ⟨h3, h4⟩ := hz hd' hx' i hi
      rw [h1, h2, h3, h4]
      exact ⟨rfl, rfl⟩
  refine Prod.ext ?_ ?_
  · exact nl_ext (by simp only [Bm.ren2, rnK_len]) fun i hi => (key i (by simpa only [Bm.ren2, rnK_len] using hi)).1
  · exact nl_ext (by simp only [Bm.ren2, rnK_len]) fun i hi => (key i (by simpa only [Bm.ren2, rnK_len] using hi)).2
/-- The same names lead dessins to each other. -/
theorem iso_of {x y : Nat} (hd : Des n b w) (hd' : Des n b' w') (hx : x < n) (hy : y < n) (h : Bm.ren2 b' w' n y = Bm.ren2 b w n x) : ∃ φ, Iso n b w b' w' φ ∧ φ x = y := by
  refine ⟨fun z => nl (Bm.ord b' w' y) (nl (Bm.nam b w x) z), ⟨fun z hz => ?_, fun z z' hz hz' he => ?_, fun z hz => ?_, fun z hz => ?_⟩, ?_⟩
  · exact ord_lt hd' hy (ord_nam hd hx hz).2
  · have h1 := nod_nl (ord_nod hd' hy) (by rw [ord_len hd' hy]; exact (ord_nam hd hx hz).2) (by rw [ord_len hd' hy]; exact (ord_nam hd hx hz').2) he
    exact nam_inj hd hx z z' hz hz' h1
  · have hk := (ord_nam hd hx hz).2
    have hu := ord_lt hd' hy hk
    have e := nam_at hd' hy hk
    have g1 := ren2_b hd' hy hu
    rw [e, h, ren2_b hd hx hz] at g1
    show nl b' (nl (Bm.ord b' w' y) (nl (Bm.nam b w x) z)) = nl (Bm.ord b' w' y) (nl (Bm.nam b w x) (nl b z))
    rw [g1]
    exact (ord_nam hd' hy (hd'.1.lt hu)).1.symm
  · have hk := (ord_nam hd hx hz).2
    have hu := ord_lt hd' hy hk
    have e := nam_at hd' hy hk
    have g1 := ren2_w hd' hy hu
    rw [e, h, ren2_w hd hx hz] at g1
    show nl w' (nl (Bm.ord b' w' y) (nl (Bm.nam b w x) z)) = nl (Bm.ord b' w' y) (nl (Bm.nam b w x) (nl w z))
    rw [g1]
    exact (ord_nam hd' hy (hd'.2.1.lt hu)).1.symm
  · have := ord_0 hd hx
    have h0 := nam_at hd hx (j := 0) (by have := hd.1.1; omega)
    rw [this] at h0
    show nl (Bm.ord b' w' y) (nl (Bm.nam b w x) x) = y
    rw [h0]
    exact ord_0 hd' hy
end

/-! ### The least one -/
abbrev L2 := List Nat × List Nat
def lt2 (x y : L2) : Prop := x.1 < y.1 ∨ (x.1 = y.1 ∧ x.2 < y.2)
instance (x y : L2) : Decidable (lt2 x y) := by unfold lt2; infer_instance
theorem lt2_irr (x : L2) : ¬ lt2 x x := fun h => by
  rcases h with h | h
  · exact List.lt_irrefl _ h
  · exact List.lt_irrefl _ h.2
theorem lt2_trans {x y z : L2} (h : lt2 x y) (k : lt2 y z) : lt2 x z := by
  rcases h with h | ⟨h1, h2⟩ <;> rcases k with k | ⟨k1, k2⟩
  · exact .inl (List.lt_trans h k)
  · exact .inl (k1 ▸ h)
  · exact .inl (h1 ▸ k)
  · exact .inr ⟨h1.trans k1, List.lt_trans h2 k2⟩
theorem lt2_tri {x y : L2} (h : ¬ lt2 x y) (k : ¬ lt2 y x) : x = y := by
  have e1 : x.1 = y.1 := List.le_antisymm (List.not_lt.1 fun e => k (.inl e)) (List.not_lt.1 fun e => h (.inl e))
  exact Prod.ext e1 (List.le_antisymm (List.not_lt.1 fun e => k (.inr ⟨e1.symm, e⟩)) (List.not_lt.1 fun e => h (.inr ⟨e1, e⟩)))
def canK (b w : List Nat) (n : Nat) : Nat → L2
  | 0 => ren2 b w n 0
  | k + 1 => if lt2 (ren2 b w n (k + 1)) (canK b w n k) then ren2 b w n (k + 1) else canK b w n k
def canD (b w : List Nat) (n : Nat) : L2 := canK b w n (n - 1)
section
variable {b w b' w' : List Nat} {n : Nat}
theorem canK_mem : ∀ {k : Nat}, ∃ x, x ≤ k ∧ canK b w n k = ren2 b w n x
  | 0 => ⟨0, Nat.le_refl _, rfl⟩
  | k + 1 => by
    obtain ⟨x, hx, h⟩ := @canK_mem k
    simp only [canK]
    split
    · exact ⟨k + 1, Nat.le_refl _, rfl⟩
    · exact ⟨x, by omega, h⟩
theorem canK_least : ∀ {k x : Nat}, x ≤ k → ¬ lt2 (ren2 b w n x) (canK b w n k)
  | 0, x, h => by
    obtain rfl : x = 0 := by omega
    exact lt2_irr _
  | k + 1, x, h => by
    simp only [canK]
    by_cases e : x = k + 1
    · subst e
      split
      · exact lt2_irr _
      · assumption
    · have ih := canK_least (show x ≤ k by omega)
      split
      · rename_i hl
        exact fun h => ih (lt2_trans h hl)
      · exact ih
theorem can_iff (hd : Des n b w) (hd' : Des n b' w') : canD b w n = canD b' w' n ↔ ∃ x, x < n ∧ ren2 b' w' n x = ren2 b w n 0 := by
  have hn := hd.1.1
  constructor
  · intro h
    obtain ⟨y, hy, e⟩ := @canK_mem b w n (n - 1)
    obtain ⟨z, hz, e'⟩ := @canK_mem b' w' n (n - 1)
    rw [canD, canD, e, e'] at h
    obtain ⟨φ, hi, _⟩ := iso_of hd hd' (show y < n by omega) (show z < n by omega) h.symm
    exact ⟨φ 0, hi.lt 0 (by omega), hi.ren2 hd hd' (by omega)⟩
  · rintro ⟨x, hx, h⟩
    obtain ⟨φ, hi, _⟩ := iso_of hd hd' (show 0 < n by omega) hx h
    obtain ⟨ψ, hj, _⟩ := iso_of hd' hd hx (show 0 < n by omega) h.symm
    obtain ⟨y, hy, e⟩ := @canK_mem b w n (n - 1)
    obtain ⟨z, hz, e'⟩ := @canK_mem b' w' n (n - 1)
    refine lt2_tri ?_ ?_
    · rw [canD, e, ← hi.ren2 hd hd' (show y < n by omega)]
      exact canK_least (by have := hi.lt y (by omega); omega)
    · rw [canD, canD, e', ← hj.ren2 hd' hd (show z < n by omega)]
      exact canK_least (by have := hj.lt z (by omega); omega)
end
end Go.Bm

/- bytes.Compare in the second machine. -/
set_option linter.unusedVariables false
set_option linter.unusedSimpArgs false
namespace Go.Bm
open Go Go.Am

def cmpB (p q : List Nat) : Int := Lib.compareBytes (Lib.bytesOf (p.map fun n : Nat => (n : Int))) (Lib.bytesOf (q.map fun n : Nat => (n : Int)))
theorem u8_lt {a b : Nat} (ha : a < 256) (hb : b < 256) : ((a : Int).toNat.toUInt8 < (b : Int).toNat.toUInt8) ↔ a < b := by
  rw [UInt8.lt_iff_toNat_lt]
  simp [Nat.mod_eq_of_lt ha, Nat.mod_eq_of_lt hb]
theorem cmpB_cons {a b : Nat} {p q : List Nat} (ha : a < 256) (hb : b < 256) : cmpB (a :: p) (b :: q) = if a < b then -1 else if b < a then 1 else cmpB p q := by
  show Lib.compareBytes (_ :: _) (_ :: _) = _
  rw [Lib.compareBytes]
  simp only [u8_lt ha hb, u8_lt hb ha]
  rfl
theorem cmpB_lt : ∀ {p q : List Nat}, p.length = q.length → (∀ x ∈ p, x < 256) → (∀ x ∈ q, x < 256) → ((cmpB p q < 0 ↔ p < q) ∧ (cmpB p q = 0 ↔ p = q))
  | [], [], _, _, _ => ⟨by simp [cmpB, Lib.bytesOf, Lib.compareBytes], by simp [cmpB, Lib.bytesOf, Lib.compareBytes]⟩
  | [], _ :: _, h, _, _ => by simp at h
  | _ :: _, [], h, _, _ => by simp at h
  | a :: p, b :: q, h, hp, hq => by
    have ih := cmpB_lt (p := p) (q := q) (by simpa using h) (fun x hx => hp x (by simp [hx])) (fun x hx => hq x (by simp [hx]))
    rw [cmpB_cons (hp a (by simp)) (hq b (by simp)), List.cons_lt_cons_iff]
    rcases Nat.lt_trichotomy a b with h1 | h1 | h1
    · rw [if_pos h1]
      refine ⟨⟨fun _ => .inl h1, fun _ => by omega⟩, ⟨fun h => by omega, fun h => ?_⟩⟩
      injection h with h2
      omega
    · subst h1
      rw [if_neg (by omega), if_neg (by omega), ih.1, ih.2]
      refine ⟨⟨fun h => .inr ⟨rfl, h⟩, fun h => ?_⟩, by simp⟩
      rcases h with h | h
      · omega
      · exact h.2
    · rw [if_neg (by omega), if_pos h1]
      refine ⟨⟨fun h => by omega, fun h => ?_⟩, ⟨fun h => by omega, fun h => ?_⟩⟩
      · rcases h with h | h <;> omega
      · injection h with h2
        omega
theorem Compare_own {x : Bool} {i j : Nat} {p q : List Nat} {H : BH} {K : Value → BH → Prop} (hi : blk H i = some (p.map N8)) (hj : blk H j = some (q.map N8)) (hp : 0 < p.length) (hq : 0 < q.length)
    (hK : K (I (cmpB p q)) H) : CallX x F_bytes_Compare [S i 0 p.length 1, S j 0 q.length 1] H K := by
  intro ρ Z as HA h1 h2
  obtain ⟨u1, us, rfl, v1, h3⟩ := h1.uncons
  obtain ⟨u2, us2, rfl, v2, h4⟩ := h3.uncons
  obtain rfl := h4.unnil
  obtain ⟨b1, r1, rfl⟩ := v1.slice_inv
  obtain ⟨b2, r2, rfl⟩ := v2.slice_inv
  have hat : ∀ (i b : Nat) (p : List Nat), blk H i = some (p.map N8) → 0 < p.length → ρ i = some b → BytesAt HA (.slice (some ⟨b, 0, none⟩) p.length 1) (p.map fun n : Nat => (n : Int)) := by
    intro i b p hb hp hr
    obtain ⟨b', bk, e1, e2, e3, e4, e5⟩ := h2.liv i _ hb
    rw [hr] at e1
    cases e1
    refine ⟨b, 0, bk, by rw [List.length_map], by simpa using hp, e3, fun t x hx => ?_⟩
    simp only [List.getElem?_map, Option.map_eq_some_iff] at hx
    obtain ⟨n, hn, rfl⟩ := hx
    obtain ⟨d, hd, hv⟩ := e5.at_ (i := t) (c := N8 n) (by simp [hn])
    rw [Nat.zero_add, hd, hv.int]
  exact ⟨_, HA, .outer ⟨rfl, rfl, _, _, _, _, rfl, hat i b1 p hi hp r1, hat j b2 q hj hq r2, rfl⟩, fun _ => Ext.refl' _, ρ, Z, _, H, .z (.plain rfl), h2, Nat.le_refl _, fun _ _ => rfl, .refl _ _ _ _, hK⟩
end Go.Bm

/- Lists of numbers as cells. -/
set_option linter.unusedVariables false
set_option linter.unusedSimpArgs false
namespace Go.Bm
open Go Go.Am

abbrev N64 (n : Nat) : Value := .int .i64 (n : Int)
theorem app1_64 {H : BH} {b bytes cn : Nat} {xs : List Nat} {y : Nat} (h : (xs.length + 1) * bytes ≤ 140737488355328) : app1 (some [.int .i64 (y : Int)]) (some (xs.map N64)) H b xs.length bytes cn = some (S H.length 0 (xs.length + 1) 1, (H.set b none) ++ [some ((xs ++ [y]).map N64)]) := app1_g (g := N64) rfl h
theorem NNL_F8 {l : List Nat} : NNL (l.map N8) := NNL.map fun _ => .int
end Go.Bm

/- Names from a dart, and the least dessin: the program's. -/
set_option linter.unusedVariables false
set_option linter.unusedSimpArgs false
namespace Go.Bm
open Go Go.Am

theorem fill2_N {a b : Nat} : fillL (List.replicate 2 (.int .u8 0)) [(0, 1, .int .u8 (a : Int)), (1, 1, .int .u8 (b : Int))] = some ([a, b].map N8) := rfl
theorem pair_nl {b w : List Nat} {z j : Nat} (h : j < 2) : nl [nl b z, nl w z] j = nl ([b, w].getD j []) z := by
  have : j = 0 ∨ j = 1 := by omega
  rcases this with rfl | rfl <;> rfl
theorem stA_bi {x : Nat} (hx : x < 16) : Bi 16 (stA x) := ⟨by simp [stA, none16_len], fun i hi => by
  rw [show (stA x).2 = [x] from rfl, nl_single (by simpa [stA] using hi)]; exact hx, by
  show 1 ≤ (none16.set x true).count true
  rw [count_set_true (by rw [none16_len]; exact hx) none16_bl]
  omega⟩
theorem named_run {n x : Nat} {b w : List Nat} (hb : By 16 b) (hw : By 16 w) (hd : Des n b w) (hx : x < n) :
    CallX false F_impl_named [DV n b w, I x] [] fun v H1 => ∃ j, v = S j 0 (ord b w x).length 1 ∧ blk H1 j = some ((ord b w x).map N8) := by
  have hlb := hb.len
  have hlw := hw.len
  have hn := hd.1.1
  have hb16 := fun i => hd.1.lt16 hlb i
  have hw16 := fun i => hd.2.1.lt16 hlw i
  have hl16 : ∀ p ∈ [b, w], ∀ i, nl p i < 16 := by simp; exact ⟨hb16, hw16⟩
  have hx16 : x < 16 := by omega
  have hr16 : (List.replicate 16 false).length = 16 := List.length_replicate
  refine CallX_body Γ_impl_named ?_
  simp only [A_impl_named, T_aiff]
  refine T_rseq fun Kr hKr => ?_
  simp (disch := omega) only [RA, ↓reduceIte, Nat.reduceEqDiff, RD, RDS]
  refine hKr _ _ ?_
  clear hKr Kr
  try simp only [RN, reduceIte]
  try refine T_e rfl ?_
  refine T_rseq fun Kr hKr => ?_
  simp (disch := omega) only [RA, ↓reduceIte, Nat.reduceEqDiff, Nat.reduceBEq, Nat.reduceSub, Nat.reduceAdd, Nat.reduceMul, Nat.reduceLT, Nat.reduceLeDiff, Int.reduceLE, Int.reduceLT, Int.reduceEq, Int.reduceNeg, Int.reduceToNat, Int.reduceMul, Int.reduceAdd, Int.reduceSub, Int.reduceBEq, Int.reduceBNe, reduceCtorEq, RD]
  refine hKr _ _ ?_
  clear hKr Kr
  try simp only [RN, reduceIte]
  try refine T_e rfl ?_
  refine T_rseq fun Kr hKr => ?_
  simp (disch := omega) only [RA, ↓reduceIte, Nat.reduceEqDiff, Nat.reduceBEq, Nat.reduceSub, Nat.reduceAdd, Nat.reduceMul, Nat.reduceLT, Nat.reduceLeDiff, Int.reduceLE, Int.reduceLT, Int.reduceEq, Int.reduceNeg, Int.reduceToNat, Int.reduceMul, Int.reduceAdd, Int.reduceSub, Int.reduceBEq, Int.reduceBNe, reduceCtorEq, RD, repB]
  refine hKr _ _ ?_
  clear hKr Kr
  try simp only [RN, reduceIte]
  try refine T_e rfl ?_
  refine T_rseq fun Kr hKr => ?_
  simp (disch := omega) only [RA, ↓reduceIte, Nat.reduceEqDiff, Nat.reduceBEq, Nat.reduceSub, Nat.reduceAdd, Nat.reduceMul, Nat.reduceLT, Nat.reduceLeDiff, Int.reduceLE, Int.reduceLT, Int.reduceEq, Int.reduceNeg, Int.reduceToNat, Int.reduceMul, Int.reduceAdd, Int.reduceSub, Int.reduceBEq, Int.reduceBNe, reduceCtorEq, RD]
  refine hKr _ _ ?_
  clear hKr Kr
  try simp only [RN, reduceIte]
  try refine T_e rfl ?_
  refine T_rseq fun Kr hKr => ?_
  simp (disch := omega) only [RA, ↓reduceIte, Nat.reduceEqDiff, Nat.reduceBEq, Nat.reduceSub, Nat.reduceAdd, Nat.reduceMul, Nat.reduceLT, Nat.reduceLeDiff, Int.reduceLE, Int.reduceLT, Int.reduceEq, Int.reduceNeg, Int.reduceToNat, Int.reduceMul, Int.reduceAdd, Int.reduceSub, Int.reduceBEq, Int.reduceBNe, reduceCtorEq, RD]
  refine hKr _ _ ?_
  clear hKr Kr
  try simp only [RN, reduceIte]
  try refine T_e rfl ?_
  refine T_wloop (fun m f H' => ∃ k st, k ≤ 16 ∧ m = 16 - k ∧ st = bfs [b, w] (stA x) k ∧ k ≤ st.2.length ∧ f 2 = P 0 0 ∧ f 5 = P 1 0 ∧ f 6 = S 2 0 st.2.length 1 ∧ f 7 = I k ∧ H' = [some (DC n b w), some (st.1.map B), some (st.2.map N8)]) (16) ?_ ?_
  · refine ⟨_, _, Gh.refl, 0, stA x, by omega, by omega, rfl, Nat.zero_le _, ?_, ?_, ?_, ?_, by simp [stA, none16]⟩
    any_goals (simp (disch := omega) only [RA, ↓reduceIte, Nat.reduceEqDiff, Nat.reduceAdd, Nat.reduceMul, Int.reduceToNat, Nat.reduceLT, reduceCtorEq, RD, RE, *] <;> rfl)
  · rintro m f H' R ⟨k, st, hk, rfl, hst, hkl, g2, g5, g6, g7, rfl⟩ hN hX hR hE
    simp only [A_impl_named.l1, T_aiff]
    have hB := (stA_bi hx16).bfs hl16 k
    rw [← hst] at hB
    replace hst := hst.symm
    have hle := hB.le
    have hsl := hB.len
    refine T_rseq fun Kr hKr => ?_
    simp (disch := omega) only [RA, ↓reduceIte, Nat.reduceEqDiff, Nat.reduceBEq, Nat.reduceSub, Nat.reduceAdd, Nat.reduceMul, Nat.reduceLT, Nat.reduceLeDiff, Int.reduceLE, Int.reduceLT, Int.reduceEq, Int.reduceNeg, Int.reduceToNat, Int.reduceMul, Int.reduceAdd, Int.reduceSub, Int.reduceBEq, Int.reduceBNe, reduceCtorEq, RD, g6, g7]
    refine hKr _ _ ?_
    clear hKr Kr
    try simp only [RN, reduceIte]
    try refine T_e rfl ?_
    refine T_csplit (p := k < st.2.length) (by simp only [RA, ↓reduceIte, Nat.reduceEqDiff, Nat.reduceBEq, Nat.reduceSub, Nat.reduceAdd, Nat.reduceMul, Nat.reduceLT, Nat.reduceLeDiff, Int.reduceLE, Int.reduceLT, Int.reduceEq, Int.reduceNeg, Int.reduceToNat, Int.reduceMul, Int.reduceAdd, Int.reduceSub, Int.reduceBEq, Int.reduceBNe, reduceCtorEq] <;> rfl) (by (try simp only [RB]) <;> first | done | exact Iff.rfl | omega | simp) (fun hc => ?_) (fun hc => ?_) <;> (try simp only [RN, reduceIte]) <;> (try refine T_e rfl ?_)
    · have hxk := hB.lt k hc
      have hkst : k < st.2.length := by assumption
      have h1 := hb16 (nl st.2 k)
      have h2 := hw16 (nl st.2 k)
      obtain ⟨pr, hpr⟩ : ∃ pr, pr = [nl b (nl st.2 k), nl w (nl st.2 k)] := ⟨_, rfl⟩
      have hpl : pr.length = 2 := by rw [hpr]; rfl
      have hpj : ∀ j, j < 2 → nl pr j = nl ([b, w].getD j []) (nl st.2 k) := fun j hj => by rw [hpr]; exact pair_nl hj
      first | refine T_bfree rfl ?_ | refine T_bfree' rfl ?_
      try simp only [RN, reduceIte]
      try refine T_e rfl ?_
      refine T_rseq fun Kr hKr => ?_
      simp (disch := omega) only [RA, ↓reduceIte, Nat.reduceEqDiff, Nat.reduceBEq, Nat.reduceSub, Nat.reduceAdd, Nat.reduceMul, Nat.reduceLT, Nat.reduceLeDiff, Int.reduceLE, Int.reduceLT, Int.reduceEq, Int.reduceNeg, Int.reduceToNat, Int.reduceMul, Int.reduceAdd, Int.reduceSub, Int.reduceBEq, Int.reduceBNe, reduceCtorEq, RD, g2, g6, g7, RDS, RDD, fill2_N]
      refine hKr _ _ ?_
      clear hKr Kr
      try simp only [RN, reduceIte]
      try refine T_e rfl ?_
      refine T_wloop (fun m f H' => ∃ j st', j ≤ 2 ∧ m = 2 - j ∧ st' = roundX ([b, w].take j) (nl st.2 k) st ∧ f 2 = P 0 0 ∧ f 5 = P 1 0 ∧ f 6 = S 2 0 st'.2.length 1 ∧ f 7 = I k ∧ f 36 = S 3 0 2 1 ∧ f 37 = I 2 ∧ f 38 = I j ∧ H' = [some (DC n b w), some (st'.1.map B), some (st'.2.map N8), some (pr.map N8)]) (2) ?_ ?_
      · refine ⟨_, _, Gh.refl, 0, st, by omega, by omega, rfl, ?_, ?_, ?_, ?_, ?_, ?_, ?_, by rw [hpr]; rfl⟩
        any_goals (simp (disch := omega) only [RA, ↓reduceIte, Nat.reduceEqDiff, RD, RE, *] <;> rfl)
      · clear g2 g5 g6 g7 hpr
        rintro m f H' R2 ⟨j, st', hj, rfl, hst', g2, g5, g6, g7, g36, g37, g38, rfl⟩ hN2 hX2 hR2 hE2
        simp only [A_impl_named.l0, T_aiff]
        refine T_rseq fun Kr hKr => ?_
        simp (disch := omega) only [RA, ↓reduceIte, Nat.reduceEqDiff, RD, g37, g38]
        refine hKr _ _ ?_
        clear hKr Kr
        try simp only [RN, reduceIte]
        try refine T_e rfl ?_
        have hB' : Bi 16 st' := by rw [hst']; exact hB.round fun p hp => hl16 p (List.mem_of_mem_take hp) _
        have hle' := hB'.le
        have hsl' := hB'.len
        refine T_csplit (p := j < 2) (by simp only [RA, ↓reduceIte, Nat.reduceEqDiff] <;> rfl) (by (try simp only [RB]) <;> first | done | exact Iff.rfl | omega | simp) (fun hc => ?_) (fun hc => ?_) <;> (try simp only [RN, reduceIte]) <;> (try refine T_e rfl ?_)
        · have hnx := round_take (ls := [b, w]) (x := nl st.2 k) (st := st) hc
          rw [← hst', ← hpj j hc] at hnx
          have hyl : nl pr j < 16 := by
            rw [hpj j hc]
            exact hl16 _ (getD_mem hc) _
          obtain ⟨y, hyd⟩ : ∃ y, nl pr j = y := ⟨_, rfl⟩
          rw [hyd] at hyl hnx
          have hxi : y < 16 := hyl
          have hnext : ∀ f' st2, f' 2 = P 0 0 → f' 5 = P 1 0 → f' 6 = S 2 0 st2.2.length 1 → f' 7 = I k → f' 36 = S 3 0 2 1 → f' 37 = I 2 → f' 38 = I j → st2 = visit st' y → T 0 A_impl_named.r13 R2 f' [some (DC n b w), some (st2.1.map B), some (st2.2.map N8), some (pr.map N8)] := by
            intro f' st2 g2 g5 g6 g7 g36 g37 g38 hs2
            refine T_reg_k fun Kr hKr => ?_
            simp (disch := omega) only [RA, ↓reduceIte, Nat.reduceEqDiff, RD, g38]
            refine hKr _ _ ?_
            clear hKr Kr
            refine hN2 (2 - (j + 1)) _ _ _ _ (by omega) Gh.refl ⟨j + 1, st2, by omega, rfl, by rw [hnx, hs2], ?_, ?_, ?_, ?_, ?_, ?_, ?_, rfl⟩
            any_goals (simp (disch := omega) only [RA, ↓reduceIte, Nat.reduceEqDiff, RD, RE, *] <;> rfl)
          first | refine T_bfree rfl ?_ | refine T_bfree' rfl ?_
          try simp only [RN, reduceIte]
          try refine T_e rfl ?_
          refine T_rseq fun Kr hKr => ?_
          simp (disch := omega) only [RA, ↓reduceIte, Nat.reduceEqDiff, RD, g36, g38, hpl, hyd]
          refine hKr _ _ ?_
          clear hKr Kr
          try simp only [RN, reduceIte]
          try refine T_e rfl ?_
          refine T_rseq fun Kr hKr => ?_
          simp (disch := omega) only [RA, ↓reduceIte, Nat.reduceEqDiff, Nat.reduceBEq, Nat.reduceSub, Nat.reduceAdd, Nat.reduceMul, Nat.reduceLT, Nat.reduceLeDiff, Int.reduceLE, Int.reduceLT, Int.reduceEq, Int.reduceNeg, Int.reduceToNat, Int.reduceMul, Int.reduceAdd, Int.reduceSub, Int.reduceBEq, Int.reduceBNe, reduceCtorEq, RD, g5, hsl']
          refine hKr _ _ ?_
          clear hKr Kr
          try simp only [RN, reduceIte]
          try refine T_e rfl ?_
          refine T_csplit (p := ¬ bl st'.1 y = true) (by simp only [RA, ↓reduceIte, Nat.reduceEqDiff, Nat.reduceBEq, Nat.reduceSub, Nat.reduceAdd, Nat.reduceMul, Nat.reduceLT, Nat.reduceLeDiff, Int.reduceLE, Int.reduceLT, Int.reduceEq, Int.reduceNeg, Int.reduceToNat, Int.reduceMul, Int.reduceAdd, Int.reduceSub, Int.reduceBEq, Int.reduceBNe, reduceCtorEq] <;> rfl) (by (try simp only [RB]) <;> first | done | exact Iff.rfl | omega | simp) (fun hc => ?_) (fun hc => ?_) <;> (try simp only [RN, reduceIte]) <;> (try refine T_e rfl ?_)
          · refine T_rseq fun Kr hKr => ?_
            simp (disch := omega) only [RA, ↓reduceIte, Nat.reduceEqDiff, Nat.reduceBEq, Nat.reduceSub, Nat.reduceAdd, Nat.reduceMul, Nat.reduceLT, Nat.reduceLeDiff, Int.reduceLE, Int.reduceLT, Int.reduceEq, Int.reduceNeg, Int.reduceToNat, Int.reduceMul, Int.reduceAdd, Int.reduceSub, Int.reduceBEq, Int.reduceBNe, reduceCtorEq, RD, g5, hsl']
            refine hKr _ _ ?_
            clear hKr Kr
            try simp only [RN, reduceIte]
            try refine T_e rfl ?_
            refine T_rseq fun Kr hKr => ?_
            simp (disch := omega) only [RA, ↓reduceIte, Nat.reduceEqDiff, Nat.reduceBEq, Nat.reduceSub, Nat.reduceAdd, Nat.reduceMul, Nat.reduceLT, Nat.reduceLeDiff, Int.reduceLE, Int.reduceLT, Int.reduceEq, Int.reduceNeg, Int.reduceToNat, Int.reduceMul, Int.reduceAdd, Int.reduceSub, Int.reduceBEq, Int.reduceBNe, reduceCtorEq, RD, g6]
            refine hKr _ _ ?_
            clear hKr Kr
            try simp only [RN, reduceIte]
            try refine T_e rfl ?_
            refine T_gh (Gh.nrm [0, 1, 5, 3] rfl rfl (by simp only [RH, NN_D])) ?_
            refine hnext _ (st'.1.set y true, st'.2 ++ [y]) ?_ ?_ ?_ ?_ ?_ ?_ ?_ ?_
            any_goals (simp (disch := omega) only [RA, ↓reduceIte, Nat.reduceEqDiff, RD, RE, *] <;> rfl)
            rw [visit, if_neg hc]
          · try simp only [RN, reduceIte]
            try refine T_e rfl ?_
            refine hnext _ st' ?_ ?_ ?_ ?_ ?_ ?_ ?_ ?_
            any_goals (simp (disch := omega) only [RA, ↓reduceIte, Nat.reduceEqDiff, RD, RE, *] <;> rfl)
            rw [visit, if_pos (by simpa using hc)]
        · refine hX2 _ _ ?_
          obtain rfl : j = 2 := by omega
          have hst2 : st' = bfs [b, w] (stA x) (k + 1) := by
            rw [hst', bfs, hst, if_pos hkst]; rfl
          obtain ⟨q, hq⟩ := @round_pre (nl st.2 k) ([b, w].take 2) st
          have hlq : k + 1 ≤ st'.2.length := by rw [hst', hq]; simp; omega
          refine T_reg_k fun Kr hKr => ?_
          simp (disch := omega) only [RA, ↓reduceIte, Nat.reduceEqDiff, RD, g7]
          refine hKr _ _ ?_
          clear hKr Kr
          refine hN (16 - (k + 1)) _ _ _ _ (by omega) (Gh.nrm [0, 1, 2] rfl rfl (by simp only [RH, NN_D])) ⟨k + 1, st', by omega, rfl, hst2, hlq, ?_, ?_, ?_, ?_, rfl⟩
          any_goals (simp (disch := omega) only [RA, ↓reduceIte, Nat.reduceEqDiff, RD, RE, *] <;> rfl)
    · refine hX _ _ ?_
      have hfin : bfs [b, w] (stA x) 16 = st := by rw [bfs_stop (i := k) (by rw [hst]; omega) 16 hk, hst]
      refine T_rseq fun Kr hKr => ?_
      simp (disch := omega) only [RA, ↓reduceIte, Nat.reduceEqDiff, Nat.reduceBEq, Nat.reduceSub, Nat.reduceAdd, Nat.reduceMul, Nat.reduceLT, Nat.reduceLeDiff, Int.reduceLE, Int.reduceLT, Int.reduceEq, Int.reduceNeg, Int.reduceToNat, Int.reduceMul, Int.reduceAdd, Int.reduceSub, Int.reduceBEq, Int.reduceBNe, reduceCtorEq, RD, g6]
      refine hKr _ _ ?_
      clear hKr Kr
      try simp only [RN, reduceIte]
      try refine T_e rfl ?_
      refine bodyQ_ret (by simp (disch := omega) only [RA, ↓reduceIte, Nat.reduceEqDiff, RD, resAll, resOf, g6]; rfl) GhV.refl ?_
      simp only [tup]
      rw [ord, hfin]
      exact ⟨2, rfl, rfl⟩
theorem named_spec {x0 : Bool} {n x : Nat} {b w : List Nat} {H : BH} {K : Value → BH → Prop} (hb : By 16 b) (hw : By 16 w) (hd : Des n b w) (hx : x < n)
    (hK : K (Fz (ord b w x).length 1 ((ord b w x).map N8)) H) : CallX x0 F_impl_named [DV n b w, I x] H K :=
  callRZ (.cons nn_D (.cons .int .nil)) NNL_F8 (by simp) (named_run hb hw hd hx) hK
theorem nmK_by {l : List Nat} {k : Nat} (hk : k ≤ 16) : By 16 (nmK l k) := ⟨nmK_len, fun i => by have := @nmK_lt l k i; omega⟩
theorem naming_spec {x0 : Bool} {n x : Nat} {b w : List Nat} {H : BH} {K : Value → BH → Prop} (hb : By 16 b) (hw : By 16 w) (hd : Des n b w) (hx : x < n)
    (hK : K (PL (nam b w x)) H) : CallX x0 F_impl_naming [DV n b w, I x] H K := by
  have hlb := hb.len
  have hlw := hw.len
  have hn := hd.1.1
  have hol := ord_len hd hx
  have hlt : ∀ j, j < (ord b w x).length → nl (ord b w x) j < 16 := fun j hj => by
    have := ord_lt hd hx (j := j) (by omega)
    omega
  rw [nam] at hK
  refine callP (by exact .cons nn_D (.cons .int .nil)) ?_
  refine CallX_body Γ_impl_naming ?_
  simp only [A_impl_naming, T_aiff]
  refine T_rseq fun Kr hKr => ?_
  simp (disch := omega) only [RA, ↓reduceIte, Nat.reduceEqDiff, RD, RDS]
  refine hKr _ _ ?_
  clear hKr Kr
  try simp only [RN, reduceIte]
  try refine T_e rfl ?_
  refine T_rseq fun Kr hKr => ?_
  simp (disch := omega) only [RA, ↓reduceIte, Nat.reduceEqDiff, RD]
  refine hKr _ _ ?_
  clear hKr Kr
  try simp only [RN, reduceIte]
  try refine T_e rfl ?_
  refine T_rseq fun Kr hKr => ?_
  simp (disch := omega) only [RA, ↓reduceIte, Nat.reduceEqDiff, RD, RDS, RDD]
  refine named_spec hb hw hd hx ?_
  generalize ord b w x = l at hol hlt hK
  have hl16 : l.length ≤ 16 := by omega
  simp (disch := omega) only [RA, ↓reduceIte, Nat.reduceEqDiff, RD]
  refine hKr _ _ ?_
  clear hKr Kr
  try simp only [blkQ, thenQ, loopQ]
  try simp only [RN, reduceIte]
  try refine T_e rfl ?_
  refine T_wloop (fun m f H' => ∃ k, k ≤ l.length ∧ m = l.length - k ∧ f 4 = P 1 0 ∧ f 5 = P 2 0 ∧ f 11 = Fz l.length 1 (l.map N8) ∧ f 12 = I l.length ∧ f 13 = I k ∧ H' = [some (DC n b w), some (List.replicate 16 (.int .u8 0)), some ((nmK l k).map N8)]) (l.length) ?_ ?_
  · refine ⟨_, _, Gh.refl, 0, by omega, by omega, ?_, ?_, ?_, ?_, ?_, by simp [nmK]⟩
    any_goals (simp (disch := omega) only [RA, ↓reduceIte, Nat.reduceEqDiff, RD, RE, *] <;> rfl)
  · clear hol
    rintro m f H' R ⟨k, hk, rfl, g4, g5, g11, g12, g13, rfl⟩ hN hX hR hE
    simp only [A_impl_naming.l0, T_aiff]
    have hnl := @nmK_len l k
    refine T_rseq fun Kr hKr => ?_
    simp (disch := omega) only [RA, ↓reduceIte, Nat.reduceEqDiff, RD, g12, g13]
    refine hKr _ _ ?_
    clear hKr Kr
    try simp only [RN, reduceIte]
    try refine T_e rfl ?_
    refine T_csplit (p := k < l.length) (by simp only [RA, ↓reduceIte, Nat.reduceEqDiff] <;> rfl) (by (try simp only [RB]) <;> first | done | exact Iff.rfl | omega | simp) (fun hc => ?_) (fun hc => ?_) <;> (try simp only [RN, reduceIte]) <;> (try refine T_e rfl ?_)
    · have h16 := hlt k hc
      first | refine T_bfree rfl ?_ | refine T_bfree' rfl ?_
      try simp only [RN, reduceIte]
      try refine T_e rfl ?_
      refine T_rseq fun Kr hKr => ?_
      simp (disch := omega) only [RA, ↓reduceIte, Nat.reduceEqDiff, RD, g11, g13]
      refine hKr _ _ ?_
      clear hKr Kr
      try simp only [RN, reduceIte]
      try refine T_e rfl ?_
      refine T_rseq fun Kr hKr => ?_
      simp (disch := omega) only [RA, ↓reduceIte, Nat.reduceEqDiff, RD, g5, hnl]
      refine hKr _ _ ?_
      clear hKr Kr
      try simp only [RN, reduceIte]
      try refine T_e rfl ?_
      refine T_reg_k fun Kr hKr => ?_
      simp (disch := omega) only [RA, ↓reduceIte, Nat.reduceEqDiff, RD, g13]
      refine hKr _ _ ?_
      clear hKr Kr
      refine hN (l.length - (k + 1)) _ _ _ _ (by omega) Gh.refl ⟨k + 1, by omega, rfl, ?_, ?_, ?_, ?_, ?_, rfl⟩
      any_goals (simp (disch := omega) only [RA, ↓reduceIte, Nat.reduceEqDiff, RD, RE, *] <;> rfl)
    · refine hX _ _ ?_
      obtain rfl : k = l.length := by omega
      refine T_rseq fun Kr hKr => ?_
      simp (disch := omega) only [RA, ↓reduceIte, Nat.reduceEqDiff, RD, g4, g5, hnl]
      refine hKr _ _ ?_
      clear hKr Kr
      try simp only [RN, reduceIte]
      try refine T_e rfl ?_
      refine bodyQ_ret (by simp (disch := omega) only [RA, ↓reduceIte, Nat.reduceEqDiff, RD, resAll, resOf, g4, hnl]; rfl) GhV.refl ?_
      simp only [tup]
      exact ⟨NN_agg NNL_F8, hK⟩
theorem rnK_by {p nm : List Nat} (hl : ∀ i, nl nm i < 256) : ∀ {k : Nat}, By 16 (rnK p nm k)
  | 0 => By.rep
  | k + 1 => (rnK_by hl).set (hl _)
theorem rename_spec {x0 : Bool} {n : Nat} {b w nm : List Nat} {H : BH} {K : Value → BH → Prop} (hb : By 16 b) (hw : By 16 w) (hd : Des n b w) (hm : By 16 nm) (hm16 : ∀ i, nl nm i < 16)
    (hK : K (DV n (rnK b nm n) (rnK w nm n)) H) : CallX x0 F_impl_rename [DV n b w, PL nm] H K := by
  have hlb := hb.len
  have hlw := hw.len
  have hlm := hm.len
  have hz := z16_len
  have hn := hd.1.1
  have hb16 := fun i => hd.1.lt16 hlb i
  have hw16 := fun i => hd.2.1.lt16 hlw i
  refine callP (by exact .cons nn_D (.cons (NN_agg NNL_F8) .nil)) ?_
  refine CallX_body Γ_impl_rename ?_
  simp only [A_impl_rename, T_aiff]
  refine T_rseq fun Kr hKr => ?_
  simp (disch := omega) only [RA, ↓reduceIte, Nat.reduceEqDiff, RD, RDS]
  refine hKr _ _ ?_
  clear hKr Kr
  try simp only [RN, reduceIte]
  try refine T_e rfl ?_
  refine T_rseq fun Kr hKr => ?_
  simp (disch := omega) only [RA, ↓reduceIte, Nat.reduceEqDiff, RD, RDS, RDD]
  refine hKr _ _ ?_
  clear hKr Kr
  try simp only [RN, reduceIte]
  try refine T_e rfl ?_
  refine T_rseq fun Kr hKr => ?_
  simp (disch := omega) only [RA, ↓reduceIte, Nat.reduceEqDiff, RD, RDS]
  refine hKr _ _ ?_
  clear hKr Kr
  try simp only [RN, reduceIte]
  try refine T_e rfl ?_
  refine T_wloop (fun m f H' => ∃ k, k ≤ n ∧ m = n - k ∧ f 2 = P 0 0 ∧ f 3 = P 1 0 ∧ f 4 = P 2 0 ∧ f 5 = P 3 0 ∧ f 11 = I n ∧ f 12 = I k ∧ H' = [some (DC n b w), some (nm.map N8), some (DC 0 z16 z16), some (DC n (rnK b nm k) (rnK w nm k))]) (n) ?_ ?_
  · refine ⟨_, _, Gh.refl, 0, by omega, by omega, ?_, ?_, ?_, ?_, ?_, ?_, rfl⟩
    any_goals (simp (disch := omega) only [RA, ↓reduceIte, Nat.reduceEqDiff, RD, RE, *] <;> rfl)
  · rintro m f H' R ⟨k, hk, rfl, g2, g3, g4, g5, g11, g12, rfl⟩ hN hX hR hE
    simp only [A_impl_rename.l0, T_aiff]
    have hl1 := @rnK_len b nm k
    have hl2 := @rnK_len w nm k
    refine T_rseq fun Kr hKr => ?_
    simp (disch := omega) only [RA, ↓reduceIte, Nat.reduceEqDiff, RD, g11, g12]
    refine hKr _ _ ?_
    clear hKr Kr
    try simp only [RN, reduceIte]
    try refine T_e rfl ?_
    refine T_csplit (p := k < n) (by simp only [RA, ↓reduceIte, Nat.reduceEqDiff] <;> rfl) (by (try simp only [RB]) <;> first | done | exact Iff.rfl | omega | simp) (fun hc => ?_) (fun hc => ?_) <;> (try simp only [RN, reduceIte]) <;> (try refine T_e rfl ?_)
    · have h1 := hb16 k
      have h2 := hw16 k
      have h3 := hm16 k
      have hl3 : ((rnK b nm k).set (nl nm k) (nl nm (nl b k))).length = 16 := by rw [List.length_set]; exact hl1
      first | refine T_bfree rfl ?_ | refine T_bfree' rfl ?_
      try simp only [RN, reduceIte]
      try refine T_e rfl ?_
      refine T_rseq fun Kr hKr => ?_
      simp (disch := omega) only [RA, ↓reduceIte, Nat.reduceEqDiff, RD, g12]
      refine hKr _ _ ?_
      clear hKr Kr
      try simp only [RN, reduceIte]
      try refine T_e rfl ?_
      refine T_rseq fun Kr hKr => ?_
      simp (disch := omega) only [RA, ↓reduceIte, Nat.reduceEqDiff, RD, g2, g3, g5, RDS, RDD]
      refine hKr _ _ ?_
      clear hKr Kr
      try simp only [RN, reduceIte]
      try refine T_e rfl ?_
      refine T_rseq fun Kr hKr => ?_
      simp (disch := omega) only [RA, ↓reduceIte, Nat.reduceEqDiff, RD, g2, g3, g5, RDS, RDD]
      refine hKr _ _ ?_
      clear hKr Kr
      try simp only [RN, reduceIte]
      try refine T_e rfl ?_
      refine T_reg_k fun Kr hKr => ?_
      simp (disch := omega) only [RA, ↓reduceIte, Nat.reduceEqDiff, RD, g12]
      refine hKr _ _ ?_
      clear hKr Kr
      refine hN (n - (k + 1)) _ _ _ _ (by omega) Gh.refl ⟨k + 1, by omega, rfl, ?_, ?_, ?_, ?_, ?_, ?_, rfl⟩
      any_goals (simp (disch := omega) only [RA, ↓reduceIte, Nat.reduceEqDiff, RD, RE, *] <;> rfl)
    · refine hX _ _ ?_
      obtain rfl : k = n := by omega
      refine T_rseq fun Kr hKr => ?_
      simp (disch := omega) only [RA, ↓reduceIte, Nat.reduceEqDiff, RD, g4, g5, RDS, RDD]
      refine hKr _ _ ?_
      clear hKr Kr
      try simp only [RN, reduceIte]
      try refine T_e rfl ?_
      refine bodyQ_ret (by simp (disch := omega) only [RA, ↓reduceIte, Nat.reduceEqDiff, RD, resAll, resOf, g4, RDS, RDD]; rfl) GhV.refl ?_
      simp only [tup]
      exact ⟨nn_D, hK⟩
def slO (c : Option (List Value)) (len e b o : Nat) (lo hi : Option Value) : Option Value :=
  match c with
  | some cs => if o + len * e ≤ cs.length then (cutC len lo hi).map fun (l, h) => S b (o + l * e) (h - l) e else none
  | none => none
theorem sliceArrW_p {len e b o : Nat} {H : BH} {lo hi : Option Value} : sliceArrW len e H (P b o) lo hi = slO (blk H b) len e b o lo hi := rfl
theorem slO_no {cs : List Value} {len e b o : Nat} (h : o + len * e ≤ cs.length) : slO (some cs) len e b o none none = some (S b o len e) := by
  simp [slO, h, cutC_no]
theorem comparePlaces_spec {x0 : Bool} {p q : List Nat} {H : BH} {K : Value → BH → Prop} (hp : By 16 p) (hq : By 16 q) (hK : K (I (cmpB p q)) H) : CallX x0 F_impl_comparePlaces [PL p, PL q] H K := by
  have hlp := hp.len
  have hlq := hq.len
  have h1 : (p.map N8).length = 16 := by simpa using hlp
  have h2 : (q.map N8).length = 16 := by simpa using hlq
  refine callP (by exact .cons (NN_agg NNL_F8) (.cons (NN_agg NNL_F8) .nil)) ?_
  refine CallX_body Γ_impl_comparePlaces ?_
  simp only [A_impl_comparePlaces, T_aiff]
  refine T_rseq fun Kr hKr => ?_
  simp (disch := omega) only [RA, ↓reduceIte, Nat.reduceEqDiff, RD]
  refine hKr _ _ ?_
  clear hKr Kr
  try simp only [RN, reduceIte]
  try refine T_e rfl ?_
  refine T_rseq fun Kr hKr => ?_
  simp (disch := omega) only [RA, ↓reduceIte, Nat.reduceEqDiff, RD, sliceArrW_p, slO_no]
  refine cast (congrArg (fun n : Nat × Nat => CallX true F_bytes_Compare [S 0 0 n.1 1, S 1 0 n.2 1] [some (p.map N8), some (q.map N8)] _) (Prod.ext hlp hlq : (p.length, q.length) = (16, 16))) ?_
  refine Compare_own rfl rfl (by omega) (by omega) ?_
  simp (disch := omega) only [RA, ↓reduceIte, Nat.reduceEqDiff, RD]
  refine hKr _ _ ?_
  clear hKr Kr
  try simp only [blkQ, thenQ, loopQ]
  try simp only [RN, reduceIte]
  try refine T_e rfl ?_
  refine bodyQ_ret (by simp (disch := omega) only [RA, ↓reduceIte, Nat.reduceEqDiff, RD, resAll, resOf]; rfl) GhV.refl ?_
  simp only [tup]
  exact ⟨.int, hK⟩
def cmpD (x y : L2) : Int := if cmpB x.1 y.1 = 0 then cmpB x.2 y.2 else cmpB x.1 y.1
theorem cmpD_lt {x y : L2} (h1 : By 16 x.1) (h2 : By 16 x.2) (h3 : By 16 y.1) (h4 : By 16 y.2) : cmpD x y < 0 ↔ lt2 x y := by
  have a := cmpB_lt (by rw [h1.len, h3.len]) h1.mem h3.mem
  have b := cmpB_lt (by rw [h2.len, h4.len]) h2.mem h4.mem
  unfold cmpD lt2
  by_cases e : x.1 = y.1
  · rw [if_pos (a.2.2 e), b.1]
    constructor
    · intro h; exact .inr ⟨e, h⟩
    · rintro (h | h)
      · rw [e] at h; exact absurd h (List.lt_irrefl _)
      · exact h.2
  · rw [if_neg (fun h => e (a.2.1 h)), a.1]
    constructor
    · intro h; exact .inl h
    · rintro (h | h)
      · exact h
      · exact absurd h.1 e
theorem compareDessins_spec {x0 : Bool} {n m : Int} {b w b' w' : List Nat} {H : BH} {K : Value → BH → Prop} (hb : By 16 b) (hw : By 16 w) (hb' : By 16 b') (hw' : By 16 w')
    (hK : K (I (cmpD (b, w) (b', w'))) H) : CallX x0 F_impl_compareDessins [DV n b w, DV m b' w'] H K := by
  have hlb := hb.len
  have hlw := hw.len
  have hlb' := hb'.len
  have hlw' := hw'.len
  refine callP (by exact .cons nn_D (.cons nn_D .nil)) ?_
  refine CallX_body Γ_impl_compareDessins ?_
  simp only [A_impl_compareDessins, T_aiff]
  refine T_rseq fun Kr hKr => ?_
  simp (disch := omega) only [RA, ↓reduceIte, Nat.reduceEqDiff, RD, RDS]
  refine hKr _ _ ?_
  clear hKr Kr
  try simp only [RN, reduceIte]
  try refine T_e rfl ?_
  refine T_rseq fun Kr hKr => ?_
  simp (disch := omega) only [RA, ↓reduceIte, Nat.reduceEqDiff, RD, RDS, RDD]
  refine comparePlaces_spec hb hb' ?_
  simp (disch := omega) only [RA, ↓reduceIte, Nat.reduceEqDiff, RD]
  refine hKr _ _ ?_
  clear hKr Kr
  try simp only [blkQ, thenQ, loopQ]
  try simp only [RN, reduceIte]
  try refine T_e rfl ?_
  refine T_rseq fun Kr hKr => ?_
  simp (disch := omega) only [RA, ↓reduceIte, Nat.reduceEqDiff, RD]
  refine hKr _ _ ?_
  clear hKr Kr
  try simp only [RN, reduceIte]
  try refine T_e rfl ?_
  refine T_csplit (p := ¬ cmpB b b' = 0) (by simp only [RA, ↓reduceIte, Nat.reduceEqDiff] <;> rfl) (by (try simp only [RB]) <;> first | done | exact Iff.rfl | omega | simp) (fun hc => ?_) (fun hc => ?_) <;> (try simp only [RN, reduceIte]) <;> (try refine T_e rfl ?_)
  · refine T_rseq fun Kr hKr => ?_
    simp (disch := omega) only [RA, ↓reduceIte, Nat.reduceEqDiff, RD]
    refine hKr _ _ ?_
    clear hKr Kr
    try simp only [RN, reduceIte]
    try refine T_e rfl ?_
    refine bodyQ_ret (by simp (disch := omega) only [RA, ↓reduceIte, Nat.reduceEqDiff, RD, resAll, resOf]; rfl) GhV.refl ?_
    simp only [tup]
    rw [cmpD, if_neg hc] at hK
    exact ⟨.int, hK⟩
  · rw [cmpD, if_pos (Decidable.not_not.1 hc)] at hK
    refine T_rseq fun Kr hKr => ?_
    simp (disch := omega) only [RA, ↓reduceIte, Nat.reduceEqDiff, RD, RDS, RDD]
    refine comparePlaces_spec hw hw' ?_
    simp (disch := omega) only [RA, ↓reduceIte, Nat.reduceEqDiff, RD]
    refine hKr _ _ ?_
    clear hKr Kr
    try simp only [blkQ, thenQ, loopQ]
    try simp only [RN, reduceIte]
    try refine T_e rfl ?_
    refine bodyQ_ret (by simp (disch := omega) only [RA, ↓reduceIte, Nat.reduceEqDiff, RD, resAll, resOf]; rfl) GhV.refl ?_
    simp only [tup]
    exact ⟨.int, hK⟩
theorem nam_by {b w : List Nat} {n x : Nat} (hd : Des n b w) (hx : x < n) : By 16 (nam b w x) := nmK_by (by rw [ord_len hd hx]; have := hd.1.1; omega)
theorem nam_16 {b w : List Nat} {n x : Nat} (hd : Des n b w) (hx : x < n) (i : Nat) : nl (nam b w x) i < 16 := by
  rcases Nat.lt_or_ge i n with h | h
  · have := (ord_nam hd hx h).2
    have := hd.1.1
    omega
  · have hl := ord_len hd hx
    have : ∀ k, k ≤ (ord b w x).length → nl (nmK (ord b w x) k) i = 0 := by
      intro k
      induction k with
      | zero => intro _; simp only [nmK, nl_rep]; split <;> rfl
      | succ k ih =>
        intro hk
        rw [nmK, nl_set, if_neg (fun e => by have := ord_lt hd hx (j := k) (by omega); omega), ih (by omega)]
    rw [nam, this _ (Nat.le_refl _)]
    omega
theorem ren2_by {b w : List Nat} {n x : Nat} (hd : Des n b w) (hx : x < n) : By 16 (ren2 b w n x).1 ∧ By 16 (ren2 b w n x).2 := by
  have h := fun i => Nat.lt_trans (nam_16 hd hx i) (show 16 < 256 by omega)
  exact ⟨rnK_by h, rnK_by h⟩
theorem canK_by {b w : List Nat} {n k : Nat} (hd : Des n b w) (hk : k < n) : By 16 (canK b w n k).1 ∧ By 16 (canK b w n k).2 := by
  obtain ⟨x, hx, e⟩ := @canK_mem b w n k
  rw [e]
  exact ren2_by hd (by omega)
theorem canonical_spec {x0 : Bool} {n : Nat} {b w : List Nat} {H : BH} {K : Value → BH → Prop} (hb : By 16 b) (hw : By 16 w) (hd : Des n b w)
    (hK : K (DV n (canD b w n).1 (canD b w n).2) H) : CallX x0 F_impl_canonical [DV n b w] H K := by
  have hlb := hb.len
  have hlw := hw.len
  have hz := z16_len
  have hn := hd.1.1
  refine callP (by exact .cons nn_D .nil) ?_
  refine CallX_body Γ_impl_canonical ?_
  simp only [A_impl_canonical, T_aiff]
  refine T_rseq fun Kr hKr => ?_
  simp (disch := omega) only [RA, ↓reduceIte, Nat.reduceEqDiff, RD, RDS]
  refine hKr _ _ ?_
  clear hKr Kr
  try simp only [RN, reduceIte]
  try refine T_e rfl ?_
  refine T_rseq fun Kr hKr => ?_
  simp (disch := omega) only [RA, ↓reduceIte, Nat.reduceEqDiff, Nat.reduceAdd, Nat.reduceMul, Int.reduceToNat, Nat.reduceLT, reduceCtorEq, RD, RDS, RDD]
  have hq0 := ren2_by (x := 0) hd (by omega)
  have l1 := hq0.1.len
  have l2 := hq0.2.len
  simp only [ren2] at l1 l2
  refine naming_spec (x := 0) hb hw hd (by omega) ?_
  simp (disch := omega) only [RA, ↓reduceIte, Nat.reduceEqDiff, Nat.reduceAdd, Nat.reduceMul, Int.reduceToNat, Nat.reduceLT, reduceCtorEq, RD, RDS, RDD]
  refine rename_spec hb hw hd (nam_by hd (by omega)) (nam_16 hd (by omega)) ?_
  simp (disch := omega) only [RA, ↓reduceIte, Nat.reduceEqDiff, Nat.reduceAdd, Nat.reduceMul, Int.reduceToNat, Nat.reduceLT, reduceCtorEq, RD, RDS, RDD]
  refine hKr _ _ ?_
  clear hKr Kr
  try simp only [blkQ, thenQ, loopQ]
  try simp only [RN, reduceIte]
  try refine T_e rfl ?_
  refine T_rseq fun Kr hKr => ?_
  simp (disch := omega) only [RA, ↓reduceIte, Nat.reduceEqDiff, RD]
  refine hKr _ _ ?_
  clear hKr Kr
  try simp only [RN, reduceIte]
  try refine T_e rfl ?_
  clear l1 l2
  refine T_wloop (fun m f H' => ∃ k r, k + 1 ≤ n ∧ m = n - (k + 1) ∧ r = canK b w n k ∧ f 1 = P 0 0 ∧ f 2 = P 1 0 ∧ f 3 = P 2 0 ∧ f 4 = I ((k + 1 : Nat) : Int) ∧ H' = [some (DC n b w), some (DC 0 z16 z16), some (DC n r.1 r.2)]) (n - 1) ?_ ?_
  · refine ⟨_, _, Gh.refl, 0, ren2 b w n 0, by omega, by omega, rfl, ?_, ?_, ?_, ?_, rfl⟩
    any_goals (simp (disch := omega) only [RA, ↓reduceIte, Nat.reduceEqDiff, RD, RE, *] <;> rfl)
  · rintro m f H' R ⟨k, r, hk, rfl, hr, g1, g2, g3, g4, rfl⟩ hN hX hR hE
    simp only [A_impl_canonical.l0, T_aiff]
    have hrb := canK_by (k := k) hd (by omega)
    rw [← hr] at hrb
    have l1 := hrb.1.len
    have l2 := hrb.2.len
    refine T_rseq fun Kr hKr => ?_
    simp (disch := omega) only [RA, ↓reduceIte, Nat.reduceEqDiff, RD, g1, g4, RDS]
    refine hKr _ _ ?_
    clear hKr Kr
    try simp only [RN, reduceIte]
    try refine T_e rfl ?_
    refine T_csplit (p := k + 1 < n) (by simp only [RA, ↓reduceIte, Nat.reduceEqDiff] <;> rfl) (by (try simp only [RB]) <;> first | done | exact Iff.rfl | omega | simp) (fun hc => ?_) (fun hc => ?_) <;> (try simp only [RN, reduceIte]) <;> (try refine T_e rfl ?_)
    · have hq := ren2_by hd hc
      have l3 := hq.1.len
      have l4 := hq.2.len
      simp only [ren2] at l3 l4
      have e1 : ((k + 1 : Nat) : Int) + 1 = ((k + 1 + 1 : Nat) : Int) := by omega
      first | refine T_bfree rfl ?_ | refine T_bfree' rfl ?_
      try simp only [RN, reduceIte]
      try refine T_e rfl ?_
      refine T_rseq fun Kr hKr => ?_
      simp (disch := omega) only [RA, ↓reduceIte, Nat.reduceEqDiff, Nat.reduceAdd, Nat.reduceMul, Int.reduceToNat, Nat.reduceLT, reduceCtorEq, RD, g1, g4, RDS, RDD]
      refine naming_spec hb hw hd hc ?_
      simp (disch := omega) only [RA, ↓reduceIte, Nat.reduceEqDiff, Nat.reduceAdd, Nat.reduceMul, Int.reduceToNat, Nat.reduceLT, reduceCtorEq, RD, g1, g4, RDS, RDD]
      refine rename_spec hb hw hd (nam_by hd hc) (nam_16 hd hc) ?_
      simp (disch := omega) only [RA, ↓reduceIte, Nat.reduceEqDiff, Nat.reduceAdd, Nat.reduceMul, Int.reduceToNat, Nat.reduceLT, reduceCtorEq, RD, g1, g4, RDS, RDD]
      refine hKr _ _ ?_
      clear hKr Kr
      try simp only [blkQ, thenQ, loopQ]
      try simp only [RN, reduceIte]
      try refine T_e rfl ?_
      refine T_rseq fun Kr hKr => ?_
      simp (disch := omega) only [RA, ↓reduceIte, Nat.reduceEqDiff, RD, g3, RDS, RDD]
      refine compareDessins_spec hq.1 hq.2 hrb.1 hrb.2 ?_
      simp (disch := omega) only [RA, ↓reduceIte, Nat.reduceEqDiff, RD]
      refine hKr _ _ ?_
      clear hKr Kr
      try simp only [blkQ, thenQ, loopQ]
      try simp only [RN, reduceIte]
      try refine T_e rfl ?_
      have hlt := cmpD_lt (x := ren2 b w n (k + 1)) (y := r) hq.1 hq.2 hrb.1 hrb.2
      have hlt' : cmpD (rnK b (nam b w (k + 1)) n, rnK w (nam b w (k + 1)) n) (r.1, r.2) < 0 ↔ lt2 (ren2 b w n (k + 1)) r := hlt
      refine T_csplit (p := cmpD (rnK b (nam b w (k + 1)) n, rnK w (nam b w (k + 1)) n) (r.1, r.2) < 0) (by simp only [RA, ↓reduceIte, Nat.reduceEqDiff] <;> rfl) (by (try simp only [RB]) <;> first | done | exact Iff.rfl | omega | simp) (fun hc => ?_) (fun hc => ?_) <;> (try simp only [RN, reduceIte]) <;> (try refine T_e rfl ?_)
      · refine T_rseq fun Kr hKr => ?_
        simp (disch := omega) only [RA, ↓reduceIte, Nat.reduceEqDiff, RD, g3, RDS, RDD]
        refine hKr _ _ ?_
        clear hKr Kr
        try simp only [RN, reduceIte]
        try refine T_e rfl ?_
        refine T_reg_k fun Kr hKr => ?_
        simp (disch := omega) only [RA, ↓reduceIte, Nat.reduceEqDiff, RD, g4, e1]
        refine hKr _ _ ?_
        clear hKr Kr
        refine hN (n - (k + 1 + 1)) _ _ _ _ (by omega) (Gh.nrm [0, 1, 2] rfl rfl (by simp only [RH, NN_D])) ⟨k + 1, ren2 b w n (k + 1), by omega, rfl, ?_, ?_, ?_, ?_, ?_, rfl⟩
        any_goals (simp (disch := omega) only [RA, ↓reduceIte, Nat.reduceEqDiff, RD, RE, *] <;> rfl)
        rw [canK, ← hr, if_pos (hlt'.1 hc)]
      · try simp only [RN, reduceIte]
        try refine T_e rfl ?_
        refine T_reg_k fun Kr hKr => ?_
        simp (disch := omega) only [RA, ↓reduceIte, Nat.reduceEqDiff, RD, g4, e1]
        refine hKr _ _ ?_
        clear hKr Kr
        refine hN (n - (k + 1 + 1)) _ _ _ _ (by omega) (Gh.nrm [0, 1, 2] rfl rfl (by simp only [RH, NN_D])) ⟨k + 1, r, by omega, rfl, ?_, ?_, ?_, ?_, ?_, rfl⟩
        any_goals (simp (disch := omega) only [RA, ↓reduceIte, Nat.reduceEqDiff, RD, RE, *] <;> rfl)
        rw [canK, ← hr, if_neg (fun h => hc (hlt'.2 h))]
    · refine hX _ _ ?_
      obtain rfl : k = n - 1 := by omega
      rw [canD, ← hr] at hK
      refine T_rseq fun Kr hKr => ?_
      simp (disch := omega) only [RA, ↓reduceIte, Nat.reduceEqDiff, RD, g2, g3, RDS, RDD]
      refine hKr _ _ ?_
      clear hKr Kr
      try simp only [RN, reduceIte]
      try refine T_e rfl ?_
      refine bodyQ_ret (by simp (disch := omega) only [RA, ↓reduceIte, Nat.reduceEqDiff, RD, resAll, resOf, g2, RDS, RDD]; rfl) GhV.refl ?_
      simp only [tup]
      exact ⟨nn_D, hK⟩
end Go.Bm

/- Lists of bytes compared. -/
set_option linter.unusedVariables false
set_option linter.unusedSimpArgs false
namespace Go.Bm
open Go Go.Am

theorem eqCells_N : ∀ {p q : List Nat}, p.length = q.length → eqCells (p.map N8) (q.map N8) = some (decide (p = q))
  | [], [], _ => rfl
  | [], _ :: _, h => by simp at h
  | _ :: _, [], h => by simp at h
  | a :: p, b :: q, h => by
    have ih := eqCells_N (p := p) (q := q) (by simpa using h)
    simp only [List.map_cons, eqCells, eqCell, if_true, ih, Option.map_some, Option.some.injEq]
    by_cases e : a = b
    · subst e; simp
    · have : ¬ ((a : Int) = (b : Int)) := by omega
      simp [e, this]
theorem eqaV_PL {neg : Bool} {m : Nat} {p q : List Nat} (hp : p.length = m) (hq : q.length = m) : eqaV neg m (PL p) (PL q) = some (.bool (if neg then !decide (p = q) else decide (p = q))) := by
  have : aEqa m (PL p) (PL q) = some (decide (p = q)) := by
    simp only [aEqa]
    rw [if_pos (by simpa using hp)]
    exact eqCells_N (by omega)
  simp only [eqaV, this, Option.map_some]
end Go.Bm

/- Sorting: parts of a list that are changed; insertion, reversing. -/
set_option linter.unusedVariables false
set_option linter.unusedSimpArgs false
namespace Go.Bm
open Go Go.Am

theorem el_setD {p : List Int} {i j : Nat} {x : Int} : el (p.set i x) j = if j = i ∧ i < p.length then x else el p j := by
  unfold el
  simp only [List.getD]
  by_cases h : i = j
  · subst h
    by_cases hi : i < p.length
    · simp [hi]
    · simp [List.getElem?_eq_none (by omega : p.length ≤ i), hi]
  · rw [List.getElem?_set_ne h, if_neg (fun e => h e.1.symm)]
/-- Two numbers change places. -/
def swp (p : List Int) (i j : Nat) : List Int := (p.set i (el p j)).set j (el p i)
theorem swp_len {p : List Int} {i j : Nat} : (swp p i j).length = p.length := by simp [swp]
theorem swp_el {p : List Int} {i j k : Nat} (hi : i < p.length) (hj : j < p.length) : el (swp p i j) k = if k = j then el p i else if k = i then el p j else el p k := by
  unfold swp
  rw [el_setD, el_setD]
  by_cases h : k = j
  · rw [if_pos ⟨h, by simpa using hj⟩, if_pos h]
  · rw [if_neg (fun e => h e.1), if_neg h]
    by_cases h2 : k = i
    · rw [if_pos ⟨h2, hi⟩, if_pos h2]
    · rw [if_neg (fun e => h2 e.1), if_neg h2]
theorem swp_perm {p : List Int} {i j : Nat} (hi : i < p.length) (hj : j < p.length) : (swp p i j).Perm p := by
  rw [List.perm_iff_count]
  intro a
  unfold swp
  rw [List.count_set (by simpa using hj), List.count_set hi]
  have e1 : p[i] = el p i := by simp [el, List.getD, hi]
  have e2 : p[j] = el p j := by simp [el, List.getD, hj]
  have e3 : (p.set i (el p j))[j]'(by simpa using hj) = el p j := by
    rw [List.getElem_set]
    split
    · rfl
    · exact e2
  rw [e3, e1]
  have c1 : (el p i == a) = true → 0 < p.count a := fun h => by
    rw [List.count_pos_iff, ← beq_iff_eq.1 h, ← e1]; exact List.getElem_mem hi
  by_cases h1 : (el p i == a) = true <;> by_cases h2 : (el p j == a) = true <;> simp only [h1, h2, if_true, if_false, Bool.false_eq_true] <;> first | omega | (have := c1 h1; omega)

/-- Of a list only the part from a to b has been put into another order. -/
structure Sg (a b : Nat) (p q : List Int) : Prop where
  len : q.length = p.length
  out : ∀ i, i < a ∨ b ≤ i → el q i = el p i
  src : ∀ i, a ≤ i → i < b → ∃ j, a ≤ j ∧ j < b ∧ el q i = el p j
  perm : q.Perm p
theorem Sg.refl {a b : Nat} {p : List Int} : Sg a b p p := ⟨rfl, fun _ _ => rfl, fun i h1 h2 => ⟨i, h1, h2, rfl⟩, .refl _⟩
theorem Sg.trans {a b : Nat} {p q r : List Int} (h : Sg a b p q) (k : Sg a b q r) : Sg a b p r := ⟨k.len.trans h.len, fun i hi => (k.out i hi).trans (h.out i hi), fun i h1 h2 => by
  obtain ⟨j, j1, j2, j3⟩ := k.src i h1 h2
  obtain ⟨l, l1, l2, l3⟩ := h.src j j1 j2
  exact ⟨l, l1, l2, j3.trans l3⟩, k.perm.trans h.perm⟩
theorem Sg.mono {a b a' b' : Nat} {p q : List Int} (h : Sg a b p q) (ha : a' ≤ a) (hb : b ≤ b') : Sg a' b' p q := ⟨h.len, fun i hi => h.out i (by omega), fun i h1 h2 => by
  by_cases hi : a ≤ i ∧ i < b
  · obtain ⟨j, j1, j2, j3⟩ := h.src i hi.1 hi.2
    exact ⟨j, by omega, by omega, j3⟩
  · exact ⟨i, h1, h2, h.out i (by omega)⟩, h.perm⟩
theorem Sg.swp {a b i j : Nat} {p : List Int} (h1 : a ≤ i) (h2 : i < b) (h3 : a ≤ j) (h4 : j < b) (hb : b ≤ p.length) : Sg a b p (swp p i j) := ⟨swp_len, fun k hk => by
  rw [swp_el (by omega) (by omega), if_neg (by omega), if_neg (by omega)], fun k k1 k2 => by
  rw [swp_el (by omega) (by omega)]
  split
  · exact ⟨i, h1, h2, rfl⟩
  · split
    · exact ⟨j, h3, h4, rfl⟩
    · exact ⟨k, k1, k2, rfl⟩, swp_perm (by omega) (by omega)⟩
/-- In order from a to b. -/
def Srt (a b : Nat) (p : List Int) : Prop := ∀ i j, a ≤ i → i ≤ j → j < b → el p i ≤ el p j

theorem Srt.one {a : Nat} {p : List Int} : Srt a (a + 1) p := fun i j h1 h2 h3 => by
  obtain rfl : i = j := by omega
  exact Int.le_refl _
theorem isNaN_spec {x : Bool} {a : Int} {H : BH} {K : Value → BH → Prop} (hK : K (.bool false) H) : CallX x F_cmp_isNaN_int64 [I a] H K := by
  refine callP (by simp only [RH]) ?_
  refine CallX_body Γ_cmp_isNaN_int64 ?_
  simp only [A_cmp_isNaN_int64, T_aiff]
  refine T_rseq fun Kr hKr => ?_
  simp (disch := omega) only [RA, ↓reduceIte, Nat.reduceEqDiff, RD]
  refine hKr _ _ ?_
  clear hKr Kr
  try simp only [RN, reduceIte]
  try refine T_e rfl ?_
  refine T_rseq fun Kr hKr => ?_
  simp (disch := omega) only [RA, ↓reduceIte, Nat.reduceEqDiff, RD]
  refine hKr _ _ ?_
  clear hKr Kr
  try simp only [RN, reduceIte]
  try refine T_e rfl ?_
  refine bodyQ_ret (by simp (disch := omega) only [RA, ↓reduceIte, Nat.reduceEqDiff, RD, resAll, resOf]; rfl) GhV.refl ?_
  simp only [tup]
  exact ⟨NN.bool, by simpa using hK⟩
theorem Less_spec {x : Bool} {a b : Int} {H : BH} {K : Value → BH → Prop} (hK : K (.bool (decide (a < b))) H) : CallX x F_cmp_Less_int64 [I a, I b] H K := by
  refine callP (by simp only [RH]) ?_
  refine CallX_body Γ_cmp_Less_int64 ?_
  simp only [A_cmp_Less_int64, T_aiff]
  refine T_rseq fun Kr hKr => ?_
  simp (disch := omega) only [RA, ↓reduceIte, Nat.reduceEqDiff, RD]
  refine hKr _ _ ?_
  clear hKr Kr
  try simp only [RN, reduceIte]
  try refine T_e rfl ?_
  refine T_rseq fun Kr hKr => ?_
  simp (disch := omega) only [RA, ↓reduceIte, Nat.reduceEqDiff, RD]
  refine isNaN_spec ?_
  simp (disch := omega) only [RA, ↓reduceIte, Nat.reduceEqDiff, RD]
  refine hKr _ _ ?_
  clear hKr Kr
  try simp only [blkQ, thenQ, loopQ]
  try simp only [RN, reduceIte]
  try refine T_e rfl ?_
  refine bodyQ_ret (by simp (disch := omega) only [RA, ↓reduceIte, Nat.reduceEqDiff, RD, resAll, resOf]; rfl) GhV.refl ?_
  simp only [tup]
  exact ⟨NN.bool, hK⟩
theorem T_tail {k : Nat} {a : ACode} {Q : Ex → Fr → BH → Prop} {f : Fr} {H : BH} (h : T k (.seq a .skip) Q f H) : T k a Q f H := by
  intro ρ Z fA HA hk h1 h2
  obtain ⟨ex, fA', HA', h3, h4⟩ := h ρ Z fA HA hk h1 h2
  refine ⟨ex, fA', HA', ?_, h4⟩
  cases h3 with
  | seqN ha hb => cases hb; exact ha
  | seqX ha _ => exact ha
/-- Insertion. -/
theorem insertionSort_spec {p : List Int} {a b : Nat} {K : Value → BH → Prop} (hp : p.length ≤ 1000) (hb : b ≤ p.length) (ha : a ≤ b) (hK : ∀ q, Sg a b p q → Srt a b q → K (.tuple ⟨[]⟩) [some (q.map I)]) :
    CallX false F_slices_insertionSortOrdered_int64 [S 0 0 p.length 1, I a, I b] [some (p.map I)] K := by
  refine CallX_body Γ_slices_insertionSortOrdered_int64 ?_
  simp only [A_slices_insertionSortOrdered_int64, T_aiff]
  refine T_rseq fun Kr hKr => ?_
  simp (disch := omega) only [RA, ↓reduceIte, Nat.reduceEqDiff, RD]
  refine hKr _ _ ?_
  clear hKr Kr
  try simp only [RN, reduceIte]
  try refine T_e rfl ?_
  refine T_tail ?_
  refine T_wloop (fun m f H' => ∃ (i : Nat) (q : List Int), a + 1 ≤ i ∧ (i ≤ b ∨ i = a + 1) ∧ m = b - i ∧ Sg a b p q ∧ Srt a i q ∧ f 0 = S 0 0 p.length 1 ∧ f 1 = I a ∧ f 2 = I b ∧ f 6 = I i ∧ H' = [some (q.map I)]) (b - (a + 1)) ?_ ?_
  · refine ⟨_, _, Gh.refl, a + 1, p, by omega, by omega, by omega, .refl, Srt.one, ?_, ?_, ?_, ?_, rfl⟩
    any_goals (simp (disch := omega) only [RA, ↓reduceIte, Nat.reduceEqDiff, RD, RE, *] <;> rfl)
  · rintro m f H' R ⟨i, q, hi1, hi2, rfl, hq, hs, g0, g1, g2, g6, rfl⟩ hN hX hR hE
    simp only [A_slices_insertionSortOrdered_int64.l1, T_aiff]
    refine T_rseq fun Kr hKr => ?_
    simp (disch := omega) only [RA, ↓reduceIte, Nat.reduceEqDiff, RD, g2, g6]
    refine hKr _ _ ?_
    clear hKr Kr
    try simp only [RN, reduceIte]
    try refine T_e rfl ?_
    refine T_csplit (p := i < b) (by simp only [RA, ↓reduceIte, Nat.reduceEqDiff] <;> rfl) (by (try simp only [RB]) <;> first | done | exact Iff.rfl | omega | simp) (fun hc => ?_) (fun hc => ?_) <;> (try simp only [RN, reduceIte]) <;> (try refine T_e rfl ?_)
    · first | refine T_bfree rfl ?_ | refine T_bfree' rfl ?_
      try simp only [RN, reduceIte]
      try refine T_e rfl ?_
      refine T_rseq fun Kr hKr => ?_
      simp (disch := omega) only [RA, ↓reduceIte, Nat.reduceEqDiff, RD, g6]
      refine hKr _ _ ?_
      clear hKr Kr
      try simp only [RN, reduceIte]
      try refine T_e rfl ?_
      refine T_wloop (fun m f H' => ∃ (j : Nat) (r : List Int), a ≤ j ∧ j ≤ i ∧ j = m ∧ Sg a b p r ∧ (∀ x y, a ≤ x → x < y → y ≤ i → y ≠ j → el r x ≤ el r y) ∧ f 0 = S 0 0 p.length 1 ∧ f 1 = I a ∧ f 2 = I b ∧ f 6 = I i ∧ f 7 = I j ∧ H' = [some (r.map I)]) (i) ?_ ?_
      · refine ⟨_, _, Gh.refl, i, q, by omega, by omega, by omega, hq, fun x y h1 h2 h3 h4 => hs x y h1 (by omega) (by omega), ?_, ?_, ?_, ?_, ?_, rfl⟩
        any_goals (simp (disch := omega) only [RA, ↓reduceIte, Nat.reduceEqDiff, RD, RE, *] <;> rfl)
      · clear g0 g1 g2 g6
        rintro m f H' R2 ⟨j, r, hj1, hj2, rfl, hr, hall, g0, g1, g2, g6, g7, rfl⟩ hN2 hX2 hR2 hE2
        simp only [A_slices_insertionSortOrdered_int64.l0, T_aiff]
        have hrl := hr.len
        have hdone : ∀ f', f' 0 = S 0 0 p.length 1 → f' 1 = I a → f' 2 = I b → f' 6 = I i → (j = a ∨ el r (j - 1) ≤ el r j) → T 1 A_slices_insertionSortOrdered_int64.r2 R f' [some (r.map I)] := by
          intro f' g0 g1 g2 g6 hfin
          refine T_reg_k fun Kr hKr => ?_
          simp (disch := omega) only [RA, ↓reduceIte, Nat.reduceEqDiff, RD, g6]
          refine hKr _ _ ?_
          clear hKr Kr
          refine hN (b - (i + 1)) _ _ _ _ (by omega) Gh.refl ⟨i + 1, r, by omega, by omega, rfl, hr, fun x y h1 h2 h3 => ?_, ?_, ?_, ?_, ?_, rfl⟩
          any_goals (simp (disch := omega) only [RA, ↓reduceIte, Nat.reduceEqDiff, RD, RE, *] <;> rfl)
          rcases Nat.lt_or_ge x y with h | h
          · by_cases hy : y = j
            · subst hy
              rcases hfin with hfin | hfin
              · omega
              · rcases Nat.lt_or_ge x (y - 1) with h' | h'
                · exact Int.le_trans (hall x (y - 1) h1 h' (by omega) (by omega)) hfin
                · obtain rfl : x = y - 1 := by omega
                  exact hfin
            · exact hall x y h1 h (by omega) hy
          · obtain rfl : x = y := by omega
            exact Int.le_refl _
        by_cases hja : j = a
        · refine T_rseq fun Kr hKr => ?_
          simp (disch := omega) only [RA, ↓reduceIte, Nat.reduceEqDiff, RD, g1, g7, hja]
          refine hKr _ _ ?_
          clear hKr Kr
          try simp only [RN, reduceIte]
          try refine T_e rfl ?_
          refine T_cseq (t := false) (by simp (disch := omega) only [RA, ↓reduceIte, Nat.reduceEqDiff, RD]) ?_
          try simp only [RN, reduceIte]
          try refine T_e rfl ?_
          refine hX2 _ _ ?_
          refine hdone _ ?_ ?_ ?_ ?_ (.inl hja)
          any_goals (simp (disch := omega) only [RA, ↓reduceIte, Nat.reduceEqDiff, RD, RE, *] <;> rfl)
        · have hlt : a < j := by omega
          have hj1' : (j : Int) - 1 = ((j - 1 : Nat) : Int) := by omega
          refine T_rseq fun Kr hKr => ?_
          simp (disch := omega) only [RA, ↓reduceIte, Nat.reduceEqDiff, RD, g0, g1, g7, hlt, hj1', hrl]
          refine Less_spec ?_
          simp (disch := omega) only [RA, ↓reduceIte, Nat.reduceEqDiff, RD]
          refine hKr _ _ ?_
          clear hKr Kr
          try simp only [blkQ, thenQ, loopQ]
          try simp only [RN, reduceIte]
          try refine T_e rfl ?_
          refine T_csplit (p := el r j < el r (j - 1)) (by simp only [RA, ↓reduceIte, Nat.reduceEqDiff] <;> rfl) (by (try simp only [RB]) <;> first | done | exact Iff.rfl | omega | simp) (fun hc => ?_) (fun hc => ?_) <;> (try simp only [RN, reduceIte]) <;> (try refine T_e rfl ?_)
          · have hrs : (r.set j (el r (j - 1))).length = p.length := by simp [hrl]
            first | refine T_bfree rfl ?_ | refine T_bfree' rfl ?_
            try simp only [RN, reduceIte]
            try refine T_e rfl ?_
            refine T_rseq fun Kr hKr => ?_
            simp (disch := omega) only [RA, ↓reduceIte, Nat.reduceEqDiff, RD, g0, g7, hj1', hrl]
            refine hKr _ _ ?_
            clear hKr Kr
            try simp only [RN, reduceIte]
            try refine T_e rfl ?_
            refine T_reg_k fun Kr hKr => ?_
            simp (disch := omega) only [RA, ↓reduceIte, Nat.reduceEqDiff, RD, g7, hj1']
            refine hKr _ _ ?_
            clear hKr Kr
            have hsw : (r.set j (el r (j - 1))).set (j - 1) (el r j) = swp r j (j - 1) := rfl
            refine hN2 (j - 1) _ _ _ _ (by omega) Gh.refl ⟨j - 1, swp r j (j - 1), by omega, by omega, rfl, hr.trans (.swp (by omega) (by omega) (by omega) (by omega) (by omega)), fun x y h1 h2 h3 h4 => ?_, ?_, ?_, ?_, ?_, ?_, rfl⟩
            any_goals (simp (disch := omega) only [RA, ↓reduceIte, Nat.reduceEqDiff, RD, RE, *] <;> rfl)
            rw [swp_el (by omega) (by omega), swp_el (by omega) (by omega)]
            by_cases hyj : y = j
            · rw [if_neg (by omega : ¬ y = j - 1), if_pos hyj]
              by_cases hxj : x = j - 1
              · rw [if_pos hxj]; omega
              · rw [if_neg hxj, if_neg (by omega)]
                exact hall x (j - 1) h1 (by omega) (by omega) (by omega)
            · rw [if_neg h4, if_neg hyj]
              by_cases hxj : x = j - 1
              · rw [if_pos hxj]
                exact hall j y (by omega) (by omega) h3 hyj
              · rw [if_neg hxj]
                by_cases hxj2 : x = j
                · rw [if_pos hxj2]
                  exact hall (j - 1) y (by omega) (by omega) h3 hyj
                · rw [if_neg hxj2]
                  exact hall x y h1 h2 h3 hyj
          · refine hX2 _ _ ?_
            refine hdone _ ?_ ?_ ?_ ?_ (.inr (by omega))
            any_goals (simp (disch := omega) only [RA, ↓reduceIte, Nat.reduceEqDiff, RD, RE, *] <;> rfl)
    · refine hX _ _ ?_
      refine T_skip ?_
      refine bodyQ_ret (by simp (disch := omega) only [RA, ↓reduceIte, Nat.reduceEqDiff, RD, resAll, resOf]; rfl) GhV.refl ?_
      simp only [tup]
      refine hK q hq fun x y h1 h2 h3 => ?_
      rcases hi2 with h | h
      · exact hs x y h1 h2 (by omega)
      · obtain rfl : x = y := by omega
        exact Int.le_refl _
end Go.Bm

