/- What is reached from each dart, and names from a dart: the plain law. -/
import Derived.Test.YtbbgifoamnjhoaaDpCa
import Derived.Test.YtbbgifoamnjhoaaDp3
set_option linter.unusedVariables false
set_option linter.unusedSimpArgs false
namespace Go.Bm
open Go Go.Am

def none16 : List Bool := List.replicate 16 false
theorem none16_bl {x : Nat} : bl none16 x = false := bl_rep
theorem none16_len : none16.length = 16 := by simp [none16]
/-- One starts at x, nothing met but x. -/
def stA (x : Nat) : BS := (none16.set x true, [x])
/-- What stands once what the first d lead to has been met. -/
structure BfOk (ls : List (List Nat)) (n x d : Nat) (st : BS) : Prop where
  len : st.1.length = 16
  mem : ∀ y, bl st.1 y = true ↔ y ∈ st.2
  nod : st.2.Nodup
  lt : ∀ y ∈ st.2, y < n
  pre : ∃ r, st.2 = x :: r
  le : d ≤ st.2.length
  done : ∀ j, j < d → ∀ p ∈ ls, nl p (nl st.2 j) ∈ st.2
theorem BfOk.visit {ls : List (List Nat)} {n x d y : Nat} {st : BS} (hn : n ≤ 16) (h : BfOk ls n x d st) (hy : y < n) : BfOk ls n x d (Bm.visit st y) ∧ (∃ q, (Bm.visit st y).2 = st.2 ++ q) ∧ y ∈ (Bm.visit st y).2 := by
  unfold Bm.visit
  by_cases hb : bl st.1 y = true
  · rw [if_pos hb]
    exact ⟨h, ⟨[], by simp⟩, (h.mem y).1 hb⟩
  · rw [if_neg hb]
    have hny : y ∉ st.2 := fun hm => hb ((h.mem y).2 hm)
    refine ⟨⟨by simpa using h.len, fun z => ?_, ?_, fun z hz => ?_, ?_, ?_, fun j hj1 p hp => ?_⟩, ⟨[y], rfl⟩, by simp⟩
    · show bl (st.1.set y true) z = true ↔ z ∈ st.2 ++ [y]
      rw [bl_set]
      by_cases e : z = y
      · subst e
        rw [if_pos ⟨rfl, by have := h.len; omega⟩]
        simp
      · rw [if_neg (fun k => e k.1), h.mem z]
        simp [e]
    · show (st.2 ++ [y]).Nodup
      rw [List.nodup_append]
      exact ⟨h.nod, by simp, fun a ha b hb => by
        rw [List.mem_singleton] at hb
        subst hb
        exact fun e => hny (e ▸ ha)⟩
    · rcases List.mem_append.1 hz with k | k
      · exact h.lt z k
      · rw [List.mem_singleton] at k
        omega
    · obtain ⟨r, hr⟩ := h.pre
      exact ⟨r ++ [y], by show st.2 ++ [y] = _; rw [hr]; rfl⟩
    · show d ≤ (st.2 ++ [y]).length
      have := h.le
      simp
      omega
    · show nl p (nl (st.2 ++ [y]) j) ∈ st.2 ++ [y]
      rw [nl_append, if_pos (by have := h.le; omega)]
      exact List.mem_append_left _ (h.done j hj1 p hp)
theorem BfOk.round {ls : List (List Nat)} {n x d z : Nat} (hn : n ≤ 16) : ∀ {l2 : List (List Nat)} {st : BS}, BfOk ls n x d st → (∀ p ∈ l2, nl p z < n) → BfOk ls n x d (roundX l2 z st) ∧ (∃ q, (roundX l2 z st).2 = st.2 ++ q) ∧ ∀ p ∈ l2, nl p z ∈ (roundX l2 z st).2
  | [], st, h, _ => ⟨h, ⟨[], by simp [roundX]⟩, by simp⟩
  | p :: l2, st, h, hp => by
    obtain ⟨h1, ⟨q1, h2⟩, h3⟩ := h.visit hn (hp p (by simp))
    obtain ⟨h4, ⟨q2, h5⟩, h6⟩ := BfOk.round hn (l2 := l2) h1 fun q hq => hp q (by simp [hq])
    have e : roundX (p :: l2) z st = roundX l2 z (Bm.visit st (nl p z)) := rfl
    rw [e]
    refine ⟨h4, ⟨q1 ++ q2, by rw [h5, h2, List.append_assoc]⟩, fun q hq => ?_⟩
    rcases List.mem_cons.1 hq with rfl | hq
    · rw [h5]
      exact List.mem_append_left _ h3
    · exact h6 q hq
theorem BfOk.bfs {ls : List (List Nat)} {n x : Nat} {st : BS} (hn : n ≤ 16) (hl : ∀ p ∈ ls, ∀ y, y < n → nl p y < n) (h : BfOk ls n x 0 st) : ∀ i, BfOk ls n x (min i (Bm.bfs ls st i).2.length) (Bm.bfs ls st i)
  | 0 => by rw [Nat.zero_min]; exact h
  | i + 1 => by
    have ih := BfOk.bfs hn hl h i
    simp only [Bm.bfs]
    generalize Bm.bfs ls st i = s at ih ⊢
    by_cases hi : i < s.2.length
    · rw [if_pos hi]
      rw [Nat.min_eq_left (by omega)] at ih
      obtain ⟨h1, ⟨q, h2⟩, h3⟩ := ih.round hn (z := nl s.2 i) (l2 := ls) fun p hp => hl p hp _ (ih.lt _ (nl_mem hi))
      have hlen : i + 1 ≤ (roundX ls (nl s.2 i) s).2.length := by rw [h2]; simp; omega
      rw [Nat.min_eq_left hlen]
      refine ⟨h1.len, h1.mem, h1.nod, h1.lt, h1.pre, hlen, fun j hj p hp => ?_⟩
      by_cases e : j = i
      · subst e
        have : nl (roundX ls (nl s.2 j) s).2 j = nl s.2 j := by rw [h2, nl_append, if_pos hi]
        rw [this]
        exact h3 p hp
      · exact h1.done j (by omega) p hp
    · rw [if_neg hi]
      rw [Nat.min_eq_right (by omega)] at ih
      rw [Nat.min_eq_right (by omega)]
      exact ih
theorem BfOk.start {ls : List (List Nat)} {n x : Nat} (hn : n ≤ 16) (hx : x < n) : BfOk ls n x 0 (stA x) := by
  refine ⟨by simp [stA, none16_len], fun y => ?_, by simp [stA], fun y hy => ?_, ⟨[], rfl⟩, Nat.zero_le _, fun j hj => by omega⟩
  · show bl (none16.set x true) y = true ↔ y ∈ [x]
    rw [bl_set, none16_len, none16_bl]
    by_cases e : y = x
    · rw [if_pos ⟨e, by omega⟩]; simp [e]
    · rw [if_neg (fun k => e k.1)]; simp [e]
  · rw [show (stA x).2 = [x] from rfl, List.mem_singleton] at hy
    omega
theorem nodup_le {n : Nat} {l : List Nat} (h : l.Nodup) (hl : ∀ x ∈ l, x < n) : l.length ≤ n := by
  have := List.Nodup.length_le_of_subset h (l₂ := List.range n) fun x hx => List.mem_range.2 (hl x hx)
  simpa using this
theorem nodup_full {n : Nat} {l : List Nat} (h : l.Nodup) (hl : ∀ x ∈ l, x < n) (hn : n ≤ l.length) {x : Nat} (hx : x < n) : x ∈ l := by
  apply Classical.byContradiction
  intro hxl
  have := nodup_le (n := n) (l := x :: l) (List.nodup_cons.2 ⟨hxl, h⟩) (by
    intro y hy
    rcases List.mem_cons.1 hy with rfl | hy
    · exact hx
    · exact hl y hy)
  rw [List.length_cons] at this
  omega
/-- The darts in the order in which they are met from x. -/
def ord (b w : List Nat) (x : Nat) : List Nat := (bfs [b, w] (stA x) 16).2
section
variable {b w : List Nat} {n : Nat}
theorem ord_bf (hb : Perm b n) (hw : Perm w n) {x : Nat} (hx : x < n) : BfOk [b, w] n x (ord b w x).length (bfs [b, w] (stA x) 16) := by
  have hn := hb.1
  have h := (BfOk.start (ls := [b, w]) (x := x) (n := n) (by omega) hx).bfs (by omega) (by
    intro p hp y hy
    simp only [List.mem_cons, List.not_mem_nil, or_false] at hp
    rcases hp with rfl | rfl
    · exact hb.lt hy
    · exact hw.lt hy) 16
  have h16 := nodup_le h.nod h.lt
  rw [Nat.min_eq_right (by omega)] at h
  exact h
theorem ord_cl (hb : Perm b n) (hw : Perm w n) {x : Nat} (hx : x < n) : ∀ y ∈ ord b w x, nl b y ∈ ord b w x ∧ nl w y ∈ ord b w x := fun y hy => by
  have h := ord_bf hb hw hx
  obtain ⟨j, hj, rfl⟩ := mem_nl hy
  exact ⟨h.done j hj b (by simp), h.done j hj w (by simp)⟩
/-- What a permutation leads into itself is also led into itself backwards. -/
theorem closed_bwd {p : List Nat} (hp : Perm p n) {S : Nat → Prop} (hS : ∀ x, x < n → S x → S (nl p x)) {x : Nat} (hx : x < n) (h : S (nl p x)) : S x := by
  obtain ⟨c, hc, hxc⟩ := cyc_at hp hx
  have hi := cyc_is hp hc
  obtain ⟨j, hj, hje⟩ := mem_nl (hi.fwd hxc)
  have hup : ∀ d, j + d < c.length → S (nl c (j + d)) := by
    intro d
    induction d with
    | zero => intro _; rw [Nat.add_zero, hje]; exact h
    | succ d ih =>
      intro hd
      rw [← Nat.add_assoc, ← hi.step (j + d) (by omega)]
      exact hS _ (hi.lt _ (nl_mem (by omega))) (ih (by omega))
  have h0 : S (nl c 0) := by
    rw [← hi.last]
    have := hup (c.length - 1 - j) (by omega)
    rw [show j + (c.length - 1 - j) = c.length - 1 by omega] at this
    exact hS _ (hi.lt _ (nl_mem (by omega))) this
  have hall : ∀ k, k < c.length → S (nl c k) := by
    intro k
    induction k with
    | zero => intro _; exact h0
    | succ k ih =>
      intro hk
      rw [← hi.step k hk]
      exact hS _ (hi.lt _ (nl_mem (by omega))) (ih (by omega))
  obtain ⟨k, hk, rfl⟩ := mem_nl hxc
  exact hall k hk
theorem Des.reach (h : Des n b w) {y : Nat} (hy : y < n) : y ∈ ord b w 0 := by
  obtain ⟨hb, hw, hr⟩ := h
  have hn := hb.1
  have h1 := ord_bf hb hw (x := 0) (by omega)
  refine nodup_full h1.nod h1.lt ?_ hy
  have : (Bm.reach b w).2.length = n := by omega
  have e : (bfs [b, w] (stA 0) 16).2.length = n := this
  omega
/-- What is true of 0 and led on by both permutations is true of all darts. -/
theorem Des.ind (h : Des n b w) (S : Nat → Prop) (s1 : ∀ z, z < n → S z → S (nl b z)) (s2 : ∀ z, z < n → S z → S (nl w z)) (s0 : S 0) : ∀ z, z < n → S z := by
  obtain ⟨hb, hw, hr⟩ := id h
  have hn := hb.1
  intro z hz
  have hcl : ∀ i, ∀ z ∈ (bfs [b, w] (stA 0) i).2, z < n ∧ S z := by
    have hv : ∀ (st : BS) (y : Nat), (∀ z ∈ st.2, z < n ∧ S z) → y < n → S y → ∀ z ∈ (visit st y).2, z < n ∧ S z := by
      intro st y h1 h2 h3 z hz
      unfold visit at hz
      split at hz
      · exact h1 z hz
      · rcases List.mem_append.1 hz with k | k
        · exact h1 z k
        · rw [List.mem_singleton] at k
          subst k
          exact ⟨h2, h3⟩
    intro i
    induction i with
    | zero =>
      intro z hz
      have : z = 0 := by simpa [bfs, stA] using hz
      subst this
      exact ⟨by omega, s0⟩
    | succ i ih =>
      simp only [bfs]
      split
      · rename_i hi
        obtain ⟨hz1, hz2⟩ := ih _ (nl_mem hi)
        exact hv _ _ (hv _ _ ih (hb.lt hz1) (s1 _ hz1 hz2)) (hw.lt hz1) (s2 _ hz1 hz2)
      · exact ih
  exact (hcl 16 z (h.reach hz)).2
/-- From each dart all are reached. -/
theorem Des.all (h : Des n b w) {x y : Nat} (hx : x < n) (hy : y < n) : y ∈ ord b w x := by
  obtain ⟨hb, hw, hr⟩ := id h
  have hn := hb.1
  have h0 := h.ind
  have hx0 : (ord b w x) = (ord b w x) := rfl
  have hfw := ord_cl hb hw hx
  have key : ∀ z, z < n → (z ∈ ord b w x ↔ 0 ∈ ord b w x) := by
    refine h0 _ ?_ ?_ Iff.rfl
    · intro z hz hS
      rw [← hS]
      exact ⟨closed_bwd hb (S := fun z => z ∈ ord b w x) (fun z _ h => (hfw z h).1) hz, fun h => (hfw z h).1⟩
    · intro z hz hS
      rw [← hS]
      exact ⟨closed_bwd hw (S := fun z => z ∈ ord b w x) (fun z _ h => (hfw z h).2) hz, fun h => (hfw z h).2⟩
  have hxx : x ∈ ord b w x := by
    obtain ⟨r, hr⟩ := (ord_bf hb hw hx).pre
    rw [ord, hr]
    simp
  exact (key y hy).2 ((key x hx).1 hxx)
theorem ord_len (h : Des n b w) {x : Nat} (hx : x < n) : (ord b w x).length = n := by
  have h1 := ord_bf h.1 h.2.1 hx
  have h2 := nodup_le h1.nod h1.lt
  have h3 := List.Nodup.length_le_of_subset (List.nodup_range (n := n)) (l₂ := ord b w x) fun y hy => h.all hx (List.mem_range.1 hy)
  rw [List.length_range] at h3
  have : (ord b w x).length ≤ n := h2
  omega
theorem ord_nod (h : Des n b w) {x : Nat} (hx : x < n) : (ord b w x).Nodup := (ord_bf h.1 h.2.1 hx).nod
theorem ord_lt (h : Des n b w) {x : Nat} (hx : x < n) {j : Nat} (hj : j < n) : nl (ord b w x) j < n := (ord_bf h.1 h.2.1 hx).lt _ (nl_mem (by have := ord_len h hx; rw [ord] at this; omega))
theorem ord_0 (h : Des n b w) {x : Nat} (hx : x < n) : nl (ord b w x) 0 = x := by
  obtain ⟨r, hr⟩ := (ord_bf h.1 h.2.1 hx).pre
  rw [ord, hr]
  rfl

/-! ### Names -/
/-- The places of the first k of a list. -/
def nmK (l : List Nat) : Nat → List Nat
  | 0 => List.replicate 16 0
  | k + 1 => (nmK l k).set (nl l k) k
theorem nmK_len {l : List Nat} {k : Nat} : (nmK l k).length = 16 := by
  induction k with
  | zero => simp [nmK]
  | succ k ih => simp [nmK, ih]
theorem nmK_lt {l : List Nat} {k i : Nat} : nl (nmK l k) i ≤ k := by
  induction k generalizing i with
  | zero => simp only [nmK, nl_rep]; split <;> omega
  | succ k ih =>
    rw [nmK, nl_set]
    split
    · omega
    · have := @ih i; omega
theorem nmK_at {l : List Nat} (hd : l.Nodup) (hl : ∀ x ∈ l, x < 16) : ∀ {k j : Nat}, k ≤ l.length → j < k → nl (nmK l k) (nl l j) = j
  | 0, j, _, h => by omega
  | k + 1, j, hk, hj => by
    rw [nmK, nl_set, nmK_len]
    by_cases e : j = k
    · subst e
      rw [if_pos ⟨rfl, hl _ (nl_mem (by omega))⟩]
    · rw [if_neg (fun h => e (nod_nl hd (by omega) (by omega) h.1)), nmK_at hd hl (by omega) (by omega)]
def nam (b w : List Nat) (x : Nat) : List Nat := nmK (ord b w x) (ord b w x).length
theorem nam_len {x : Nat} : (nam b w x).length = 16 := nmK_len
theorem nam_at (h : Des n b w) {x : Nat} (hx : x < n) {j : Nat} (hj : j < n) : nl (nam b w x) (nl (ord b w x) j) = j := by
  have hn := h.1.1
  have hl := ord_len h hx
  exact nmK_at (ord_nod h hx) (fun y hy => by have := (ord_bf h.1 h.2.1 hx).lt y hy; omega) (Nat.le_refl _) (by omega)
theorem ord_nam (h : Des n b w) {x : Nat} (hx : x < n) {y : Nat} (hy : y < n) : nl (ord b w x) (nl (nam b w x) y) = y ∧ nl (nam b w x) y < n := by
  obtain ⟨j, hj, rfl⟩ := mem_nl (h.all hx hy)
  rw [ord_len h hx] at hj
  rw [nam_at h hx hj]
  exact ⟨rfl, hj⟩
/-- A permutation under new names. -/
def rnK (p nm : List Nat) : Nat → List Nat
  | 0 => List.replicate 16 0
  | k + 1 => (rnK p nm k).set (nl nm k) (nl nm (nl p k))
theorem rnK_len {p nm : List Nat} {k : Nat} : (rnK p nm k).length = 16 := by
  induction k with
  | zero => simp [rnK]
  | succ k ih => simp [rnK, ih]
theorem rnK_at {p nm : List Nat} (hd : ∀ i j, i < n → j < n → nl nm i = nl nm j → i = j) (hl : ∀ i, i < n → nl nm i < 16) : ∀ {k j : Nat}, k ≤ n → j < k → nl (rnK p nm k) (nl nm j) = nl nm (nl p j)
  | 0, j, _, h => by omega
  | k + 1, j, hk, hj => by
    rw [rnK, nl_set, rnK_len]
    by_cases e : j = k
    · subst e
      rw [if_pos ⟨rfl, hl _ (by omega)⟩]
    · rw [if_neg (fun h => e (hd _ _ (by omega) (by omega) h.1)), rnK_at hd hl (by omega) (by omega)]
theorem rnK_out {p nm : List Nat} {m i : Nat} (hl : ∀ i, i < n → nl nm i < m) (hi : m ≤ i) : ∀ {k : Nat}, k ≤ n → nl (rnK p nm k) i = 0
  | 0, _ => by simp only [rnK, nl_rep]; split <;> rfl
  | k + 1, hk => by
    have := hl k (by omega)
    rw [rnK, nl_set, if_neg (by omega), rnK_out hl hi (by omega)]
/-- The dessin with names from x. -/
def ren2 (b w : List Nat) (n x : Nat) : List Nat × List Nat := (rnK b (nam b w x) n, rnK w (nam b w x) n)
theorem nam_inj (h : Des n b w) {x : Nat} (hx : x < n) : ∀ i j, i < n → j < n → nl (nam b w x) i = nl (nam b w x) j → i = j := fun i j hi hj he => by
  have h1 := (ord_nam h hx hi).1
  rw [he, (ord_nam h hx hj).1] at h1
  exact h1.symm
theorem ren2_b (h : Des n b w) {x : Nat} (hx : x < n) {y : Nat} (hy : y < n) : nl (ren2 b w n x).1 (nl (nam b w x) y) = nl (nam b w x) (nl b y) :=
  rnK_at (nam_inj h hx) (fun i hi => by have := (ord_nam h hx hi).2; have := h.1.1; omega) (Nat.le_refl _) hy
theorem ren2_w (h : Des n b w) {x : Nat} (hx : x < n) {y : Nat} (hy : y < n) : nl (ren2 b w n x).2 (nl (nam b w x) y) = nl (nam b w x) (nl w y) :=
  rnK_at (nam_inj h hx) (fun i hi => by have := (ord_nam h hx hi).2; have := h.1.1; omega) (Nat.le_refl _) hy
end
section
variable {b w b' w' : List Nat} {n : Nat}
/-- Two dessins that a map of the darts leads to each other. -/
structure Iso (n : Nat) (b w b' w' : List Nat) (φ : Nat → Nat) : Prop where
  lt : ∀ y, y < n → φ y < n
  inj : ∀ y z, y < n → z < n → φ y = φ z → y = z
  b : ∀ y, y < n → nl b' (φ y) = φ (nl b y)
  w : ∀ y, y < n → nl w' (φ y) = φ (nl w y)
structure BfRel (n : Nat) (φ : Nat → Nat) (st st' : BS) : Prop where
  ord : st'.2 = st.2.map φ
  lt : ∀ y ∈ st.2, y < n
  met : ∀ y, y < n → bl st'.1 (φ y) = bl st.1 y
  len : st.1.length = 16 ∧ st'.1.length = 16
theorem BfRel.visit {φ : Nat → Nat} {st st' : BS} {y : Nat} (hn : n ≤ 16) (hl : ∀ y, y < n → φ y < n) (hinj : ∀ y z, y < n → z < n → φ y = φ z → y = z) (h : BfRel n φ st st') (hy : y < n) : BfRel n φ (Bm.visit st y) (Bm.visit st' (φ y)) := by
  unfold Bm.visit
  rw [h.met y hy]
  by_cases hb : bl st.1 y = true
  · rw [if_pos hb, if_pos hb]; exact h
  · rw [if_neg hb, if_neg hb]
    refine ⟨by simp [h.ord], fun z hz => ?_, fun z hz => ?_, by simpa using h.len⟩
    · rcases List.mem_append.1 hz with k | k
      · exact h.lt z k
      · rw [List.mem_singleton] at k; omega
    · show bl (st'.1.set (φ y) true) (φ z) = bl (st.1.set y true) z
      have := hl y hy
      rw [bl_set, bl_set, h.len.1, h.len.2, h.met z hz]
      by_cases e : z = y
      · subst e; rw [if_pos ⟨rfl, by omega⟩, if_pos ⟨rfl, by omega⟩]
      · rw [if_neg (fun k => e (hinj _ _ hz hy k.1)), if_neg (fun k => e k.1)]
theorem nl_map {φ : Nat → Nat} {l : List Nat} {i : Nat} (h : i < l.length) : nl (l.map φ) i = φ (nl l i) := by simp [nl, List.getD, h]
theorem Iso.ord {φ : Nat → Nat} (hn : n ≤ 16) (hb : Perm b n) (hw : Perm w n) (h : Iso n b w b' w' φ) {x : Nat} (hx : x < n) : Bm.ord b' w' (φ x) = (Bm.ord b w x).map φ := by
  have key : ∀ i, BfRel n φ (bfs [b, w] (stA x) i) (bfs [b', w'] (stA (φ x)) i) := by
    intro i
    induction i with
    | zero =>
      refine ⟨rfl, fun y hy => ?_, fun y hy => ?_, by simp [bfs, stA, none16_len]⟩
      · have : y = x := by simpa [bfs, stA] using hy
        omega
      · show bl (none16.set (φ x) true) (φ y) = bl (none16.set x true) y
        have := h.lt x hx
        rw [bl_set, bl_set, none16_len, none16_bl, none16_bl]
        by_cases e : y = x
        · subst e; rw [if_pos ⟨rfl, by omega⟩, if_pos ⟨rfl, by omega⟩]
        · rw [if_neg (fun k => e (h.inj _ _ hy hx k.1)), if_neg (fun k => e k.1)]
    | succ i ih =>
      simp only [bfs]
      generalize bfs [b, w] (stA x) i = st at ih ⊢
      generalize bfs [b', w'] (stA (φ x)) i = st' at ih ⊢
      have hle : st'.2.length = st.2.length := by rw [ih.ord, List.length_map]
      rw [hle]
      by_cases hi : i < st.2.length
      · rw [if_pos hi, if_pos hi]
        have e : nl st'.2 i = φ (nl st.2 i) := by rw [ih.ord, nl_map hi]
        rw [e]
        generalize hz : nl st.2 i = z
        have hz1 : z < n := by rw [← hz]; exact ih.lt _ (nl_mem hi)
        show BfRel n φ (Bm.visit (Bm.visit st (nl b z)) (nl w z)) (Bm.visit (Bm.visit st' (nl b' (φ z))) (nl w' (φ z)))
        rw [h.b z hz1, h.w z hz1]
        exact (ih.visit hn h.lt h.inj (hb.lt hz1)).visit hn h.lt h.inj (hw.lt hz1)
      · rw [if_neg hi, if_neg hi]
        exact ih
  exact (key 16).ord
theorem Iso.nam {φ : Nat → Nat} (hd : Des n b w) (hd' : Des n b' w') (h : Iso n b w b' w' φ) {x : Nat} (hx : x < n) {y : Nat} (hy : y < n) : nl (Bm.nam b' w' (φ x)) (φ y) = nl (Bm.nam b w x) y := by
  have hn := hd.1.1
  obtain ⟨h1, h2⟩ := ord_nam hd hx hy
  have h3 := h.ord (by omega) hd.1 hd.2.1 hx
  have h4 := nam_at hd' (h.lt x hx) h2
  rw [h3, nl_map (by rw [ord_len hd hx]; exact h2), h1] at h4
  exact h4
/-- Names are those of the image. -/
theorem Iso.ren2 {φ : Nat → Nat} (hd : Des n b w) (hd' : Des n b' w') (h : Iso n b w b' w' φ) {x : Nat} (hx : x < n) : Bm.ren2 b' w' n (φ x) = Bm.ren2 b w n x := by
  have hn := hd.1.1
  have hx' := h.lt x hx
  have hz : ∀ {b w : List Nat}, Des n b w → ∀ {x}, x < n → ∀ i, n ≤ i → nl (Bm.ren2 b w n x).1 i = 0 ∧ nl (Bm.ren2 b w n x).2 i = 0 := fun hd x hx i hi =>
    ⟨rnK_out (n := n) (m := n) (fun i hi => (ord_nam hd hx hi).2) hi (Nat.le_refl _), rnK_out (n := n) (m := n) (fun i hi => (ord_nam hd hx hi).2) hi (Nat.le_refl _)⟩
  have key : ∀ i, i < 16 → nl (Bm.ren2 b' w' n (φ x)).1 i = nl (Bm.ren2 b w n x).1 i ∧ nl (Bm.ren2 b' w' n (φ x)).2 i = nl (Bm.ren2 b w n x).2 i := by
    intro i _
    rcases Nat.lt_or_ge i n with hi | hi
    · have hy := ord_lt hd hx hi
      have e := nam_at hd hx hi
      generalize hyd : nl (Bm.ord b w x) i = y at hy e
      have e' := h.nam hd hd' hx hy
      rw [e] at e'
      have f1 := ren2_b hd' hx' (h.lt y hy)
      have f2 := ren2_w hd' hx' (h.lt y hy)
      have g1 := ren2_b hd hx hy
      have g2 := ren2_w hd hx hy
      rw [e', h.b y hy, h.nam hd hd' hx (hd.1.lt hy)] at f1
      rw [e', h.w y hy, h.nam hd hd' hx (hd.2.1.lt hy)] at f2
      rw [e] at g1 g2
      rw [f1, f2, g1, g2]
      exact ⟨rfl, rfl⟩
    · obtain ⟨h1, h2⟩ := hz hd hx i hi
      obtain ⟨h3, h4⟩ := hz hd' hx' i hi
      rw [h1, h2, h3, h4]
      exact ⟨rfl, rfl⟩
  refine Prod.ext ?_ ?_
  · exact nl_ext (by simp only [Bm.ren2, rnK_len]) fun i hi => (key i (by simpa only [Bm.ren2, rnK_len] using hi)).1
  · exact nl_ext (by simp only [Bm.ren2, rnK_len]) fun i hi => (key i (by simpa only [Bm.ren2, rnK_len] using hi)).2
/-- The same names lead dessins to each other. -/
theorem iso_of {x y : Nat} (hd : Des n b w) (hd' : Des n b' w') (hx : x < n) (hy : y < n) (h : Bm.ren2 b' w' n y = Bm.ren2 b w n x) : ∃ φ, Iso n b w b' w' φ ∧ φ x = y := by
  refine ⟨fun z => nl (Bm.ord b' w' y) (nl (Bm.nam b w x) z), ⟨fun z hz => ?_, fun z z' hz hz' he => ?_, fun z hz => ?_, fun z hz => ?_⟩, ?_⟩
  · exact ord_lt hd' hy (ord_nam hd hx hz).2
  · have h1 := nod_nl (ord_nod hd' hy) (by rw [ord_len hd' hy]; exact (ord_nam hd hx hz).2) (by rw [ord_len hd' hy]; exact (ord_nam hd hx hz').2) he
    exact nam_inj hd hx z z' hz hz' h1
  · have hk := (ord_nam hd hx hz).2
    have hu := ord_lt hd' hy hk
    have e := nam_at hd' hy hk
    have g1 := ren2_b hd' hy hu
    rw [e, h, ren2_b hd hx hz] at g1
    show nl b' (nl (Bm.ord b' w' y) (nl (Bm.nam b w x) z)) = nl (Bm.ord b' w' y) (nl (Bm.nam b w x) (nl b z))
    rw [g1]
    exact (ord_nam hd' hy (hd'.1.lt hu)).1.symm
  · have hk := (ord_nam hd hx hz).2
    have hu := ord_lt hd' hy hk
    have e := nam_at hd' hy hk
    have g1 := ren2_w hd' hy hu
    rw [e, h, ren2_w hd hx hz] at g1
    show nl w' (nl (Bm.ord b' w' y) (nl (Bm.nam b w x) z)) = nl (Bm.ord b' w' y) (nl (Bm.nam b w x) (nl w z))
    rw [g1]
    exact (ord_nam hd' hy (hd'.2.1.lt hu)).1.symm
  · have := ord_0 hd hx
    have h0 := nam_at hd hx (j := 0) (by have := hd.1.1; omega)
    rw [this] at h0
    show nl (Bm.ord b' w' y) (nl (Bm.nam b w x) x) = y
    rw [h0]
    exact ord_0 hd' hy
end

/-! ### The least one -/
abbrev L2 := List Nat × List Nat
def lt2 (x y : L2) : Prop := x.1 < y.1 ∨ (x.1 = y.1 ∧ x.2 < y.2)
instance (x y : L2) : Decidable (lt2 x y) := by unfold lt2; infer_instance
theorem lt2_irr (x : L2) : ¬ lt2 x x := fun h => by
  rcases h with h | h
  · exact List.lt_irrefl _ h
  · exact List.lt_irrefl _ h.2
theorem lt2_trans {x y z : L2} (h : lt2 x y) (k : lt2 y z) : lt2 x z := by
  rcases h with h | ⟨h1, h2⟩ <;> rcases k with k | ⟨k1, k2⟩
  · exact .inl (List.lt_trans h k)
  · exact .inl (k1 ▸ h)
  · exact .inl (h1 ▸ k)
  · exact .inr ⟨h1.trans k1, List.lt_trans h2 k2⟩
theorem lt2_tri {x y : L2} (h : ¬ lt2 x y) (k : ¬ lt2 y x) : x = y := by
  have e1 : x.1 = y.1 := List.le_antisymm (List.not_lt.1 fun e => k (.inl e)) (List.not_lt.1 fun e => h (.inl e))
  exact Prod.ext e1 (List.le_antisymm (List.not_lt.1 fun e => k (.inr ⟨e1.symm, e⟩)) (List.not_lt.1 fun e => h (.inr ⟨e1, e⟩)))
def canK (b w : List Nat) (n : Nat) : Nat → L2
  | 0 => ren2 b w n 0
  | k + 1 => if lt2 (ren2 b w n (k + 1)) (canK b w n k) then ren2 b w n (k + 1) else canK b w n k
def canD (b w : List Nat) (n : Nat) : L2 := canK b w n (n - 1)
section
variable {b w b' w' : List Nat} {n : Nat}
theorem canK_mem : ∀ {k : Nat}, ∃ x, x ≤ k ∧ canK b w n k = ren2 b w n x
  | 0 => ⟨0, Nat.le_refl _, rfl⟩
  | k + 1 => by
    obtain ⟨x, hx, h⟩ := @canK_mem k
    simp only [canK]
    split
    · exact ⟨k + 1, Nat.le_refl _, rfl⟩
    · exact ⟨x, by omega, h⟩
theorem canK_least : ∀ {k x : Nat}, x ≤ k → ¬ lt2 (ren2 b w n x) (canK b w n k)
  | 0, x, h => by
    obtain rfl : x = 0 := by omega
    exact lt2_irr _
  | k + 1, x, h => by
    simp only [canK]
    by_cases e : x = k + 1
    · subst e
      split
      · exact lt2_irr _
      · assumption
    · have ih := canK_least (show x ≤ k by omega)
      split
      · rename_i hl
        exact fun h => ih (lt2_trans h hl)
      · exact ih
theorem can_iff (hd : Des n b w) (hd' : Des n b' w') : canD b w n = canD b' w' n ↔ ∃ x, x < n ∧ ren2 b' w' n x = ren2 b w n 0 := by
  have hn := hd.1.1
  constructor
  · intro h
    obtain ⟨y, hy, e⟩ := @canK_mem b w n (n - 1)
    obtain ⟨z, hz, e'⟩ := @canK_mem b' w' n (n - 1)
    rw [canD, canD, e, e'] at h
    obtain ⟨φ, hi, _⟩ := iso_of hd hd' (show y < n by omega) (show z < n by omega) h.symm
    exact ⟨φ 0, hi.lt 0 (by omega), hi.ren2 hd hd' (by omega)⟩
  · rintro ⟨x, hx, h⟩
    obtain ⟨φ, hi, _⟩ := iso_of hd hd' (show 0 < n by omega) hx h
    obtain ⟨ψ, hj, _⟩ := iso_of hd' hd hx (show 0 < n by omega) h.symm
    obtain ⟨y, hy, e⟩ := @canK_mem b w n (n - 1)
    obtain ⟨z, hz, e'⟩ := @canK_mem b' w' n (n - 1)
    refine lt2_tri ?_ ?_
    · rw [canD, e, ← hi.ren2 hd hd' (show y < n by omega)]
      exact canK_least (by have := hi.lt y (by omega); omega)
    · rw [canD, canD, e', ← hj.ren2 hd' hd (show z < n by omega)]
      exact canK_least (by have := hj.lt z (by omega); omega)
end
end Go.Bm
