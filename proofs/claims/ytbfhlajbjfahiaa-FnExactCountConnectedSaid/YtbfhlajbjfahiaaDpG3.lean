/- DpCc, DpCd, DpDg, DpKa, DpDb, DpDc, DpDh, DpDd, DpS, DpEa -/
import Derived.Test.YtbfhlajbjfahiaaBmQ
import Derived.Test.YtbfhlajbjfahiaaBmR
import Derived.Test.YtbfhlajbjfahiaaDpG0
import Derived.Test.YtbfhlajbjfahiaaDpG2
/- What is reached from each dart, and names from a dart: the plain law. -/
set_option linter.unusedVariables false
set_option linter.unusedSimpArgs false
namespace Go.Bm
open Go Go.Am

def none16 : List Bool := List.replicate 16 false
theorem none16_bl {x : Nat} : bl none16 x = false := bl_rep
theorem none16_len : none16.length = 16 := by simp [none16]
/-- One starts at x, nothing met but x. -/
def stA (x : Nat) : BS := (none16.set x true, [x])
/-- What stands once what the first d lead to has been met. -/
structure BfOk (ls : List (List Nat)) (n x d : Nat) (st : BS) : Prop where
  len : st.1.length = 16
  mem : ∀ y, bl st.1 y = true ↔ y ∈ st.2
  nod : st.2.Nodup
  lt : ∀ y ∈ st.2, y < n
  pre : ∃ r, st.2 = x :: r
  le : d ≤ st.2.length
  done : ∀ j, j < d → ∀ p ∈ ls, nl p (nl st.2 j) ∈ st.2
theorem BfOk.visit {ls : List (List Nat)} {n x d y : Nat} {st : BS} (hn : n ≤ 16) (h : BfOk ls n x d st) (hy : y < n) : BfOk ls n x d (Bm.visit st y) ∧ (∃ q, (Bm.visit st y).2 = st.2 ++ q) ∧ y ∈ (Bm.visit st y).2 := by
  unfold Bm.visit
  by_cases hb : bl st.1 y = true
  · rw [if_pos hb]
    exact ⟨h, ⟨[], by simp⟩, (h.mem y).1 hb⟩
  · rw [if_neg hb]
    have hny : y ∉ st.2 := fun hm => hb ((h.mem y).2 hm)
    refine ⟨⟨by simpa using h.len, fun z => ?_, ?_, fun z hz => ?_, ?_, ?_, fun j hj1 p hp => ?_⟩, ⟨[y], rfl⟩, by simp⟩
    · show bl (st.1.set y true) z = true ↔ z ∈ st.2 ++ [y]
      rw [bl_set]
      by_cases e : z = y
      · subst e
        rw [if_pos ⟨rfl, by have := h.len; omega⟩]
        simp
      · rw [if_neg (fun k => e k.1), h.mem z]
        simp [e]
    · show (st.2 ++ [y]).Nodup
      rw [List.nodup_append]
      exact ⟨h.nod, by simp, fun a ha b hb => by
        rw [List.mem_singleton] at hb
        subst hb
        exact fun e => hny (e ▸ ha)⟩
    · rcases List.mem_append.1 hz with k | k
      · exact h.lt z k
      · rw [List.mem_singleton] at k
        omega
    · obtain ⟨r, hr⟩ := h.pre
      exact ⟨r ++ [y], by show st.2 ++ [y] = _; rw [hr]; rfl⟩
    · show d ≤ (st.2 ++ [y]).length
      have := h.le
      simp
      omega
    · show nl p (nl (st.2 ++ [y]) j) ∈ st.2 ++ [y]
      rw [nl_append, if_pos (by have := h.le; omega)]
      exact List.mem_append_left _ (h.done j hj1 p hp)
theorem BfOk.round {ls : List (List Nat)} {n x d z : Nat} (hn : n ≤ 16) : ∀ {l2 : List (List Nat)} {st : BS}, BfOk ls n x d st → (∀ p ∈ l2, nl p z < n) → BfOk ls n x d (roundX l2 z st) ∧ (∃ q, (roundX l2 z st).2 = st.2 ++ q) ∧ ∀ p ∈ l2, nl p z ∈ (roundX l2 z st).2
  | [], st, h, _ => ⟨h, ⟨[], by simp [roundX]⟩, by simp⟩
  | p :: l2, st, h, hp => by
    obtain ⟨h1, ⟨q1, h2⟩, h3⟩ := h.visit hn (hp p (by simp))
    obtain ⟨h4, ⟨q2, h5⟩, h6⟩ := BfOk.round hn (l2 := l2) h1 fun q hq => hp q (by simp [hq])
    have e : roundX (p :: l2) z st = roundX l2 z (Bm.visit st (nl p z)) := rfl
    rw [e]
    refine ⟨h4, ⟨q1 ++ q2, by rw [h5, h2, List.append_assoc]⟩, fun q hq => ?_⟩
    rcases List.mem_cons.1 hq with rfl | hq
    · rw [h5]
      exact List.mem_append_left _ h3
    · exact h6 q hq
theorem BfOk.bfs {ls : List (List Nat)} {n x : Nat} {st : BS} (hn : n ≤ 16) (hl : ∀ p ∈ ls, ∀ y, y < n → nl p y < n) (h : BfOk ls n x 0 st) : ∀ i, BfOk ls n x (min i (Bm.bfs ls st i).2.length) (Bm.bfs ls st i)
  | 0 => by rw [Nat.zero_min]; exact h
  | i + 1 => by
    have ih := BfOk.bfs hn hl h i
    simp only [Bm.bfs]
    generalize Bm.bfs ls st i = s at ih ⊢
    by_cases hi : i < s.2.length
    · rw [if_pos hi]
      rw [Nat.min_eq_left (by omega)] at ih
      obtain ⟨h1, ⟨q, h2⟩, h3⟩ := ih.round hn (z := nl s.2 i) (l2 := ls) fun p hp => hl p hp _ (ih.lt _ (nl_mem hi))
      have hlen : i + 1 ≤ (roundX ls (nl s.2 i) s).2.length := by rw [h2]; simp; omega
      rw [Nat.min_eq_left hlen]
      refine ⟨h1.len, h1.mem, h1.nod, h1.lt, h1.pre, hlen, fun j hj p hp => ?_⟩
      by_cases e : j = i
      · subst e
        have : nl (roundX ls (nl s.2 j) s).2 j = nl s.2 j := by rw [h2, nl_append, if_pos hi]
        rw [this]
        exact h3 p hp
      · exact h1.done j (by omega) p hp
    · rw [if_neg hi]
      rw [Nat.min_eq_right (by omega)] at ih
      rw [Nat.min_eq_right (by omega)]
      exact ih
theorem BfOk.start {ls : List (List Nat)} {n x : Nat} (hn : n ≤ 16) (hx : x < n) : BfOk ls n x 0 (stA x) := by
  refine ⟨by simp [stA, none16_len], fun y => ?_, by simp [stA], fun y hy => ?_, ⟨[], rfl⟩, Nat.zero_le _, fun j hj => by omega⟩
  · show bl (none16.set x true) y = true ↔ y ∈ [x]
    rw [bl_set, none16_len, none16_bl]
    by_cases e : y = x
    · rw [if_pos ⟨e, by omega⟩]; simp [e]
    · rw [if_neg (fun k => e k.1)]; simp [e]
  · rw [show (stA x).2 = [x] from rfl, List.mem_singleton] at hy
    omega
theorem nodup_le {n : Nat} {l : List Nat} (h : l.Nodup) (hl : ∀ x ∈ l, x < n) : l.length ≤ n := by
  have := List.Nodup.length_le_of_subset h (l₂ := List.range n) fun x hx => List.mem_range.2 (hl x hx)
  simpa using this
theorem nodup_full {n : Nat} {l : List Nat} (h : l.Nodup) (hl : ∀ x ∈ l, x < n) (hn : n ≤ l.length) {x : Nat} (hx : x < n) : x ∈ l := by
  apply Classical.byContradiction
  intro hxl
  have := nodup_le (n := n) (l := x :: l) (List.nodup_cons.2 ⟨hxl, h⟩) (by
    intro y hy
    rcases List.mem_cons.1 hy with rfl | hy
    · exact hx
    · exact hl y hy)
  rw [List.length_cons] at this
  omega
/-- The darts in the order in which they are met from x. -/
def ord (b w : List Nat) (x : Nat) : List Nat := (bfs [b, w] (stA x) 16).2
section
variable {b w : List Nat} {n : Nat}
theorem ord_bf (hb : Perm b n) (hw : Perm w n) {x : Nat} (hx : x < n) : BfOk [b, w] n x (ord b w x).length (bfs [b, w] (stA x) 16) := by
  have hn := hb.1
  have h := (BfOk.start (ls := [b, w]) (x := x) (n := n) (by omega) hx).bfs (by omega) (by
    intro p hp y hy
    simp only [List.mem_cons, List.not_mem_nil, or_false] at hp
    rcases hp with rfl | rfl
    · exact hb.lt hy
    · exact hw.lt hy) 16
  have h16 := nodup_le h.nod h.lt
  rw [Nat.min_eq_right (by omega)] at h
  exact h
theorem ord_cl (hb : Perm b n) (hw : Perm w n) {x : Nat} (hx : x < n) : ∀ y ∈ ord b w x, nl b y ∈ ord b w x ∧ nl w y ∈ ord b w x := fun y hy => by
  have h := ord_bf hb hw hx
  obtain ⟨j, hj, rfl⟩ := mem_nl hy
  exact ⟨h.done j hj b (by simp), h.done j hj w (by simp)⟩
/-- What a permutation leads into itself is also led into itself backwards. -/
theorem closed_bwd {p : List Nat} (hp : Perm p n) {S : Nat → Prop} (hS : ∀ x, x < n → S x → S (nl p x)) {x : Nat} (hx : x < n) (h : S (nl p x)) : S x := by
  obtain ⟨c, hc, hxc⟩ := cyc_at hp hx
  have hi := cyc_is hp hc
  obtain ⟨j, hj, hje⟩ := mem_nl (hi.fwd hxc)
  have hup : ∀ d, j + d < c.length → S (nl c (j + d)) := by
    intro d
    induction d with
    | zero => intro _; rw [Nat.add_zero, hje]; exact h
    | succ d ih =>
      intro hd
      rw [← Nat.add_assoc, ← hi.step (j + d) (by omega)]
      exact hS _ (hi.lt _ (nl_mem (by omega))) (ih (by omega))
  have h0 : S (nl c 0) := by
    rw [← hi.last]
    have := hup (c.length - 1 - j) (by omega)
    rw [show j + (c.length - 1 - j) = c.length - 1 by omega] at this
    exact hS _ (hi.lt _ (nl_mem (by omega))) this
  have hall : ∀ k, k < c.length → S (nl c k) := by
    intro k
    induction k with
    | zero => intro _; exact h0
    | succ k ih =>
      intro hk
      rw [← hi.step k hk]
      exact hS _ (hi.lt _ (nl_mem (by omega))) (ih (by omega))
  obtain ⟨k, hk, rfl⟩ := mem_nl hxc
  exact hall k hk
theorem Des.reach (h : Des n b w) {y : Nat} (hy : y < n) : y ∈ ord b w 0 := by
  obtain ⟨hb, hw, hr⟩ := h
  have hn := hb.1
  have h1 := ord_bf hb hw (x := 0) (by omega)
  refine nodup_full h1.nod h1.lt ?_ hy
  have : (Bm.reach b w).2.length = n := by omega
  have e : (bfs [b, w] (stA 0) 16).2.length = n := this
  omega
/-- What is true of 0 and led on by both permutations is true of all darts. -/
theorem Des.ind (h : Des n b w) (S : Nat → Prop) (s1 : ∀ z, z < n → S z → S (nl b z)) (s2 : ∀ z, z < n → S z → S (nl w z)) (s0 : S 0) : ∀ z, z < n → S z := by
  obtain ⟨hb, hw, hr⟩ := id h
  have hn := hb.1
  intro z hz
  have hcl : ∀ i, ∀ z ∈ (bfs [b, w] (stA 0) i).2, z < n ∧ S z := by
    have hv : ∀ (st : BS) (y : Nat), (∀ z ∈ st.2, z < n ∧ S z) → y < n → S y → ∀ z ∈ (visit st y).2, z < n ∧ S z := by
      intro st y h1 h2 h3 z hz
      unfold visit at hz
      split at hz
      · exact h1 z hz
      · rcases List.mem_append.1 hz with k | k
        · exact h1 z k
        · rw [List.mem_singleton] at k
          subst k
          exact ⟨h2, h3⟩
    intro i
    induction i with
    | zero =>
      intro z hz
      have : z = 0 := by simpa [bfs, stA] using hz
      subst this
      exact ⟨by omega, s0⟩
    | succ i ih =>
      simp only [bfs]
      split
      · rename_i hi
        obtain ⟨hz1, hz2⟩ := ih _ (nl_mem hi)
        exact hv _ _ (hv _ _ ih (hb.lt hz1) (s1 _ hz1 hz2)) (hw.lt hz1) (s2 _ hz1 hz2)
      · exact ih
  exact (hcl 16 z (h.reach hz)).2
/-- From each dart all are reached. -/
theorem Des.all (h : Des n b w) {x y : Nat} (hx : x < n) (hy : y < n) : y ∈ ord b w x := by
  obtain ⟨hb, hw, hr⟩ := id h
  have hn := hb.1
  have h0 := h.ind
  have hx0 : (ord b w x) = (ord b w x) := rfl
  have hfw := ord_cl hb hw hx
  have key : ∀ z, z < n → (z ∈ ord b w x ↔ 0 ∈ ord b w x) := by
    refine h0 _ ?_ ?_ Iff.rfl
    · intro z hz hS
      rw [← hS]
      exact ⟨closed_bwd hb (S := fun z => z ∈ ord b w x) (fun z _ h => (hfw z h).1) hz, fun h => (hfw z h).1⟩
    · intro z hz hS
      rw [← hS]
      exact ⟨closed_bwd hw (S := fun z => z ∈ ord b w x) (fun z _ h => (hfw z h).2) hz, fun h => (hfw z h).2⟩
  have hxx : x ∈ ord b w x := by
    obtain ⟨r, hr⟩ := (ord_bf hb hw hx).pre
    rw [ord, hr]
    simp
  exact (key y hy).2 ((key x hx).1 hxx)
/-! ### Names -/
end
section
variable {b w b' w' : List Nat} {n : Nat}
/-- Two dessins that a map of the darts leads to each other. -/
structure Iso (n : Nat) (b w b' w' : List Nat) (φ : Nat → Nat) : Prop where
  lt : ∀ y, y < n → φ y < n
  inj : ∀ y z, y < n → z < n → φ y = φ z → y = z
  b : ∀ y, y < n → nl b' (φ y) = φ (nl b y)
  w : ∀ y, y < n → nl w' (φ y) = φ (nl w y)
structure BfRel (n : Nat) (φ : Nat → Nat) (st st' : BS) : Prop where
  ord : st'.2 = st.2.map φ
  lt : ∀ y ∈ st.2, y < n
  met : ∀ y, y < n → bl st'.1 (φ y) = bl st.1 y
  len : st.1.length = 16 ∧ st'.1.length = 16
theorem BfRel.visit {φ : Nat → Nat} {st st' : BS} {y : Nat} (hn : n ≤ 16) (hl : ∀ y, y < n → φ y < n) (hinj : ∀ y z, y < n → z < n → φ y = φ z → y = z) (h : BfRel n φ st st') (hy : y < n) : BfRel n φ (Bm.visit st y) (Bm.visit st' (φ y)) := by
  unfold Bm.visit
  rw [h.met y hy]
  by_cases hb : bl st.1 y = true
  · rw [if_pos hb, if_pos hb]; exact h
  · rw [if_neg hb, if_neg hb]
    refine ⟨by simp [h.ord], fun z hz => ?_, fun z hz => ?_, by simpa using h.len⟩
    · rcases List.mem_append.1 hz with k | k
      · exact h.lt z k
      · rw [List.mem_singleton] at k; omega
    · show bl (st'.1.set (φ y) true) (φ z) = bl (st.1.set y true) z
      have := hl y hy
      rw [bl_set, bl_set, h.len.1, h.len.2, h.met z hz]
      by_cases e : z = y
      · subst e; rw [if_pos ⟨rfl, by omega⟩, if_pos ⟨rfl, by omega⟩]
      · rw [if_neg (fun k => e (hinj _ _ hz hy k.1)), if_neg (fun k => e k.1)]
theorem nl_map {φ : Nat → Nat} {l : List Nat} {i : Nat} (h : i < l.length) : nl (l.map φ) i = φ (nl l i) := by simp [nl, List.getD, h]
theorem Iso.ord {φ : Nat → Nat} (hn : n ≤ 16) (hb : Perm b n) (hw : Perm w n) (h : Iso n b w b' w' φ) {x : Nat} (hx : x < n) : Bm.ord b' w' (φ x) = (Bm.ord b w x).map φ := by
  have key : ∀ i, BfRel n φ (bfs [b, w] (stA x) i) (bfs [b', w'] (stA (φ x)) i) := by
    intro i
    induction i with
    | zero =>
      refine ⟨rfl, fun y hy => ?_, fun y hy => ?_, by simp [bfs, stA, none16_len]⟩
      · have : y = x := by simpa [bfs, stA] using hy
        omega
      · show bl (none16.set (φ x) true) (φ y) = bl (none16.set x true) y
        have := h.lt x hx
        rw [bl_set, bl_set, none16_len, none16_bl, none16_bl]
        by_cases e : y = x
        · subst e; rw [if_pos ⟨rfl, by omega⟩, if_pos ⟨rfl, by omega⟩]
        · rw [if_neg (fun k => e (h.inj _ _ hy hx k.1)), if_neg (fun k => e k.1)]
    | succ i ih =>
      simp only [bfs]
      generalize bfs [b, w] (stA x) i = st at ih ⊢
      generalize bfs [b', w'] (stA (φ x)) i = st' at ih ⊢
      have hle : st'.2.length = st.2.length := by rw [ih.ord, List.length_map]
      rw [hle]
      by_cases hi : i < st.2.length
      · rw [if_pos hi, if_pos hi]
        have e : nl st'.2 i = φ (nl st.2 i) := by rw [ih.ord, nl_map hi]
        rw [e]
        generalize hz : nl st.2 i = z
        have hz1 : z < n := by rw [← hz]; exact ih.lt _ (nl_mem hi)
        show BfRel n φ (Bm.visit (Bm.visit st (nl b z)) (nl w z)) (Bm.visit (Bm.visit st' (nl b' (φ z))) (nl w' (φ z)))
        rw [h.b z hz1, h.w z hz1]
        exact (ih.visit hn h.lt h.inj (hb.lt hz1)).visit hn h.lt h.inj (hw.lt hz1)
      · rw [if_neg hi, if_neg hi]
        exact ih
  exact (key 16).ord
end

/-! ### The least one -/
abbrev L2 := List Nat × List Nat
def lt2 (x y : L2) : Prop := x.1 < y.1 ∨ (x.1 = y.1 ∧ x.2 < y.2)
instance (x y : L2) : Decidable (lt2 x y) := by unfold lt2; infer_instance
section
variable {b w b' w' : List Nat} {n : Nat}
end
end Go.Bm

/- Mirror images are dessins: the plain law. -/
set_option linter.unusedVariables false
set_option linter.unusedSimpArgs false
namespace Go.Bm
open Go Go.Am

/-! ### Mirror images are dessins -/
section
variable {p b w : List Nat} {n : Nat}
theorem Perm.surj (hp : Perm p n) {y : Nat} (hy : y < n) : ∃ x, x < n ∧ nl p x = y := by
  obtain ⟨c, hc, hyc⟩ := cyc_at hp hy
  have hi := cyc_is hp hc
  obtain ⟨j, hj, rfl⟩ := mem_nl hyc
  by_cases e : j = 0
  · subst e
    exact ⟨_, hi.lt _ (nl_mem (by omega)), hi.last⟩
  · have := hi.step (j - 1) (by omega)
    rw [show j - 1 + 1 = j by omega] at this
    exact ⟨_, hi.lt _ (nl_mem (by omega)), this⟩
theorem back_at (hp : Perm p n) : ∀ {k i : Nat}, k ≤ n → i < k → nl (backK p k) (nl p i) = i
  | 0, _, _, h => by omega
  | k + 1, i, hk, hi => by
    have hn := hp.1
    rw [backK, nl_set, backK_len]
    by_cases e : i = k
    · subst e
      rw [if_pos ⟨rfl, by have := hp.lt (show i < n by omega); omega⟩]
    · rw [if_neg (fun h => e (hp.inj (by omega) (by omega) h.1)), back_at hp (by omega) (by omega)]
theorem back_out (hp : Perm p n) {i : Nat} (hi : n ≤ i) : ∀ {k : Nat}, k ≤ n → nl (backK p k) i = 0
  | 0, _ => by simp only [backK, nl_rep]; split <;> rfl
  | k + 1, hk => by
    have := hp.lt (show k < n by omega)
    rw [backK, nl_set, if_neg (by omega), back_out hp hi (by omega)]
theorem Perm.back (hp : Perm p n) : Perm (backK p n) n := by
  refine ⟨hp.1, fun i _ => ⟨fun h => back_out hp (by omega) (Nat.le_refl _), fun h => ?_⟩⟩
  obtain ⟨x, hx, rfl⟩ := hp.surj (show i < n by omega)
  rw [back_at hp (Nat.le_refl _) hx]
  refine ⟨by omega, fun j hj => ?_⟩
  obtain ⟨y, hy, rfl⟩ := hp.surj (show j < n by omega)
  rw [back_at hp (Nat.le_refl _) hy]
  intro e
  subst e
  omega
end
end Go.Bm

/- Draws: permutations and stars. -/
set_option linter.unusedVariables false
set_option linter.unusedSimpArgs false
namespace Go.Bm
open Go Go.Am

/-- The same, up to k. -/
def idK : Nat → List Nat
  | 0 => z16
  | i + 1 => (idK i).set i i
theorem z16_nl {i : Nat} : nl z16 i = 0 := by rw [z16, nl_rep]; split <;> rfl
theorem idK_len {k : Nat} : (idK k).length = 16 := by
  induction k with
  | zero => exact z16_len
  | succ k ih => rw [idK, List.length_set, ih]
theorem idK_nl {k i : Nat} (hk : k ≤ 16) : nl (idK k) i = if i < k then i else 0 := by
  induction k with
  | zero => rw [idK, z16_nl, if_neg (by omega)]
  | succ k ih =>
    rw [idK, nl_set, ih (by omega), idK_len]
    by_cases e : i = k
    · subst e; rw [if_pos ⟨rfl, by omega⟩, if_pos (by omega)]
    · rw [if_neg (by omega)]
      by_cases h : i < k
      · rw [if_pos h, if_pos (by omega)]
      · rw [if_neg h, if_neg (by omega)]
theorem Perm.of {p : List Nat} {n : Nat} (hn : 1 ≤ n ∧ n ≤ 16) (h0 : ∀ i, n ≤ i → i < 16 → nl p i = 0) (h1 : ∀ i, i < n → nl p i < n) (h2 : ∀ i j, i < n → j < i → nl p j ≠ nl p i) : Perm p n :=
  ⟨by omega, fun i hi => ⟨fun h => h0 i (by omega) hi, fun h => ⟨by have := h1 i (by omega); omega, fun j hj => h2 i j (by omega) hj⟩⟩⟩
theorem Perm.zero {p : List Nat} {n : Nat} (h : Perm p n) {i : Nat} (h1 : n ≤ i) (h2 : i < 16) : nl p i = 0 := (h.2 i h2).1 (by omega)
theorem idK_perm {n : Nat} (hn : 1 ≤ n ∧ n ≤ 16) : Perm (idK n) n := .of hn
  (fun i h1 h2 => by rw [idK_nl hn.2, if_neg (by omega)]) (fun i h => by rw [idK_nl hn.2, if_pos h]; exact h)
  (fun i j h1 h2 => by rw [idK_nl hn.2, idK_nl hn.2, if_pos h1, if_pos (by omega)]; omega)
theorem mod_one {n i : Nat} (h : i < n) : (i + 1) % n = if i + 1 = n then 0 else i + 1 := by
  split
  · rename_i e; rw [e, Nat.mod_self]
  · exact Nat.mod_eq_of_lt (by omega)
theorem Perm.swap {p : List Nat} {n : Nat} (h : Perm p n) (hl : p.length = 16) {i k : Nat} (hi : i < n) (hk : k < n) : Perm ((p.set i (nl p k)).set k (nl p i)) n := by
  have hn := h.1
  have e : ∀ j, nl ((p.set i (nl p k)).set k (nl p i)) j = if j = k then nl p i else if j = i then nl p k else nl p j := fun j => by
    rw [nl_set, nl_set, List.length_set, hl]
    by_cases e1 : j = k
    · rw [if_pos ⟨e1, by omega⟩, if_pos e1]
    · rw [if_neg (by omega), if_neg e1]
      by_cases e2 : j = i
      · rw [if_pos ⟨e2, by omega⟩, if_pos e2]
      · rw [if_neg (by omega), if_neg e2]
  refine .of (by omega) (fun j h1 h2 => ?_) (fun j hj => ?_) (fun j j' hj hj' => ?_)
  · rw [e, if_neg (by omega), if_neg (by omega)]; exact h.zero h1 h2
  · rw [e]; split
    · exact h.lt hi
    · split
      · exact h.lt hk
      · exact h.lt hj
  · rw [e, e]
    intro he
    have key : ∀ a b, a < n → b < n → nl p a = nl p b → a = b := fun a b ha hb hab => h.inj ha hb hab
    split at he <;> split at he <;> (try split at he) <;> (try split at he)
    all_goals first
      | (have := key _ _ (by omega) (by omega) he; omega)
theorem l01Same_spec {x : Bool} {n : Int} {H : BH} {K : Value → BH → Prop} (hn : n ≤ 16) (hK : K (PL (idK n.toNat)) H) : CallX x F_spec_l01Same [I n] H K := by
  have hz := z16_len
  refine callP (by simp only [RH]) ?_
  refine CallX_body Γ_spec_l01Same ?_
  simp only [A_spec_l01Same, T_aiff]
  refine T_rseq fun Kr hKr => ?_
  simp (disch := omega) only [RA, ↓reduceIte, Nat.reduceEqDiff, Nat.reduceBEq, Nat.reduceSub, Nat.reduceAdd, Nat.reduceMul, Nat.reduceLT, Nat.reduceLeDiff, Int.reduceLE, Int.reduceLT, Int.reduceEq, Int.reduceNeg, Int.reduceToNat, Int.reduceMul, Int.reduceAdd, Int.reduceSub, Int.reduceBEq, Int.reduceBNe, reduceCtorEq, RD]
  refine hKr _ _ ?_
  clear hKr Kr
  try simp only [RN, reduceIte]
  try refine T_e rfl ?_
  refine T_rseq fun Kr hKr => ?_
  simp (disch := omega) only [RA, ↓reduceIte, Nat.reduceEqDiff, Nat.reduceBEq, Nat.reduceSub, Nat.reduceAdd, Nat.reduceMul, Nat.reduceLT, Nat.reduceLeDiff, Int.reduceLE, Int.reduceLT, Int.reduceEq, Int.reduceNeg, Int.reduceToNat, Int.reduceMul, Int.reduceAdd, Int.reduceSub, Int.reduceBEq, Int.reduceBNe, reduceCtorEq, RD]
  refine hKr _ _ ?_
  clear hKr Kr
  try simp only [RN, reduceIte]
  try refine T_e rfl ?_
  refine T_rseq fun Kr hKr => ?_
  simp (disch := omega) only [RA, ↓reduceIte, Nat.reduceEqDiff, Nat.reduceBEq, Nat.reduceSub, Nat.reduceAdd, Nat.reduceMul, Nat.reduceLT, Nat.reduceLeDiff, Int.reduceLE, Int.reduceLT, Int.reduceEq, Int.reduceNeg, Int.reduceToNat, Int.reduceMul, Int.reduceAdd, Int.reduceSub, Int.reduceBEq, Int.reduceBNe, reduceCtorEq, RD]
  refine hKr _ _ ?_
  clear hKr Kr
  try simp only [RN, reduceIte]
  try refine T_e rfl ?_
  refine T_wloop (fun m f H' => ∃ k : Nat, k ≤ n.toNat ∧ m = n.toNat - k ∧ f 0 = I n ∧ f 2 = P 0 0 ∧ f 3 = P 1 0 ∧ f 4 = I k ∧ H' = [some (List.replicate 16 (.int .u8 0)), some ((idK k).map N8)]) (n.toNat) ?_ ?_
  · refine ⟨_, _, Gh.refl, 0, by omega, by omega, ?_, ?_, ?_, ?_, rfl⟩
    any_goals (simp (disch := omega) only [RA, ↓reduceIte, Nat.reduceEqDiff, Nat.reduceBEq, Nat.reduceSub, Nat.reduceAdd, Nat.reduceMul, Nat.reduceLT, Nat.reduceLeDiff, Int.reduceLE, Int.reduceLT, Int.reduceEq, Int.reduceNeg, Int.reduceToNat, Int.reduceMul, Int.reduceAdd, Int.reduceSub, Int.reduceBEq, Int.reduceBNe, reduceCtorEq, RD, RE, *] <;> rfl)
  · rintro m f H' R ⟨k, hk, rfl, g0, g2, g3, g4, rfl⟩ hN hX hR hE
    simp only [A_spec_l01Same.l0, T_aiff]
    have hlk := @idK_len k
    refine T_rseq fun Kr hKr => ?_
    simp (disch := omega) only [RA, ↓reduceIte, Nat.reduceEqDiff, Nat.reduceBEq, Nat.reduceSub, Nat.reduceAdd, Nat.reduceMul, Nat.reduceLT, Nat.reduceLeDiff, Int.reduceLE, Int.reduceLT, Int.reduceEq, Int.reduceNeg, Int.reduceToNat, Int.reduceMul, Int.reduceAdd, Int.reduceSub, Int.reduceBEq, Int.reduceBNe, reduceCtorEq, RD, g0, g4]
    refine hKr _ _ ?_
    clear hKr Kr
    try simp only [RN, reduceIte]
    try refine T_e rfl ?_
    refine T_csplit (p := (k : Int) < n) (by simp only [RA, ↓reduceIte, Nat.reduceEqDiff, Nat.reduceBEq, Nat.reduceSub, Nat.reduceAdd, Nat.reduceMul, Nat.reduceLT, Nat.reduceLeDiff, Int.reduceLE, Int.reduceLT, Int.reduceEq, Int.reduceNeg, Int.reduceToNat, Int.reduceMul, Int.reduceAdd, Int.reduceSub, Int.reduceBEq, Int.reduceBNe, reduceCtorEq] <;> rfl) (by (try simp only [RB]) <;> first | done | exact Iff.rfl | omega | simp) (fun hc => ?_) (fun hc => ?_) <;> (try simp only [RN, reduceIte]) <;> (try refine T_e rfl ?_)
    · have hk16 : k < 16 := by omega
      first | refine T_bfree rfl ?_ | refine T_bfree' rfl ?_
      try simp only [RN, reduceIte]
      try refine T_e rfl ?_
      refine T_rseq fun Kr hKr => ?_
      simp (disch := omega) only [RA, ↓reduceIte, Nat.reduceEqDiff, Nat.reduceBEq, Nat.reduceSub, Nat.reduceAdd, Nat.reduceMul, Nat.reduceLT, Nat.reduceLeDiff, Int.reduceLE, Int.reduceLT, Int.reduceEq, Int.reduceNeg, Int.reduceToNat, Int.reduceMul, Int.reduceAdd, Int.reduceSub, Int.reduceBEq, Int.reduceBNe, reduceCtorEq, RD, g3, g4, hlk]
      refine hKr _ _ ?_
      clear hKr Kr
      try simp only [RN, reduceIte]
      try refine T_e rfl ?_
      refine T_reg_k fun Kr hKr => ?_
      simp (disch := omega) only [RA, ↓reduceIte, Nat.reduceEqDiff, Nat.reduceBEq, Nat.reduceSub, Nat.reduceAdd, Nat.reduceMul, Nat.reduceLT, Nat.reduceLeDiff, Int.reduceLE, Int.reduceLT, Int.reduceEq, Int.reduceNeg, Int.reduceToNat, Int.reduceMul, Int.reduceAdd, Int.reduceSub, Int.reduceBEq, Int.reduceBNe, reduceCtorEq, RD, g4]
      refine hKr _ _ ?_
      clear hKr Kr
      refine hN (n.toNat - (k + 1)) _ _ _ _ (by omega) Gh.refl ⟨k + 1, by omega, rfl, ?_, ?_, ?_, ?_, rfl⟩
      any_goals (simp (disch := omega) only [RA, ↓reduceIte, Nat.reduceEqDiff, Nat.reduceBEq, Nat.reduceSub, Nat.reduceAdd, Nat.reduceMul, Nat.reduceLT, Nat.reduceLeDiff, Int.reduceLE, Int.reduceLT, Int.reduceEq, Int.reduceNeg, Int.reduceToNat, Int.reduceMul, Int.reduceAdd, Int.reduceSub, Int.reduceBEq, Int.reduceBNe, reduceCtorEq, RD, RE, *] <;> rfl)
    · refine hX _ _ ?_
      obtain rfl : k = n.toNat := by omega
      refine T_rseq fun Kr hKr => ?_
      simp (disch := omega) only [RA, ↓reduceIte, Nat.reduceEqDiff, Nat.reduceBEq, Nat.reduceSub, Nat.reduceAdd, Nat.reduceMul, Nat.reduceLT, Nat.reduceLeDiff, Int.reduceLE, Int.reduceLT, Int.reduceEq, Int.reduceNeg, Int.reduceToNat, Int.reduceMul, Int.reduceAdd, Int.reduceSub, Int.reduceBEq, Int.reduceBNe, reduceCtorEq, RD, g2, g3, hlk]
      refine hKr _ _ ?_
      clear hKr Kr
      try simp only [RN, reduceIte]
      try refine T_e rfl ?_
      refine bodyQ_ret (by simp (disch := omega) only [RA, ↓reduceIte, Nat.reduceEqDiff, Nat.reduceBEq, Nat.reduceSub, Nat.reduceAdd, Nat.reduceMul, Nat.reduceLT, Nat.reduceLeDiff, Int.reduceLE, Int.reduceLT, Int.reduceEq, Int.reduceNeg, Int.reduceToNat, Int.reduceMul, Int.reduceAdd, Int.reduceSub, Int.reduceBEq, Int.reduceBNe, reduceCtorEq, RD, resAll, resOf, g2, hlk]; rfl) GhV.refl ?_
      simp only [tup]
      exact ⟨NN_agg (by (simp only [RH])), hK⟩
section
variable {code : List Nat} {a : Nat} {h : Int}
end
end Go.Bm

/- All permutations in two orders (plain). -/
set_option linter.unusedVariables false
set_option linter.unusedSimpArgs false
set_option linter.unusedSectionVars false
namespace Go.Bm
open Go Go.Am

/-- The places of a permutation whose first numbers are given. -/
def pad (pre : List Nat) : List Nat := pre ++ List.replicate (16 - pre.length) 0
/-- One number after the other is placed. -/
def lv (n : Nat) : Nat → List Nat → List (List Nat)
  | 0, pre => [pad pre]
  | m + 1, pre => (List.range n).flatMap fun x => if x ∈ pre then [] else lv n m (pre ++ [x])
def swN (p : List Nat) (k i : Nat) : List Nat := (p.set k (nl p i)).set i (nl p k)
/-- Places are changed with later ones. -/
def sw (n : Nat) : Nat → List Nat → Nat → List (List Nat)
  | 0, p, k => [p]
  | m + 1, p, k => (List.range m.succ).flatMap fun d => sw n m (swN p k (k + d)) (k + 1)
/-- A permutation of n numbers as places. -/
def PQ (n : Nat) (q : List Nat) : Prop := Perm q n ∧ q.length = 16
theorem pad_len {pre : List Nat} (h : pre.length ≤ 16) : (pad pre).length = 16 := by simp [pad]; omega
theorem pad_nl {pre : List Nat} {i : Nat} : nl (pad pre) i = if i < pre.length then nl pre i else 0 := by
  rw [pad, nl_append]
  split
  · rfl
  · rw [nl_rep]; split <;> rfl
theorem flatMap_nod {α β : Type} {f : α → List β} : ∀ {l : List α}, l.Nodup → (∀ a ∈ l, (f a).Nodup) → (∀ a ∈ l, ∀ b ∈ l, a ≠ b → ∀ y ∈ f a, y ∉ f b) → (l.flatMap f).Nodup
  | [], _, _, _ => by simp
  | a :: l, hn, h1, h2 => by
    rw [List.flatMap_cons, List.nodup_append]
    rw [List.nodup_cons] at hn
    refine ⟨h1 a (by simp), flatMap_nod hn.2 (fun b hb => h1 b (by simp [hb])) fun b hb c hc => h2 b (by simp [hb]) c (by simp [hc]), fun x hx y hy e => ?_⟩
    subst e
    obtain ⟨b, hb, hxb⟩ := List.mem_flatMap.1 hy
    exact h2 a (by simp) b (by simp [hb]) (fun e => hn.1 (e ▸ hb)) x hx hxb
section
variable {n : Nat}
/-- What is placed so far. -/
structure Pfx (n : Nat) (pre : List Nat) : Prop where
  nod : pre.Nodup
  lt : ∀ x ∈ pre, x < n
  len : pre.length ≤ n
theorem lv_mem (hn : 1 ≤ n ∧ n ≤ 16) : ∀ (m : Nat) {pre : List Nat}, Pfx n pre → pre.length + m = n → ∀ q, q ∈ lv n m pre ↔ PQ n q ∧ q.take pre.length = pre
  | 0, pre, h, hm, q => by
    rw [lv, List.mem_singleton]
    have hl : pre.length = n := by omega
    constructor
    · rintro rfl
      refine ⟨⟨.of hn (fun i h1 h2 => by rw [pad_nl, if_neg (by omega)]) (fun i hi => ?_) (fun i j hi hj e => ?_), pad_len (by omega)⟩, ?_⟩
      · rw [pad_nl, if_pos (by omega)]
        exact h.lt _ (nl_mem (by omega))
      · rw [pad_nl, pad_nl, if_pos (by omega), if_pos (by omega)] at e
        have := nod_nl h.nod (by omega) (by omega) e
        omega
      · rw [pad, List.take_left]
    · rintro ⟨⟨hp, hl16⟩, ht⟩
      refine nl_ext (by rw [hl16, pad_len (by omega)]) fun i hi => ?_
      rw [pad_nl]
      by_cases hin : i < pre.length
      · rw [if_pos hin, ← ht]
        simp [nl, List.getD, List.getElem?_take, hin]
      · rw [if_neg hin]
        exact hp.zero (by omega) (by omega)
  | m + 1, pre, h, hm, q => by
    rw [lv, List.mem_flatMap]
    constructor
    · rintro ⟨x, hx, hq⟩
      split at hq
      · simp at hq
      · rename_i hxp
        have h' : Pfx n (pre ++ [x]) := ⟨by
          rw [List.nodup_append]
          exact ⟨h.nod, by simp, fun a ha b hb e => by rw [List.mem_singleton] at hb; subst hb; subst e; exact hxp ha⟩, fun y hy => by
          rcases List.mem_append.1 hy with hy | hy
          · exact h.lt y hy
          · rw [List.mem_singleton] at hy; subst hy; exact List.mem_range.1 hx, by simp; omega⟩
        obtain ⟨h1, h2⟩ := (lv_mem hn m h' (by simp; omega) q).1 hq
        refine ⟨h1, ?_⟩
        have := congrArg (List.take pre.length) h2
        rwa [List.take_take, List.take_left, List.length_append, Nat.min_eq_left (by omega)] at this
    · rintro ⟨⟨hp, hl16⟩, ht⟩
      have hin : pre.length < n := by omega
      have hxn := hp.lt hin
      have hnot : nl q pre.length ∉ pre := fun hmem => by
        obtain ⟨j, hj, he⟩ := mem_nl hmem
        have : nl q j = nl pre j := by
          rw [← ht]
          simp [nl, List.getD, List.getElem?_take, hj]
        have := hp.inj (by omega) hin (this.trans he)
        omega
      refine ⟨nl q pre.length, List.mem_range.2 hxn, ?_⟩
      rw [if_neg hnot]
      have h' : Pfx n (pre ++ [nl q pre.length]) := ⟨by
          rw [List.nodup_append]
          exact ⟨h.nod, by simp, fun a ha b hb e => by rw [List.mem_singleton] at hb; subst hb; subst e; exact hnot ha⟩, fun y hy => by
          rcases List.mem_append.1 hy with hy | hy
          · exact h.lt y hy
          · rw [List.mem_singleton] at hy; subst hy; exact hxn, by simp; omega⟩
      refine (lv_mem hn m h' (by simp; omega) q).2 ⟨⟨hp, hl16⟩, ?_⟩
      rw [List.length_append, List.length_singleton, List.take_add_one, ht]
      congr 1
      simp [nl, List.getD, show pre.length < q.length by omega]
theorem lv_nod (hn : 1 ≤ n ∧ n ≤ 16) : ∀ (m : Nat) {pre : List Nat}, Pfx n pre → pre.length + m = n → (lv n m pre).Nodup
  | 0, pre, _, _ => by simp [lv]
  | m + 1, pre, h, hm => by
    have h' : ∀ x, x < n → x ∉ pre → Pfx n (pre ++ [x]) := fun x hx hxp => ⟨by
          rw [List.nodup_append]
          exact ⟨h.nod, by simp, fun a ha b hb e => by rw [List.mem_singleton] at hb; subst hb; subst e; exact hxp ha⟩, fun y hy => by
          rcases List.mem_append.1 hy with hy | hy
          · exact h.lt y hy
          · rw [List.mem_singleton] at hy; subst hy; exact hx, by simp; omega⟩
    refine flatMap_nod List.nodup_range (fun x hx => ?_) fun x hx y hy hxy q hq hq' => ?_
    · split
      · exact List.nodup_nil
      · rename_i hxp
        exact lv_nod hn m (h' x (List.mem_range.1 hx) hxp) (by simp; omega)
    · split at hq
      · simp at hq
      · rename_i hxp
        split at hq'
        · simp at hq'
        · rename_i hyp
          have h1 := ((lv_mem hn m (h' x (List.mem_range.1 hx) hxp) (by simp; omega) q).1 hq).2
          have h2 := ((lv_mem hn m (h' y (List.mem_range.1 hy) hyp) (by simp; omega) q).1 hq').2
          rw [List.length_append, List.length_singleton] at h1 h2
          rw [h1] at h2
          have := List.append_cancel_left h2
          simp at this
          exact hxy this
theorem swN_nl {p : List Nat} {k i j : Nat} (hl : p.length = 16) (hk : k < 16) (hi : i < 16) : nl (swN p k i) j = if j = i then nl p k else if j = k then nl p i else nl p j := by
  rw [swN, nl_set, nl_set, List.length_set, hl]
  by_cases e1 : j = i
  · rw [if_pos ⟨e1, by omega⟩, if_pos e1]
  · rw [if_neg (by omega), if_neg e1]
    by_cases e2 : j = k
    · rw [if_pos ⟨e2, by omega⟩, if_pos e2]
    · rw [if_neg (by omega), if_neg e2]
theorem swN_pq {p : List Nat} {k i : Nat} (h : PQ n p) (hk : k < n) (hi : i < n) : PQ n (swN p k i) := ⟨h.1.swap h.2 hk hi, by rw [swN, List.length_set, List.length_set, h.2]⟩
theorem sw_mem : ∀ (m : Nat) {p : List Nat} {k : Nat}, PQ n p → k + m = n → ∀ q, q ∈ sw n m p k ↔ PQ n q ∧ ∀ j, j < k → nl q j = nl p j
  | 0, p, k, h, hm, q => by
    rw [sw, List.mem_singleton]
    constructor
    · rintro rfl
      exact ⟨h, fun _ _ => rfl⟩
    · rintro ⟨hq, he⟩
      refine nl_ext (by rw [hq.2, h.2]) fun i hi => ?_
      rcases Nat.lt_or_ge i k with h1 | h1
      · exact he i h1
      · rw [hq.1.zero (by omega) (by have := hq.2; omega), h.1.zero (by omega) (by have := hq.2; omega)]
  | m + 1, p, k, h, hm, q => by
    have hn := h.1.1
    have hl := h.2
    rw [sw, List.mem_flatMap]
    constructor
    · rintro ⟨d, hd, hq⟩
      have hd' : d < m + 1 := List.mem_range.1 hd
      obtain ⟨h1, h2⟩ := (sw_mem m (swN_pq h (show k < n by omega) (show k + d < n by omega)) (by omega) q).1 hq
      refine ⟨h1, fun j hj => ?_⟩
      rw [h2 j (by omega), swN_nl hl (by omega) (by omega), if_neg (by omega), if_neg (by omega)]
    · rintro ⟨hq, he⟩
      obtain ⟨i, hi, hie⟩ := h.1.surj (hq.1.lt (show k < n by omega))
      have hki : k ≤ i := by
        rcases Nat.lt_or_ge i k with h1 | h1
        · have := hq.1.inj (show i < n by omega) (show k < n by omega) ((he i h1).trans hie)
          omega
        · exact h1
      refine ⟨i - k, List.mem_range.2 (by omega), ?_⟩
      rw [show k + (i - k) = i by omega]
      refine (sw_mem m (swN_pq h (by omega) hi) (by omega) q).2 ⟨hq, fun j hj => ?_⟩
      rw [swN_nl hl (by omega) (by omega)]
      by_cases e1 : j = k
      · subst e1
        by_cases e2 : j = i
        · rw [if_pos e2, ← hie, e2]
        · rw [if_neg e2, if_pos rfl, hie]
      · rw [if_neg (by omega), if_neg e1]
        exact he j (by omega)
theorem sw_nod : ∀ (m : Nat) {p : List Nat} {k : Nat}, PQ n p → k + m = n → (sw n m p k).Nodup
  | 0, p, k, _, _ => by simp [sw]
  | m + 1, p, k, h, hm => by
    have hn := h.1.1
    have hl := h.2
    have hs : ∀ d, d < m + 1 → PQ n (swN p k (k + d)) := fun d hd => swN_pq h (by omega) (by omega)
    refine flatMap_nod List.nodup_range (fun d hd => sw_nod m (hs d (List.mem_range.1 hd)) (by omega)) fun d hd e he hde q hq hq' => ?_
    rw [List.mem_range] at hd he
    have h1 := ((sw_mem m (hs d hd) (by omega) q).1 hq).2 k (by omega)
    have h2 := ((sw_mem m (hs e he) (by omega) q).1 hq').2 k (by omega)
    have key : ∀ d, d < m + 1 → nl (swN p k (k + d)) k = nl p (k + d) := fun d hd => by
      rw [swN_nl hl (by omega) (by omega)]
      by_cases e : k = k + d
      · rw [if_pos e, ← e]
      · rw [if_neg e, if_pos rfl]
    rw [key d hd] at h1
    rw [key e he] at h2
    have := h.1.inj (show k + d < n by omega) (show k + e < n by omega) (h1.symm.trans h2)
    omega
/-- Both orders name the same permutations. -/
theorem lv_sw (hn : 1 ≤ n ∧ n ≤ 16) : (lv n n []).Perm (sw n n (idK n) 0) := by
  have hid : PQ n (idK n) := ⟨idK_perm hn, idK_len⟩
  refine (List.perm_ext_iff_of_nodup (lv_nod hn n ⟨by simp, by simp, by simp⟩ (by simp)) (sw_nod n hid (by omega))).2 fun q => ?_
  rw [lv_mem hn n ⟨by simp, by simp, by simp⟩ (by simp), sw_mem n hid (by omega)]
  simp
end
end Go.Bm

/- All types of a number. -/
set_option linter.unusedVariables false
set_option linter.unusedSimpArgs false
namespace Go.Bm
open Go Go.Am

end Go.Bm

/- All types of a number: the walks. -/
set_option linter.unusedVariables false
set_option linter.unusedSimpArgs false
namespace Go.Bm
open Go Go.Am

end Go.Bm

/- Draws: dessins. -/
set_option linter.unusedVariables false
set_option linter.unusedSimpArgs false
namespace Go.Bm
open Go Go.Am

section
variable {code : List Nat} {a : Nat} {h : Int}
end
end Go.Bm

/- All types of a number: the reference's walk. -/
set_option linter.unusedVariables false
set_option linter.unusedSimpArgs false
namespace Go.Bm
open Go Go.Am

end Go.Bm

/- What laws do with slices: equal, marked, held. -/
set_option linter.unusedVariables false
set_option linter.unusedSimpArgs false
namespace Go.Bm
open Go Go.Am

/-- A slice of numbers: nil, a block of one's own, or one that is only read. -/
def Sl (H : BH) (v : Value) (xs : List Int) : Prop := (v = .slice none 0 0 ∧ xs = []) ∨ (∃ i, v = S i 0 xs.length 1 ∧ blk H i = some (xs.map I)) ∨ v = FI xs
theorem Sl.own {H : BH} {i : Nat} {xs : List Int} (h : blk H i = some (xs.map I)) : Sl H (S i 0 xs.length 1) xs := .inr (.inl ⟨i, rfl, h⟩)
theorem Sl.fz {H : BH} {xs : List Int} : Sl H (FI xs) xs := .inr (.inr rfl)
theorem Sl.nil {H : BH} : Sl H (.slice none 0 0) [] := .inl ⟨rfl, rfl⟩
theorem Sl.len {H : BH} {v : Value} {xs : List Int} (h : Sl H v xs) : lenW v = some (I xs.length) := by
  rcases h with ⟨rfl, rfl⟩ | ⟨i, rfl, _⟩ | rfl <;> rfl
theorem Sl.get {H : BH} {v : Value} {xs : List Int} (h : Sl H v xs) {j : Nat} (hj : j < xs.length) : ∃ p, idxW 1 v (I j) = some p ∧ loadW none H p = some (I (el xs j)) := by
  rcases h with ⟨rfl, rfl⟩ | ⟨i, rfl, hb⟩ | rfl
  · simp at hj
  · refine ⟨_, idxW_s (by omega), ?_⟩
    rw [loadW_p, hb, getO_some, getN_I0 (by omega)]
    simp
  · refine ⟨_, idxW_fz (by omega), ?_⟩
    rw [loadW_fp, getN_I0 (by omega)]
    simp
theorem eqInt64S_spec {v u : Value} {xs ys : List Int} {H : BH} {K : Value → BH → Prop} (hv : Sl H v xs) (hu : Sl H u ys) (hl : xs.length < 4611686018427387904) (hl' : ys.length < 4611686018427387904) (hK : K (.bool (decide (xs = ys))) H) :
    CallX false F_laws_eqInt64S [v, u] H K := by
  have v1 := hv.len
  have u1 := hu.len
  refine CallX_body Γ_laws_eqInt64S ?_
  simp only [A_laws_eqInt64S, T_aiff]
  refine T_rseq fun Kr hKr => ?_
  simp (disch := omega) only [RA, ↓reduceIte, Nat.reduceEqDiff, RD]
  refine hKr _ _ ?_
  clear hKr Kr
  try simp only [RN, reduceIte]
  try refine T_e rfl ?_
  refine T_rseq fun Kr hKr => ?_
  simp (disch := omega) only [RA, ↓reduceIte, Nat.reduceEqDiff, RD, v1, u1]
  refine hKr _ _ ?_
  clear hKr Kr
  try simp only [RN, reduceIte]
  try refine T_e rfl ?_
  refine T_csplit (p := ¬ xs.length = ys.length) (by simp only [RA, ↓reduceIte, Nat.reduceEqDiff] <;> rfl) (by (try simp only [RB]) <;> first | done | exact Iff.rfl | omega | simp) (fun hc => ?_) (fun hc => ?_) <;> (try simp only [RN, reduceIte]) <;> (try refine T_e rfl ?_)
  · refine T_rseq fun Kr hKr => ?_
    simp (disch := omega) only [RA, ↓reduceIte, Nat.reduceEqDiff, RD]
    refine hKr _ _ ?_
    clear hKr Kr
    try simp only [RN, reduceIte]
    try refine T_e rfl ?_
    refine bodyQ_ret (by simp (disch := omega) only [RA, ↓reduceIte, Nat.reduceEqDiff, RD, resAll, resOf]; rfl) GhV.refl ?_
    simp only [tup]
    rw [show decide (xs = ys) = false by simp; intro e; exact hc (by rw [e])] at hK
    exact hK
  have hll := Decidable.not_not.1 hc
  clear hc
  refine T_rseq fun Kr hKr => ?_
  simp (disch := omega) only [RA, ↓reduceIte, Nat.reduceEqDiff, RD]
  refine hKr _ _ ?_
  clear hKr Kr
  try simp only [RN, reduceIte]
  try refine T_e rfl ?_
  refine T_wloop (fun m f H' => ∃ i, i ≤ xs.length ∧ m = xs.length - i ∧ (∀ j, j < i → el xs j = el ys j) ∧ f 0 = v ∧ f 1 = u ∧ f 5 = I i ∧ H' = H) (xs.length) ?_ ?_
  · refine ⟨_, _, Gh.refl, 0, by omega, by omega, fun j hj => by omega, ?_, ?_, ?_, rfl⟩
    any_goals (simp (disch := omega) only [RA, ↓reduceIte, Nat.reduceEqDiff, RD, RE, *] <;> rfl)
  · rintro m f H' R ⟨i, hi, rfl, he, g0, g1, g5, rfl⟩ hN hX hR hE
    simp only [A_laws_eqInt64S.l0, T_aiff]
    refine T_rseq fun Kr hKr => ?_
    simp (disch := omega) only [RA, ↓reduceIte, Nat.reduceEqDiff, RD, g0, g5, v1]
    refine hKr _ _ ?_
    clear hKr Kr
    try simp only [RN, reduceIte]
    try refine T_e rfl ?_
    refine T_csplit (p := i < xs.length) (by simp only [RA, ↓reduceIte, Nat.reduceEqDiff] <;> rfl) (by (try simp only [RB]) <;> first | done | exact Iff.rfl | omega | simp) (fun hc => ?_) (fun hc => ?_) <;> (try simp only [RN, reduceIte]) <;> (try refine T_e rfl ?_)
    · obtain ⟨p, p1, p2⟩ := hv.get hc
      obtain ⟨q, q1, q2⟩ := hu.get (show i < ys.length by omega)
      first | refine T_bfree rfl ?_ | refine T_bfree' rfl ?_
      try simp only [RN, reduceIte]
      try refine T_e rfl ?_
      refine T_rseq fun Kr hKr => ?_
      simp (disch := omega) only [RA, ↓reduceIte, Nat.reduceEqDiff, RD, g0, g1, g5, p1, p2, q1, q2]
      refine hKr _ _ ?_
      clear hKr Kr
      try simp only [RN, reduceIte]
      try refine T_e rfl ?_
      refine T_csplit (p := ¬ el xs i = el ys i) (by simp only [RA, ↓reduceIte, Nat.reduceEqDiff] <;> rfl) (by (try simp only [RB]) <;> first | done | exact Iff.rfl | omega | simp) (fun hc => ?_) (fun hc => ?_) <;> (try simp only [RN, reduceIte]) <;> (try refine T_e rfl ?_)
      · refine T_rseq fun Kr hKr => ?_
        simp (disch := omega) only [RA, ↓reduceIte, Nat.reduceEqDiff, RD]
        refine hKr _ _ ?_
        clear hKr Kr
        try simp only [RN, reduceIte]
        try refine T_e rfl ?_
        refine hR _ _ ?_
        refine bodyQ_ret (by simp (disch := omega) only [RA, ↓reduceIte, Nat.reduceEqDiff, RD, resAll, resOf]; rfl) GhV.refl ?_
        simp only [tup]
        rw [show decide (xs = ys) = false by simp; intro e; exact hc (by rw [e])] at hK
        exact hK
      have hee := Decidable.not_not.1 hc
      refine T_reg_k fun Kr hKr => ?_
      simp (disch := omega) only [RA, ↓reduceIte, Nat.reduceEqDiff, RD, g5]
      refine hKr _ _ ?_
      clear hKr Kr
      have he' : ∀ j, j < i + 1 → el xs j = el ys j := fun j hj => by
        by_cases e : j = i
        · rw [e]; exact hee
        · exact he j (by omega)
      refine hN (xs.length - (i + 1)) _ _ _ _ (by omega) Gh.refl ⟨i + 1, by omega, rfl, he', ?_, ?_, ?_, rfl⟩
      any_goals (simp (disch := omega) only [RA, ↓reduceIte, Nat.reduceEqDiff, RD, RE, *] <;> rfl)
    · refine hX _ _ ?_
      have e : xs = ys := by
        apply List.ext_getElem hll
        intro j h1 h2
        have := he j (by omega)
        simpa [el, List.getD, h1, h2] using this
      rw [show decide (xs = ys) = true by simp [e]] at hK
      refine T_rseq fun Kr hKr => ?_
      simp (disch := omega) only [RA, ↓reduceIte, Nat.reduceEqDiff, RD]
      refine hKr _ _ ?_
      clear hKr Kr
      try simp only [RN, reduceIte]
      try refine T_e rfl ?_
      refine bodyQ_ret (by simp (disch := omega) only [RA, ↓reduceIte, Nat.reduceEqDiff, RD, resAll, resOf]; rfl) GhV.refl ?_
      simp only [tup]
      exact hK
theorem el_set {xs : List Int} {i j : Nat} {c : Int} : el (xs.set i c) j = if j = i ∧ i < xs.length then c else el xs j := by
  unfold el
  simp only [List.getD]
  rw [List.getElem?_set]
  by_cases h : i = j
  · subst h
    by_cases h2 : i < xs.length
    · simp [h2]
    · simp [h2]
  · rw [if_neg h, if_neg (fun e => h e.1.symm)]
end Go.Bm

/- Slices of slices in laws; sums and types of lists; passports. -/
set_option linter.unusedVariables false
set_option linter.unusedSimpArgs false
namespace Go.Bm
open Go Go.Am

theorem getD_mem' {α : Type} {ls : List α} {d : α} {j : Nat} (h : j < ls.length) : ls.getD j d ∈ ls := by simp [List.getD, h]
theorem szInt64S_spec {x : Bool} {xs : List Int} {a : Int} {H : BH} {K : Value → BH → Prop} (ha : 0 ≤ a ∧ a ≤ 1048576) (hl : xs.length ≤ 9223372036854775807)
    (hK : K (I (if a - xs.length < 0 then -1 else a - xs.length)) H) : CallX x F_laws_szInt64S [FI xs, I a] H K := by
  refine callP (.cons .fz (.cons .int .nil)) ?_
  refine CallX_body Γ_laws_szInt64S ?_
  simp only [A_laws_szInt64S, T_aiff]
  refine T_rseq fun Kr hKr => ?_
  simp (disch := omega) only [RA, ↓reduceIte, Nat.reduceEqDiff, RD]
  refine hKr _ _ ?_
  clear hKr Kr
  try simp only [RN, reduceIte]
  try refine T_e rfl ?_
  refine T_rseq fun Kr hKr => ?_
  simp (disch := omega) only [RA, ↓reduceIte, Nat.reduceEqDiff, RD]
  refine hKr _ _ ?_
  clear hKr Kr
  try simp only [RN, reduceIte]
  try refine T_e rfl ?_
  refine T_rseq fun Kr hKr => ?_
  simp (disch := omega) only [RA, ↓reduceIte, Nat.reduceEqDiff, RD]
  refine hKr _ _ ?_
  clear hKr Kr
  try simp only [RN, reduceIte]
  try refine T_e rfl ?_
  refine T_csplit (p := a - xs.length < 0) (by simp only [RA, ↓reduceIte, Nat.reduceEqDiff] <;> rfl) (by (try simp only [RB]) <;> first | done | exact Iff.rfl | omega | simp) (fun hc => ?_) (fun hc => ?_) <;> (try simp only [RN, reduceIte]) <;> (try refine T_e rfl ?_)
  · refine T_rseq fun Kr hKr => ?_
    simp (disch := omega) only [RA, ↓reduceIte, Nat.reduceEqDiff, RD]
    refine hKr _ _ ?_
    clear hKr Kr
    try simp only [RN, reduceIte]
    try refine T_e rfl ?_
    refine bodyQ_ret (by simp (disch := omega) only [RA, ↓reduceIte, Nat.reduceEqDiff, RD, resAll, resOf]; rfl) GhV.refl ?_
    simp only [tup]
    rw [if_pos hc] at hK
    exact ⟨.int, hK⟩
  · refine T_rseq fun Kr hKr => ?_
    simp (disch := omega) only [RA, ↓reduceIte, Nat.reduceEqDiff, RD]
    refine hKr _ _ ?_
    clear hKr Kr
    try simp only [RN, reduceIte]
    try refine T_e rfl ?_
    refine bodyQ_ret (by simp (disch := omega) only [RA, ↓reduceIte, Nat.reduceEqDiff, RD, resAll, resOf]; rfl) GhV.refl ?_
    simp only [tup]
    rw [if_neg hc] at hK
    exact ⟨.int, hK⟩
theorem getN_FI {xs : List (List Int)} {k : Nat} (h : k < xs.length) : getN none (xs.map FI) k = some (FI (xs.getD k [])) := by
  simp [getN, h, List.getD]
theorem szInt64SS_spec {x : Bool} {xss : List (List Int)} {H : BH} {K : Value → BH → Prop} (hl : xss.length ≤ 9223372036854775807) (hll : ∀ xs ∈ xss, xs.length ≤ 9223372036854775807)
    (hK : ∀ r : Int, r ≤ 1048576 → -1 ≤ r → (0 ≤ r → xss.length ≤ 1048576 ∧ ∀ xs ∈ xss, xs.length ≤ 1048576) → K (I r) H) : CallX x F_laws_szInt64SS [FII xss, I 1048576] H K := by
  refine callP (.cons .fz (.cons .int .nil)) ?_
  refine CallX_body Γ_laws_szInt64SS ?_
  simp only [A_laws_szInt64SS, T_aiff]
  refine T_rseq fun Kr hKr => ?_
  simp (disch := omega) only [RA, ↓reduceIte, Nat.reduceEqDiff, RD]
  refine hKr _ _ ?_
  clear hKr Kr
  try simp only [RN, reduceIte]
  try refine T_e rfl ?_
  refine T_rseq fun Kr hKr => ?_
  simp (disch := omega) only [RA, ↓reduceIte, Nat.reduceEqDiff, RD]
  refine hKr _ _ ?_
  clear hKr Kr
  try simp only [RN, reduceIte]
  try refine T_e rfl ?_
  refine T_rseq fun Kr hKr => ?_
  simp (disch := omega) only [RA, ↓reduceIte, Nat.reduceEqDiff, RD]
  refine hKr _ _ ?_
  clear hKr Kr
  try simp only [RN, reduceIte]
  try refine T_e rfl ?_
  refine T_csplit (p := (1048576 : Int) - xss.length < 0) (by simp only [RA, ↓reduceIte, Nat.reduceEqDiff] <;> rfl) (by (try simp only [RB]) <;> first | done | exact Iff.rfl | omega | simp) (fun hc => ?_) (fun hc => ?_) <;> (try simp only [RN, reduceIte]) <;> (try refine T_e rfl ?_)
  · refine T_rseq fun Kr hKr => ?_
    simp (disch := omega) only [RA, ↓reduceIte, Nat.reduceEqDiff, RD]
    refine hKr _ _ ?_
    clear hKr Kr
    try simp only [RN, reduceIte]
    try refine T_e rfl ?_
    refine bodyQ_ret (by simp (disch := omega) only [RA, ↓reduceIte, Nat.reduceEqDiff, RD, resAll, resOf]; rfl) GhV.refl ?_
    simp only [tup]
    exact ⟨.int, hK (-1) (by omega) (by omega) (fun h => by omega)⟩
  have hxl : xss.length ≤ 1048576 := by omega
  clear hc
  refine T_rseq fun Kr hKr => ?_
  simp (disch := omega) only [RA, ↓reduceIte, Nat.reduceEqDiff, RD]
  refine hKr _ _ ?_
  clear hKr Kr
  try simp only [RN, reduceIte]
  try refine T_e rfl ?_
  refine T_wloop (fun m f H' => ∃ i a, i ≤ xss.length ∧ m = xss.length - i ∧ 0 ≤ a ∧ a ≤ 1048576 ∧ (∀ j, j < i → (xss.getD j []).length ≤ 1048576) ∧ f 0 = FII xss ∧ f 1 = I a ∧ f 5 = I i ∧ H' = []) (xss.length) ?_ ?_
  · refine ⟨_, _, Gh.refl, 0, 1048576 - (xss.length : Int), by omega, by omega, by omega, by omega, fun j hj => by omega, ?_, ?_, ?_, rfl⟩
    any_goals (simp (disch := omega) only [RA, ↓reduceIte, Nat.reduceEqDiff, RD, RE, *] <;> rfl)
  · rintro m f H' R ⟨i, a, hi, rfl, ha0, ha1, hall, g0, g1, g5, rfl⟩ hN hX hR hE
    simp only [A_laws_szInt64SS.l0, T_aiff]
    refine T_rseq fun Kr hKr => ?_
    simp (disch := omega) only [RA, ↓reduceIte, Nat.reduceEqDiff, RD, g0, g5]
    refine hKr _ _ ?_
    clear hKr Kr
    try simp only [RN, reduceIte]
    try refine T_e rfl ?_
    refine T_csplit (p := i < xss.length) (by simp only [RA, ↓reduceIte, Nat.reduceEqDiff] <;> rfl) (by (try simp only [RB]) <;> first | done | exact Iff.rfl | omega | simp) (fun hc => ?_) (fun hc => ?_) <;> (try simp only [RN, reduceIte]) <;> (try refine T_e rfl ?_)
    · have hxi := hll _ (getD_mem' (d := []) hc)
      first | refine T_bfree rfl ?_ | refine T_bfree' rfl ?_
      try simp only [RN, reduceIte]
      try refine T_e rfl ?_
      refine T_rseq fun Kr hKr => ?_
      simp (disch := omega) only [RA, ↓reduceIte, Nat.reduceEqDiff, RD, g0, g1, g5, getN_FI]
      refine szInt64S_spec ⟨ha0, ha1⟩ hxi ?_
      by_cases hneg : a - (xss.getD i []).length < 0
      · rw [if_pos hneg]
        simp (disch := omega) only [RA, ↓reduceIte, Nat.reduceEqDiff, RD]
        refine hKr _ _ ?_
        clear hKr Kr
        try simp only [blkQ, thenQ, loopQ]
        try simp only [RN, reduceIte]
        try refine T_e rfl ?_
        refine T_rseq fun Kr hKr => ?_
        simp (disch := omega) only [RA, ↓reduceIte, Nat.reduceEqDiff, RD]
        refine hKr _ _ ?_
        clear hKr Kr
        try simp only [RN, reduceIte]
        try refine T_e rfl ?_
        refine T_cseq (t := true) (by simp (disch := omega) only [RA, ↓reduceIte, Nat.reduceEqDiff, RD]) ?_
        try simp only [RN, reduceIte]
        try refine T_e rfl ?_
        refine T_rseq fun Kr hKr => ?_
        simp (disch := omega) only [RA, ↓reduceIte, Nat.reduceEqDiff, RD]
        refine hKr _ _ ?_
        clear hKr Kr
        try simp only [RN, reduceIte]
        try refine T_e rfl ?_
        refine hR _ _ ?_
        refine bodyQ_ret (by simp (disch := omega) only [RA, ↓reduceIte, Nat.reduceEqDiff, RD, resAll, resOf]; rfl) GhV.refl ?_
        simp only [tup]
        exact ⟨.int, hK (-1) (by omega) (by omega) (fun h => by omega)⟩
      · rw [if_neg hneg]
        have hall' : ∀ j, j < i + 1 → (xss.getD j []).length ≤ 1048576 := fun j hj => by
          by_cases e : j = i
          · rw [e]; omega
          · exact hall j (by omega)
        simp (disch := omega) only [RA, ↓reduceIte, Nat.reduceEqDiff, RD]
        refine hKr _ _ ?_
        clear hKr Kr
        try simp only [blkQ, thenQ, loopQ]
        try simp only [RN, reduceIte]
        try refine T_e rfl ?_
        refine T_rseq fun Kr hKr => ?_
        simp (disch := omega) only [RA, ↓reduceIte, Nat.reduceEqDiff, RD]
        refine hKr _ _ ?_
        clear hKr Kr
        try simp only [RN, reduceIte]
        try refine T_e rfl ?_
        refine T_cseq (t := false) (by simp (disch := omega) only [RA, ↓reduceIte, Nat.reduceEqDiff, RD]) ?_
        try simp only [RN, reduceIte]
        try refine T_e rfl ?_
        refine T_reg_k fun Kr hKr => ?_
        simp (disch := omega) only [RA, ↓reduceIte, Nat.reduceEqDiff, RD, g5]
        refine hKr _ _ ?_
        clear hKr Kr
        refine hN (xss.length - (i + 1)) _ _ _ _ (by omega) Gh.refl ⟨i + 1, a - (xss.getD i []).length, by omega, rfl, by omega, by omega, hall', ?_, ?_, ?_, rfl⟩
        any_goals (simp (disch := omega) only [RA, ↓reduceIte, Nat.reduceEqDiff, RD, RE, *] <;> rfl)
    · refine hX _ _ ?_
      refine T_rseq fun Kr hKr => ?_
      simp (disch := omega) only [RA, ↓reduceIte, Nat.reduceEqDiff, RD, g1]
      refine hKr _ _ ?_
      clear hKr Kr
      try simp only [RN, reduceIte]
      try refine T_e rfl ?_
      refine bodyQ_ret (by simp (disch := omega) only [RA, ↓reduceIte, Nat.reduceEqDiff, RD, resAll, resOf]; rfl) GhV.refl ?_
      simp only [tup]
      refine ⟨.int, hK a ha1 (by omega) fun _ => ⟨hxl, fun xs hxs => ?_⟩⟩
      obtain ⟨j, hj, rfl⟩ := List.mem_iff_getElem.1 hxs
      have := hall j (by omega)
      simpa [List.getD, hj] using this
def cpI (xs : List Int) : Nat → List Int
  | 0 => List.replicate xs.length 0
  | k + 1 => (cpI xs k).set k (el xs k)
theorem cpI_len {xs : List Int} {k : Nat} : (cpI xs k).length = xs.length := by
  induction k with
  | zero => simp [cpI]
  | succ k ih => simp [cpI, ih]
theorem cpI_el {xs : List Int} {k i : Nat} (hi : i < xs.length) (hk : i < k) : el (cpI xs k) i = el xs i := by
  induction k with
  | zero => omega
  | succ k ih =>
    rw [cpI, el_set, cpI_len]
    by_cases e : i = k
    · subst e; rw [if_pos ⟨rfl, hi⟩]
    · rw [if_neg (fun h => e h.1), ih (by omega)]
theorem cpI_all {xs : List Int} : cpI xs xs.length = xs := by
  apply List.ext_getElem cpI_len
  intro i h1 h2
  have := cpI_el (k := xs.length) h2 h2
  simpa [el, List.getD, h1, h2] using this
theorem toInt64S_run {xs : List Int} (hl : xs.length ≤ 1048576) : CallX false F_laws_toInt64S [FI xs] [] fun v H1 => ∃ j, v = S j 0 xs.length 1 ∧ blk H1 j = some (xs.map I) := by
  refine CallX_body Γ_laws_toInt64S ?_
  simp only [A_laws_toInt64S, T_aiff]
  refine T_rseq fun Kr hKr => ?_
  simp (disch := omega) only [RA, ↓reduceIte, Nat.reduceEqDiff, RD]
  refine hKr _ _ ?_
  clear hKr Kr
  try simp only [RN, reduceIte]
  try refine T_e rfl ?_
  refine T_rseq fun Kr hKr => ?_
  simp (disch := omega) only [RA, ↓reduceIte, Nat.reduceEqDiff, RD]
  refine hKr _ _ ?_
  clear hKr Kr
  try simp only [RN, reduceIte]
  try refine T_e rfl ?_
  refine T_rseq fun Kr hKr => ?_
  simp (disch := omega) only [RA, ↓reduceIte, Nat.reduceEqDiff, RD]
  refine hKr _ _ ?_
  clear hKr Kr
  try simp only [RN, reduceIte]
  try refine T_e rfl ?_
  refine T_wloop (fun m f H' => ∃ i, i ≤ xs.length ∧ m = xs.length - i ∧ f 0 = FI xs ∧ f 3 = S 0 0 xs.length 1 ∧ f 4 = I i ∧ H' = [some ((cpI xs i).map I)]) (xs.length) ?_ ?_
  · refine ⟨_, _, Gh.refl, 0, by omega, by omega, ?_, ?_, ?_, by simp [cpI]⟩
    any_goals (simp (disch := omega) only [RA, ↓reduceIte, Nat.reduceEqDiff, RD, RE, *] <;> rfl)
  · rintro m f H' R ⟨i, hi, rfl, g0, g3, g4, rfl⟩ hN hX hR hE
    simp only [A_laws_toInt64S.l0, T_aiff]
    have hcl := @cpI_len xs i
    refine T_rseq fun Kr hKr => ?_
    simp (disch := omega) only [RA, ↓reduceIte, Nat.reduceEqDiff, RD, g0, g4]
    refine hKr _ _ ?_
    clear hKr Kr
    try simp only [RN, reduceIte]
    try refine T_e rfl ?_
    refine T_csplit (p := i < xs.length) (by simp only [RA, ↓reduceIte, Nat.reduceEqDiff] <;> rfl) (by (try simp only [RB]) <;> first | done | exact Iff.rfl | omega | simp) (fun hc => ?_) (fun hc => ?_) <;> (try simp only [RN, reduceIte]) <;> (try refine T_e rfl ?_)
    · first | refine T_bfree rfl ?_ | refine T_bfree' rfl ?_
      try simp only [RN, reduceIte]
      try refine T_e rfl ?_
      refine T_rseq fun Kr hKr => ?_
      simp (disch := omega) only [RA, ↓reduceIte, Nat.reduceEqDiff, RD, g0, g3, g4, hcl]
      refine hKr _ _ ?_
      clear hKr Kr
      try simp only [RN, reduceIte]
      try refine T_e rfl ?_
      refine T_reg_k fun Kr hKr => ?_
      simp (disch := omega) only [RA, ↓reduceIte, Nat.reduceEqDiff, RD, g4]
      refine hKr _ _ ?_
      clear hKr Kr
      refine hN (xs.length - (i + 1)) _ _ _ _ (by omega) Gh.refl ⟨i + 1, by omega, rfl, ?_, ?_, ?_, rfl⟩
      any_goals (simp (disch := omega) only [RA, ↓reduceIte, Nat.reduceEqDiff, RD, RE, *] <;> rfl)
    · refine hX _ _ ?_
      obtain rfl : i = xs.length := by omega
      refine T_rseq fun Kr hKr => ?_
      simp (disch := omega) only [RA, ↓reduceIte, Nat.reduceEqDiff, RD, g3]
      refine hKr _ _ ?_
      clear hKr Kr
      try simp only [RN, reduceIte]
      try refine T_e rfl ?_
      refine bodyQ_ret (by simp (disch := omega) only [RA, ↓reduceIte, Nat.reduceEqDiff, RD, resAll, resOf, g3]; rfl) GhV.refl ?_
      simp only [tup]
      rw [cpI_all]
      exact ⟨0, rfl, rfl⟩
theorem toInt64S_spec {x : Bool} {xs : List Int} {H : BH} {K : Value → BH → Prop} (hl : xs.length ≤ 1048576) (hK : K (FI xs) H) : CallX x F_laws_toInt64S [FI xs] H K :=
  callRZ (.cons .fz .nil) NNL_I (by simp) (toInt64S_run hl) hK
/-- The first k copied, nil behind. -/
def cpII (xss : List (List Int)) (k : Nat) : List Value := (xss.take k).map FI ++ List.replicate (xss.length - k) (.slice none 0 0)
theorem cpII_len {xss : List (List Int)} {k : Nat} (h : k ≤ xss.length) : (cpII xss k).length = xss.length := by
  simp [cpII]
  omega
theorem cpII_st {xss : List (List Int)} {k b : Nat} {H : BH} (h : k < xss.length) : stO (some (cpII xss k)) H b k 1 (FI (xss.getD k [])) = some (undef, H.set b (some (cpII xss (k + 1)))) := by
  rw [stO_1 rfl rfl rfl (by rw [cpII_len (by omega)]; exact h)]
  congr 4
  have hk : ((xss.take k).map FI).length = k := by simp; omega
  have e1 : (cpII xss k).take k = (xss.take k).map FI := by
    rw [cpII, List.take_append_of_le_length (by omega), List.take_of_length_le (by omega)]
  have e2 : (cpII xss k).drop (k + 1) = List.replicate (xss.length - (k + 1)) (.slice none 0 0) := by
    rw [cpII, List.drop_append, List.drop_eq_nil_of_le (by omega), hk, List.drop_replicate, List.nil_append]
    congr 1
    omega
  show (cpII xss k).take k ++ [FI (xss.getD k [])] ++ (cpII xss k).drop (k + 1) = _
  rw [e1, e2, cpII, List.take_add_one, List.map_append]
  simp [List.getD, h]
theorem toInt64SS_spec {x : Bool} {xss : List (List Int)} {H : BH} {K : Value → BH → Prop} (hl : xss.length ≤ 1048576) (hll : ∀ xs ∈ xss, xs.length ≤ 1048576) (hK : K (FII xss) H) : CallX x F_laws_toInt64SS [FII xss] H K := by
  refine callRZ (.cons .fz .nil) NNL_FI (by simp) ?_ hK
  refine CallX_body Γ_laws_toInt64SS ?_
  simp only [A_laws_toInt64SS, T_aiff]
  refine T_rseq fun Kr hKr => ?_
  simp (disch := omega) only [RA, ↓reduceIte, Nat.reduceEqDiff, RD]
  refine hKr _ _ ?_
  clear hKr Kr
  try simp only [RN, reduceIte]
  try refine T_e rfl ?_
  refine T_rseq fun Kr hKr => ?_
  simp (disch := omega) only [RA, ↓reduceIte, Nat.reduceEqDiff, RD]
  refine hKr _ _ ?_
  clear hKr Kr
  try simp only [RN, reduceIte]
  try refine T_e rfl ?_
  refine T_rseq fun Kr hKr => ?_
  simp (disch := omega) only [RA, ↓reduceIte, Nat.reduceEqDiff, RD]
  refine hKr _ _ ?_
  clear hKr Kr
  try simp only [RN, reduceIte]
  try refine T_e rfl ?_
  refine T_wloop (fun m f H' => ∃ i, i ≤ xss.length ∧ m = xss.length - i ∧ f 0 = FII xss ∧ f 3 = S 0 0 xss.length 1 ∧ f 4 = I i ∧ H' = [some (cpII xss i)]) (xss.length) ?_ ?_
  · refine ⟨_, _, Gh.refl, 0, by omega, by omega, ?_, ?_, ?_, by simp [cpII]⟩
    any_goals (simp (disch := omega) only [RA, ↓reduceIte, Nat.reduceEqDiff, RD, RE, *] <;> rfl)
  · rintro m f H' R ⟨i, hi, rfl, g0, g3, g4, rfl⟩ hN hX hR hE
    simp only [A_laws_toInt64SS.l0, T_aiff]
    refine T_rseq fun Kr hKr => ?_
    simp (disch := omega) only [RA, ↓reduceIte, Nat.reduceEqDiff, RD, g0, g4]
    refine hKr _ _ ?_
    clear hKr Kr
    try simp only [RN, reduceIte]
    try refine T_e rfl ?_
    refine T_csplit (p := i < xss.length) (by simp only [RA, ↓reduceIte, Nat.reduceEqDiff] <;> rfl) (by (try simp only [RB]) <;> first | done | exact Iff.rfl | omega | simp) (fun hc => ?_) (fun hc => ?_) <;> (try simp only [RN, reduceIte]) <;> (try refine T_e rfl ?_)
    · have hxi := hll _ (getD_mem' (d := []) hc)
      first | refine T_bfree rfl ?_ | refine T_bfree' rfl ?_
      try simp only [RN, reduceIte]
      try refine T_e rfl ?_
      refine T_rseq fun Kr hKr => ?_
      simp (disch := omega) only [RA, ↓reduceIte, Nat.reduceEqDiff, RD, g0, g3, g4, getN_FI]
      refine toInt64S_spec hxi ?_
      simp (disch := omega) only [RA, ↓reduceIte, Nat.reduceEqDiff, RD, g3, g4, cpII_st]
      refine hKr _ _ ?_
      clear hKr Kr
      try simp only [blkQ, thenQ, loopQ]
      try simp only [RN, reduceIte]
      try refine T_e rfl ?_
      refine T_reg_k fun Kr hKr => ?_
      simp (disch := omega) only [RA, ↓reduceIte, Nat.reduceEqDiff, RD, g4]
      refine hKr _ _ ?_
      clear hKr Kr
      refine hN (xss.length - (i + 1)) _ _ _ _ (by omega) Gh.refl ⟨i + 1, by omega, rfl, ?_, ?_, ?_, rfl⟩
      any_goals (simp (disch := omega) only [RA, ↓reduceIte, Nat.reduceEqDiff, RD, RE, *] <;> rfl)
    · refine hX _ _ ?_
      obtain rfl : i = xss.length := by omega
      refine T_rseq fun Kr hKr => ?_
      simp (disch := omega) only [RA, ↓reduceIte, Nat.reduceEqDiff, RD, g3]
      refine hKr _ _ ?_
      clear hKr Kr
      try simp only [RN, reduceIte]
      try refine T_e rfl ?_
      refine bodyQ_ret (by simp (disch := omega) only [RA, ↓reduceIte, Nat.reduceEqDiff, RD, resAll, resOf, g3]; rfl) GhV.refl ?_
      simp only [tup]
      exact ⟨0, rfl, by simp [cpII, blk]⟩
/-- Slices of slices are equal to themselves. -/
theorem eqInt64SS_same {xss : List (List Int)} {H : BH} {K : Value → BH → Prop} (hl : xss.length ≤ 1048576) (hll : ∀ xs ∈ xss, xs.length ≤ 1048576) (hK : K (.bool true) H) : CallX false F_laws_eqInt64SS [FII xss, FII xss] H K := by
  refine callP (.cons .fz (.cons .fz .nil)) ?_
  refine CallX_body Γ_laws_eqInt64SS ?_
  simp only [A_laws_eqInt64SS, T_aiff]
  refine T_rseq fun Kr hKr => ?_
  simp (disch := omega) only [RA, ↓reduceIte, Nat.reduceEqDiff, RD]
  refine hKr _ _ ?_
  clear hKr Kr
  try simp only [RN, reduceIte]
  try refine T_e rfl ?_
  refine T_rseq fun Kr hKr => ?_
  simp (disch := omega) only [RA, ↓reduceIte, Nat.reduceEqDiff, RD]
  refine hKr _ _ ?_
  clear hKr Kr
  try simp only [RN, reduceIte]
  try refine T_e rfl ?_
  refine T_cseq (t := false) (by simp (disch := omega) only [RA, ↓reduceIte, Nat.reduceEqDiff, RD]) ?_
  try simp only [RN, reduceIte]
  try refine T_e rfl ?_
  refine T_rseq fun Kr hKr => ?_
  simp (disch := omega) only [RA, ↓reduceIte, Nat.reduceEqDiff, RD]
  refine hKr _ _ ?_
  clear hKr Kr
  try simp only [RN, reduceIte]
  try refine T_e rfl ?_
  refine T_wloop (fun m f H' => ∃ i, i ≤ xss.length ∧ m = xss.length - i ∧ f 0 = FII xss ∧ f 1 = FII xss ∧ f 5 = I i ∧ H' = []) (xss.length) ?_ ?_
  · refine ⟨_, _, Gh.refl, 0, by omega, by omega, ?_, ?_, ?_, rfl⟩
    any_goals (simp (disch := omega) only [RA, ↓reduceIte, Nat.reduceEqDiff, RD, RE, *] <;> rfl)
  · rintro m f H' R ⟨i, hi, rfl, g0, g1, g5, rfl⟩ hN hX hR hE
    simp only [A_laws_eqInt64SS.l0, T_aiff]
    refine T_rseq fun Kr hKr => ?_
    simp (disch := omega) only [RA, ↓reduceIte, Nat.reduceEqDiff, RD, g0, g5]
    refine hKr _ _ ?_
    clear hKr Kr
    try simp only [RN, reduceIte]
    try refine T_e rfl ?_
    refine T_csplit (p := i < xss.length) (by simp only [RA, ↓reduceIte, Nat.reduceEqDiff] <;> rfl) (by (try simp only [RB]) <;> first | done | exact Iff.rfl | omega | simp) (fun hc => ?_) (fun hc => ?_) <;> (try simp only [RN, reduceIte]) <;> (try refine T_e rfl ?_)
    · have hxi := hll _ (getD_mem' (d := []) hc)
      first | refine T_bfree rfl ?_ | refine T_bfree' rfl ?_
      try simp only [RN, reduceIte]
      try refine T_e rfl ?_
      refine T_rseq fun Kr hKr => ?_
      simp (disch := omega) only [RA, ↓reduceIte, Nat.reduceEqDiff, RD, g0, g1, g5, getN_FI]
      refine callP (.cons .fz (.cons .fz .nil)) ?_
      refine eqInt64S_spec Sl.fz Sl.fz (by omega) (by omega) ?_
      refine ⟨.bool, ?_⟩
      simp (disch := omega) only [RA, ↓reduceIte, Nat.reduceEqDiff, RD]
      refine hKr _ _ ?_
      clear hKr Kr
      try simp only [blkQ, thenQ, loopQ]
      try simp only [RN, reduceIte]
      try refine T_e rfl ?_
      refine T_cseq (t := false) (by simp (disch := omega) only [RA, ↓reduceIte, Nat.reduceEqDiff, RD]) ?_
      try simp only [RN, reduceIte]
      try refine T_e rfl ?_
      refine T_reg_k fun Kr hKr => ?_
      simp (disch := omega) only [RA, ↓reduceIte, Nat.reduceEqDiff, RD, g5]
      refine hKr _ _ ?_
      clear hKr Kr
      refine hN (xss.length - (i + 1)) _ _ _ _ (by omega) Gh.refl ⟨i + 1, by omega, rfl, ?_, ?_, ?_, rfl⟩
      any_goals (simp (disch := omega) only [RA, ↓reduceIte, Nat.reduceEqDiff, RD, RE, *] <;> rfl)
    · refine hX _ _ ?_
      refine T_rseq fun Kr hKr => ?_
      simp (disch := omega) only [RA, ↓reduceIte, Nat.reduceEqDiff, RD]
      refine hKr _ _ ?_
      clear hKr Kr
      try simp only [RN, reduceIte]
      try refine T_e rfl ?_
      refine bodyQ_ret (by simp (disch := omega) only [RA, ↓reduceIte, Nat.reduceEqDiff, RD, resAll, resOf]; rfl) GhV.refl ?_
      simp only [tup]
      exact ⟨.bool, hK⟩
end Go.Bm

