/- DpCc, DpCd, DpTa, DpTf, DpTg, DpCb, DpV, DpVa -/
import Derived.Test.YteklchkdgpoedaaDpG0
import Derived.Test.YteklchkdgpoedaaDpG1
/- What is reached from each dart, and names from a dart: the plain law. -/
set_option linter.unusedVariables false
set_option linter.unusedSimpArgs false
namespace Go.Bm
open Go Go.Am

def none16 : List Bool := List.replicate 16 false
theorem none16_bl {x : Nat} : bl none16 x = false := bl_rep
theorem none16_len : none16.length = 16 := by simp [none16]
/-- One starts at x, nothing met but x. -/
def stA (x : Nat) : BS := (none16.set x true, [x])
/-- What stands once what the first d lead to has been met. -/
structure BfOk (ls : List (List Nat)) (n x d : Nat) (st : BS) : Prop where
  len : st.1.length = 16
  mem : ∀ y, bl st.1 y = true ↔ y ∈ st.2
  nod : st.2.Nodup
  lt : ∀ y ∈ st.2, y < n
  pre : ∃ r, st.2 = x :: r
  le : d ≤ st.2.length
  done : ∀ j, j < d → ∀ p ∈ ls, nl p (nl st.2 j) ∈ st.2
theorem BfOk.visit {ls : List (List Nat)} {n x d y : Nat} {st : BS} (hn : n ≤ 16) (h : BfOk ls n x d st) (hy : y < n) : BfOk ls n x d (Bm.visit st y) ∧ (∃ q, (Bm.visit st y).2 = st.2 ++ q) ∧ y ∈ (Bm.visit st y).2 := by
  unfold Bm.visit
  by_cases hb : bl st.1 y = true
  · rw [if_pos hb]
    exact ⟨h, ⟨[], by simp⟩, (h.mem y).1 hb⟩
  · rw [if_neg hb]
    have hny : y ∉ st.2 := fun hm => hb ((h.mem y).2 hm)
    refine ⟨⟨by simpa using h.len, fun z => ?_, ?_, fun z hz => ?_, ?_, ?_, fun j hj1 p hp => ?_⟩, ⟨[y], rfl⟩, by simp⟩
    · show bl (st.1.set y true) z = true ↔ z ∈ st.2 ++ [y]
      rw [bl_set]
      by_cases e : z = y
      · subst e
        rw [if_pos ⟨rfl, by have := h.len; omega⟩]
        simp
      · rw [if_neg (fun k => e k.1), h.mem z]
        simp [e]
    · show (st.2 ++ [y]).Nodup
      rw [List.nodup_append]
      exact ⟨h.nod, by simp, fun a ha b hb => by
        rw [List.mem_singleton] at hb
        subst hb
        exact fun e => hny (e ▸ ha)⟩
    · rcases List.mem_append.1 hz with k | k
      · exact h.lt z k
      · rw [List.mem_singleton] at k
        omega
    · obtain ⟨r, hr⟩ := h.pre
      exact ⟨r ++ [y], by show st.2 ++ [y] = _; rw [hr]; rfl⟩
    · show d ≤ (st.2 ++ [y]).length
      have := h.le
      simp
      omega
    · show nl p (nl (st.2 ++ [y]) j) ∈ st.2 ++ [y]
      rw [nl_append, if_pos (by have := h.le; omega)]
      exact List.mem_append_left _ (h.done j hj1 p hp)
theorem BfOk.round {ls : List (List Nat)} {n x d z : Nat} (hn : n ≤ 16) : ∀ {l2 : List (List Nat)} {st : BS}, BfOk ls n x d st → (∀ p ∈ l2, nl p z < n) → BfOk ls n x d (roundX l2 z st) ∧ (∃ q, (roundX l2 z st).2 = st.2 ++ q) ∧ ∀ p ∈ l2, nl p z ∈ (roundX l2 z st).2
  | [], st, h, _ => ⟨h, ⟨[], by simp [roundX]⟩, by simp⟩
  | p :: l2, st, h, hp => by
    obtain ⟨h1, ⟨q1, h2⟩, h3⟩ := h.visit hn (hp p (by simp))
    obtain ⟨h4, ⟨q2, h5⟩, h6⟩ := BfOk.round hn (l2 := l2) h1 fun q hq => hp q (by simp [hq])
    have e : roundX (p :: l2) z st = roundX l2 z (Bm.visit st (nl p z)) := rfl
    rw [e]
    refine ⟨h4, ⟨q1 ++ q2, by rw [h5, h2, List.append_assoc]⟩, fun q hq => ?_⟩
    rcases List.mem_cons.1 hq with rfl | hq
    · rw [h5]
      exact List.mem_append_left _ h3
    · exact h6 q hq
theorem BfOk.bfs {ls : List (List Nat)} {n x : Nat} {st : BS} (hn : n ≤ 16) (hl : ∀ p ∈ ls, ∀ y, y < n → nl p y < n) (h : BfOk ls n x 0 st) : ∀ i, BfOk ls n x (min i (Bm.bfs ls st i).2.length) (Bm.bfs ls st i)
  | 0 => by rw [Nat.zero_min]; exact h
  | i + 1 => by
    have ih := BfOk.bfs hn hl h i
    simp only [Bm.bfs]
    generalize Bm.bfs ls st i = s at ih ⊢
    by_cases hi : i < s.2.length
    · rw [if_pos hi]
      rw [Nat.min_eq_left (by omega)] at ih
      obtain ⟨h1, ⟨q, h2⟩, h3⟩ := ih.round hn (z := nl s.2 i) (l2 := ls) fun p hp => hl p hp _ (ih.lt _ (nl_mem hi))
      have hlen : i + 1 ≤ (roundX ls (nl s.2 i) s).2.length := by rw [h2]; simp; omega
      rw [Nat.min_eq_left hlen]
      refine ⟨h1.len, h1.mem, h1.nod, h1.lt, h1.pre, hlen, fun j hj p hp => ?_⟩
      by_cases e : j = i
      · subst e
        have : nl (roundX ls (nl s.2 j) s).2 j = nl s.2 j := by rw [h2, nl_append, if_pos hi]
        rw [this]
        exact h3 p hp
      · exact h1.done j (by omega) p hp
    · rw [if_neg hi]
      rw [Nat.min_eq_right (by omega)] at ih
      rw [Nat.min_eq_right (by omega)]
      exact ih
theorem BfOk.start {ls : List (List Nat)} {n x : Nat} (hn : n ≤ 16) (hx : x < n) : BfOk ls n x 0 (stA x) := by
  refine ⟨by simp [stA, none16_len], fun y => ?_, by simp [stA], fun y hy => ?_, ⟨[], rfl⟩, Nat.zero_le _, fun j hj => by omega⟩
  · show bl (none16.set x true) y = true ↔ y ∈ [x]
    rw [bl_set, none16_len, none16_bl]
    by_cases e : y = x
    · rw [if_pos ⟨e, by omega⟩]; simp [e]
    · rw [if_neg (fun k => e k.1)]; simp [e]
  · rw [show (stA x).2 = [x] from rfl, List.mem_singleton] at hy
    omega
theorem nodup_le {n : Nat} {l : List Nat} (h : l.Nodup) (hl : ∀ x ∈ l, x < n) : l.length ≤ n := by
  have := List.Nodup.length_le_of_subset h (l₂ := List.range n) fun x hx => List.mem_range.2 (hl x hx)
  simpa using this
theorem nodup_full {n : Nat} {l : List Nat} (h : l.Nodup) (hl : ∀ x ∈ l, x < n) (hn : n ≤ l.length) {x : Nat} (hx : x < n) : x ∈ l := by
  apply Classical.byContradiction
  intro hxl
  have := nodup_le (n := n) (l := x :: l) (List.nodup_cons.2 ⟨hxl, h⟩) (by
    intro y hy
    rcases List.mem_cons.1 hy with rfl | hy
    · exact hx
    · exact hl y hy)
  rw [List.length_cons] at this
  omega
/-- The darts in the order in which they are met from x. -/
def ord (b w : List Nat) (x : Nat) : List Nat := (bfs [b, w] (stA x) 16).2
section
variable {b w : List Nat} {n : Nat}
theorem ord_bf (hb : Perm b n) (hw : Perm w n) {x : Nat} (hx : x < n) : BfOk [b, w] n x (ord b w x).length (bfs [b, w] (stA x) 16) := by
  have hn := hb.1
  have h := (BfOk.start (ls := [b, w]) (x := x) (n := n) (by omega) hx).bfs (by omega) (by
    intro p hp y hy
    simp only [List.mem_cons, List.not_mem_nil, or_false] at hp
    rcases hp with rfl | rfl
    · exact hb.lt hy
    · exact hw.lt hy) 16
  have h16 := nodup_le h.nod h.lt
  rw [Nat.min_eq_right (by omega)] at h
  exact h
theorem ord_cl (hb : Perm b n) (hw : Perm w n) {x : Nat} (hx : x < n) : ∀ y ∈ ord b w x, nl b y ∈ ord b w x ∧ nl w y ∈ ord b w x := fun y hy => by
  have h := ord_bf hb hw hx
  obtain ⟨j, hj, rfl⟩ := mem_nl hy
  exact ⟨h.done j hj b (by simp), h.done j hj w (by simp)⟩
/-- What a permutation leads into itself is also led into itself backwards. -/
theorem closed_bwd {p : List Nat} (hp : Perm p n) {S : Nat → Prop} (hS : ∀ x, x < n → S x → S (nl p x)) {x : Nat} (hx : x < n) (h : S (nl p x)) : S x := by
  obtain ⟨c, hc, hxc⟩ := cyc_at hp hx
  have hi := cyc_is hp hc
  obtain ⟨j, hj, hje⟩ := mem_nl (hi.fwd hxc)
  have hup : ∀ d, j + d < c.length → S (nl c (j + d)) := by
    intro d
    induction d with
    | zero => intro _; rw [Nat.add_zero, hje]; exact h
    | succ d ih =>
      intro hd
      rw [← Nat.add_assoc, ← hi.step (j + d) (by omega)]
      exact hS _ (hi.lt _ (nl_mem (by omega))) (ih (by omega))
  have h0 : S (nl c 0) := by
    rw [← hi.last]
    have := hup (c.length - 1 - j) (by omega)
    rw [show j + (c.length - 1 - j) = c.length - 1 by omega] at this
    exact hS _ (hi.lt _ (nl_mem (by omega))) this
  have hall : ∀ k, k < c.length → S (nl c k) := by
    intro k
    induction k with
    | zero => intro _; exact h0
    | succ k ih =>
      intro hk
      rw [← hi.step k hk]
      exact hS _ (hi.lt _ (nl_mem (by omega))) (ih (by omega))
  obtain ⟨k, hk, rfl⟩ := mem_nl hxc
  exact hall k hk
theorem Des.reach (h : Des n b w) {y : Nat} (hy : y < n) : y ∈ ord b w 0 := by
  obtain ⟨hb, hw, hr⟩ := h
  have hn := hb.1
  have h1 := ord_bf hb hw (x := 0) (by omega)
  refine nodup_full h1.nod h1.lt ?_ hy
  have : (Bm.reach b w).2.length = n := by omega
  have e : (bfs [b, w] (stA 0) 16).2.length = n := this
  omega
/-- What is true of 0 and led on by both permutations is true of all darts. -/
theorem Des.ind (h : Des n b w) (S : Nat → Prop) (s1 : ∀ z, z < n → S z → S (nl b z)) (s2 : ∀ z, z < n → S z → S (nl w z)) (s0 : S 0) : ∀ z, z < n → S z := by
  obtain ⟨hb, hw, hr⟩ := id h
  have hn := hb.1
  intro z hz
  have hcl : ∀ i, ∀ z ∈ (bfs [b, w] (stA 0) i).2, z < n ∧ S z := by
    have hv : ∀ (st : BS) (y : Nat), (∀ z ∈ st.2, z < n ∧ S z) → y < n → S y → ∀ z ∈ (visit st y).2, z < n ∧ S z := by
      intro st y h1 h2 h3 z hz
      unfold visit at hz
      split at hz
      · exact h1 z hz
      · rcases List.mem_append.1 hz with k | k
        · exact h1 z k
        · rw [List.mem_singleton] at k
          subst k
          exact ⟨h2, h3⟩
    intro i
    induction i with
    | zero =>
      intro z hz
      have : z = 0 := by simpa [bfs, stA] using hz
      subst this
      exact ⟨by omega, s0⟩
    | succ i ih =>
      simp only [bfs]
      split
      · rename_i hi
        obtain ⟨hz1, hz2⟩ := ih _ (nl_mem hi)
        exact hv _ _ (hv _ _ ih (hb.lt hz1) (s1 _ hz1 hz2)) (hw.lt hz1) (s2 _ hz1 hz2)
      · exact ih
  exact (hcl 16 z (h.reach hz)).2
/-- From each dart all are reached. -/
theorem Des.all (h : Des n b w) {x y : Nat} (hx : x < n) (hy : y < n) : y ∈ ord b w x := by
  obtain ⟨hb, hw, hr⟩ := id h
  have hn := hb.1
  have h0 := h.ind
  have hx0 : (ord b w x) = (ord b w x) := rfl
  have hfw := ord_cl hb hw hx
  have key : ∀ z, z < n → (z ∈ ord b w x ↔ 0 ∈ ord b w x) := by
    refine h0 _ ?_ ?_ Iff.rfl
    · intro z hz hS
      rw [← hS]
      exact ⟨closed_bwd hb (S := fun z => z ∈ ord b w x) (fun z _ h => (hfw z h).1) hz, fun h => (hfw z h).1⟩
    · intro z hz hS
      rw [← hS]
      exact ⟨closed_bwd hw (S := fun z => z ∈ ord b w x) (fun z _ h => (hfw z h).2) hz, fun h => (hfw z h).2⟩
  have hxx : x ∈ ord b w x := by
    obtain ⟨r, hr⟩ := (ord_bf hb hw hx).pre
    rw [ord, hr]
    simp
  exact (key y hy).2 ((key x hx).1 hxx)
/-! ### Names -/
end
section
variable {b w b' w' : List Nat} {n : Nat}
/-- Two dessins that a map of the darts leads to each other. -/
structure Iso (n : Nat) (b w b' w' : List Nat) (φ : Nat → Nat) : Prop where
  lt : ∀ y, y < n → φ y < n
  inj : ∀ y z, y < n → z < n → φ y = φ z → y = z
  b : ∀ y, y < n → nl b' (φ y) = φ (nl b y)
  w : ∀ y, y < n → nl w' (φ y) = φ (nl w y)
structure BfRel (n : Nat) (φ : Nat → Nat) (st st' : BS) : Prop where
  ord : st'.2 = st.2.map φ
  lt : ∀ y ∈ st.2, y < n
  met : ∀ y, y < n → bl st'.1 (φ y) = bl st.1 y
  len : st.1.length = 16 ∧ st'.1.length = 16
theorem BfRel.visit {φ : Nat → Nat} {st st' : BS} {y : Nat} (hn : n ≤ 16) (hl : ∀ y, y < n → φ y < n) (hinj : ∀ y z, y < n → z < n → φ y = φ z → y = z) (h : BfRel n φ st st') (hy : y < n) : BfRel n φ (Bm.visit st y) (Bm.visit st' (φ y)) := by
  unfold Bm.visit
  rw [h.met y hy]
  by_cases hb : bl st.1 y = true
  · rw [if_pos hb, if_pos hb]; exact h
  · rw [if_neg hb, if_neg hb]
    refine ⟨by simp [h.ord], fun z hz => ?_, fun z hz => ?_, by simpa using h.len⟩
    · rcases List.mem_append.1 hz with k | k
      · exact h.lt z k
      · rw [List.mem_singleton] at k; omega
    · show bl (st'.1.set (φ y) true) (φ z) = bl (st.1.set y true) z
      have := hl y hy
      rw [bl_set, bl_set, h.len.1, h.len.2, h.met z hz]
      by_cases e : z = y
      · subst e; rw [if_pos ⟨rfl, by omega⟩, if_pos ⟨rfl, by omega⟩]
      · rw [if_neg (fun k => e (hinj _ _ hz hy k.1)), if_neg (fun k => e k.1)]
theorem nl_map {φ : Nat → Nat} {l : List Nat} {i : Nat} (h : i < l.length) : nl (l.map φ) i = φ (nl l i) := by simp [nl, List.getD, h]
theorem Iso.ord {φ : Nat → Nat} (hn : n ≤ 16) (hb : Perm b n) (hw : Perm w n) (h : Iso n b w b' w' φ) {x : Nat} (hx : x < n) : Bm.ord b' w' (φ x) = (Bm.ord b w x).map φ := by
  have key : ∀ i, BfRel n φ (bfs [b, w] (stA x) i) (bfs [b', w'] (stA (φ x)) i) := by
    intro i
    induction i with
    | zero =>
      refine ⟨rfl, fun y hy => ?_, fun y hy => ?_, by simp [bfs, stA, none16_len]⟩
      · have : y = x := by simpa [bfs, stA] using hy
        omega
      · show bl (none16.set (φ x) true) (φ y) = bl (none16.set x true) y
        have := h.lt x hx
        rw [bl_set, bl_set, none16_len, none16_bl, none16_bl]
        by_cases e : y = x
        · subst e; rw [if_pos ⟨rfl, by omega⟩, if_pos ⟨rfl, by omega⟩]
        · rw [if_neg (fun k => e (h.inj _ _ hy hx k.1)), if_neg (fun k => e k.1)]
    | succ i ih =>
      simp only [bfs]
      generalize bfs [b, w] (stA x) i = st at ih ⊢
      generalize bfs [b', w'] (stA (φ x)) i = st' at ih ⊢
      have hle : st'.2.length = st.2.length := by rw [ih.ord, List.length_map]
      rw [hle]
      by_cases hi : i < st.2.length
      · rw [if_pos hi, if_pos hi]
        have e : nl st'.2 i = φ (nl st.2 i) := by rw [ih.ord, nl_map hi]
        rw [e]
        generalize hz : nl st.2 i = z
        have hz1 : z < n := by rw [← hz]; exact ih.lt _ (nl_mem hi)
        show BfRel n φ (Bm.visit (Bm.visit st (nl b z)) (nl w z)) (Bm.visit (Bm.visit st' (nl b' (φ z))) (nl w' (φ z)))
        rw [h.b z hz1, h.w z hz1]
        exact (ih.visit hn h.lt h.inj (hb.lt hz1)).visit hn h.lt h.inj (hw.lt hz1)
      · rw [if_neg hi, if_neg hi]
        exact ih
  exact (key 16).ord
end

/-! ### The least one -/
abbrev L2 := List Nat × List Nat
def lt2 (x y : L2) : Prop := x.1 < y.1 ∨ (x.1 = y.1 ∧ x.2 < y.2)
instance (x y : L2) : Decidable (lt2 x y) := by unfold lt2; infer_instance
section
variable {b w b' w' : List Nat} {n : Nat}
end
end Go.Bm

/- Mirror images are dessins: the plain law. -/
set_option linter.unusedVariables false
set_option linter.unusedSimpArgs false
namespace Go.Bm
open Go Go.Am

/-! ### Mirror images are dessins -/
section
variable {p b w : List Nat} {n : Nat}
theorem Perm.surj (hp : Perm p n) {y : Nat} (hy : y < n) : ∃ x, x < n ∧ nl p x = y := by
  obtain ⟨c, hc, hyc⟩ := cyc_at hp hy
  have hi := cyc_is hp hc
  obtain ⟨j, hj, rfl⟩ := mem_nl hyc
  by_cases e : j = 0
  · subst e
    exact ⟨_, hi.lt _ (nl_mem (by omega)), hi.last⟩
  · have := hi.step (j - 1) (by omega)
    rw [show j - 1 + 1 = j by omega] at this
    exact ⟨_, hi.lt _ (nl_mem (by omega)), this⟩
theorem back_at (hp : Perm p n) : ∀ {k i : Nat}, k ≤ n → i < k → nl (backK p k) (nl p i) = i
  | 0, _, _, h => by omega
  | k + 1, i, hk, hi => by
    have hn := hp.1
    rw [backK, nl_set, backK_len]
    by_cases e : i = k
    · subst e
      rw [if_pos ⟨rfl, by have := hp.lt (show i < n by omega); omega⟩]
    · rw [if_neg (fun h => e (hp.inj (by omega) (by omega) h.1)), back_at hp (by omega) (by omega)]
theorem back_out (hp : Perm p n) {i : Nat} (hi : n ≤ i) : ∀ {k : Nat}, k ≤ n → nl (backK p k) i = 0
  | 0, _ => by simp only [backK, nl_rep]; split <;> rfl
  | k + 1, hk => by
    have := hp.lt (show k < n by omega)
    rw [backK, nl_set, if_neg (by omega), back_out hp hi (by omega)]
theorem Perm.back (hp : Perm p n) : Perm (backK p n) n := by
  refine ⟨hp.1, fun i _ => ⟨fun h => back_out hp (by omega) (Nat.le_refl _), fun h => ?_⟩⟩
  obtain ⟨x, hx, rfl⟩ := hp.surj (show i < n by omega)
  rw [back_at hp (Nat.le_refl _) hx]
  refine ⟨by omega, fun j hj => ?_⟩
  obtain ⟨y, hy, rfl⟩ := hp.surj (show j < n by omega)
  rw [back_at hp (Nat.le_refl _) hy]
  intro e
  subst e
  omega
end
end Go.Bm

/- Trees: the plain law. Without any one dart a tree falls apart; what lies behind a dart is less and less. -/
set_option linter.unusedVariables false
set_option linter.unusedSimpArgs false
namespace Go.Bm
open Go Go.Am

theorem then_perm {b w : List Nat} {n : Nat} (hb : Perm b n) (hw : Perm w n) : Perm (thenK b w n) n := by
  have hn := hb.1
  refine ⟨hb.1, fun i _ => ⟨fun h => by rw [thenK_nl (by omega), if_neg (by omega)], fun h => ?_⟩⟩
  have hi : i < n := by omega
  rw [thenK_nl (by omega), if_pos hi]
  have h1 := hw.lt (hb.lt hi)
  refine ⟨by omega, fun j hj e => ?_⟩
  rw [thenK_nl (by omega), if_pos (by omega)] at e
  have := hb.inj (by omega) hi (hw.inj (hb.lt (by omega)) (hb.lt hi) e)
  omega
theorem face_perm {b w : List Nat} {n : Nat} (hb : Perm b n) (hw : Perm w n) : Perm (faceP b w n) n := (then_perm hb hw).back
/-- A tree: one face, and one vertex more than edges. -/
def Tree (n : Nat) (b w : List Nat) : Prop := (cyc (faceP b w n) n).length = 1 ∧ (cyc b n).length + (cyc w n).length = n + 1
instance (n : Nat) (b w : List Nat) : Decidable (Tree n b w) := by unfold Tree; infer_instance

/-! ### Vertices by number -/
def vix (p : List Nat) (n x : Nat) : Nat := (cyc p n).findIdx fun c => c.contains x
theorem vix_lt {p : List Nat} {n x : Nat} (hp : Perm p n) (hx : x < n) : vix p n x < (cyc p n).length := by
  obtain ⟨c, hc, hxc⟩ := cyc_at hp hx
  exact List.findIdx_lt_length_of_exists ⟨c, hc, by simpa using hxc⟩
theorem vix_mem {p : List Nat} {n x : Nat} (hp : Perm p n) (hx : x < n) : x ∈ (cyc p n)[vix p n x]'(vix_lt hp hx) := by
  have h2 : ((cyc p n)[vix p n x]'(vix_lt hp hx)).contains x = true := List.findIdx_getElem (w := vix_lt hp hx)
  simpa using h2
theorem cyc_nod {p : List Nat} {n : Nat} (hp : Perm p n) : (cyc p n).flatten.Nodup := (CycOk.all rfl hp (Nat.le_refl n)).nod
/-- A number is in one cycle only. -/
theorem flat_uniq : ∀ {cs : List (List Nat)} {i j x : Nat} (hi : i < cs.length) (hj : j < cs.length), cs.flatten.Nodup → x ∈ cs[i] → x ∈ cs[j] → i = j
  | c :: cs, 0, 0, x, _, _, _, _, _ => rfl
  | c :: cs, 0, j + 1, x, _, hj, hn, h1, h2 => by
    rw [List.flatten_cons, List.nodup_append] at hn
    exact absurd rfl (hn.2.2 x h1 x (List.mem_flatten.2 ⟨_, List.getElem_mem (by simpa using hj), h2⟩))
  | c :: cs, i + 1, 0, x, hi, _, hn, h1, h2 => by
    rw [List.flatten_cons, List.nodup_append] at hn
    exact absurd rfl (hn.2.2 x h2 x (List.mem_flatten.2 ⟨_, List.getElem_mem (by simpa using hi), h1⟩))
  | c :: cs, i + 1, j + 1, x, hi, hj, hn, h1, h2 => by
    rw [List.flatten_cons, List.nodup_append] at hn
    rw [flat_uniq (cs := cs) (by simpa using hi) (by simpa using hj) hn.2.1 h1 h2]
theorem vix_of {p : List Nat} {n x i : Nat} (hp : Perm p n) (hx : x < n) (hi : i < (cyc p n).length) (h : x ∈ (cyc p n)[i]) : vix p n x = i :=
  flat_uniq (vix_lt hp hx) hi (cyc_nod hp) (vix_mem hp hx) h
theorem vix_step {p : List Nat} {n x : Nat} (hp : Perm p n) (hx : x < n) : vix p n (nl p x) = vix p n x :=
  vix_of hp (hp.lt hx) (vix_lt hp hx) ((cyc_is hp (List.getElem_mem _)).fwd (vix_mem hp hx))
theorem vix_surj {p : List Nat} {n i : Nat} (hp : Perm p n) (hi : i < (cyc p n).length) : ∃ x, x < n ∧ vix p n x = i := by
  have hc := cyc_is hp (List.getElem_mem hi)
  have hm : nl (cyc p n)[i] 0 ∈ (cyc p n)[i] := nl_mem hc.ne
  exact ⟨_, hc.lt _ hm, vix_of hp (hc.lt _ hm) hi hm⟩

/-! ### Pieces: numbers of vertices that stay connected, edge by edge -/
def merge (f : Nat → Nat) (e : Nat × Nat) : Nat → Nat := fun x => if f x = f e.1 then f e.2 else f x
def pieces (es : List (Nat × Nat)) : Nat → Nat := es.foldl merge id
theorem pieces_two : ∀ (es : List (Nat × Nat)) (f : Nat → Nat) (V m : Nat) (S : List Nat), S.Nodup → m + es.length ≤ S.length → (∀ a ∈ S, ∃ x, x < V ∧ f x = a) →
    ∃ S' : List Nat, S'.Nodup ∧ m ≤ S'.length ∧ ∀ a ∈ S', ∃ x, x < V ∧ (es.foldl merge f) x = a
  | [], f, V, m, S, h1, h2, h3 => ⟨S, h1, by simpa using h2, h3⟩
  | e :: es, f, V, m, S, h1, h2, h3 => by
    have hl := List.length_erase (a := f e.1) (l := S)
    refine pieces_two es (merge f e) V m (S.erase (f e.1)) (h1.erase _) ?_ fun a ha => ?_
    · simp only [List.length_cons] at h2
      split at hl <;> omega
    · obtain ⟨x, hx, hxa⟩ := h3 a (List.mem_of_mem_erase ha)
      refine ⟨x, hx, ?_⟩
      have hne : a ≠ f e.1 := fun h => by
        subst h
        exact (List.Nodup.not_mem_erase h1) ha
      rw [merge, if_neg (by rw [hxa]; exact hne), hxa]
theorem pieces_mono : ∀ (es : List (Nat × Nat)) (f : Nat → Nat) (x y : Nat), f x = f y → (es.foldl merge f) x = (es.foldl merge f) y
  | [], f, x, y, h => h
  | e :: es, f, x, y, h => pieces_mono es (merge f e) x y (by simp only [merge, h])
theorem pieces_edge : ∀ (es : List (Nat × Nat)) (f : Nat → Nat) (e : Nat × Nat), e ∈ es → (es.foldl merge f) e.1 = (es.foldl merge f) e.2
  | e' :: es, f, e, h => by
    rcases List.mem_cons.1 h with rfl | h
    · exact pieces_mono es _ _ _ (by
        simp only [merge, if_true]
        split
        · rfl
        · rfl)
    · exact pieces_edge es (merge f e') e h
section
variable {b w : List Nat} {n : Nat}
/-- The vertices of a dart; those of w behind those of b. -/
def ends (b w : List Nat) (n : Nat) (c : Bool) (x : Nat) : Nat := if c then (cyc b n).length + vix w n x else vix b n x
def others (b w : List Nat) (n y : Nat) : List (Nat × Nat) := ((List.range n).filter fun z => z != y).map fun z => (ends b w n false z, ends b w n true z)
/-- The piece of each vertex when one dart is taken out. -/
def lab (b w : List Nat) (n y : Nat) : Nat → Nat := pieces (others b w n y)
theorem lab_edge {y z : Nat} (hz : z < n) (h : z ≠ y) (c c' : Bool) : lab b w n y (ends b w n c z) = lab b w n y (ends b w n c' z) := by
  have key : lab b w n y (ends b w n false z) = lab b w n y (ends b w n true z) :=
    pieces_edge _ id (ends b w n false z, ends b w n true z) (List.mem_map.2 ⟨z, List.mem_filter.2 ⟨List.mem_range.2 hz, by simpa using h⟩, rfl⟩)
  cases c <;> cases c' <;> first | rfl | exact key | exact key.symm
theorem filter_ne_len {y : Nat} (hy : y < n) : ((List.range n).filter fun z => z != y).length + 1 = n := by
  have h1 : ((List.range n).filter fun z => z != y) = (List.range n).erase y := (List.Nodup.erase_eq_filter List.nodup_range y).symm
  rw [h1, List.length_erase_of_mem (List.mem_range.2 hy), List.length_range]
  omega
/-- A tree falls apart without any one dart. -/
theorem Tree.apart (hd : Des n b w) (ht : Tree n b w) {y : Nat} (hy : y < n) : lab b w n y (ends b w n false y) ≠ lab b w n y (ends b w n true y) := by
  intro he
  obtain ⟨hb, hw, _⟩ := id hd
  have hall : ∀ z, z < n → lab b w n y (ends b w n false z) = lab b w n y (ends b w n true z) := fun z hz => by
    by_cases e : z = y
    · rw [e]; exact he
    · exact lab_edge hz e _ _
  have hone := hd.ind (fun z => lab b w n y (ends b w n false z) = lab b w n y (ends b w n false 0))
    (fun z hz hS => by
      have e : ends b w n false (nl b z) = ends b w n false z := by simp only [ends]; exact vix_step hb hz
      rw [e]; exact hS)
    (fun z hz hS => by
      have e : ends b w n true (nl w z) = ends b w n true z := by simp only [ends, if_true]; rw [vix_step hw hz]
      rw [hall _ (hw.lt hz), e, ← hall z hz]; exact hS) rfl
  obtain ⟨S, h1, h2, h3⟩ := pieces_two (others b w n y) id (n + 1) 2 (List.range (n + 1)) List.nodup_range (by
    have := filter_ne_len hy
    rw [others, List.length_map, List.length_range]
    omega) (fun a ha => ⟨a, List.mem_range.1 ha, rfl⟩)
  have hvert : ∀ v, v < n + 1 → lab b w n y v = lab b w n y (ends b w n false 0) := fun v hv => by
    have ht2 := ht.2
    rcases Nat.lt_or_ge v (cyc b n).length with h | h
    · obtain ⟨x, hx, rfl⟩ := vix_surj hb h
      exact hone x hx
    · obtain ⟨x, hx, hxv⟩ := vix_surj hw (show v - (cyc b n).length < (cyc w n).length by omega)
      have e : v = ends b w n true x := by simp only [ends, if_true]; omega
      rw [e, ← hall x hx]
      exact hone x hx
  match S, h1, h2, h3 with
  | [], _, h2, _ => simp at h2
  | [_], _, h2, _ => simp at h2
  | a :: a' :: _, h1, _, h3 =>
    obtain ⟨x, hx, hxa⟩ := h3 a (by simp)
    obtain ⟨x', hx', hxa'⟩ := h3 a' (by simp)
    have e1 : lab b w n y x = a := hxa
    have e2 : lab b w n y x' = a' := hxa'
    have : a = a' := by rw [← e1, ← e2, hvert x hx, hvert x' hx']
    simp only [List.nodup_cons, List.mem_cons] at h1
    exact h1.1 (.inl this)
theorem Tree.apart' (hd : Des n b w) (ht : Tree n b w) {y : Nat} (hy : y < n) (c : Bool) : lab b w n y (ends b w n c y) ≠ lab b w n y (ends b w n (!c) y) := by
  cases c
  · exact ht.apart hd hy
  · exact (ht.apart hd hy).symm
/-- What is led on from a dart is true of all. -/
theorem Des.indx (h : Des n b w) {x : Nat} (hx : x < n) (S : Nat → Prop) (s1 : ∀ z, z < n → S z → S (nl b z)) (s2 : ∀ z, z < n → S z → S (nl w z)) (s0 : S x) : ∀ z, z < n → S z := by
  have key := h.ind (fun z => S z ↔ S 0)
    (fun z hz hS => by rw [← hS]; exact ⟨closed_bwd h.1 s1 hz, s1 z hz⟩)
    (fun z hz hS => by rw [← hS]; exact ⟨closed_bwd h.2.1 s2 hz, s2 z hz⟩) Iff.rfl
  exact fun z hz => (key z hz).2 ((key x hx).1 s0)
/-- The darts behind a dart at its vertex of one colour. -/
def behind (b w : List Nat) (n : Nat) (c : Bool) (x : Nat) : List Nat := (List.range n).filter fun z => z != x && lab b w n x (ends b w n false z) == lab b w n x (ends b w n c x)
theorem behind_mem {c : Bool} {x z : Nat} : z ∈ behind b w n c x ↔ z < n ∧ z ≠ x ∧ lab b w n x (ends b w n false z) = lab b w n x (ends b w n c x) := by
  simp [behind]
theorem behind_nod {c : Bool} {x : Nat} : (behind b w n c x).Nodup := List.Pairwise.filter _ List.nodup_range
theorem behind_less (hd : Des n b w) (ht : Tree n b w) {c : Bool} {x y : Nat} (hx : x < n) (hy : y < n) (hxy : y ≠ x) (hc : ends b w n c y = ends b w n c x) :
    (behind b w n (!c) y).length < (behind b w n c x).length := by
  obtain ⟨hb, hw, _⟩ := id hd
  have hap := ht.apart' hd hy c
  have hA : ∀ z, z < n → z ≠ y → lab b w n y (ends b w n false z) = lab b w n y (ends b w n (!c) y) → z ≠ x := fun z hz hzy h e => by
    subst e
    rw [lab_edge hz hzy false c, ← hc] at h
    exact hap h
  have hyx : ∀ c', lab b w n x (ends b w n c' y) = lab b w n x (ends b w n c x) := fun c' => by rw [lab_edge hy hxy c' c, hc]
  have hsub := hd.indx hx (fun z => ¬ ((z ≠ y ∧ lab b w n y (ends b w n false z) = lab b w n y (ends b w n (!c) y)) ∧ ¬ lab b w n x (ends b w n false z) = lab b w n x (ends b w n c x)))
    (fun z hz hS hB => by
      obtain ⟨⟨h1, h2⟩, h3⟩ := hB
      have e : ends b w n false (nl b z) = ends b w n false z := by simp only [ends]; exact vix_step hb hz
      rw [e] at h2 h3
      refine hS ⟨⟨fun hzy => ?_, h2⟩, h3⟩
      subst hzy
      exact h3 (hyx _))
    (fun z hz hS hB => by
      obtain ⟨⟨h1, h2⟩, h3⟩ := hB
      have e : ends b w n true (nl w z) = ends b w n true z := by simp only [ends, if_true]; rw [vix_step hw hz]
      have hzx' := hA _ (hw.lt hz) h1 h2
      rw [lab_edge (hw.lt hz) h1 false true, e] at h2
      rw [lab_edge (hw.lt hz) hzx' false true, e] at h3
      by_cases hzy : z = y
      · subst hzy
        exact h3 (hyx _)
      · rw [lab_edge hz hzy true false] at h2
        have hzx := hA z hz hzy h2
        rw [lab_edge hz hzx true false] at h3
        exact hS ⟨⟨hzy, h2⟩, h3⟩)
    (fun hB => hA x hx hB.1.1 hB.1.2 rfl)
  have := List.Nodup.length_le_of_subset (l₁ := y :: behind b w n (!c) y) (l₂ := behind b w n c x) (List.nodup_cons.2 ⟨fun h => (behind_mem.1 h).2.1 rfl, behind_nod⟩) (fun z hz => by
    rw [behind_mem]
    rcases List.mem_cons.1 hz with rfl | hz
    · exact ⟨hy, hxy, hyx _⟩
    · obtain ⟨h1, h2, h3⟩ := behind_mem.1 hz
      refine ⟨h1, hA z h1 h2 h3, ?_⟩
      have := hsub z h1
      exact Classical.byContradiction fun hn => this ⟨⟨h2, h3⟩, hn⟩)
  rw [List.length_cons] at this
  omega

/-! ### Words -/
/-- The others around a vertex, from y on till x comes. -/
def rng (p : List Nat) (x : Nat) : Nat → Nat → List Nat
  | 0, _ => []
  | k + 1, y => if y = x then [] else y :: rng p x k (nl p y)
def ring (p : List Nat) (x : Nat) : List Nat := rng p x 16 (nl p x)
theorem rng_mem {p : List Nat} (hp : Perm p n) {x : Nat} : ∀ {k y : Nat}, y < n → vix p n y = vix p n x → ∀ z ∈ rng p x k y, z < n ∧ z ≠ x ∧ vix p n z = vix p n x
  | 0, _, _, _, z, hz => by simp [rng] at hz
  | k + 1, y, hy, hv, z, hz => by
    simp only [rng] at hz
    split at hz
    · simp at hz
    · rename_i hyx
      rcases List.mem_cons.1 hz with rfl | hz
      · exact ⟨hy, hyx, hv⟩
      · exact rng_mem hp (hp.lt hy) (by rw [vix_step hp hy, hv]) z hz
theorem ring_mem {p : List Nat} (hp : Perm p n) {x : Nat} (hx : x < n) : ∀ z ∈ ring p x, z < n ∧ z ≠ x ∧ vix p n z = vix p n x :=
  rng_mem hp (hp.lt hx) (vix_step hp hx)
abbrev pc (b w : List Nat) (c : Bool) : List Nat := if c then w else b
def catB (ts : List (List UInt8)) : List UInt8 := ts.flatMap fun t => 40 :: (t ++ [41])
theorem catB_snoc {ts : List (List UInt8)} {t : List UInt8} : catB (ts ++ [t]) = catB ts ++ (40 :: (t ++ [41])) := by simp [catB]
theorem catB_len {M : Nat} : ∀ {ts : List (List UInt8)}, (∀ t ∈ ts, t.length + 2 ≤ M) → (catB ts).length ≤ ts.length * M
  | [], _ => by simp [catB]
  | t :: ts, h => by
    have ih := catB_len (ts := ts) fun t ht => h t (by simp [ht])
    have h1 := h t (by simp)
    have e : catB (t :: ts) = (40 :: (t ++ [41])) ++ catB ts := by simp [catB]
    rw [e]
    simp only [List.length_cons, List.length_append, List.length_nil, Nat.succ_mul]
    omega
theorem catB_le {d r : List (List UInt8)} {t : List UInt8} : (catB d).length + t.length + 2 ≤ (catB (d ++ t :: r)).length := by
  have e : catB (d ++ t :: r) = catB d ++ ((40 :: (t ++ [41])) ++ catB r) := by simp [catB]
  rw [e]
  simp only [List.length_append, List.length_cons, List.length_nil]
  omega
/-- The word of what lies behind a dart at its vertex of one colour, with so much fuel. -/
def wrd (b w : List Nat) : Nat → Bool → Nat → Option (List UInt8)
  | 0, _, _ => none
  | k + 1, c, x => ((ring (pc b w c) x).mapM (wrd b w k (!c))).map catB
theorem mapM_some {α β : Type} {f : α → Option β} : ∀ {l : List α}, (∀ y ∈ l, ∃ s, f y = some s) → ∃ ts, l.mapM f = some ts
  | [], _ => ⟨[], rfl⟩
  | a :: l, h => by
    obtain ⟨s, hs⟩ := h a (by simp)
    obtain ⟨ts, hts⟩ := mapM_some (l := l) fun y hy => h y (by simp [hy])
    exact ⟨s :: ts, by simp [hs, hts]⟩
theorem wrd_some (hd : Des n b w) (ht : Tree n b w) : ∀ (r k : Nat) (c : Bool) (x : Nat), x < n → (behind b w n c x).length ≤ r → r < k → ∃ s, wrd b w k c x = some s := by
  intro r
  induction r with
  | zero =>
    intro k c x hx hr hk
    obtain ⟨k, rfl⟩ : ∃ j, k = j + 1 := ⟨k - 1, by omega⟩
    have hring : ring (pc b w c) x = [] := by
      apply List.eq_nil_iff_forall_not_mem.2
      intro y hy
      have hp : Perm (pc b w c) n := by cases c; exact hd.1; exact hd.2.1
      obtain ⟨h1, h2, h3⟩ := ring_mem hp hx y hy
      have := behind_less hd ht (c := c) hx h1 h2 (by cases c <;> simp only [ends, pc] at h3 ⊢ <;> simpa using h3)
      omega
    rw [wrd, hring]
    exact ⟨_, rfl⟩
  | succ r ih =>
    intro k c x hx hr hk
    obtain ⟨k, rfl⟩ : ∃ j, k = j + 1 := ⟨k - 1, by omega⟩
    obtain ⟨ts, hts⟩ := mapM_some (f := wrd b w k (!c)) (l := ring (pc b w c) x) fun y hy => by
      have hp : Perm (pc b w c) n := by cases c; exact hd.1; exact hd.2.1
      obtain ⟨h1, h2, h3⟩ := ring_mem hp hx y hy
      have := behind_less hd ht (c := c) hx h1 h2 (by cases c <;> simp only [ends, pc] at h3 ⊢ <;> simpa using h3)
      exact ih k (!c) y h1 (by omega) (by omega)
    exact ⟨catB ts, by rw [wrd, hts]; rfl⟩
theorem behind_le {c : Bool} {x : Nat} : (behind b w n c x).length ≤ n := nodup_le behind_nod fun z hz => (behind_mem.1 hz).1
theorem rng_len {p : List Nat} {x : Nat} : ∀ {k y : Nat}, (rng p x k y).length ≤ k
  | 0, _ => by simp [rng]
  | k + 1, y => by
    simp only [rng]
    split
    · simp
    · have := @rng_len p x k (nl p y)
      simp
      omega
theorem mapM_mem {α β : Type} {f : α → Option β} : ∀ {l : List α} {ts : List β}, l.mapM f = some ts → ts.length = l.length ∧ ∀ t ∈ ts, ∃ y ∈ l, f y = some t
  | [], ts, h => by
    have : ts = [] := by simpa using h.symm
    subst this
    simp
  | a :: l, ts, h => by
    rw [List.mapM_cons] at h
    simp only [Option.pure_def, Option.bind_eq_bind, Option.bind_eq_some_iff, Option.some.injEq] at h
    obtain ⟨s, hs, ts', hts, rfl⟩ := h
    obtain ⟨h1, h2⟩ := mapM_mem hts
    refine ⟨by simp [h1], fun t ht => ?_⟩
    rcases List.mem_cons.1 ht with rfl | ht
    · exact ⟨a, by simp, hs⟩
    · obtain ⟨y, hy, he⟩ := h2 t ht
      exact ⟨y, by simp [hy], he⟩
/-- Words are not too long. -/
theorem wrd_len (hd : Des n b w) (ht : Tree n b w) : ∀ (r k : Nat) (c : Bool) (x : Nat) (s : List UInt8), x < n → (behind b w n c x).length ≤ r → wrd b w k c x = some s → s.length + 3 ≤ 4 * 16 ^ r := by
  intro r
  induction r with
  | zero =>
    intro k c x s hx hr hs
    cases k with
    | zero => simp [wrd] at hs
    | succ k =>
      have hring : ring (pc b w c) x = [] := by
        apply List.eq_nil_iff_forall_not_mem.2
        intro y hy
        have hp : Perm (pc b w c) n := by cases c; exact hd.1; exact hd.2.1
        obtain ⟨h1, h2, h3⟩ := ring_mem hp hx y hy
        have := behind_less hd ht (c := c) hx h1 h2 (by cases c <;> simp only [ends, pc] at h3 ⊢ <;> simpa using h3)
        omega
      rw [wrd, hring] at hs
      have : s = [] := by simpa [catB] using hs.symm
      subst this
      simp
  | succ r ih =>
    intro k c x s hx hr hs
    cases k with
    | zero => simp [wrd] at hs
    | succ k =>
      rw [wrd, Option.map_eq_some_iff] at hs
      obtain ⟨ts, hts, rfl⟩ := hs
      obtain ⟨h1, h2⟩ := mapM_mem hts
      have hl := @rng_len (pc b w c) x 16 (nl (pc b w c) x)
      have hM := catB_len (M := 4 * 16 ^ r - 1) (ts := ts) fun t ht' => by
        obtain ⟨y, hy, he⟩ := h2 t ht'
        have hp : Perm (pc b w c) n := by cases c; exact hd.1; exact hd.2.1
        obtain ⟨g1, g2, g3⟩ := ring_mem hp hx y hy
        have := behind_less hd ht (c := c) hx g1 g2 (by cases c <;> simp only [ends, pc] at g3 ⊢ <;> simpa using g3)
        have := ih k (!c) y t g1 (by omega) he
        omega
      have h3 : ts.length ≤ 16 := by rw [h1]; exact hl
      have h4 : ts.length * (4 * 16 ^ r - 1) ≤ 16 * (4 * 16 ^ r - 1) := Nat.mul_le_mul_right _ h3
      have h5 : 0 < 16 ^ r := Nat.pos_of_ne_zero (by simp)
      rw [Nat.pow_succ]
      omega
/-- Others at the same vertex do not lie behind a dart at its other vertex. -/
theorem behind_two (hd : Des n b w) (ht : Tree n b w) {c : Bool} {x y : Nat} (hx : x < n) (hy : y < n) (hxy : y ≠ x) (hc : ends b w n c y = ends b w n c x) : (behind b w n (!c) y).length + 2 ≤ n := by
  have h1 := behind_less hd ht hx hy hxy hc
  have h2 : (behind b w n c x).length + 1 ≤ n := by
    have := nodup_le (n := n) (l := x :: behind b w n c x) (List.nodup_cons.2 ⟨fun h => (behind_mem.1 h).2.1 rfl, behind_nod⟩) fun z hz => by
      rcases List.mem_cons.1 hz with rfl | hz
      · exact hx
      · exact (behind_mem.1 hz).1
    rw [List.length_cons] at this
    exact this
  omega
/-- The word of a tree at an edge. -/
def wordAt (b w : List Nat) (x : Nat) : Option (List UInt8) := ((x :: ring b x).mapM (wrd b w 17 true)).map catB
theorem wordAt_some (hd : Des n b w) (ht : Tree n b w) {x : Nat} (hx : x < n) : ∃ s, wordAt b w x = some s := by
  have hn := hd.1.1
  obtain ⟨ts, hts⟩ := mapM_some (f := wrd b w 17 true) (l := x :: ring b x) fun y hy => by
    have hy : y < n := by
      rcases List.mem_cons.1 hy with rfl | hy
      · exact hx
      · exact (ring_mem hd.1 hx y hy).1
    exact wrd_some hd ht n 17 true y hy behind_le (by omega)
  exact ⟨catB ts, by rw [wordAt, hts]; rfl⟩
theorem wordAt_len (hd : Des n b w) (ht : Tree n b w) {x : Nat} (hx : x < n) {s : List UInt8} (hs : wordAt b w x = some s) : s.length ≤ 9000000000000000000 := by
  have hn := hd.1.1
  rw [wordAt, Option.map_eq_some_iff] at hs
  obtain ⟨ts, hts, rfl⟩ := hs
  obtain ⟨h1, h2⟩ := mapM_mem hts
  have hl : (ring b x).length ≤ 16 := rng_len
  rw [List.length_cons] at h1
  have hb0 : (behind b w n true x).length + 1 ≤ n := by
    have := nodup_le (n := n) (l := x :: behind b w n true x) (List.nodup_cons.2 ⟨fun h => (behind_mem.1 h).2.1 rfl, behind_nod⟩) fun z hz => by
      rcases List.mem_cons.1 hz with rfl | hz
      · exact hx
      · exact (behind_mem.1 hz).1
    rw [List.length_cons] at this
    exact this
  have p14 : 4 * 16 ^ 14 = 288230376151711744 := by decide
  have p15 : 4 * 16 ^ 15 = 4611686018427387904 := by decide
  by_cases hr : ring b x = []
  · rw [hr, List.length_nil] at h1
    have hM := catB_len (M := 4611686018427387904) (ts := ts) fun t ht' => by
      obtain ⟨y, hy, he⟩ := h2 t ht'
      rw [hr, List.mem_singleton] at hy
      subst hy
      have := wrd_len hd ht 15 17 true y t hx (by omega) he
      omega
    rw [h1] at hM
    omega
  · have hM := catB_len (M := 288230376151711744) (ts := ts) fun t ht' => by
      obtain ⟨y, hy, he⟩ := h2 t ht'
      have key : ∀ z, z < n → ∀ z', z' < n → z ≠ z' → ends b w n false z = ends b w n false z' → (behind b w n true z).length ≤ 14 := fun z hz z' hz' hne he => by
        have := behind_two hd ht (c := false) hz' hz hne he
        have e : (!false) = true := rfl
        rw [e] at this
        omega
      have hyn : y < n ∧ (behind b w n true y).length ≤ 14 := by
        obtain ⟨z, rest, hzr⟩ := List.exists_cons_of_ne_nil hr
        have hz : z ∈ ring b x := by rw [hzr]; simp
        obtain ⟨g1, g2, g3⟩ := ring_mem hd.1 hx z hz
        rcases List.mem_cons.1 hy with rfl | hy
        · exact ⟨hx, key y hx z g1 g2.symm (by simp only [ends]; exact g3.symm)⟩
        · obtain ⟨k1, k2, k3⟩ := ring_mem hd.1 hx y hy
          exact ⟨k1, key y k1 x hx k2 (by simp only [ends]; exact k3)⟩
      have := wrd_len hd ht 14 17 true y t hyn.1 hyn.2 he
      omega
    have h4 : ts.length * 288230376151711744 ≤ 17 * 288230376151711744 := Nat.mul_le_mul_right _ (by omega)
    omega

/-! ### Round a vertex -/
def it (p : List Nat) (x : Nat) : Nat → Nat
  | 0 => nl p x
  | i + 1 => nl p (it p x i)
theorem it_lt {p : List Nat} (hp : Perm p n) {x : Nat} (hx : x < n) : ∀ i, it p x i < n
  | 0 => hp.lt hx
  | i + 1 => hp.lt (it_lt hp hx i)
theorem cyc_next {p c : List Nat} (h : IsCyc p n c) {m : Nat} (hm : m < c.length) : nl p (nl c m) = nl c ((m + 1) % c.length) := by
  by_cases e : m + 1 < c.length
  · rw [h.step m e, Nat.mod_eq_of_lt e]
  · obtain rfl : m = c.length - 1 := by omega
    rw [h.last, Nat.sub_add_cancel h.ne, Nat.mod_self]
theorem it_cyc {p c : List Nat} (h : IsCyc p n c) {j : Nat} (hj : j < c.length) : ∀ i, it p (nl c j) i = nl c ((j + 1 + i) % c.length)
  | 0 => cyc_next h hj
  | i + 1 => by
    rw [it, it_cyc h hj i, cyc_next h (Nat.mod_lt _ h.ne), Nat.mod_add_mod]
    congr 1
/-- One comes back to where one started, within sixteen steps. -/
theorem it_back {p : List Nat} (hp : Perm p n) {x : Nat} (hx : x < n) : ∃ P, P < 16 ∧ it p x P = x := by
  have hn := hp.1
  obtain ⟨c, hc, hxc⟩ := cyc_at hp hx
  have hi := cyc_is hp hc
  have hl := cyc_len hp hc
  obtain ⟨j, hj, rfl⟩ := mem_nl hxc
  refine ⟨c.length - 1, by omega, ?_⟩
  rw [it_cyc hi hj, show j + 1 + (c.length - 1) = j + c.length by omega, Nat.add_mod_right, Nat.mod_eq_of_lt hj]
end
/-- Bytes as a string. -/
def bs (l : List UInt8) : ByteArray := ⟨l.toArray⟩
theorem bs_size {l : List UInt8} : (bs l).size = l.length := by simp [bs, ByteArray.size]
theorem bs_append {a b : List UInt8} : bs a ++ bs b = bs (a ++ b) := by
  apply ByteArray.ext
  simp [bs]
theorem bs40 : (⟨#[40]⟩ : ByteArray) = bs [40] := rfl
theorem bs41 : (⟨#[41]⟩ : ByteArray) = bs [41] := rfl
theorem sbin_add {a b : List UInt8} (h : a.length + b.length ≤ 9223372036854775807) : aSbin .add (.string (bs a)) (.string (bs b)) = some (.string (bs (a ++ b))) := by
  simp only [aSbin, bs_size]
  rw [if_pos h, bs_append]
end Go.Bm

/- Longest paths in trees: the plain law. The middle of a longest path from an end of a longest path is the same, whatever ends are chosen. -/
set_option linter.unusedVariables false
set_option linter.unusedSimpArgs false
namespace Go.Bm
open Go Go.Am

section
variable {n : Nat} {b w : List Nat}
/-- y is another edge at x's vertex of one colour. -/
def Nb (b w : List Nat) (n : Nat) (c : Bool) (x y : Nat) : Prop := y < n ∧ y ≠ x ∧ ends b w n c y = ends b w n c x
instance (c : Bool) (x y : Nat) : Decidable (Nb b w n c x y) := by unfold Nb; infer_instance
theorem Nb.symm {c : Bool} {x y : Nat} (hx : x < n) (h : Nb b w n c x y) : Nb b w n c y x := ⟨hx, h.2.1.symm, h.2.2.symm⟩
def nbs (b w : List Nat) (n : Nat) (c : Bool) (x : Nat) : List Nat := (List.range n).filter fun y => decide (Nb b w n c x y)
theorem mem_nbs {c : Bool} {x y : Nat} : y ∈ nbs b w n c x ↔ Nb b w n c x y := by
  simp only [nbs, List.mem_filter, List.mem_range, decide_eq_true_eq]
  exact ⟨fun h => h.2, fun h => ⟨h.1, h⟩⟩
def mx (f : Nat → Nat) (l : List Nat) : Nat := l.foldr (fun y m => max (f y + 1) m) 0
theorem mx_ge {f : Nat → Nat} : ∀ {l : List Nat} {y : Nat}, y ∈ l → f y + 1 ≤ mx f l
  | a :: l, y, h => by
    simp only [mx, List.foldr_cons]
    rcases List.mem_cons.1 h with rfl | h
    · omega
    · have := mx_ge (f := f) h
      simp only [mx] at this
      omega
theorem mx_congr {f g : Nat → Nat} : ∀ {l : List Nat}, (∀ y ∈ l, f y = g y) → mx f l = mx g l
  | [], _ => rfl
  | a :: l, h => by
    have ih := mx_congr (l := l) fun y hy => h y (by simp [hy])
    simp only [mx, List.foldr_cons] at ih ⊢
    rw [ih, h a (by simp)]
/-- The length of a longest path from an edge's vertex of one colour that goes away from the edge. -/
def hg (b w : List Nat) (n : Nat) : Nat → Bool → Nat → Nat
  | 0, _, _ => 0
  | k + 1, c, x => mx (hg b w n k (!c)) (nbs b w n c x)
theorem hg_eq (hd : Des n b w) (ht : Tree n b w) : ∀ (r k : Nat) (c : Bool) (x : Nat), x < n → (behind b w n c x).length ≤ r → r ≤ k → hg b w n k c x = hg b w n (k + 1) c x
  | 0, k, c, x, hx, hr, hk => by
    have : nbs b w n c x = [] := List.eq_nil_iff_forall_not_mem.2 fun y hy => by
      obtain ⟨h1, h2, h3⟩ := mem_nbs.1 hy
      have := behind_less hd ht hx h1 h2 h3
      omega
    cases k <;> simp only [hg, this] <;> rfl
  | r + 1, 0, c, x, hx, hr, hk => by omega
  | r + 1, k + 1, c, x, hx, hr, hk => by
    rw [hg, hg]
    refine mx_congr fun y hy => ?_
    obtain ⟨h1, h2, h3⟩ := mem_nbs.1 hy
    have := behind_less hd ht hx h1 h2 h3
    exact hg_eq hd ht r k (!c) y h1 (by omega) (by omega)
def hgt (b w : List Nat) (n : Nat) (c : Bool) (x : Nat) : Nat := hg b w n n c x
theorem hgt_rec (hd : Des n b w) (ht : Tree n b w) {c : Bool} {x : Nat} (hx : x < n) : hgt b w n c x = mx (hgt b w n (!c)) (nbs b w n c x) := by
  rw [hgt, hg_eq hd ht n n c x hx behind_le (Nat.le_refl n)]
  rfl
theorem hgt_nb (hd : Des n b w) (ht : Tree n b w) {c : Bool} {x y : Nat} (hx : x < n) (h : Nb b w n c x y) : hgt b w n (!c) y + 1 ≤ hgt b w n c x := by
  rw [hgt_rec hd ht (c := c) hx]
  exact mx_ge (mem_nbs.2 h)
/-! ### Edges far from each other -/
inductive Rc (b w : List Nat) (n : Nat) (c : Bool) (x : Nat) : Bool → Nat → Nat → Prop where
  | one {y} : Nb b w n c x y → Rc b w n c x (!c) y 1
  | more {c' y d z} : Rc b w n c x c' y d → Nb b w n c' y z → Rc b w n c x (!c') z (d + 1)
theorem Rc.lt {c c' : Bool} {x y d : Nat} (h : Rc b w n c x c' y d) : y < n := by
  cases h with
  | one h => exact h.1
  | more _ h => exact h.1
theorem Rc.far (hd : Des n b w) (ht : Tree n b w) {c c' : Bool} {x y d : Nat} (hx : x < n) (h : Rc b w n c x c' y d) :
    hgt b w n c' y + d ≤ hgt b w n c x ∧ hgt b w n (!c) x + d ≤ hgt b w n (!c') y := by
  induction h with
  | one h =>
    have h1 := hgt_nb hd ht hx h
    have h2 := hgt_nb hd ht h.1 (h.symm hx)
    simp only [Bool.not_not]
    omega
  | @more c' y d z h1 h2 ih =>
    have h3 := hgt_nb hd ht h1.lt h2
    have h4 := hgt_nb hd ht h2.1 (h2.symm h1.lt)
    simp only [Bool.not_not]
    omega
theorem Rc.pos {c c' : Bool} {x y d : Nat} (h : Rc b w n c x c' y d) : 0 < d := by
  cases h <;> omega
/-- From edge to edge round one vertex. -/
theorem Rc.turn {c' : Bool} {x y z : Nat} (hx : x < n) (hz : z < n) (c0 : Bool) (he : ends b w n c0 z = ends b w n c0 y) (h : y = x ∨ ∃ c d, Rc b w n c x c' y d) :
    z = x ∨ ∃ c c' d, Rc b w n c x c' z d := by
  by_cases hzx : z = x
  · exact .inl hzx
  refine .inr ?_
  rcases h with rfl | ⟨c, d, h⟩
  · exact ⟨c0, _, _, .one ⟨hz, hzx, he⟩⟩
  · by_cases hzy : z = y
    · subst hzy
      exact ⟨_, _, _, h⟩
    by_cases hc : c' = c0
    · subst hc
      exact ⟨c, _, _, h.more ⟨hz, hzy, he⟩⟩
    · cases h with
      | one h1 =>
        have : c0 = c := by cases c <;> cases c0 <;> simp_all
        subst this
        exact ⟨_, _, _, .one ⟨hz, hzx, he.trans h1.2.2⟩⟩
      | @more c2 y2 d2 _ h1 h2 =>
        have : c0 = c2 := by cases c2 <;> cases c0 <;> simp_all
        subst this
        by_cases hz2 : z = y2
        · subst hz2
          exact ⟨_, _, _, h1⟩
        · exact ⟨_, _, _, h1.more ⟨hz, hz2, he.trans h2.2.2⟩⟩
theorem Rc.all (hd : Des n b w) {x : Nat} (hx : x < n) : ∀ z, z < n → z = x ∨ ∃ c c' d, Rc b w n c x c' z d := by
  obtain ⟨hb, hw, _⟩ := id hd
  refine hd.indx hx _ (fun z hz h => ?_) (fun z hz h => ?_) (.inl rfl)
  · have e : ends b w n false (nl b z) = ends b w n false z := by simp only [ends]; exact vix_step hb hz
    rcases h with h | ⟨c, c', d, h⟩
    · exact Rc.turn (c' := false) hx (hb.lt hz) false e (.inl h)
    · exact Rc.turn hx (hb.lt hz) false e (.inr ⟨c, d, h⟩)
  · have e : ends b w n true (nl w z) = ends b w n true z := by simp only [ends, if_true]; rw [vix_step hw hz]
    rcases h with h | ⟨c, c', d, h⟩
    · exact Rc.turn (c' := false) hx (hw.lt hz) true e (.inl h)
    · exact Rc.turn hx (hw.lt hz) true e (.inr ⟨c, d, h⟩)
/-- A middle edge, or an edge at the middle vertex (of colour c). -/
def Mid (b w : List Nat) (n : Nat) (c : Bool) (x : Nat) (k : Nat) : Prop :=
  x < n ∧ ((k = 2 * hgt b w n c x + 1 ∧ hgt b w n (!c) x = hgt b w n c x) ∨ (k = 2 * hgt b w n c x ∧ hgt b w n c x = hgt b w n (!c) x + 1))
theorem Mid.uniq (hd : Des n b w) (ht : Tree n b w) {c c' : Bool} {x x' k k' : Nat} (h : Mid b w n c x k) (h' : Mid b w n c' x' k') :
    k = k' ∧ (k % 2 = 1 → x = x') ∧ (k % 2 = 0 → ends b w n c x = ends b w n c' x' ∧ c = c') := by
  obtain ⟨hx, h⟩ := h
  obtain ⟨hx', h'⟩ := h'
  rcases Rc.all hd hx x' hx' with rfl | ⟨a, a', d, hr⟩
  · by_cases e : c = c'
    · subst e
      exact ⟨by omega, fun _ => rfl, fun _ => ⟨rfl, rfl⟩⟩
    · obtain rfl : c' = !c := by cases c <;> cases c' <;> simp_all
      rw [Bool.not_not] at h'
      exact ⟨by omega, fun _ => rfl, fun _ => by omega⟩
  · have hd0 := hr.pos
    obtain ⟨f1, f2⟩ := hr.far hd ht hx
    have hA : (hgt b w n a x = hgt b w n c x ∧ hgt b w n (!a) x = hgt b w n (!c) x ∧ a = c) ∨ (hgt b w n a x = hgt b w n (!c) x ∧ hgt b w n (!a) x = hgt b w n c x ∧ a = !c) := by
      cases a <;> cases c <;> simp
    have hB : (hgt b w n a' x' = hgt b w n c' x' ∧ hgt b w n (!a') x' = hgt b w n (!c') x' ∧ a' = c') ∨ (hgt b w n a' x' = hgt b w n (!c') x' ∧ hgt b w n (!a') x' = hgt b w n c' x' ∧ a' = !c') := by
      cases a' <;> cases c' <;> simp
    have key : d = 1 ∧ a = c ∧ a' = !c' ∧ k = k' ∧ k % 2 = 0 := by
      rcases hA with ⟨g1, g2, g3⟩ | ⟨g1, g2, g3⟩ <;> rcases hB with ⟨g4, g5, g6⟩ | ⟨g4, g5, g6⟩ <;> rcases h with h | h <;> rcases h' with h' | h' <;>
        first | exact ⟨by omega, g3, g6, by omega, by omega⟩ | (exfalso; omega)
    obtain ⟨rfl, rfl, k2, k3, k4⟩ := key
    refine ⟨k3, fun _ => by omega, fun _ => ?_⟩
    cases hr with
    | one h1 =>
      have : a = c' := by cases a <;> cases c' <;> simp_all
      subst this
      exact ⟨h1.2.2.symm, rfl⟩
    | more h1 h2 => have := h1.pos; omega

/-! ### Two sweeps -/
/-- A longest path that goes away from an edge at its vertex of one colour. -/
def Lg (b w : List Nat) (n : Nat) : Bool → Nat → List Nat → Prop
  | c, x, [] => hgt b w n c x = 0
  | c, x, y :: l => Nb b w n c x y ∧ hgt b w n c x = hgt b w n (!c) y + 1 ∧ Lg b w n (!c) y l
theorem Lg.len : ∀ {c : Bool} {x : Nat} {l : List Nat}, Lg b w n c x l → l.length = hgt b w n c x
  | c, x, [], h => by rw [Lg] at h; rw [h]; rfl
  | c, x, y :: l, h => by
    rw [Lg] at h
    rw [List.length_cons, h.2.2.len, h.2.1]
/-- The vertices on a path. -/
def sn (b w : List Nat) (n : Nat) : Bool → Nat → List Nat → List Nat
  | c, x, [] => [ends b w n c x]
  | c, x, y :: l => ends b w n c x :: sn b w n (!c) y l
theorem sn_len : ∀ {c : Bool} {x : Nat} {l : List Nat}, (sn b w n c x l).length = l.length + 1
  | c, x, [] => rfl
  | c, x, y :: l => by rw [sn, List.length_cons, sn_len, List.length_cons]
/-- The way back from an edge to where a longest path began. -/
def Back (b w : List Nat) (n : Nat) : Bool → Nat → Nat → List Nat → Prop
  | c, x, d, [] => x < n ∧ hgt b w n c x = d ∧ ∀ z, z < n → ends b w n (!c) z = ends b w n (!c) x → hgt b w n c z ≤ d
  | c, x, d, y :: g => x < n ∧ hgt b w n c x = d ∧ Nb b w n (!c) x y ∧ Back b w n (!c) y (d + 1) g
theorem Back.mid (hd : Des n b w) (ht : Tree n b w) : ∀ (g : List Nat) (c : Bool) (x d : Nat) (pre l : List Nat) (cu : Bool), Back b w n c x d g → Lg b w n (!c) x l → pre.length = d → d ≤ l.length → (c = (cu ^^ decide (d % 2 = 1))) →
    ∃ pre' x' l' c', pre ++ x :: l = pre' ++ x' :: l' ∧ c' = (cu ^^ decide (pre'.length % 2 = 1)) ∧ Mid b w n (!c') x' (pre ++ x :: l).length ∧ (l'.length = pre'.length ∨ l'.length = pre'.length + 1)
  | g, c, x, d, pre, l, cu, hB, hL, hp, hdl, hc => by
    have hll := hL.len
    have hxd : x < n ∧ hgt b w n c x = d := by cases g <;> rw [Back] at hB <;> exact ⟨hB.1, hB.2.1⟩
    by_cases hm : l.length ≤ d + 1
    · refine ⟨pre, x, l, c, rfl, by rw [hp]; exact hc, ⟨hxd.1, ?_⟩, by omega⟩
      rw [Bool.not_not, List.length_append, List.length_cons]
      omega
    · match l, hL, hll, hdl, hm with
      | [], _, _, _, hm => exact absurd (Nat.zero_le _) hm
      | y' :: l, hL, hll, hdl, hm =>
        rw [Lg] at hL
        obtain ⟨h1, h2, h3⟩ := hL
        rw [List.length_cons] at hll hdl hm
        match g, hB with
        | [], hB =>
          rw [Back] at hB
          have h5 := hB.2.2 y' h1.1 h1.2.2
          rw [Bool.not_not] at h2
          omega
        | y :: g, hB =>
          rw [Back] at hB
          obtain ⟨_, _, h5, h6⟩ := hB
          have hyy : y' = y := Classical.byContradiction fun hne => by
            have hy : hgt b w n (!c) y = d + 1 := by cases g <;> rw [Back] at h6 <;> exact h6.2.1
            have h7 := hgt_nb hd ht h5.1 (c := !c) (y := y') ⟨h1.1, hne, h1.2.2.trans h5.2.2.symm⟩
            omega
          subst hyy
          have := Back.mid hd ht g (!c) y' (d + 1) (pre ++ [x]) l cu h6 h3 (by simp [hp]) (by omega) (by
            rw [hc]
            rcases Nat.mod_two_eq_zero_or_one d with e | e <;> cases cu <;> simp [e] <;> omega)
          rw [List.append_assoc] at this
          exact this
termination_by g => g.length
/-- A path turned round. -/
theorem Back.of : ∀ {l : List Nat} {c : Bool} {x : Nat} {g : List Nat}, Lg b w n c x l → Back b w n c x l.length g →
    ∃ x' g', Back b w n (c ^^ decide (l.length % 2 = 1)) x' 0 g' ∧ (sn b w n c x l).getD l.length 0 = ends b w n (c ^^ decide (l.length % 2 = 1)) x' ∧ (x :: l).getD l.length 0 = x'
  | [], c, x, g, hL, hB => ⟨x, g, by simpa using hB, by simp [sn], rfl⟩
  | y :: l, c, x, g, hL, hB => by
    rw [Lg] at hL
    obtain ⟨h1, h2, h3⟩ := hL
    have hx : x < n := by cases g <;> rw [Back] at hB <;> exact hB.1
    obtain ⟨x', g', k1, k2, k3⟩ := Back.of (l := l) (c := !c) (x := y) (g := x :: g) h3 (by
      rw [Back, Bool.not_not]
      exact ⟨h1.1, h3.len.symm, h1.symm hx, by simpa using hB⟩)
    have e : ((!c) ^^ decide (l.length % 2 = 1)) = (c ^^ decide ((y :: l).length % 2 = 1)) := by
      rw [List.length_cons]
      rcases Nat.mod_two_eq_zero_or_one l.length with e | e <;> cases c <;> simp [e] <;> omega
    rw [e] at k1 k2
    exact ⟨x', g', k1, by simpa [sn] using k2, by simpa using k3⟩
end
end Go.Bm

/- Weights of trees: the plain law. Some vertex has just one of any edges that are left; weights with given sums are one or none. -/
set_option linter.unusedVariables false
set_option linter.unusedSimpArgs false
namespace Go.Bm
open Go Go.Am

section
variable {n : Nat} {b w : List Nat}
/-- The edges of all vertices, black ones first. -/
def verts (b w : List Nat) (n : Nat) : List (List Nat) := cyc b n ++ cyc w n
theorem verts_at (hd : Des n b w) {v : Nat} (hv : v < (verts b w n).length) : ∃ c, (∃ x, x < n ∧ ends b w n c x = v) ∧ ∀ y, y < n → (y ∈ (verts b w n)[v] ↔ ends b w n c y = v) := by
  obtain ⟨hb, hw, _⟩ := id hd
  have hv' : v < (cyc b n).length + (cyc w n).length := by rw [← List.length_append]; exact hv
  by_cases h : v < (cyc b n).length
  · have e : (verts b w n)[v] = (cyc b n)[v] := List.getElem_append_left h
    obtain ⟨x, hx, hxv⟩ := vix_surj hb h
    refine ⟨false, ⟨x, hx, by simp [ends, hxv]⟩, fun y hy => ?_⟩
    rw [e]
    simp only [ends, Bool.false_eq_true, if_false]
    refine ⟨fun hm => vix_of hb hy h hm, fun hm => ?_⟩
    subst hm
    exact vix_mem hb hy
  · have hvw : v - (cyc b n).length < (cyc w n).length := by omega
    have e : (verts b w n)[v] = (cyc w n)[v - (cyc b n).length] := List.getElem_append_right (by omega)
    obtain ⟨x, hx, hxv⟩ := vix_surj hw hvw
    refine ⟨true, ⟨x, hx, by simp only [ends, if_true, hxv]; omega⟩, fun y hy => ?_⟩
    rw [e]
    simp only [ends, if_true]
    refine ⟨fun hm => by rw [vix_of hw hy hvw hm]; omega, fun hm => ?_⟩
    have : vix w n y = v - (cyc b n).length := by omega
    simp only [← this]
    exact vix_mem hw hy
theorem verts_lt (hd : Des n b w) {v y : Nat} (hv : v < (verts b w n).length) (h : y ∈ (verts b w n)[v]) : y < n := by
  obtain ⟨hb, hw, _⟩ := id hd
  have : (verts b w n)[v] ∈ cyc b n ++ cyc w n := List.getElem_mem hv
  rcases List.mem_append.1 this with h1 | h1
  · exact (cyc_is hb h1).lt _ h
  · exact (cyc_is hw h1).lt _ h
theorem verts_nod (hd : Des n b w) {v : Nat} (hv : v < (verts b w n).length) : ((verts b w n)[v]).Nodup := by
  obtain ⟨hb, hw, _⟩ := id hd
  have : (verts b w n)[v] ∈ cyc b n ++ cyc w n := List.getElem_mem hv
  rcases List.mem_append.1 this with h1 | h1
  · exact (cyc_is hb h1).nod
  · exact (cyc_is hw h1).nod
theorem ends_lt (hd : Des n b w) {c : Bool} {x : Nat} (hx : x < n) : ends b w n c x < (verts b w n).length := by
  obtain ⟨hb, hw, _⟩ := id hd
  rw [verts, List.length_append]
  cases c
  · have := vix_lt hb hx
    simp only [ends, Bool.false_eq_true, if_false]
    omega
  · have := vix_lt hw hx
    simp only [ends, if_true]
    omega
theorem mem_verts (hd : Des n b w) {c : Bool} {x y : Nat} (hx : x < n) (hy : y < n) : y ∈ (verts b w n)[ends b w n c x]'(ends_lt hd hx) ↔ ends b w n c y = ends b w n c x := by
  obtain ⟨hb, hw, _⟩ := id hd
  cases c
  · have hv := vix_lt hb hx
    have e0 : ends b w n false x = vix b n x := by simp [ends]
    have e1 : ends b w n false y = vix b n y := by simp [ends]
    rw [e1]
    have e : (verts b w n)[ends b w n false x]'(ends_lt hd hx) = (cyc b n)[vix b n x] := by
      simp only [e0]
      exact List.getElem_append_left hv
    rw [e, e0]
    refine ⟨fun hm => vix_of hb hy hv hm, fun hm => ?_⟩
    simp only [← hm]
    exact vix_mem hb hy
  · have hv := vix_lt hw hx
    have e0 : ends b w n true x = (cyc b n).length + vix w n x := by simp [ends]
    have e1 : ends b w n true y = (cyc b n).length + vix w n y := by simp [ends]
    have e : (verts b w n)[ends b w n true x]'(ends_lt hd hx) = (cyc w n)[vix w n x] := by
      simp only [e0, verts]
      rw [List.getElem_append_right (by omega)]
      simp only [Nat.add_sub_cancel_left]
    rw [e, e0, e1]
    refine ⟨fun hm => by rw [vix_of hw hy hv hm], fun hm => ?_⟩
    have : vix w n y = vix w n x := by omega
    simp only [← this]
    exact vix_mem hw hy
/-- Of any edges, some vertex has just one. -/
theorem leaf (hd : Des n b w) (ht : Tree n b w) (O : Nat → Prop) : (∃ x, x < n ∧ O x) → ∃ c x, x < n ∧ O x ∧ ∀ y, y < n → O y → ends b w n c y = ends b w n c x → y = x := by
  rintro ⟨x0, hx0, ho0⟩
  have key : ∀ (r : Nat) (c : Bool) (x : Nat), x < n → O x → (behind b w n c x).length ≤ r → ∃ c x, x < n ∧ O x ∧ ∀ y, y < n → O y → ends b w n c y = ends b w n c x → y = x := by
    intro r
    induction r with
    | zero =>
      intro c x hx ho hr
      refine ⟨c, x, hx, ho, fun y hy hoy he => Classical.byContradiction fun hne => ?_⟩
      have := behind_less hd ht hx hy hne he
      omega
    | succ r ih =>
      intro c x hx ho hr
      by_cases h : ∃ y, y < n ∧ O y ∧ ends b w n c y = ends b w n c x ∧ y ≠ x
      · obtain ⟨y, hy, hoy, he, hne⟩ := h
        have := behind_less hd ht hx hy hne he
        exact ih (!c) y hy hoy (by omega)
      · exact ⟨c, x, hx, ho, fun y hy hoy he => Classical.byContradiction fun hne => h ⟨y, hy, hoy, he, hne⟩⟩
  exact key _ false x0 hx0 ho0 (Nat.le_refl _)

/-! ### Weights -/
def vsum (o : List Int) (l : List Nat) : Int := (l.map (el o)).sum
/-- Weights of edges that have given sums at the vertices. -/
structure Good (b w : List Nat) (n : Nat) (s : List Int) (W : List Int) : Prop where
  len : W.length = n
  pos : ∀ x, x < n → 1 ≤ el W x
  sum : ∀ v (hv : v < (verts b w n).length), vsum W (verts b w n)[v] = el s v
theorem at_ext {o o' : List Int} (h : o.length = o'.length) (h2 : ∀ x, x < o.length → el o x = el o' x) : o = o' := by
  refine List.ext_getElem h fun i h3 h4 => ?_
  have := h2 i h3
  simpa [el, List.getD, h3, h4] using this
theorem vsum_one {o o' : List Int} : ∀ {l : List Nat} {x : Nat}, l.Nodup → x ∈ l → (∀ y ∈ l, y ≠ x → el o y = el o' y) → vsum o l - vsum o' l = el o x - el o' x
  | a :: l, x, hn, hx, h => by
    rw [List.nodup_cons] at hn
    simp only [vsum, List.map_cons, List.sum_cons]
    by_cases e : a = x
    · subst e
      have : l.map (el o) = l.map (el o') := List.map_congr_left fun y hy => h y (by simp [hy]) (fun e => hn.1 (e ▸ hy))
      rw [this]
      omega
    · have hx' : x ∈ l := by
        rcases List.mem_cons.1 hx with h | h
        · exact absurd h.symm e
        · exact h
      have ih := vsum_one (o := o) (o' := o') hn.2 hx' fun y hy => h y (by simp [hy])
      have := h a (by simp) e
      simp only [vsum] at ih
      omega
theorem vsum_congr {o o' : List Int} {l : List Nat} (h : ∀ y ∈ l, el o y = el o' y) : vsum o l = vsum o' l := by
  simp only [vsum]
  rw [List.map_congr_left h]
theorem Good.uniq (hd : Des n b w) (ht : Tree n b w) {s W W' : List Int} (h : Good b w n s W) (h' : Good b w n s W') : W = W' := by
  refine at_ext (by rw [h.len, h'.len]) fun x hx => Classical.byContradiction fun hne => ?_
  obtain ⟨c, x, hx, ho, hu⟩ := leaf hd ht (fun x => el W x ≠ el W' x) ⟨x, by rw [h.len] at hx; exact hx, hne⟩
  have hv := ends_lt hd (c := c) hx
  have h1 := vsum_one (o := W) (o' := W') (verts_nod hd hv) ((mem_verts hd hx hx).2 rfl) fun y hy hyx => Classical.byContradiction fun hne => by
    have hyn := verts_lt hd hv hy
    exact hyx (hu y hyn hne ((mem_verts hd hx hyn).1 hy))
  rw [h.sum _ hv, h'.sum _ hv] at h1
  omega
/-- The weights told so far: each 0 or positive, and those of all good ones. -/
structure Part (b w : List Nat) (n : Nat) (s : List Int) (o : List Int) : Prop where
  len : o.length = n
  nn : ∀ x, x < n → 0 ≤ el o x
  good : ∀ W, Good b w n s W → ∀ x, x < n → el o x ≠ 0 → el o x = el W x
def opens (o : List Int) (l : List Nat) : List Nat := l.filter fun x => el o x == 0
theorem mem_opens {o : List Int} {l : List Nat} {x : Nat} : x ∈ opens o l ↔ x ∈ l ∧ el o x = 0 := by simp [opens]
theorem Part.zero {s : List Int} : Part b w n s (List.replicate n 0) := by
  have h : ∀ x, x < n → el (List.replicate n (0 : Int)) x = 0 := fun x hx => by simp [el, List.getD, hx]
  exact ⟨by simp, fun x hx => by rw [h x hx]; exact Int.le_refl _, fun W _ x hx hne => absurd (h x hx) hne⟩
/-- The one edge without a weight has the rest. -/
theorem Part.one (hd : Des n b w) {s o W : List Int} (hp : Part b w n s o) (hW : Good b w n s W) {v x : Nat} (hv : v < (verts b w n).length) (h : opens o (verts b w n)[v] = [x]) :
    el W x = el s v - vsum o (verts b w n)[v] := by
  have hx : x ∈ opens o (verts b w n)[v] := by rw [h]; simp
  obtain ⟨hx1, hx2⟩ := mem_opens.1 hx
  have h1 := vsum_one (o := W) (o' := o) (verts_nod hd hv) hx1 fun y hy hyx => by
    have hyn := verts_lt hd hv hy
    refine (hp.good W hW y hyn fun h0 => ?_).symm
    have : y ∈ opens o (verts b w n)[v] := mem_opens.2 ⟨hy, h0⟩
    rw [h, List.mem_singleton] at this
    exact hyx this
  rw [hW.sum v hv, hx2] at h1
  omega
theorem Part.none (hd : Des n b w) {s o W : List Int} (hp : Part b w n s o) (hW : Good b w n s W) {v : Nat} (hv : v < (verts b w n).length) (h : opens o (verts b w n)[v] = []) :
    el s v - vsum o (verts b w n)[v] = 0 := by
  have : vsum o (verts b w n)[v] = vsum W (verts b w n)[v] := vsum_congr fun y hy => hp.good W hW y (verts_lt hd hv hy) fun h0 => by
    have : y ∈ opens o (verts b w n)[v] := mem_opens.2 ⟨hy, h0⟩
    rw [h] at this
    cases this
  rw [this, hW.sum v hv]
  omega
theorem at_set {o : List Int} {x y : Nat} {r : Int} (hx : x < o.length) : el (o.set x r) y = if y = x then r else el o y := by
  simp only [el, List.getD, List.getElem?_set]
  by_cases e : y = x
  · subst e; simp [hx]
  · rw [if_neg (Ne.symm e), if_neg e]
theorem Part.set (hd : Des n b w) {s o : List Int} (hp : Part b w n s o) {v x : Nat} (hv : v < (verts b w n).length) (h : opens o (verts b w n)[v] = [x])
    (hr : 1 ≤ el s v - vsum o (verts b w n)[v]) : Part b w n s (o.set x (el s v - vsum o (verts b w n)[v])) := by
  have hx : x ∈ opens o (verts b w n)[v] := by rw [h]; simp
  have hxn := verts_lt hd hv (mem_opens.1 hx).1
  refine ⟨by rw [List.length_set]; exact hp.len, fun y hy => ?_, fun W hW y hy hne => ?_⟩
  · rw [at_set (by rw [hp.len]; exact hxn)]
    split
    · omega
    · exact hp.nn y hy
  · rw [at_set (by rw [hp.len]; exact hxn)] at hne ⊢
    split
    · rename_i e
      subst e
      exact (hp.one hd hW hv h).symm
    · rename_i e
      rw [if_neg e] at hne
      exact hp.good W hW y hy hne
/-- How many have no weight yet. -/
def left (o : List Int) (n : Nat) : Nat := (opens o (List.range n)).length
theorem left_set {o : List Int} {x : Nat} {r : Int} (hn : o.length = n) (hx : x < n) (h0 : el o x = 0) (hr : r ≠ 0) : left (o.set x r) n + 1 = left o n := by
  have e : opens (o.set x r) (List.range n) = (opens o (List.range n)).erase x := by
    have hnd : (opens o (List.range n)).Nodup := List.Pairwise.filter _ List.nodup_range
    rw [List.Nodup.erase_eq_filter hnd, opens, opens, List.filter_filter]
    refine List.filter_congr fun y hy => ?_
    rw [at_set (by omega)]
    by_cases e : y = x
    · subst e; simp [hr]
    · simp [e]
  rw [left, left, e, List.length_erase_of_mem (mem_opens.2 ⟨by simpa using hx, h0⟩)]
  have : 0 < (opens o (List.range n)).length := List.length_pos_of_mem (mem_opens.2 ⟨by simpa using hx, h0⟩)
  omega
theorem left_zero {o : List Int} (h : left o n = 0) : ∀ x, x < n → el o x ≠ 0 := fun x hx h0 => by
  have : x ∈ opens o (List.range n) := mem_opens.2 ⟨by simpa using hx, h0⟩
  rw [List.eq_nil_of_length_eq_zero h] at this
  cases this
/-- What both return. -/
def Res (b w : List Nat) (n : Nat) (s : List Int) : Option (List Int) → Prop
  | some o => Good b w n s o
  | none => ∀ W, ¬ Good b w n s W
theorem Res.uniq (hd : Des n b w) (ht : Tree n b w) {s : List Int} {r r' : Option (List Int)} (h : Res b w n s r) (h' : Res b w n s r') : r = r' := by
  cases r with
  | none =>
    cases r' with
    | none => rfl
    | some o => exact absurd h' (h o)
  | some o =>
    cases r' with
    | none => exact absurd h (h' o)
    | some o' => rw [Good.uniq hd ht h h']
end
end Go.Bm

/- Lists of numbers in descending order, made by counting. -/
set_option linter.unusedVariables false
set_option linter.unusedSimpArgs false
namespace Go.Bm
open Go Go.Am

/-- How many there are of each number, at the first i. -/
def cntT (zs : List Nat) : Nat → List Nat
  | 0 => List.replicate 17 0
  | i + 1 => (cntT zs i).set (nl zs i) (nl (cntT zs i) (nl zs i) + 1)
theorem cntT_len {zs : List Nat} {i : Nat} : (cntT zs i).length = 17 := by
  induction i with
  | zero => simp [cntT]
  | succ i ih => simp [cntT, ih]
theorem take_succ_nl' {zs : List Nat} {i : Nat} (h : i < zs.length) : zs.take (i + 1) = zs.take i ++ [nl zs i] := by
  rw [List.take_add_one]
  simp [nl, List.getD, h]
theorem cntT_nl {zs : List Nat} {i v : Nat} (hi : i ≤ zs.length) (hv : v < 17) : nl (cntT zs i) v = (zs.take i).count v := by
  induction i with
  | zero => simp only [cntT, nl_rep]; split <;> simp
  | succ i ih =>
    rw [take_succ_nl' (by omega), List.count_append, cntT, nl_set, ih (by omega)]
    by_cases h : v = nl zs i
    · subst h
      rw [if_pos ⟨rfl, by rw [cntT_len]; exact hv⟩, ih (by omega)]
      simp
    · rw [if_neg (fun e => h e.1)]
      have : ([nl zs i] : List Nat).count v = 0 := by
        rw [List.count_cons, List.count_nil]
        simp [show (nl zs i == v) = false by simpa using fun e => h e.symm]
      omega
/-- The numbers n, n - 1, .. as often as they come. -/
def typK (cn : List Nat) (n : Nat) : Nat → List Nat
  | 0 => []
  | k + 1 => typK cn n k ++ List.replicate (nl cn (n - k)) (n - k)
def typL (zs : List Nat) (n : Nat) : List Nat := typK (cntT zs zs.length) n n
theorem typK_count {cn : List Nat} {n v : Nat} : ∀ {k : Nat}, k ≤ n → (typK cn n k).count v = if n - k < v ∧ v ≤ n then nl cn v else 0
  | 0, _ => by
    rw [if_neg (by omega)]
    rfl
  | k + 1, hk => by
    rw [typK, List.count_append, typK_count (by omega), List.count_replicate]
    by_cases h : n - k = v
    · subst h
      rw [if_neg (by omega), if_pos (by simp), if_pos (by omega)]
      omega
    · have e : ((n - k) == v) = false := by simpa using h
      rw [e]
      simp only [Bool.false_eq_true, if_false, Nat.add_zero]
      by_cases h2 : n - k < v ∧ v ≤ n
      · rw [if_pos h2, if_pos (by omega)]
      · rw [if_neg h2, if_neg (by omega)]
theorem typK_ge {cn : List Nat} {n : Nat} : ∀ {k : Nat}, k ≤ n → ∀ z ∈ typK cn n k, n + 1 - k ≤ z
  | 0, _, z, hz => by simp [typK] at hz
  | k + 1, hk, z, hz => by
    simp only [typK, List.mem_append, List.mem_replicate] at hz
    rcases hz with hz | ⟨_, rfl⟩
    · have := typK_ge (k := k) (by omega) z hz
      omega
    · omega
theorem typK_dsc {cn : List Nat} {n : Nat} : ∀ {k : Nat}, k ≤ n → ∀ i j, i ≤ j → j < (typK cn n k).length → nl (typK cn n k) j ≤ nl (typK cn n k) i
  | 0, _, i, j, _, h => by simp [typK] at h
  | k + 1, hk, i, j, h1, h2 => by
    have ih := typK_dsc (cn := cn) (n := n) (k := k) (by omega)
    simp only [typK, List.length_append, List.length_replicate] at h2 ⊢
    simp only [nl_append]
    by_cases hj : j < (typK cn n k).length
    · rw [if_pos hj, if_pos (by omega)]
      exact ih i j h1 hj
    · rw [if_neg hj, nl_rep, if_pos (by omega)]
      by_cases hi : i < (typK cn n k).length
      · rw [if_pos hi]
        have : nl (typK cn n k) i ∈ typK cn n k := nl_mem hi
        have := typK_ge (by omega) _ this
        omega
      · rw [if_neg hi, nl_rep, if_pos (by omega)]
        exact Nat.le_refl _
theorem typL_dsc {zs : List Nat} {n : Nat} : Dsc (ofN (typL zs n)) := fun i j h1 h2 => by
  rw [ofN_len] at h2
  rw [el_ofN, el_ofN]
  exact Int.ofNat_le.2 (typK_dsc (Nat.le_refl _) i j h1 h2)
theorem typL_perm {zs : List Nat} {n : Nat} (hn : n ≤ 16) (h : ∀ z ∈ zs, 1 ≤ z ∧ z ≤ n) : (typL zs n).Perm zs := by
  rw [List.perm_iff_count]
  intro v
  rw [typL, typK_count (Nat.le_refl _), Nat.sub_self]
  by_cases hv : 0 < v ∧ v ≤ n
  · rw [if_pos hv, cntT_nl (Nat.le_refl _) (by omega), List.take_length]
  · rw [if_neg hv, List.count_eq_zero.2 fun hm => hv (by have := h v hm; omega)]
theorem typK_le {zs : List Nat} {n k : Nat} (hn : n ≤ 16) (hk : k ≤ n) (h : ∀ z ∈ zs, 1 ≤ z ∧ z ≤ n) : (typK (cntT zs zs.length) n k).length ≤ zs.length := by
  have hp := (typL_perm hn h).length_eq
  have : ∀ j, j ≤ n → (typK (cntT zs zs.length) n j).length ≤ (typK (cntT zs zs.length) n n).length := by
    intro j hj
    obtain ⟨d, rfl⟩ : ∃ d, n = j + d := ⟨n - j, by omega⟩
    have : ∀ m d, (typK (cntT zs zs.length) m j).length ≤ (typK (cntT zs zs.length) m (j + d)).length := by
      intro m d
      induction d with
      | zero => exact Nat.le_refl _
      | succ d ih =>
        rw [show j + (d + 1) = (j + d) + 1 by omega, typK, List.length_append]
        omega
    exact this _ d
  have := this k hk
  rw [typL] at hp
  omega
/-- The lengths of the cycles in descending order. -/
def lens (p : List Nat) (n : Nat) : List Nat := (cyc p n).map List.length
def typ (p : List Nat) (n : Nat) : List Nat := typL (lens p n) n
section
variable {p : List Nat} {n : Nat}
theorem lens_ok (hp : Perm p n) : ∀ z ∈ lens p n, 1 ≤ z ∧ z ≤ n := fun z hz => by
  obtain ⟨c, hc, rfl⟩ := List.mem_map.1 hz
  exact cyc_len hp hc
theorem lens_len (hp : Perm p n) : (lens p n).length ≤ 16 := by
  rw [lens, List.length_map]
  have := cyc_num hp
  have := hp.1
  omega
theorem typ_perm (hp : Perm p n) : (typ p n).Perm (lens p n) := typL_perm (by have := hp.1; omega) (lens_ok hp)
theorem typ_len (hp : Perm p n) : (typ p n).length = (cyc p n).length := by rw [(typ_perm hp).length_eq, lens, List.length_map]
end
end Go.Bm

/- Cycles in memory. -/
set_option linter.unusedVariables false
set_option linter.unusedSimpArgs false
namespace Go.Bm
open Go Go.Am

/-- A list of numbers that is only read. -/
abbrev FN (c : List Nat) : Value := Fz c.length 1 (c.map N64)
theorem NNL_FN {p : List (List Nat)} : NNL (p.map FN) := NNL.map fun _ => NN.fz
theorem NNL_64 {p : List Nat} : NNL (p.map N64) := NNL.map fun _ => NN.int
theorem app1_FN {H : BH} {b bytes cn : Nat} {xs : List (List Nat)} {y : List Nat} (h : (xs.length + 1) * bytes ≤ 140737488355328) : app1 (some [Fz y.length 1 (y.map N64)]) (some (xs.map FN)) H b xs.length bytes cn = some (S H.length 0 (xs.length + 1) 1, (H.set b none) ++ [some ((xs ++ [y]).map FN)]) := app1_g (g := FN) rfl h
theorem getN_FN {xs : List (List Nat)} {k : Nat} (h : k < xs.length) : getN none (xs.map FN) k = some (FN (xs.getD k [])) := by
  simp [getN, h, List.getD]
theorem frz_ne {i j o l e : Nat} {cs : List Value} (h : j ≠ i) : frz i cs (S j o l e) = S j o l e := by
  simp only [frz]
  rw [if_neg (fun k => h k.1)]
theorem RV : (type_of% @NNL_FN) ∧ (type_of% @NNL_64) := ⟨@NNL_FN, @NNL_64⟩
theorem cycles_run {p : List Nat} {n : Nat} (hb : By 16 p) (hp : Perm p n) :
    CallX false F_impl_cycles [PL p, I n] [] fun v H1 => ∃ j, v = S j 0 (cyc p n).length 1 ∧ blk H1 j = some ((cyc p n).map FN) := by
  have hlen := hb.len
  have hn := hp.1
  obtain ⟨M, hM⟩ : ∃ M, M = 16 := ⟨_, rfl⟩
  have hcyc : cyc p n = (cycK p M n).2 := by rw [hM]; rfl
  rw [hcyc]
  refine CallX_body Γ_impl_cycles ?_; simp only [A_impl_cycles, T_aiff]
  refine T_rseq fun Kr hKr => ?_; simp (disch := omega) only [RA, ↓reduceIte, Nat.reduceEqDiff, Nat.reduceAdd, Nat.reduceLeDiff, RD]; refine hKr _ _ ?_; clear hKr Kr; (try simp only [RN, reduceIte]); try refine T_e rfl ?_
  refine T_rseq fun Kr hKr => ?_; simp (disch := omega) only [RA, ↓reduceIte, Nat.reduceEqDiff, Nat.reduceAdd, Nat.reduceLeDiff, RD]; refine hKr _ _ ?_; clear hKr Kr; (try simp only [RN, reduceIte]); try refine T_e rfl ?_
  refine T_rseq fun Kr hKr => ?_; simp (disch := omega) only [RA, ↓reduceIte, Nat.reduceEqDiff, Nat.reduceAdd, Nat.reduceLeDiff, RD]; refine hKr _ _ ?_; clear hKr Kr; (try simp only [RN, reduceIte]); try refine T_e rfl ?_
  refine T_rseq fun Kr hKr => ?_; simp (disch := omega) only [RA, ↓reduceIte, Nat.reduceEqDiff, Nat.reduceAdd, Nat.reduceLeDiff, RD]; refine hKr _ _ ?_; clear hKr Kr; (try simp only [RN, reduceIte]); try refine T_e rfl ?_
  refine T_wloop (fun m f H' => ∃ i sc, i ≤ n ∧ m = n - i ∧ sc = cycK p M i ∧ f 2 = P 0 0 ∧ f 5 = S 1 0 sc.2.length 1 ∧ f 6 = P 2 0 ∧ f 12 = I n ∧ f 13 = I i ∧ H' = [some (p.map N8), some (sc.2.map FN), some (sc.1.map B)]) (n) ?_ ?_
  · refine ⟨_, _, Gh.refl, 0, (List.replicate 16 false, []), by omega, by omega, rfl, ?_, ?_, ?_, ?_, ?_, by simp⟩
    any_goals (simp (disch := omega) only [RA, ↓reduceIte, Nat.reduceEqDiff, RD, RE, *] <;> rfl)
  · rintro m f H' R ⟨i, sc, hi, rfl, hsc, g2, g5, g6, g12, g13, rfl⟩ hN hX hR hE
    simp only [A_impl_cycles.l1, T_aiff]
    have hok := CycOk.all hM hp hi
    rw [← hsc] at hok
    have hsl := hok.len
    have hnum := hok.num
    refine T_rseq fun Kr hKr => ?_; simp (disch := omega) only [RA, ↓reduceIte, Nat.reduceEqDiff, RD, g12, g13]; refine hKr _ _ ?_; clear hKr Kr; (try simp only [RN, reduceIte]); try refine T_e rfl ?_
    refine T_csplit (p := i < n) (by simp only [RA, ↓reduceIte, Nat.reduceEqDiff] <;> rfl) (by (try simp only [RB]) <;> first | done | exact Iff.rfl | omega | simp) (fun hc => ?_) (fun hc => ?_) <;> (try simp only [RN, reduceIte]) <;> (try refine T_e rfl ?_)
    · have hnext : ∀ f' sc', f' 2 = P 0 0 → f' 5 = S 1 0 sc'.2.length 1 → f' 6 = P 2 0 → f' 12 = I n → f' 13 = I i → sc' = cycK p M (i + 1) → T 0 A_impl_cycles.r14 R f' [some (p.map N8), some (sc'.2.map FN), some (sc'.1.map B)] := by
        intro f' sc' g2 g5 g6 g12 g13 hs
        refine T_reg_k fun Kr hKr => ?_; simp (disch := omega) only [RA, ↓reduceIte, Nat.reduceEqDiff, RD, g13]; refine hKr _ _ ?_; clear hKr Kr
        refine hN (n - (i + 1)) _ _ _ _ (by omega) Gh.refl ⟨i + 1, sc', by omega, rfl, hs, ?_, ?_, ?_, ?_, ?_, rfl⟩
        any_goals (simp (disch := omega) only [RA, ↓reduceIte, Nat.reduceEqDiff, RD, RE, *] <;> rfl)
      refine T_seq (T_block ?_); (try simp only [RN, reduceIte]); try refine T_e rfl ?_
      refine T_rseq fun Kr hKr => ?_; simp (disch := omega) only [RA, ↓reduceIte, Nat.reduceEqDiff, RD, g13]; refine hKr _ _ ?_; clear hKr Kr; (try simp only [RN, reduceIte]); try refine T_e rfl ?_
      refine T_rseq fun Kr hKr => ?_; simp (disch := omega) only [RA, ↓reduceIte, Nat.reduceEqDiff, RD, g6, hsl]; refine hKr _ _ ?_; clear hKr Kr; (try simp only [RN, reduceIte]); try refine T_e rfl ?_
      refine T_csplit (p := bl sc.1 i = true) (by simp only [RA, ↓reduceIte, Nat.reduceEqDiff] <;> rfl) (by (try simp only [RB]) <;> first | done | exact Iff.rfl | omega | simp) (fun hc => ?_) (fun hc => ?_) <;> (try simp only [RN, reduceIte]) <;> (try refine T_e rfl ?_)
      · simp only [blkQ, thenQ, loopQ, if_true]
        refine hnext _ sc ?_ ?_ ?_ ?_ ?_ (by rw [cycK, ← hsc, if_pos hc])
        any_goals (simp (disch := omega) only [RA, ↓reduceIte, Nat.reduceEqDiff, RD, RE, *] <;> rfl)
      · have h0 : bl sc.1 i = false := by simpa using hc
        have hin : i < n := by assumption
        have hdone := WkOk.done hM hp hsl hin h0 hok.inv
        refine T_rseq fun Kr hKr => ?_; simp (disch := omega) only [RA, ↓reduceIte, Nat.reduceEqDiff, Nat.reduceAdd, Nat.reduceLeDiff, RD]; refine hKr _ _ ?_; clear hKr Kr; (try simp only [RN, reduceIte]); try refine T_e rfl ?_
        refine T_rseq fun Kr hKr => ?_; simp (disch := omega) only [RA, ↓reduceIte, Nat.reduceEqDiff, Nat.reduceAdd, Nat.reduceLeDiff, RD]; refine hKr _ _ ?_; clear hKr Kr; (try simp only [RN, reduceIte]); try refine T_e rfl ?_
        refine T_wloop (fun m f H' => ∃ j st, j ≤ M ∧ m = M - j ∧ st = wk p (sc.1, [], i) j ∧ f 2 = P 0 0 ∧ f 5 = S 1 0 sc.2.length 1 ∧ f 6 = P 2 0 ∧ f 12 = I n ∧ f 13 = I i ∧ f 8 = S 3 0 st.2.1.length 1 ∧ f 9 = I st.2.2 ∧ H' = [some (p.map N8), some (sc.2.map FN), some (st.1.map B), some (st.2.1.map N64)]) (M) ?_ ?_
        · refine ⟨_, _, Gh.refl, 0, (sc.1, [], i), by omega, by omega, rfl, ?_, ?_, ?_, ?_, ?_, ?_, ?_, by simp⟩
          any_goals (simp (disch := omega) only [RA, ↓reduceIte, Nat.reduceEqDiff, RD, RE, *] <;> rfl)
        · clear g2 g5 g6 g12 g13
          rintro m f H' R1 ⟨j, st, hj, rfl, hst, g2, g5, g6, g12, g13, g8, g9, rfl⟩ hN1 hX1 hR1 hE1
          simp only [A_impl_cycles.l0, T_aiff]
          have hw := WkOk.wk hp hsl hin h0 hok.inv j
          have hstep : wk p (sc.1, [], i) (j + 1) = wstep p st := by rw [hst]; rfl
          have hstop : bl st.1 st.2.2 = true → wk p (sc.1, [], i) M = st := fun h => by
            rw [hst] at h ⊢
            exact wk_stop h M hj
          have hdj : j = M → bl st.1 st.2.2 = true := fun h => by
            rw [hst, h]
            exact hdone
          rw [← hst] at hw
          clear hst hdone
          obtain ⟨s, l, k⟩ := st
          simp only at g8 g9 hstop hdj hstep ⊢
          have hwl : s.length = 16 := hw.len
          have hwk : k < n := hw.at_
          have hpk := hp.lt hwk
          have hll : l.length ≤ 16 := by
            have h1 := hw.cnt
            have h2 := List.count_le_length (a := true) (l := s)
            simp only at h1
            omega
          refine T_rseq fun Kr hKr => ?_; simp (disch := omega) only [RA, ↓reduceIte, Nat.reduceEqDiff, RD, g6, g9, hwl]; refine hKr _ _ ?_; clear hKr Kr; (try simp only [RN, reduceIte]); try refine T_e rfl ?_
          refine T_csplit (p := ¬ bl s k = true) (by simp only [RA, ↓reduceIte, Nat.reduceEqDiff] <;> rfl) (by (try simp only [RB]) <;> first | done | exact Iff.rfl | omega | simp) (fun hc => ?_) (fun hc => ?_) <;> (try simp only [RN, reduceIte]) <;> (try refine T_e rfl ?_)
          · rw [wstep, if_neg hc] at hstep
            have hjM : j < M := by
              rcases Nat.lt_or_ge j M with h | h
              · exact h
              · exact absurd (hdj (by omega)) hc
            (first | refine T_bfree rfl ?_ | refine T_bfree' rfl ?_); (try simp only [RN, reduceIte]); try refine T_e rfl ?_
            refine T_rseq fun Kr hKr => ?_; simp (disch := omega) only [RA, ↓reduceIte, Nat.reduceEqDiff, RD, g6, g9, hwl]; refine hKr _ _ ?_; clear hKr Kr; (try simp only [RN, reduceIte]); try refine T_e rfl ?_
            refine T_rseq fun Kr hKr => ?_; simp (disch := omega) only [RA, ↓reduceIte, Nat.reduceEqDiff, Nat.reduceAdd, Nat.reduceLeDiff, RD, g8, g9, app1_64]; refine hKr _ _ ?_; clear hKr Kr; (try simp only [RN, reduceIte]); try refine T_e rfl ?_
            refine T_reg_k fun Kr hKr => ?_; simp (disch := omega) only [RA, ↓reduceIte, Nat.reduceEqDiff, RD, g2, g9]; refine hKr _ _ ?_; clear hKr Kr
            refine hN1 (M - (j + 1)) _ _ _ _ (by omega) (Gh.nrm [0, 1, 2, 5] rfl rfl (by simp only [RH, RV])) ⟨j + 1, (s.set k true, l ++ [k], nl p k), by omega, rfl, hstep.symm, ?_, ?_, ?_, ?_, ?_, ?_, ?_, rfl⟩
            any_goals (simp (disch := omega) only [RA, ↓reduceIte, Nat.reduceEqDiff, RD, RE, *] <;> rfl)
          · refine hX1 _ _ ?_
            have hc' : bl s k = true := by simpa using hc
            have hfin := hstop hc'
            have hfl : l.length * 1 = (l.map N64).length := by simp
            have hfz : ∀ f2 : Fr, f2 2 = P 0 0 → f2 5 = S 1 0 sc.2.length 1 → f2 6 = P 2 0 → f2 8 = Fz l.length 1 (l.map N64) → f2 12 = I n → f2 13 = I i → T 0 A_impl_cycles.r13 (blkQ 1 (thenQ 0 A_impl_cycles.r14 R)) f2 [some (p.map N8), some (sc.2.map FN), some (s.map B), none] := by
              clear g2 g5 g6 g12 g13 g8 g9
              intro f2 g2 g5 g6 g8 g12 g13
              refine T_reg_k fun Kr hKr => ?_; simp (disch := omega) only [RA, ↓reduceIte, Nat.reduceEqDiff, Nat.reduceAdd, Nat.reduceLeDiff, RD, g5, g8, app1_FN]; refine hKr _ _ ?_; clear hKr Kr
              simp only [blkQ, thenQ, loopQ, if_true]
              refine T_gh (Gh.nrm [0, 5, 2] rfl rfl (by simp only [RH, RV])) ?_
              refine hnext _ (s, sc.2 ++ [l]) ?_ ?_ ?_ ?_ ?_ ?_
              any_goals (simp (disch := omega) only [RA, ↓reduceIte, Nat.reduceEqDiff, RD, RE, *] <;> rfl)
              rw [cycK, ← hsc, if_neg (by simp [h0]), hfin]
            exact T_gh (Gh.fz (i := 3) (cs := l.map N64) rfl NNL_64) (hfz _ (by simp (disch := omega) only [RA, ↓reduceIte, Nat.reduceEqDiff, RD, RE, RZ, frz_ne, frz_all, *] <;> rfl) (by simp (disch := omega) only [RA, ↓reduceIte, Nat.reduceEqDiff, RD, RE, RZ, frz_ne, frz_all, *] <;> rfl) (by simp (disch := omega) only [RA, ↓reduceIte, Nat.reduceEqDiff, RD, RE, RZ, frz_ne, frz_all, *] <;> rfl) (by simp (disch := omega) only [RA, ↓reduceIte, Nat.reduceEqDiff, RD, RE, RZ, frz_ne, frz_all, *] <;> rfl) (by simp (disch := omega) only [RA, ↓reduceIte, Nat.reduceEqDiff, RD, RE, RZ, frz_ne, frz_all, *] <;> rfl) (by simp (disch := omega) only [RA, ↓reduceIte, Nat.reduceEqDiff, RD, RE, RZ, frz_ne, frz_all, *] <;> rfl))
    · refine hX _ _ ?_
      obtain rfl : i = n := by omega
      refine T_rseq fun Kr hKr => ?_; simp (disch := omega) only [RA, ↓reduceIte, Nat.reduceEqDiff, RD, g5]; refine hKr _ _ ?_; clear hKr Kr; (try simp only [RN, reduceIte]); try refine T_e rfl ?_
      refine bodyQ_ret (by simp (disch := omega) only [RA, ↓reduceIte, Nat.reduceEqDiff, RD, resAll, resOf, g5]; rfl) GhV.refl ?_; simp only [tup]
      rw [hsc]
      exact ⟨1, rfl, rfl⟩
theorem cycles_spec {x : Bool} {p : List Nat} {n : Nat} {H : BH} {K : Value → BH → Prop} (hb : By 16 p) (hp : Perm p n) (hK : K (Fz (cyc p n).length 1 ((cyc p n).map FN)) H) : CallX x F_impl_cycles [PL p, I n] H K :=
  callRZ (by (simp only [RH])) NNL_FN (by simp) (cycles_run hb hp) hK
theorem l01Cycles_run {p : List Nat} {n : Nat} (hb : By 16 p) (hp : Perm p n) :
    CallX false F_spec_l01Cycles [PL p, I n] [] fun v H1 => ∃ j, v = S j 0 (cyc p n).length 1 ∧ blk H1 j = some ((cyc p n).map FN) := by
  have hlen := hb.len
  have hn := hp.1
  obtain ⟨M, hM⟩ : ∃ M, M = 16 := ⟨_, rfl⟩
  have hcyc : cyc p n = (cycK p M n).2 := by rw [hM]; rfl
  rw [hcyc]
  refine CallX_body Γ_spec_l01Cycles ?_; simp only [A_spec_l01Cycles, T_aiff]
  refine T_rseq fun Kr hKr => ?_; simp (disch := omega) only [RA, ↓reduceIte, Nat.reduceEqDiff, Nat.reduceAdd, Nat.reduceLeDiff, RD]; refine hKr _ _ ?_; clear hKr Kr; (try simp only [RN, reduceIte]); try refine T_e rfl ?_
  refine T_rseq fun Kr hKr => ?_; simp (disch := omega) only [RA, ↓reduceIte, Nat.reduceEqDiff, Nat.reduceAdd, Nat.reduceLeDiff, RD]; refine hKr _ _ ?_; clear hKr Kr; (try simp only [RN, reduceIte]); try refine T_e rfl ?_
  refine T_rseq fun Kr hKr => ?_; simp (disch := omega) only [RA, ↓reduceIte, Nat.reduceEqDiff, Nat.reduceAdd, Nat.reduceLeDiff, RD]; refine hKr _ _ ?_; clear hKr Kr; (try simp only [RN, reduceIte]); try refine T_e rfl ?_
  refine T_wloop (fun m f H' => ∃ i sc, i ≤ n ∧ m = n - i ∧ sc = cycK p M i ∧ f 1 = I n ∧ f 2 = P 0 0 ∧ f 5 = S 1 0 sc.2.length 1 ∧ f 6 = P 2 0 ∧ f 7 = I i ∧ H' = [some (p.map N8), some (sc.2.map FN), some (sc.1.map B)]) (n) ?_ ?_
  · refine ⟨_, _, Gh.refl, 0, (List.replicate 16 false, []), by omega, by omega, rfl, ?_, ?_, ?_, ?_, ?_, by simp⟩
    any_goals (simp (disch := omega) only [RA, ↓reduceIte, Nat.reduceEqDiff, RD, RE, *] <;> rfl)
  · rintro m f H' R ⟨i, sc, hi, rfl, hsc, g1, g2, g5, g6, g7, rfl⟩ hN hX hR hE
    simp only [A_spec_l01Cycles.l1, T_aiff]
    have hok := CycOk.all hM hp hi
    rw [← hsc] at hok
    have hsl := hok.len
    have hnum := hok.num
    refine T_rseq fun Kr hKr => ?_; simp (disch := omega) only [RA, ↓reduceIte, Nat.reduceEqDiff, RD, g1, g7]; refine hKr _ _ ?_; clear hKr Kr; (try simp only [RN, reduceIte]); try refine T_e rfl ?_
    refine T_csplit (p := i < n) (by simp only [RA, ↓reduceIte, Nat.reduceEqDiff] <;> rfl) (by (try simp only [RB]) <;> first | done | exact Iff.rfl | omega | simp) (fun hc => ?_) (fun hc => ?_) <;> (try simp only [RN, reduceIte]) <;> (try refine T_e rfl ?_)
    · have hnext : ∀ f' sc', f' 1 = I n → f' 2 = P 0 0 → f' 5 = S 1 0 sc'.2.length 1 → f' 6 = P 2 0 → f' 7 = I i → sc' = cycK p M (i + 1) → T 0 A_spec_l01Cycles.r4 R f' [some (p.map N8), some (sc'.2.map FN), some (sc'.1.map B)] := by
        intro f' sc' g1 g2 g5 g6 g7 hs
        refine T_reg_k fun Kr hKr => ?_; simp (disch := omega) only [RA, ↓reduceIte, Nat.reduceEqDiff, RD, g7]; refine hKr _ _ ?_; clear hKr Kr
        refine hN (n - (i + 1)) _ _ _ _ (by omega) Gh.refl ⟨i + 1, sc', by omega, rfl, hs, ?_, ?_, ?_, ?_, ?_, rfl⟩
        any_goals (simp (disch := omega) only [RA, ↓reduceIte, Nat.reduceEqDiff, RD, RE, *] <;> rfl)
      have hin : i < n := by assumption
      (first | refine T_bfree rfl ?_ | refine T_bfree' rfl ?_); (try simp only [RN, reduceIte]); try refine T_e rfl ?_
      refine T_rseq fun Kr hKr => ?_; simp (disch := omega) only [RA, ↓reduceIte, Nat.reduceEqDiff, Nat.reduceAdd, Nat.reduceLeDiff, RD]; refine hKr _ _ ?_; clear hKr Kr; (try simp only [RN, reduceIte]); try refine T_e rfl ?_
      refine T_rseq fun Kr hKr => ?_; simp (disch := omega) only [RA, ↓reduceIte, Nat.reduceEqDiff, RD, g7]; refine hKr _ _ ?_; clear hKr Kr; (try simp only [RN, reduceIte]); try refine T_e rfl ?_
      by_cases hm : bl sc.1 i = true
      · refine T_wloop (fun m f H' => m = 0 ∧ f 1 = I n ∧ f 2 = P 0 0 ∧ f 5 = S 1 0 sc.2.length 1 ∧ f 6 = P 2 0 ∧ f 7 = I i ∧ f 8 = S 3 0 0 1 ∧ f 9 = I i ∧ H' = [some (p.map N8), some (sc.2.map FN), some (sc.1.map B), some []]) (0) ?_ ?_
        · refine ⟨_, _, Gh.refl, rfl, ?_, ?_, ?_, ?_, ?_, ?_, ?_, by simp⟩
          any_goals (simp (disch := omega) only [RA, ↓reduceIte, Nat.reduceEqDiff, RD, RE, *] <;> rfl)
        · clear g1 g2 g5 g6 g7
          rintro m f H' R1 ⟨rfl, g1, g2, g5, g6, g7, g8, g9, rfl⟩ hN1 hX1 hR1 hE1
          simp only [A_spec_l01Cycles.l0, T_aiff]
          refine T_rseq fun Kr hKr => ?_; simp (disch := omega) only [RA, ↓reduceIte, Nat.reduceEqDiff, RD, g6, g9, hsl]; refine hKr _ _ ?_; clear hKr Kr; (try simp only [RN, reduceIte]); try refine T_e rfl ?_
          refine T_cseq (t := false) (by simp (disch := omega) only [RA, ↓reduceIte, Nat.reduceEqDiff, RD, hm]) ?_; (try simp only [RN, reduceIte]); try refine T_e rfl ?_
          refine hX1 _ _ ?_
          (try simp only [RN, reduceIte]); try refine T_e rfl ?_
          refine T_rseq fun Kr hKr => ?_; simp (disch := omega) only [RA, ↓reduceIte, Nat.reduceEqDiff, Int.reduceLT, RD, g8]; refine hKr _ _ ?_; clear hKr Kr; (try simp only [RN, reduceIte]); try refine T_e rfl ?_
          refine T_cseq (t := false) (by simp (disch := omega) only [RA, ↓reduceIte, Nat.reduceEqDiff, RD]) ?_; (try simp only [RN, reduceIte]); try refine T_e rfl ?_
          refine T_gh (Gh.nrm [0, 1, 2] rfl rfl (by simp only [RH, RV])) ?_
          refine hnext _ sc ?_ ?_ ?_ ?_ ?_ (by rw [cycK, ← hsc, if_pos hm])
          any_goals (simp (disch := omega) only [RA, ↓reduceIte, Nat.reduceEqDiff, RD, RE, *] <;> rfl)
      · have h0 : bl sc.1 i = false := by simpa using hm
        have hdone := WkOk.done hM hp hsl hin h0 hok.inv
        have hcyc1 := (WkOk.cyc hM hp hsl hin h0 hok.inv hok.upto).1.ne
        refine T_wloop (fun m f H' => ∃ j st, j ≤ M ∧ m = M - j ∧ st = wk p (sc.1, [], i) j ∧ f 1 = I n ∧ f 2 = P 0 0 ∧ f 5 = S 1 0 sc.2.length 1 ∧ f 6 = P 2 0 ∧ f 7 = I i ∧ f 8 = S 3 0 st.2.1.length 1 ∧ f 9 = I st.2.2 ∧ H' = [some (p.map N8), some (sc.2.map FN), some (st.1.map B), some (st.2.1.map N64)]) (M) ?_ ?_
        · refine ⟨_, _, Gh.refl, 0, (sc.1, [], i), by omega, by omega, rfl, ?_, ?_, ?_, ?_, ?_, ?_, ?_, by simp⟩
          any_goals (simp (disch := omega) only [RA, ↓reduceIte, Nat.reduceEqDiff, RD, RE, *] <;> rfl)
        · clear g1 g2 g5 g6 g7
          rintro m f H' R1 ⟨j, st, hj, rfl, hst, g1, g2, g5, g6, g7, g8, g9, rfl⟩ hN1 hX1 hR1 hE1
          simp only [A_spec_l01Cycles.l0, T_aiff]
          have hw := WkOk.wk hp hsl hin h0 hok.inv j
          have hstep : wk p (sc.1, [], i) (j + 1) = wstep p st := by rw [hst]; rfl
          have hstop : bl st.1 st.2.2 = true → wk p (sc.1, [], i) M = st := fun h => by
            rw [hst] at h ⊢
            exact wk_stop h M hj
          have hdj : j = M → bl st.1 st.2.2 = true := fun h => by
            rw [hst, h]
            exact hdone
          rw [← hst] at hw
          clear hst hdone
          obtain ⟨s, l, k⟩ := st
          simp only at g8 g9 hstop hdj hstep ⊢
          have hwl : s.length = 16 := hw.len
          have hwk : k < n := hw.at_
          have hpk := hp.lt hwk
          have hll : l.length ≤ 16 := by
            have h1 := hw.cnt
            have h2 := List.count_le_length (a := true) (l := s)
            simp only at h1
            omega
          refine T_rseq fun Kr hKr => ?_; simp (disch := omega) only [RA, ↓reduceIte, Nat.reduceEqDiff, RD, g6, g9, hwl]; refine hKr _ _ ?_; clear hKr Kr; (try simp only [RN, reduceIte]); try refine T_e rfl ?_
          refine T_csplit (p := ¬ bl s k = true) (by simp only [RA, ↓reduceIte, Nat.reduceEqDiff] <;> rfl) (by (try simp only [RB]) <;> first | done | exact Iff.rfl | omega | simp) (fun hc => ?_) (fun hc => ?_) <;> (try simp only [RN, reduceIte]) <;> (try refine T_e rfl ?_)
          · rw [wstep, if_neg hc] at hstep
            have hjM : j < M := by
              rcases Nat.lt_or_ge j M with h | h
              · exact h
              · exact absurd (hdj (by omega)) hc
            (first | refine T_bfree rfl ?_ | refine T_bfree' rfl ?_); (try simp only [RN, reduceIte]); try refine T_e rfl ?_
            refine T_rseq fun Kr hKr => ?_; simp (disch := omega) only [RA, ↓reduceIte, Nat.reduceEqDiff, RD, g6, g9, hwl]; refine hKr _ _ ?_; clear hKr Kr; (try simp only [RN, reduceIte]); try refine T_e rfl ?_
            refine T_rseq fun Kr hKr => ?_; simp (disch := omega) only [RA, ↓reduceIte, Nat.reduceEqDiff, Nat.reduceAdd, Nat.reduceLeDiff, RD, g8, g9, app1_64]; refine hKr _ _ ?_; clear hKr Kr; (try simp only [RN, reduceIte]); try refine T_e rfl ?_
            refine T_reg_k fun Kr hKr => ?_; simp (disch := omega) only [RA, ↓reduceIte, Nat.reduceEqDiff, RD, g2, g9]; refine hKr _ _ ?_; clear hKr Kr
            refine hN1 (M - (j + 1)) _ _ _ _ (by omega) (Gh.nrm [0, 1, 2, 5] rfl rfl (by simp only [RH, RV])) ⟨j + 1, (s.set k true, l ++ [k], nl p k), by omega, rfl, hstep.symm, ?_, ?_, ?_, ?_, ?_, ?_, ?_, rfl⟩
            any_goals (simp (disch := omega) only [RA, ↓reduceIte, Nat.reduceEqDiff, RD, RE, *] <;> rfl)
          · refine hX1 _ _ ?_
            have hc' : bl s k = true := by simpa using hc
            have hfin := hstop hc'
            rw [hfin] at hcyc1
            have hfl : l.length * 1 = (l.map N64).length := by simp
            have hl0 : 0 < l.length := hcyc1
            (try simp only [RN, reduceIte]); try refine T_e rfl ?_
            refine T_rseq fun Kr hKr => ?_; simp (disch := omega) only [RA, ↓reduceIte, Nat.reduceEqDiff, Int.reduceLT, RD, g8]; refine hKr _ _ ?_; clear hKr Kr; (try simp only [RN, reduceIte]); try refine T_e rfl ?_
            refine T_cseq (t := true) (by simp (disch := omega) only [RA, ↓reduceIte, Nat.reduceEqDiff, RD]) ?_; (try simp only [RN, reduceIte]); try refine T_e rfl ?_
            have hfz : ∀ f2 : Fr, f2 1 = I n → f2 2 = P 0 0 → f2 5 = S 1 0 sc.2.length 1 → f2 6 = P 2 0 → f2 7 = I i → f2 8 = Fz l.length 1 (l.map N64) → T 0 (.seq A_spec_l01Cycles.r12 A_spec_l01Cycles.r4) R f2 [some (p.map N8), some (sc.2.map FN), some (s.map B), none] := by
              clear g1 g2 g5 g6 g7 g8 g9
              intro f2 g1 g2 g5 g6 g7 g8
              refine T_rseq fun Kr hKr => ?_; simp (disch := omega) only [RA, ↓reduceIte, Nat.reduceEqDiff, Nat.reduceAdd, Nat.reduceLeDiff, RD, g5, g8, app1_FN]; refine hKr _ _ ?_; clear hKr Kr; (try simp only [RN, reduceIte]); try refine T_e rfl ?_
              refine T_gh (Gh.nrm [0, 5, 2] rfl rfl (by simp only [RH, RV])) ?_
              refine hnext _ (s, sc.2 ++ [l]) ?_ ?_ ?_ ?_ ?_ ?_
              any_goals (simp (disch := omega) only [RA, ↓reduceIte, Nat.reduceEqDiff, RD, RE, *] <;> rfl)
              rw [cycK, ← hsc, if_neg (by simp [h0]), hfin]
            exact T_gh (Gh.fz (i := 3) (cs := l.map N64) rfl NNL_64) (hfz _ (by simp (disch := omega) only [RA, ↓reduceIte, Nat.reduceEqDiff, RD, RE, RZ, frz_ne, frz_all, *] <;> rfl) (by simp (disch := omega) only [RA, ↓reduceIte, Nat.reduceEqDiff, RD, RE, RZ, frz_ne, frz_all, *] <;> rfl) (by simp (disch := omega) only [RA, ↓reduceIte, Nat.reduceEqDiff, RD, RE, RZ, frz_ne, frz_all, *] <;> rfl) (by simp (disch := omega) only [RA, ↓reduceIte, Nat.reduceEqDiff, RD, RE, RZ, frz_ne, frz_all, *] <;> rfl) (by simp (disch := omega) only [RA, ↓reduceIte, Nat.reduceEqDiff, RD, RE, RZ, frz_ne, frz_all, *] <;> rfl) (by simp (disch := omega) only [RA, ↓reduceIte, Nat.reduceEqDiff, RD, RE, RZ, frz_ne, frz_all, *] <;> rfl))
    · refine hX _ _ ?_
      obtain rfl : i = n := by omega
      refine T_rseq fun Kr hKr => ?_; simp (disch := omega) only [RA, ↓reduceIte, Nat.reduceEqDiff, RD, g5]; refine hKr _ _ ?_; clear hKr Kr; (try simp only [RN, reduceIte]); try refine T_e rfl ?_
      refine bodyQ_ret (by simp (disch := omega) only [RA, ↓reduceIte, Nat.reduceEqDiff, RD, resAll, resOf, g5]; rfl) GhV.refl ?_; simp only [tup]
      rw [hsc]
      exact ⟨1, rfl, rfl⟩
theorem l01Cycles_spec {x : Bool} {p : List Nat} {n : Nat} {H : BH} {K : Value → BH → Prop} (hb : By 16 p) (hp : Perm p n) (hK : K (Fz (cyc p n).length 1 ((cyc p n).map FN)) H) : CallX x F_spec_l01Cycles [PL p, I n] H K :=
  callRZ (by (simp only [RH])) NNL_FN (by simp) (l01Cycles_run hb hp) hK
end Go.Bm

/- Lists put behind lists. -/
set_option linter.unusedVariables false
set_option linter.unusedSimpArgs false
namespace Go.Bm
open Go Go.Am

section
variable {H : BH} {b bytes : Nat}
end
end Go.Bm

