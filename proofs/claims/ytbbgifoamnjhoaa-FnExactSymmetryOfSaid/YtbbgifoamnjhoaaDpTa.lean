/- Trees: the plain law. Without any one dart a tree falls apart; what lies behind a dart is less and less. -/
import Derived.Test.YtbbgifoamnjhoaaDpCd
set_option linter.unusedVariables false
set_option linter.unusedSimpArgs false
namespace Go.Bm
open Go Go.Am

theorem then_perm {b w : List Nat} {n : Nat} (hb : Perm b n) (hw : Perm w n) : Perm (thenK b w n) n := by
  have hn := hb.1
  refine ⟨hb.1, fun i _ => ⟨fun h => by rw [thenK_nl (by omega), if_neg (by omega)], fun h => ?_⟩⟩
  have hi : i < n := by omega
  rw [thenK_nl (by omega), if_pos hi]
  have h1 := hw.lt (hb.lt hi)
  refine ⟨by omega, fun j hj e => ?_⟩
  rw [thenK_nl (by omega), if_pos (by omega)] at e
  have := hb.inj (by omega) hi (hw.inj (hb.lt (by omega)) (hb.lt hi) e)
  omega
theorem face_perm {b w : List Nat} {n : Nat} (hb : Perm b n) (hw : Perm w n) : Perm (faceP b w n) n := (then_perm hb hw).back
/-- A tree: one face, and one vertex more than edges. -/
def Tree (n : Nat) (b w : List Nat) : Prop := (cyc (faceP b w n) n).length = 1 ∧ (cyc b n).length + (cyc w n).length = n + 1
instance (n : Nat) (b w : List Nat) : Decidable (Tree n b w) := by unfold Tree; infer_instance

/-! ### Vertices by number -/
def vix (p : List Nat) (n x : Nat) : Nat := (cyc p n).findIdx fun c => c.contains x
theorem vix_lt {p : List Nat} {n x : Nat} (hp : Perm p n) (hx : x < n) : vix p n x < (cyc p n).length := by
  obtain ⟨c, hc, hxc⟩ := cyc_at hp hx
  exact List.findIdx_lt_length_of_exists ⟨c, hc, by simpa using hxc⟩
theorem vix_mem {p : List Nat} {n x : Nat} (hp : Perm p n) (hx : x < n) : x ∈ (cyc p n)[vix p n x]'(vix_lt hp hx) := by
  have h2 : ((cyc p n)[vix p n x]'(vix_lt hp hx)).contains x = true := List.findIdx_getElem (w := vix_lt hp hx)
  simpa using h2
theorem cyc_nod {p : List Nat} {n : Nat} (hp : Perm p n) : (cyc p n).flatten.Nodup := (CycOk.all rfl hp (Nat.le_refl n)).nod
/-- A number is in one cycle only. -/
theorem flat_uniq : ∀ {cs : List (List Nat)} {i j x : Nat} (hi : i < cs.length) (hj : j < cs.length), cs.flatten.Nodup → x ∈ cs[i] → x ∈ cs[j] → i = j
  | c :: cs, 0, 0, x, _, _, _, _, _ => rfl
  | c :: cs, 0, j + 1, x, _, hj, hn, h1, h2 => by
    rw [List.flatten_cons, List.nodup_append] at hn
    exact absurd rfl (hn.2.2 x h1 x (List.mem_flatten.2 ⟨_, List.getElem_mem (by simpa using hj), h2⟩))
  | c :: cs, i + 1, 0, x, hi, _, hn, h1, h2 => by
    rw [List.flatten_cons, List.nodup_append] at hn
    exact absurd rfl (hn.2.2 x h2 x (List.mem_flatten.2 ⟨_, List.getElem_mem (by simpa using hi), h1⟩))
  | c :: cs, i + 1, j + 1, x, hi, hj, hn, h1, h2 => by
    rw [List.flatten_cons, List.nodup_append] at hn
    rw [flat_uniq (cs := cs) (by simpa using hi) (by simpa using hj) hn.2.1 h1 h2]
theorem vix_of {p : List Nat} {n x i : Nat} (hp : Perm p n) (hx : x < n) (hi : i < (cyc p n).length) (h : x ∈ (cyc p n)[i]) : vix p n x = i :=
  flat_uniq (vix_lt hp hx) hi (cyc_nod hp) (vix_mem hp hx) h
theorem vix_step {p : List Nat} {n x : Nat} (hp : Perm p n) (hx : x < n) : vix p n (nl p x) = vix p n x :=
  vix_of hp (hp.lt hx) (vix_lt hp hx) ((cyc_is hp (List.getElem_mem _)).fwd (vix_mem hp hx))
theorem vix_surj {p : List Nat} {n i : Nat} (hp : Perm p n) (hi : i < (cyc p n).length) : ∃ x, x < n ∧ vix p n x = i := by
  have hc := cyc_is hp (List.getElem_mem hi)
  have hm : nl (cyc p n)[i] 0 ∈ (cyc p n)[i] := nl_mem hc.ne
  exact ⟨_, hc.lt _ hm, vix_of hp (hc.lt _ hm) hi hm⟩

/-! ### Pieces: numbers of vertices that stay connected, edge by edge -/
def merge (f : Nat → Nat) (e : Nat × Nat) : Nat → Nat := fun x => if f x = f e.1 then f e.2 else f x
def pieces (es : List (Nat × Nat)) : Nat → Nat := es.foldl merge id
theorem pieces_two : ∀ (es : List (Nat × Nat)) (f : Nat → Nat) (V m : Nat) (S : List Nat), S.Nodup → m + es.length ≤ S.length → (∀ a ∈ S, ∃ x, x < V ∧ f x = a) →
    ∃ S' : List Nat, S'.Nodup ∧ m ≤ S'.length ∧ ∀ a ∈ S', ∃ x, x < V ∧ (es.foldl merge f) x = a
  | [], f, V, m, S, h1, h2, h3 => ⟨S, h1, by simpa using h2, h3⟩
  | e :: es, f, V, m, S, h1, h2, h3 => by
    have hl := List.length_erase (a := f e.1) (l := S)
    refine pieces_two es (merge f e) V m (S.erase (f e.1)) (h1.erase _) ?_ fun a ha => ?_
    · simp only [List.length_cons] at h2
      split at hl <;> omega
    · obtain ⟨x, hx, hxa⟩ := h3 a (List.mem_of_mem_erase ha)
      refine ⟨x, hx, ?_⟩
      have hne : a ≠ f e.1 := fun h => by
        subst h
        exact (List.Nodup.not_mem_erase h1) ha
      rw [merge, if_neg (by rw [hxa]; exact hne), hxa]
theorem pieces_mono : ∀ (es : List (Nat × Nat)) (f : Nat → Nat) (x y : Nat), f x = f y → (es.foldl merge f) x = (es.foldl merge f) y
  | [], f, x, y, h => h
  | e :: es, f, x, y, h => pieces_mono es (merge f e) x y (by simp only [merge, h])
theorem pieces_edge : ∀ (es : List (Nat × Nat)) (f : Nat → Nat) (e : Nat × Nat), e ∈ es → (es.foldl merge f) e.1 = (es.foldl merge f) e.2
  | e' :: es, f, e, h => by
    rcases List.mem_cons.1 h with rfl | h
    · exact pieces_mono es _ _ _ (by
        simp only [merge, if_true]
        split
        · rfl
        · rfl)
    · exact pieces_edge es (merge f e') e h
section
variable {b w : List Nat} {n : Nat}
/-- The vertices of a dart; those of w behind those of b. -/
def ends (b w : List Nat) (n : Nat) (c : Bool) (x : Nat) : Nat := if c then (cyc b n).length + vix w n x else vix b n x
def others (b w : List Nat) (n y : Nat) : List (Nat × Nat) := ((List.range n).filter fun z => z != y).map fun z => (ends b w n false z, ends b w n true z)
/-- The piece of each vertex when one dart is taken out. -/
def lab (b w : List Nat) (n y : Nat) : Nat → Nat := pieces (others b w n y)
theorem lab_edge {y z : Nat} (hz : z < n) (h : z ≠ y) (c c' : Bool) : lab b w n y (ends b w n c z) = lab b w n y (ends b w n c' z) := by
  have key : lab b w n y (ends b w n false z) = lab b w n y (ends b w n true z) :=
    pieces_edge _ id (ends b w n false z, ends b w n true z) (List.mem_map.2 ⟨z, List.mem_filter.2 ⟨List.mem_range.2 hz, by simpa using h⟩, rfl⟩)
  cases c <;> cases c' <;> first | rfl | exact key | exact key.symm
theorem filter_ne_len {y : Nat} (hy : y < n) : ((List.range n).filter fun z => z != y).length + 1 = n := by
  have h1 : ((List.range n).filter fun z => z != y) = (List.range n).erase y := (List.Nodup.erase_eq_filter List.nodup_range y).symm
  rw [h1, List.length_erase_of_mem (List.mem_range.2 hy), List.length_range]
  omega
/-- A tree falls apart without any one dart. -/
theorem Tree.apart (hd : Des n b w) (ht : Tree n b w) {y : Nat} (hy : y < n) : lab b w n y (ends b w n false y) ≠ lab b w n y (ends b w n true y) := by
  intro he
  obtain ⟨hb, hw, _⟩ := id hd
  have hall : ∀ z, z < n → lab b w n y (ends b w n false z) = lab b w n y (ends b w n true z) := fun z hz => by
    by_cases e : z = y
    · rw [e]; exact he
    · exact lab_edge hz e _ _
  have hone := hd.ind (fun z => lab b w n y (ends b w n false z) = lab b w n y (ends b w n false 0))
    (fun z hz hS => by
      have e : ends b w n false (nl b z) = ends b w n false z := by simp only [ends]; exact vix_step hb hz
      rw [e]; exact hS)
    (fun z hz hS => by
      have e : ends b w n true (nl w z) = ends b w n true z := by simp only [ends, if_true]; rw [vix_step hw hz]
      rw [hall _ (hw.lt hz), e, ← hall z hz]; exact hS) rfl
  obtain ⟨S, h1, h2, h3⟩ := pieces_two (others b w n y) id (n + 1) 2 (List.range (n + 1)) List.nodup_range (by
    have := filter_ne_len hy
    rw [others, List.length_map, List.length_range]
    omega) (fun a ha => ⟨a, List.mem_range.1 ha, rfl⟩)
  have hvert : ∀ v, v < n + 1 → lab b w n y v = lab b w n y (ends b w n false 0) := fun v hv => by
    have ht2 := ht.2
    rcases Nat.lt_or_ge v (cyc b n).length with h | h
    · obtain ⟨x, hx, rfl⟩ := vix_surj hb h
      exact hone x hx
    · obtain ⟨x, hx, hxv⟩ := vix_surj hw (show v - (cyc b n).length < (cyc w n).length by omega)
      have e : v = ends b w n true x := by simp only [ends, if_true]; omega
      rw [e, ← hall x hx]
      exact hone x hx
  match S, h1, h2, h3 with
  | [], _, h2, _ => simp at h2
  | [_], _, h2, _ => simp at h2
  | a :: a' :: _, h1, _, h3 =>
    obtain ⟨x, hx, hxa⟩ := h3 a (by simp)
    obtain ⟨x', hx', hxa'⟩ := h3 a' (by simp)
    have e1 : lab b w n y x = a := hxa
    have e2 : lab b w n y x' = a' := hxa'
    have : a = a' := by rw [← e1, ← e2, hvert x hx, hvert x' hx']
    simp only [List.nodup_cons, List.mem_cons] at h1
    exact h1.1 (.inl this)
theorem Tree.apart' (hd : Des n b w) (ht : Tree n b w) {y : Nat} (hy : y < n) (c : Bool) : lab b w n y (ends b w n c y) ≠ lab b w n y (ends b w n (!c) y) := by
  cases c
  · exact ht.apart hd hy
  · exact (ht.apart hd hy).symm
/-- What is led on from a dart is true of all. -/
theorem Des.indx (h : Des n b w) {x : Nat} (hx : x < n) (S : Nat → Prop) (s1 : ∀ z, z < n → S z → S (nl b z)) (s2 : ∀ z, z < n → S z → S (nl w z)) (s0 : S x) : ∀ z, z < n → S z := by
  have key := h.ind (fun z => S z ↔ S 0)
    (fun z hz hS => by rw [← hS]; exact ⟨closed_bwd h.1 s1 hz, s1 z hz⟩)
    (fun z hz hS => by rw [← hS]; exact ⟨closed_bwd h.2.1 s2 hz, s2 z hz⟩) Iff.rfl
  exact fun z hz => (key z hz).2 ((key x hx).1 s0)
/-- The darts behind a dart at its vertex of one colour. -/
def behind (b w : List Nat) (n : Nat) (c : Bool) (x : Nat) : List Nat := (List.range n).filter fun z => z != x && lab b w n x (ends b w n false z) == lab b w n x (ends b w n c x)
theorem behind_mem {c : Bool} {x z : Nat} : z ∈ behind b w n c x ↔ z < n ∧ z ≠ x ∧ lab b w n x (ends b w n false z) = lab b w n x (ends b w n c x) := by
  simp [behind]
theorem behind_nod {c : Bool} {x : Nat} : (behind b w n c x).Nodup := List.Pairwise.filter _ List.nodup_range
theorem behind_less (hd : Des n b w) (ht : Tree n b w) {c : Bool} {x y : Nat} (hx : x < n) (hy : y < n) (hxy : y ≠ x) (hc : ends b w n c y = ends b w n c x) :
    (behind b w n (!c) y).length < (behind b w n c x).length := by
  obtain ⟨hb, hw, _⟩ := id hd
  have hap := ht.apart' hd hy c
  have hA : ∀ z, z < n → z ≠ y → lab b w n y (ends b w n false z) = lab b w n y (ends b w n (!c) y) → z ≠ x := fun z hz hzy h e => by
    subst e
    rw [lab_edge hz hzy false c, ← hc] at h
    exact hap h
  have hyx : ∀ c', lab b w n x (ends b w n c' y) = lab b w n x (ends b w n c x) := fun c' => by rw [lab_edge hy hxy c' c, hc]
  have hsub := hd.indx hx (fun z => ¬ ((z ≠ y ∧ lab b w n y (ends b w n false z) = lab b w n y (ends b w n (!c) y)) ∧ ¬ lab b w n x (ends b w n false z) = lab b w n x (ends b w n c x)))
    (fun z hz hS hB => by
      obtain ⟨⟨h1, h2⟩, h3⟩ := hB
      have e : ends b w n false (nl b z) = ends b w n false z := by simp only [ends]; exact vix_step hb hz
      rw [e] at h2 h3
      refine hS ⟨⟨fun hzy => ?_, h2⟩, h3⟩
      subst hzy
      exact h3 (hyx _))
    (fun z hz hS hB => by
      obtain ⟨⟨h1, h2⟩, h3⟩ := hB
      have e : ends b w n true (nl w z) = ends b w n true z := by simp only [ends, if_true]; rw [vix_step hw hz]
      have hzx' := hA _ (hw.lt hz) h1 h2
      rw [lab_edge (hw.lt hz) h1 false true, e] at h2
      rw [lab_edge (hw.lt hz) hzx' false true, e] at h3
      by_cases hzy : z = y
      · subst hzy
        exact h3 (hyx _)
      · rw [lab_edge hz hzy true false] at h2
        have hzx := hA z hz hzy h2
        rw [lab_edge hz hzx true false] at h3
        exact hS ⟨⟨hzy, h2⟩, h3⟩)
    (fun hB => hA x hx hB.1.1 hB.1.2 rfl)
  have := List.Nodup.length_le_of_subset (l₁ := y :: behind b w n (!c) y) (l₂ := behind b w n c x) (List.nodup_cons.2 ⟨fun h => (behind_mem.1 h).2.1 rfl, behind_nod⟩) (fun z hz => by
    rw [behind_mem]
    rcases List.mem_cons.1 hz with rfl | hz
    · exact ⟨hy, hxy, hyx _⟩
    · obtain ⟨h1, h2, h3⟩ := behind_mem.1 hz
      refine ⟨h1, hA z h1 h2 h3, ?_⟩
      have := hsub z h1
      exact Classical.byContradiction fun hn => this ⟨⟨h2, h3⟩, hn⟩)
  rw [List.length_cons] at this
  omega

/-! ### Words -/
/-- The others around a vertex, from y on till x comes. -/
def rng (p : List Nat) (x : Nat) : Nat → Nat → List Nat
  | 0, _ => []
  | k + 1, y => if y = x then [] else y :: rng p x k (nl p y)
def ring (p : List Nat) (x : Nat) : List Nat := rng p x 16 (nl p x)
theorem rng_mem {p : List Nat} (hp : Perm p n) {x : Nat} : ∀ {k y : Nat}, y < n → vix p n y = vix p n x → ∀ z ∈ rng p x k y, z < n ∧ z ≠ x ∧ vix p n z = vix p n x
  | 0, _, _, _, z, hz => by simp [rng] at hz
  | k + 1, y, hy, hv, z, hz => by
    simp only [rng] at hz
    split at hz
    · simp at hz
    · rename_i hyx
      rcases List.mem_cons.1 hz with rfl | hz
      · exact ⟨hy, hyx, hv⟩
      · exact rng_mem hp (hp.lt hy) (by rw [vix_step hp hy, hv]) z hz
theorem ring_mem {p : List Nat} (hp : Perm p n) {x : Nat} (hx : x < n) : ∀ z ∈ ring p x, z < n ∧ z ≠ x ∧ vix p n z = vix p n x :=
  rng_mem hp (hp.lt hx) (vix_step hp hx)
abbrev pc (b w : List Nat) (c : Bool) : List Nat := if c then w else b
def catB (ts : List (List UInt8)) : List UInt8 := ts.flatMap fun t => 40 :: (t ++ [41])
theorem catB_snoc {ts : List (List UInt8)} {t : List UInt8} : catB (ts ++ [t]) = catB ts ++ (40 :: (t ++ [41])) := by simp [catB]
theorem catB_len {M : Nat} : ∀ {ts : List (List UInt8)}, (∀ t ∈ ts, t.length + 2 ≤ M) → (catB ts).length ≤ ts.length * M
  | [], _ => by simp [catB]
  | t :: ts, h => by
    have ih := catB_len (ts := ts) fun t ht => h t (by simp [ht])
    have h1 := h t (by simp)
    have e : catB (t :: ts) = (40 :: (t ++ [41])) ++ catB ts := by simp [catB]
    rw [e]
    simp only [List.length_cons, List.length_append, List.length_nil, Nat.succ_mul]
    omega
theorem catB_le {d r : List (List UInt8)} {t : List UInt8} : (catB d).length + t.length + 2 ≤ (catB (d ++ t :: r)).length := by
  have e : catB (d ++ t :: r) = catB d ++ ((40 :: (t ++ [41])) ++ catB r) := by simp [catB]
  rw [e]
  simp only [List.length_append, List.length_cons, List.length_nil]
  omega
/-- The word of what lies behind a dart at its vertex of one colour, with so much fuel. -/
def wrd (b w : List Nat) : Nat → Bool → Nat → Option (List UInt8)
  | 0, _, _ => none
  | k + 1, c, x => ((ring (pc b w c) x).mapM (wrd b w k (!c))).map catB
theorem mapM_some {α β : Type} {f : α → Option β} : ∀ {l : List α}, (∀ y ∈ l, ∃ s, f y = some s) → ∃ ts, l.mapM f = some ts
  | [], _ => ⟨[], rfl⟩
  | a :: l, h => by
    obtain ⟨s, hs⟩ := h a (by simp)
    obtain ⟨ts, hts⟩ := mapM_some (l := l) fun y hy => h y (by simp [hy])
    exact ⟨s :: ts, by simp [hs, hts]⟩
theorem wrd_some (hd : Des n b w) (ht : Tree n b w) : ∀ (r k : Nat) (c : Bool) (x : Nat), x < n → (behind b w n c x).length ≤ r → r < k → ∃ s, wrd b w k c x = some s := by
  intro r
  induction r with
  | zero =>
    intro k c x hx hr hk
    obtain ⟨k, rfl⟩ : ∃ j, k = j + 1 := ⟨k - 1, by omega⟩
    have hring : ring (pc b w c) x = [] := by
      apply List.eq_nil_iff_forall_not_mem.2
      intro y hy
      have hp : Perm (pc b w c) n := by cases c; exact hd.1; exact hd.2.1
      obtain ⟨h1, h2, h3⟩ := ring_mem hp hx y hy
      have := behind_less hd ht (c := c) hx h1 h2 (by cases c <;> simp only [ends, pc] at h3 ⊢ <;> simpa using h3)
      omega
    rw [wrd, hring]
    exact ⟨_, rfl⟩
  | succ r ih =>
    intro k c x hx hr hk
    obtain ⟨k, rfl⟩ : ∃ j, k = j + 1 := ⟨k - 1, by omega⟩
    obtain ⟨ts, hts⟩ := mapM_some (f := wrd b w k (!c)) (l := ring (pc b w c) x) fun y hy => by
      have hp : Perm (pc b w c) n := by cases c; exact hd.1; exact hd.2.1
      obtain ⟨h1, h2, h3⟩ := ring_mem hp hx y hy
      have := behind_less hd ht (c := c) hx h1 h2 (by cases c <;> simp only [ends, pc] at h3 ⊢ <;> simpa using h3)
      exact ih k (!c) y h1 (by omega) (by omega)
    exact ⟨catB ts, by rw [wrd, hts]; rfl⟩
theorem behind_le {c : Bool} {x : Nat} : (behind b w n c x).length ≤ n := nodup_le behind_nod fun z hz => (behind_mem.1 hz).1
theorem rng_len {p : List Nat} {x : Nat} : ∀ {k y : Nat}, (rng p x k y).length ≤ k
  | 0, _ => by simp [rng]
  | k + 1, y => by
    simp only [rng]
    split
    · simp
    · have := @rng_len p x k (nl p y)
      simp
      omega
theorem mapM_mem {α β : Type} {f : α → Option β} : ∀ {l : List α} {ts : List β}, l.mapM f = some ts → ts.length = l.length ∧ ∀ t ∈ ts, ∃ y ∈ l, f y = some t
  | [], ts, h => by
    have : ts = [] := by simpa using h.symm
    subst this
    simp
  | a :: l, ts, h => by
    rw [List.mapM_cons] at h
    simp only [Option.pure_def, Option.bind_eq_bind, Option.bind_eq_some_iff, Option.some.injEq] at h
    obtain ⟨s, hs, ts', hts, rfl⟩ := h
    obtain ⟨h1, h2⟩ := mapM_mem hts
    refine ⟨by simp [h1], fun t ht => ?_⟩
    rcases List.mem_cons.1 ht with rfl | ht
    · exact ⟨a, by simp, hs⟩
    · obtain ⟨y, hy, he⟩ := h2 t ht
      exact ⟨y, by simp [hy], he⟩
/-- Words are not too long. -/
theorem wrd_len (hd : Des n b w) (ht : Tree n b w) : ∀ (r k : Nat) (c : Bool) (x : Nat) (s : List UInt8), x < n → (behind b w n c x).length ≤ r → wrd b w k c x = some s → s.length + 3 ≤ 4 * 16 ^ r := by
  intro r
  induction r with
  | zero =>
    intro k c x s hx hr hs
    cases k with
    | zero => simp [wrd] at hs
    | succ k =>
      have hring : ring (pc b w c) x = [] := by
        apply List.eq_nil_iff_forall_not_mem.2
        intro y hy
        have hp : Perm (pc b w c) n := by cases c; exact hd.1; exact hd.2.1
        obtain ⟨h1, h2, h3⟩ := ring_mem hp hx y hy
        have := behind_less hd ht (c := c) hx h1 h2 (by cases c <;> simp only [ends, pc] at h3 ⊢ <;> simpa using h3)
        omega
      rw [wrd, hring] at hs
      have : s = [] := by simpa [catB] using hs.symm
      subst this
      simp
  | succ r ih =>
    intro k c x s hx hr hs
    cases k with
    | zero => simp [wrd] at hs
    | succ k =>
      rw [wrd, Option.map_eq_some_iff] at hs
      obtain ⟨ts, hts, rfl⟩ := hs
      obtain ⟨h1, h2⟩ := mapM_mem hts
      have hl := @rng_len (pc b w c) x 16 (nl (pc b w c) x)
      have hM := catB_len (M := 4 * 16 ^ r - 1) (ts := ts) fun t ht' => by
        obtain ⟨y, hy, he⟩ := h2 t ht'
        have hp : Perm (pc b w c) n := by cases c; exact hd.1; exact hd.2.1
        obtain ⟨g1, g2, g3⟩ := ring_mem hp hx y hy
        have := behind_less hd ht (c := c) hx g1 g2 (by cases c <;> simp only [ends, pc] at g3 ⊢ <;> simpa using g3)
        have := ih k (!c) y t g1 (by omega) he
        omega
      have h3 : ts.length ≤ 16 := by rw [h1]; exact hl
      have h4 : ts.length * (4 * 16 ^ r - 1) ≤ 16 * (4 * 16 ^ r - 1) := Nat.mul_le_mul_right _ h3
      have h5 : 0 < 16 ^ r := Nat.pos_of_ne_zero (by simp)
      rw [Nat.pow_succ]
      omega
/-- Others at the same vertex do not lie behind a dart at its other vertex. -/
theorem behind_two (hd : Des n b w) (ht : Tree n b w) {c : Bool} {x y : Nat} (hx : x < n) (hy : y < n) (hxy : y ≠ x) (hc : ends b w n c y = ends b w n c x) : (behind b w n (!c) y).length + 2 ≤ n := by
  have h1 := behind_less hd ht hx hy hxy hc
  have h2 : (behind b w n c x).length + 1 ≤ n := by
    have := nodup_le (n := n) (l := x :: behind b w n c x) (List.nodup_cons.2 ⟨fun h => (behind_mem.1 h).2.1 rfl, behind_nod⟩) fun z hz => by
      rcases List.mem_cons.1 hz with rfl | hz
      · exact hx
      · exact (behind_mem.1 hz).1
    rw [List.length_cons] at this
    exact this
  omega
/-- The word of a tree at an edge. -/
def wordAt (b w : List Nat) (x : Nat) : Option (List UInt8) := ((x :: ring b x).mapM (wrd b w 17 true)).map catB
theorem wordAt_some (hd : Des n b w) (ht : Tree n b w) {x : Nat} (hx : x < n) : ∃ s, wordAt b w x = some s := by
  have hn := hd.1.1
  obtain ⟨ts, hts⟩ := mapM_some (f := wrd b w 17 true) (l := x :: ring b x) fun y hy => by
    have hy : y < n := by
      rcases List.mem_cons.1 hy with rfl | hy
      · exact hx
      · exact (ring_mem hd.1 hx y hy).1
    exact wrd_some hd ht n 17 true y hy behind_le (by omega)
  exact ⟨catB ts, by rw [wordAt, hts]; rfl⟩
theorem wordAt_len (hd : Des n b w) (ht : Tree n b w) {x : Nat} (hx : x < n) {s : List UInt8} (hs : wordAt b w x = some s) : s.length ≤ 9000000000000000000 := by
  have hn := hd.1.1
  rw [wordAt, Option.map_eq_some_iff] at hs
  obtain ⟨ts, hts, rfl⟩ := hs
  obtain ⟨h1, h2⟩ := mapM_mem hts
  have hl : (ring b x).length ≤ 16 := rng_len
  rw [List.length_cons] at h1
  have hb0 : (behind b w n true x).length + 1 ≤ n := by
    have := nodup_le (n := n) (l := x :: behind b w n true x) (List.nodup_cons.2 ⟨fun h => (behind_mem.1 h).2.1 rfl, behind_nod⟩) fun z hz => by
      rcases List.mem_cons.1 hz with rfl | hz
      · exact hx
      · exact (behind_mem.1 hz).1
    rw [List.length_cons] at this
    exact this
  have p14 : 4 * 16 ^ 14 = 288230376151711744 := by decide
  have p15 : 4 * 16 ^ 15 = 4611686018427387904 := by decide
  by_cases hr : ring b x = []
  · rw [hr, List.length_nil] at h1
    have hM := catB_len (M := 4611686018427387904) (ts := ts) fun t ht' => by
      obtain ⟨y, hy, he⟩ := h2 t ht'
      rw [hr, List.mem_singleton] at hy
      subst hy
      have := wrd_len hd ht 15 17 true y t hx (by omega) he
      omega
    rw [h1] at hM
    omega
  · have hM := catB_len (M := 288230376151711744) (ts := ts) fun t ht' => by
      obtain ⟨y, hy, he⟩ := h2 t ht'
      have key : ∀ z, z < n → ∀ z', z' < n → z ≠ z' → ends b w n false z = ends b w n false z' → (behind b w n true z).length ≤ 14 := fun z hz z' hz' hne he => by
        have := behind_two hd ht (c := false) hz' hz hne he
        have e : (!false) = true := rfl
        rw [e] at this
        omega
      have hyn : y < n ∧ (behind b w n true y).length ≤ 14 := by
        obtain ⟨z, rest, hzr⟩ := List.exists_cons_of_ne_nil hr
        have hz : z ∈ ring b x := by rw [hzr]; simp
        obtain ⟨g1, g2, g3⟩ := ring_mem hd.1 hx z hz
        rcases List.mem_cons.1 hy with rfl | hy
        · exact ⟨hx, key y hx z g1 g2.symm (by simp only [ends]; exact g3.symm)⟩
        · obtain ⟨k1, k2, k3⟩ := ring_mem hd.1 hx y hy
          exact ⟨k1, key y k1 x hx k2 (by simp only [ends]; exact k3)⟩
      have := wrd_len hd ht 14 17 true y t hyn.1 hyn.2 he
      omega
    have h4 : ts.length * 288230376151711744 ≤ 17 * 288230376151711744 := Nat.mul_le_mul_right _ (by omega)
    omega

/-! ### Round a vertex -/
def it (p : List Nat) (x : Nat) : Nat → Nat
  | 0 => nl p x
  | i + 1 => nl p (it p x i)
theorem it_lt {p : List Nat} (hp : Perm p n) {x : Nat} (hx : x < n) : ∀ i, it p x i < n
  | 0 => hp.lt hx
  | i + 1 => hp.lt (it_lt hp hx i)
theorem cyc_next {p c : List Nat} (h : IsCyc p n c) {m : Nat} (hm : m < c.length) : nl p (nl c m) = nl c ((m + 1) % c.length) := by
  by_cases e : m + 1 < c.length
  · rw [h.step m e, Nat.mod_eq_of_lt e]
  · obtain rfl : m = c.length - 1 := by omega
    rw [h.last, Nat.sub_add_cancel h.ne, Nat.mod_self]
theorem it_cyc {p c : List Nat} (h : IsCyc p n c) {j : Nat} (hj : j < c.length) : ∀ i, it p (nl c j) i = nl c ((j + 1 + i) % c.length)
  | 0 => cyc_next h hj
  | i + 1 => by
    rw [it, it_cyc h hj i, cyc_next h (Nat.mod_lt _ h.ne), Nat.mod_add_mod]
    congr 1
/-- One comes back to where one started, within sixteen steps. -/
theorem it_back {p : List Nat} (hp : Perm p n) {x : Nat} (hx : x < n) : ∃ P, P < 16 ∧ it p x P = x := by
  have hn := hp.1
  obtain ⟨c, hc, hxc⟩ := cyc_at hp hx
  have hi := cyc_is hp hc
  have hl := cyc_len hp hc
  obtain ⟨j, hj, rfl⟩ := mem_nl hxc
  refine ⟨c.length - 1, by omega, ?_⟩
  rw [it_cyc hi hj, show j + 1 + (c.length - 1) = j + c.length by omega, Nat.add_mod_right, Nat.mod_eq_of_lt hj]
end
/-- Bytes as a string. -/
def bs (l : List UInt8) : ByteArray := ⟨l.toArray⟩
theorem bs_size {l : List UInt8} : (bs l).size = l.length := by simp [bs, ByteArray.size]
theorem bs_append {a b : List UInt8} : bs a ++ bs b = bs (a ++ b) := by
  apply ByteArray.ext
  simp [bs]
theorem bs0 : (⟨#[]⟩ : ByteArray) = bs [] := rfl
theorem bs40 : (⟨#[40]⟩ : ByteArray) = bs [40] := rfl
theorem bs41 : (⟨#[41]⟩ : ByteArray) = bs [41] := rfl
theorem sbin_add {a b : List UInt8} (h : a.length + b.length ≤ 9223372036854775807) : aSbin .add (.string (bs a)) (.string (bs b)) = some (.string (bs (a ++ b))) := by
  simp only [aSbin, bs_size]
  rw [if_pos h, bs_append]
end Go.Bm
