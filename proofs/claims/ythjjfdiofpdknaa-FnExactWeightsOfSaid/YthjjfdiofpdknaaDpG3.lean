/- DpCd, DpTa, DpTf, DpTg, DpCb, DpV, DpVa -/
import Derived.Test.YthjjfdiofpdknaaDpG0
import Derived.Test.YthjjfdiofpdknaaDpG2
/- Mirror images are dessins: the plain law. -/
set_option linter.unusedVariables false
set_option linter.unusedSimpArgs false
namespace Go.Bm
open Go Go.Am

/-! ### Mirror images are dessins -/
section
variable {p b w : List Nat} {n : Nat}
theorem Perm.surj (hp : Perm p n) {y : Nat} (hy : y < n) : ∃ x, x < n ∧ nl p x = y := by
  obtain ⟨c, hc, hyc⟩ := cyc_at hp hy
  have hi := cyc_is hp hc
  obtain ⟨j, hj, rfl⟩ := mem_nl hyc
  by_cases e : j = 0
  · subst e
    exact ⟨_, hi.lt _ (nl_mem (by omega)), hi.last⟩
  · have := hi.step (j - 1) (by omega)
    rw [show j - 1 + 1 = j by omega] at this
    exact ⟨_, hi.lt _ (nl_mem (by omega)), this⟩
theorem back_at (hp : Perm p n) : ∀ {k i : Nat}, k ≤ n → i < k → nl (backK p k) (nl p i) = i
  | 0, _, _, h => by omega
  | k + 1, i, hk, hi => by
    have hn := hp.1
    rw [backK, nl_set, backK_len]
    by_cases e : i = k
    · subst e
      rw [if_pos ⟨rfl, by have := hp.lt (show i < n by omega); omega⟩]
    · rw [if_neg (fun h => e (hp.inj (by omega) (by omega) h.1)), back_at hp (by omega) (by omega)]
theorem back_out (hp : Perm p n) {i : Nat} (hi : n ≤ i) : ∀ {k : Nat}, k ≤ n → nl (backK p k) i = 0
  | 0, _ => by simp only [backK, nl_rep]; split <;> rfl
  | k + 1, hk => by
    have := hp.lt (show k < n by omega)
    rw [backK, nl_set, if_neg (by omega), back_out hp hi (by omega)]
theorem Perm.back (hp : Perm p n) : Perm (backK p n) n := by
  refine ⟨hp.1, fun i _ => ⟨fun h => back_out hp (by omega) (Nat.le_refl _), fun h => ?_⟩⟩
  obtain ⟨x, hx, rfl⟩ := hp.surj (show i < n by omega)
  rw [back_at hp (Nat.le_refl _) hx]
  refine ⟨by omega, fun j hj => ?_⟩
  obtain ⟨y, hy, rfl⟩ := hp.surj (show j < n by omega)
  rw [back_at hp (Nat.le_refl _) hy]
  intro e
  subst e
  omega
end
end Go.Bm

/- Trees: the plain law. Without any one dart a tree falls apart; what lies behind a dart is less and less. -/
set_option linter.unusedVariables false
set_option linter.unusedSimpArgs false
namespace Go.Bm
open Go Go.Am

theorem then_perm {b w : List Nat} {n : Nat} (hb : Perm b n) (hw : Perm w n) : Perm (thenK b w n) n := by
  have hn := hb.1
  refine ⟨hb.1, fun i _ => ⟨fun h => by rw [thenK_nl (by omega), if_neg (by omega)], fun h => ?_⟩⟩
  have hi : i < n := by omega
  rw [thenK_nl (by omega), if_pos hi]
  have h1 := hw.lt (hb.lt hi)
  refine ⟨by omega, fun j hj e => ?_⟩
  rw [thenK_nl (by omega), if_pos (by omega)] at e
  have := hb.inj (by omega) hi (hw.inj (hb.lt (by omega)) (hb.lt hi) e)
  omega
theorem face_perm {b w : List Nat} {n : Nat} (hb : Perm b n) (hw : Perm w n) : Perm (faceP b w n) n := (then_perm hb hw).back
/-- A tree: one face, and one vertex more than edges. -/
def Tree (n : Nat) (b w : List Nat) : Prop := (cyc (faceP b w n) n).length = 1 ∧ (cyc b n).length + (cyc w n).length = n + 1
instance (n : Nat) (b w : List Nat) : Decidable (Tree n b w) := by unfold Tree; infer_instance

/-! ### Vertices by number -/
def vix (p : List Nat) (n x : Nat) : Nat := (cyc p n).findIdx fun c => c.contains x
theorem vix_lt {p : List Nat} {n x : Nat} (hp : Perm p n) (hx : x < n) : vix p n x < (cyc p n).length := by
  obtain ⟨c, hc, hxc⟩ := cyc_at hp hx
  exact List.findIdx_lt_length_of_exists ⟨c, hc, by simpa using hxc⟩
theorem vix_mem {p : List Nat} {n x : Nat} (hp : Perm p n) (hx : x < n) : x ∈ (cyc p n)[vix p n x]'(vix_lt hp hx) := by
  have h2 : ((cyc p n)[vix p n x]'(vix_lt hp hx)).contains x = true := List.findIdx_getElem (w := vix_lt hp hx)
  simpa using h2
theorem cyc_nod {p : List Nat} {n : Nat} (hp : Perm p n) : (cyc p n).flatten.Nodup := (CycOk.all rfl hp (Nat.le_refl n)).nod
/-- A number is in one cycle only. -/
theorem flat_uniq : ∀ {cs : List (List Nat)} {i j x : Nat} (hi : i < cs.length) (hj : j < cs.length), cs.flatten.Nodup → x ∈ cs[i] → x ∈ cs[j] → i = j
  | c :: cs, 0, 0, x, _, _, _, _, _ => rfl
  | c :: cs, 0, j + 1, x, _, hj, hn, h1, h2 => by
    rw [List.flatten_cons, List.nodup_append] at hn
    exact absurd rfl (hn.2.2 x h1 x (List.mem_flatten.2 ⟨_, List.getElem_mem (by simpa using hj), h2⟩))
  | c :: cs, i + 1, 0, x, hi, _, hn, h1, h2 => by
    rw [List.flatten_cons, List.nodup_append] at hn
    exact absurd rfl (hn.2.2 x h2 x (List.mem_flatten.2 ⟨_, List.getElem_mem (by simpa using hi), h1⟩))
  | c :: cs, i + 1, j + 1, x, hi, hj, hn, h1, h2 => by
    rw [List.flatten_cons, List.nodup_append] at hn
    rw [flat_uniq (cs := cs) (by simpa using hi) (by simpa using hj) hn.2.1 h1 h2]
theorem vix_of {p : List Nat} {n x i : Nat} (hp : Perm p n) (hx : x < n) (hi : i < (cyc p n).length) (h : x ∈ (cyc p n)[i]) : vix p n x = i :=
  flat_uniq (vix_lt hp hx) hi (cyc_nod hp) (vix_mem hp hx) h
theorem vix_step {p : List Nat} {n x : Nat} (hp : Perm p n) (hx : x < n) : vix p n (nl p x) = vix p n x :=
  vix_of hp (hp.lt hx) (vix_lt hp hx) ((cyc_is hp (List.getElem_mem _)).fwd (vix_mem hp hx))
theorem vix_surj {p : List Nat} {n i : Nat} (hp : Perm p n) (hi : i < (cyc p n).length) : ∃ x, x < n ∧ vix p n x = i := by
  have hc := cyc_is hp (List.getElem_mem hi)
  have hm : nl (cyc p n)[i] 0 ∈ (cyc p n)[i] := nl_mem hc.ne
  exact ⟨_, hc.lt _ hm, vix_of hp (hc.lt _ hm) hi hm⟩

/-! ### Pieces: numbers of vertices that stay connected, edge by edge -/
def merge (f : Nat → Nat) (e : Nat × Nat) : Nat → Nat := fun x => if f x = f e.1 then f e.2 else f x
def pieces (es : List (Nat × Nat)) : Nat → Nat := es.foldl merge id
theorem pieces_two : ∀ (es : List (Nat × Nat)) (f : Nat → Nat) (V m : Nat) (S : List Nat), S.Nodup → m + es.length ≤ S.length → (∀ a ∈ S, ∃ x, x < V ∧ f x = a) →
    ∃ S' : List Nat, S'.Nodup ∧ m ≤ S'.length ∧ ∀ a ∈ S', ∃ x, x < V ∧ (es.foldl merge f) x = a
  | [], f, V, m, S, h1, h2, h3 => ⟨S, h1, by simpa using h2, h3⟩
  | e :: es, f, V, m, S, h1, h2, h3 => by
    have hl := List.length_erase (a := f e.1) (l := S)
    refine pieces_two es (merge f e) V m (S.erase (f e.1)) (h1.erase _) ?_ fun a ha => ?_
    · simp only [List.length_cons] at h2
      split at hl <;> omega
    · obtain ⟨x, hx, hxa⟩ := h3 a (List.mem_of_mem_erase ha)
      refine ⟨x, hx, ?_⟩
      have hne : a ≠ f e.1 := fun h => by
        subst h
        exact (List.Nodup.not_mem_erase h1) ha
      rw [merge, if_neg (by rw [hxa]; exact hne), hxa]
theorem pieces_mono : ∀ (es : List (Nat × Nat)) (f : Nat → Nat) (x y : Nat), f x = f y → (es.foldl merge f) x = (es.foldl merge f) y
  | [], f, x, y, h => h
  | e :: es, f, x, y, h => pieces_mono es (merge f e) x y (by simp only [merge, h])
theorem pieces_edge : ∀ (es : List (Nat × Nat)) (f : Nat → Nat) (e : Nat × Nat), e ∈ es → (es.foldl merge f) e.1 = (es.foldl merge f) e.2
  | e' :: es, f, e, h => by
    rcases List.mem_cons.1 h with rfl | h
    · exact pieces_mono es _ _ _ (by
        simp only [merge, if_true]
        split
        · rfl
        · rfl)
    · exact pieces_edge es (merge f e') e h
section
variable {b w : List Nat} {n : Nat}
/-- The vertices of a dart; those of w behind those of b. -/
def ends (b w : List Nat) (n : Nat) (c : Bool) (x : Nat) : Nat := if c then (cyc b n).length + vix w n x else vix b n x
def others (b w : List Nat) (n y : Nat) : List (Nat × Nat) := ((List.range n).filter fun z => z != y).map fun z => (ends b w n false z, ends b w n true z)
/-- The piece of each vertex when one dart is taken out. -/
def lab (b w : List Nat) (n y : Nat) : Nat → Nat := pieces (others b w n y)
theorem lab_edge {y z : Nat} (hz : z < n) (h : z ≠ y) (c c' : Bool) : lab b w n y (ends b w n c z) = lab b w n y (ends b w n c' z) := by
  have key : lab b w n y (ends b w n false z) = lab b w n y (ends b w n true z) :=
    pieces_edge _ id (ends b w n false z, ends b w n true z) (List.mem_map.2 ⟨z, List.mem_filter.2 ⟨List.mem_range.2 hz, by simpa using h⟩, rfl⟩)
  cases c <;> cases c' <;> first | rfl | exact key | exact key.symm
theorem filter_ne_len {y : Nat} (hy : y < n) : ((List.range n).filter fun z => z != y).length + 1 = n := by
  have h1 : ((List.range n).filter fun z => z != y) = (List.range n).erase y := (List.Nodup.erase_eq_filter List.nodup_range y).symm
  rw [h1, List.length_erase_of_mem (List.mem_range.2 hy), List.length_range]
  omega
/-- A tree falls apart without any one dart. -/
theorem Tree.apart (hd : Des n b w) (ht : Tree n b w) {y : Nat} (hy : y < n) : lab b w n y (ends b w n false y) ≠ lab b w n y (ends b w n true y) := by
  intro he
  obtain ⟨hb, hw, _⟩ := id hd
  have hall : ∀ z, z < n → lab b w n y (ends b w n false z) = lab b w n y (ends b w n true z) := fun z hz => by
    by_cases e : z = y
    · rw [e]; exact he
    · exact lab_edge hz e _ _
  have hone := hd.ind (fun z => lab b w n y (ends b w n false z) = lab b w n y (ends b w n false 0))
    (fun z hz hS => by
      have e : ends b w n false (nl b z) = ends b w n false z := by simp only [ends]; exact vix_step hb hz
      rw [e]; exact hS)
    (fun z hz hS => by
      have e : ends b w n true (nl w z) = ends b w n true z := by simp only [ends, if_true]; rw [vix_step hw hz]
      rw [hall _ (hw.lt hz), e, ← hall z hz]; exact hS) rfl
  obtain ⟨S, h1, h2, h3⟩ := pieces_two (others b w n y) id (n + 1) 2 (List.range (n + 1)) List.nodup_range (by
    have := filter_ne_len hy
    rw [others, List.length_map, List.length_range]
    omega) (fun a ha => ⟨a, List.mem_range.1 ha, rfl⟩)
  have hvert : ∀ v, v < n + 1 → lab b w n y v = lab b w n y (ends b w n false 0) := fun v hv => by
    have ht2 := ht.2
    rcases Nat.lt_or_ge v (cyc b n).length with h | h
    · obtain ⟨x, hx, rfl⟩ := vix_surj hb h
      exact hone x hx
    · obtain ⟨x, hx, hxv⟩ := vix_surj hw (show v - (cyc b n).length < (cyc w n).length by omega)
      have e : v = ends b w n true x := by simp only [ends, if_true]; omega
      rw [e, ← hall x hx]
      exact hone x hx
  match S, h1, h2, h3 with
  | [], _, h2, _ => simp at h2
  | [_], _, h2, _ => simp at h2
  | a :: a' :: _, h1, _, h3 =>
    obtain ⟨x, hx, hxa⟩ := h3 a (by simp)
    obtain ⟨x', hx', hxa'⟩ := h3 a' (by simp)
    have e1 : lab b w n y x = a := hxa
    have e2 : lab b w n y x' = a' := hxa'
    have : a = a' := by rw [← e1, ← e2, hvert x hx, hvert x' hx']
    simp only [List.nodup_cons, List.mem_cons] at h1
    exact h1.1 (.inl this)
theorem Tree.apart' (hd : Des n b w) (ht : Tree n b w) {y : Nat} (hy : y < n) (c : Bool) : lab b w n y (ends b w n c y) ≠ lab b w n y (ends b w n (!c) y) := by
  cases c
  · exact ht.apart hd hy
  · exact (ht.apart hd hy).symm
/-- What is led on from a dart is true of all. -/
theorem Des.indx (h : Des n b w) {x : Nat} (hx : x < n) (S : Nat → Prop) (s1 : ∀ z, z < n → S z → S (nl b z)) (s2 : ∀ z, z < n → S z → S (nl w z)) (s0 : S x) : ∀ z, z < n → S z := by
  have key := h.ind (fun z => S z ↔ S 0)
    (fun z hz hS => by rw [← hS]; exact ⟨closed_bwd h.1 s1 hz, s1 z hz⟩)
    (fun z hz hS => by rw [← hS]; exact ⟨closed_bwd h.2.1 s2 hz, s2 z hz⟩) Iff.rfl
  exact fun z hz => (key z hz).2 ((key x hx).1 s0)
/-- The darts behind a dart at its vertex of one colour. -/
def behind (b w : List Nat) (n : Nat) (c : Bool) (x : Nat) : List Nat := (List.range n).filter fun z => z != x && lab b w n x (ends b w n false z) == lab b w n x (ends b w n c x)
theorem behind_mem {c : Bool} {x z : Nat} : z ∈ behind b w n c x ↔ z < n ∧ z ≠ x ∧ lab b w n x (ends b w n false z) = lab b w n x (ends b w n c x) := by
  simp [behind]
theorem behind_nod {c : Bool} {x : Nat} : (behind b w n c x).Nodup := List.Pairwise.filter _ List.nodup_range
theorem behind_less (hd : Des n b w) (ht : Tree n b w) {c : Bool} {x y : Nat} (hx : x < n) (hy : y < n) (hxy : y ≠ x) (hc : ends b w n c y = ends b w n c x) :
    (behind b w n (!c) y).length < (behind b w n c x).length := by
  obtain ⟨hb, hw, _⟩ := id hd
  have hap := ht.apart' hd hy c
  have hA : ∀ z, z < n → z ≠ y → lab b w n y (ends b w n false z) = lab b w n y (ends b w n (!c) y) → z ≠ x := fun z hz hzy h e => by
    subst e
    rw [lab_edge hz hzy false c, ← hc] at h
    exact hap h
  have hyx : ∀ c', lab b w n x (ends b w n c' y) = lab b w n x (ends b w n c x) := fun c' => by rw [lab_edge hy hxy c' c, hc]
  have hsub := hd.indx hx (fun z => ¬ ((z ≠ y ∧ lab b w n y (ends b w n false z) = lab b w n y (ends b w n (!c) y)) ∧ ¬ lab b w n x (ends b w n false z) = lab b w n x (ends b w n c x)))
    (fun z hz hS hB => by
      obtain ⟨⟨h1, h2⟩, h3⟩ := hB
      have e : ends b w n false (nl b z) = ends b w n false z := by simp only [ends]; exact vix_step hb hz
      rw [e] at h2 h3
      refine hS ⟨⟨fun hzy => ?_, h2⟩, h3⟩
      subst hzy
      exact h3 (hyx _))
    (fun z hz hS hB => by
      obtain ⟨⟨h1, h2⟩, h3⟩ := hB
      have e : ends b w n true (nl w z) = ends b w n true z := by simp only [ends, if_true]; rw [vix_step hw hz]
      have hzx' := hA _ (hw.lt hz) h1 h2
      rw [lab_edge (hw.lt hz) h1 false true, e] at h2
      rw [lab_edge (hw.lt hz) hzx' false true, e] at h3
      by_cases hzy : z = y
      · subst hzy
        exact h3 (hyx _)
      · rw [lab_edge hz hzy true false] at h2
        have hzx := hA z hz hzy h2
        rw [lab_edge hz hzx true false] at h3
        exact hS ⟨⟨hzy, h2⟩, h3⟩)
    (fun hB => hA x hx hB.1.1 hB.1.2 rfl)
  have := List.Nodup.length_le_of_subset (l₁ := y :: behind b w n (!c) y) (l₂ := behind b w n c x) (List.nodup_cons.2 ⟨fun h => (behind_mem.1 h).2.1 rfl, behind_nod⟩) (fun z hz => by
    rw [behind_mem]
    rcases List.mem_cons.1 hz with rfl | hz
    · exact ⟨hy, hxy, hyx _⟩
    · obtain ⟨h1, h2, h3⟩ := behind_mem.1 hz
      refine ⟨h1, hA z h1 h2 h3, ?_⟩
      have := hsub z h1
      exact Classical.byContradiction fun hn => this ⟨⟨h2, h3⟩, hn⟩)
  rw [List.length_cons] at this
  omega

/-! ### Words -/
theorem behind_le {c : Bool} {x : Nat} : (behind b w n c x).length ≤ n := nodup_le behind_nod fun z hz => (behind_mem.1 hz).1
/-! ### Round a vertex -/
def it (p : List Nat) (x : Nat) : Nat → Nat
  | 0 => nl p x
  | i + 1 => nl p (it p x i)
end
/-- Bytes as a string. -/
def bs (l : List UInt8) : ByteArray := ⟨l.toArray⟩
end Go.Bm

/- Longest paths in trees: the plain law. The middle of a longest path from an end of a longest path is the same, whatever ends are chosen. -/
set_option linter.unusedVariables false
set_option linter.unusedSimpArgs false
namespace Go.Bm
open Go Go.Am

section
variable {n : Nat} {b w : List Nat}
/-- y is another edge at x's vertex of one colour. -/
def Nb (b w : List Nat) (n : Nat) (c : Bool) (x y : Nat) : Prop := y < n ∧ y ≠ x ∧ ends b w n c y = ends b w n c x
instance (c : Bool) (x y : Nat) : Decidable (Nb b w n c x y) := by unfold Nb; infer_instance
theorem Nb.symm {c : Bool} {x y : Nat} (hx : x < n) (h : Nb b w n c x y) : Nb b w n c y x := ⟨hx, h.2.1.symm, h.2.2.symm⟩
def nbs (b w : List Nat) (n : Nat) (c : Bool) (x : Nat) : List Nat := (List.range n).filter fun y => decide (Nb b w n c x y)
theorem mem_nbs {c : Bool} {x y : Nat} : y ∈ nbs b w n c x ↔ Nb b w n c x y := by
  simp only [nbs, List.mem_filter, List.mem_range, decide_eq_true_eq]
  exact ⟨fun h => h.2, fun h => ⟨h.1, h⟩⟩
def mx (f : Nat → Nat) (l : List Nat) : Nat := l.foldr (fun y m => max (f y + 1) m) 0
theorem mx_ge {f : Nat → Nat} : ∀ {l : List Nat} {y : Nat}, y ∈ l → f y + 1 ≤ mx f l
  | a :: l, y, h => by
    simp only [mx, List.foldr_cons]
    rcases List.mem_cons.1 h with rfl | h
    · omega
    · have := mx_ge (f := f) h
      simp only [mx] at this
      omega
theorem mx_congr {f g : Nat → Nat} : ∀ {l : List Nat}, (∀ y ∈ l, f y = g y) → mx f l = mx g l
  | [], _ => rfl
  | a :: l, h => by
    have ih := mx_congr (l := l) fun y hy => h y (by simp [hy])
    simp only [mx, List.foldr_cons] at ih ⊢
    rw [ih, h a (by simp)]
/-- The length of a longest path from an edge's vertex of one colour that goes away from the edge. -/
def hg (b w : List Nat) (n : Nat) : Nat → Bool → Nat → Nat
  | 0, _, _ => 0
  | k + 1, c, x => mx (hg b w n k (!c)) (nbs b w n c x)
theorem hg_eq (hd : Des n b w) (ht : Tree n b w) : ∀ (r k : Nat) (c : Bool) (x : Nat), x < n → (behind b w n c x).length ≤ r → r ≤ k → hg b w n k c x = hg b w n (k + 1) c x
  | 0, k, c, x, hx, hr, hk => by
    have : nbs b w n c x = [] := List.eq_nil_iff_forall_not_mem.2 fun y hy => by
      obtain ⟨h1, h2, h3⟩ := mem_nbs.1 hy
      have := behind_less hd ht hx h1 h2 h3
      omega
    cases k <;> simp only [hg, this] <;> rfl
  | r + 1, 0, c, x, hx, hr, hk => by omega
  | r + 1, k + 1, c, x, hx, hr, hk => by
    rw [hg, hg]
    refine mx_congr fun y hy => ?_
    obtain ⟨h1, h2, h3⟩ := mem_nbs.1 hy
    have := behind_less hd ht hx h1 h2 h3
    exact hg_eq hd ht r k (!c) y h1 (by omega) (by omega)
def hgt (b w : List Nat) (n : Nat) (c : Bool) (x : Nat) : Nat := hg b w n n c x
theorem hgt_rec (hd : Des n b w) (ht : Tree n b w) {c : Bool} {x : Nat} (hx : x < n) : hgt b w n c x = mx (hgt b w n (!c)) (nbs b w n c x) := by
  rw [hgt, hg_eq hd ht n n c x hx behind_le (Nat.le_refl n)]
  rfl
theorem hgt_nb (hd : Des n b w) (ht : Tree n b w) {c : Bool} {x y : Nat} (hx : x < n) (h : Nb b w n c x y) : hgt b w n (!c) y + 1 ≤ hgt b w n c x := by
  rw [hgt_rec hd ht (c := c) hx]
  exact mx_ge (mem_nbs.2 h)
/-! ### Edges far from each other -/
inductive Rc (b w : List Nat) (n : Nat) (c : Bool) (x : Nat) : Bool → Nat → Nat → Prop where
  | one {y} : Nb b w n c x y → Rc b w n c x (!c) y 1
  | more {c' y d z} : Rc b w n c x c' y d → Nb b w n c' y z → Rc b w n c x (!c') z (d + 1)
theorem Rc.lt {c c' : Bool} {x y d : Nat} (h : Rc b w n c x c' y d) : y < n := by
  cases h with
  | one h => exact h.1
  | more _ h => exact h.1
theorem Rc.far (hd : Des n b w) (ht : Tree n b w) {c c' : Bool} {x y d : Nat} (hx : x < n) (h : Rc b w n c x c' y d) :
    hgt b w n c' y + d ≤ hgt b w n c x ∧ hgt b w n (!c) x + d ≤ hgt b w n (!c') y := by
  induction h with
  | one h =>
    have h1 := hgt_nb hd ht hx h
    have h2 := hgt_nb hd ht h.1 (h.symm hx)
    simp only [Bool.not_not]
    omega
  | @more c' y d z h1 h2 ih =>
    have h3 := hgt_nb hd ht h1.lt h2
    have h4 := hgt_nb hd ht h2.1 (h2.symm h1.lt)
    simp only [Bool.not_not]
    omega
theorem Rc.pos {c c' : Bool} {x y d : Nat} (h : Rc b w n c x c' y d) : 0 < d := by
  cases h <;> omega
/-- From edge to edge round one vertex. -/
theorem Rc.turn {c' : Bool} {x y z : Nat} (hx : x < n) (hz : z < n) (c0 : Bool) (he : ends b w n c0 z = ends b w n c0 y) (h : y = x ∨ ∃ c d, Rc b w n c x c' y d) :
    z = x ∨ ∃ c c' d, Rc b w n c x c' z d := by
  by_cases hzx : z = x
  · exact .inl hzx
  refine .inr ?_
  rcases h with rfl | ⟨c, d, h⟩
  · exact ⟨c0, _, _, .one ⟨hz, hzx, he⟩⟩
  · by_cases hzy : z = y
    · subst hzy
      exact ⟨_, _, _, h⟩
    by_cases hc : c' = c0
    · subst hc
      exact ⟨c, _, _, h.more ⟨hz, hzy, he⟩⟩
    · cases h with
      | one h1 =>
        have : c0 = c := by cases c <;> cases c0 <;> simp_all
        subst this
        exact ⟨_, _, _, .one ⟨hz, hzx, he.trans h1.2.2⟩⟩
      | @more c2 y2 d2 _ h1 h2 =>
        have : c0 = c2 := by cases c2 <;> cases c0 <;> simp_all
        subst this
        by_cases hz2 : z = y2
        · subst hz2
          exact ⟨_, _, _, h1⟩
        · exact ⟨_, _, _, h1.more ⟨hz, hz2, he.trans h2.2.2⟩⟩
theorem Rc.all (hd : Des n b w) {x : Nat} (hx : x < n) : ∀ z, z < n → z = x ∨ ∃ c c' d, Rc b w n c x c' z d := by
  obtain ⟨hb, hw, _⟩ := id hd
  refine hd.indx hx _ (fun z hz h => ?_) (fun z hz h => ?_) (.inl rfl)
  · have e : ends b w n false (nl b z) = ends b w n false z := by simp only [ends]; exact vix_step hb hz
    rcases h with h | ⟨c, c', d, h⟩
    · exact Rc.turn (c' := false) hx (hb.lt hz) false e (.inl h)
    · exact Rc.turn hx (hb.lt hz) false e (.inr ⟨c, d, h⟩)
  · have e : ends b w n true (nl w z) = ends b w n true z := by simp only [ends, if_true]; rw [vix_step hw hz]
    rcases h with h | ⟨c, c', d, h⟩
    · exact Rc.turn (c' := false) hx (hw.lt hz) true e (.inl h)
    · exact Rc.turn hx (hw.lt hz) true e (.inr ⟨c, d, h⟩)
/-- A middle edge, or an edge at the middle vertex (of colour c). -/
def Mid (b w : List Nat) (n : Nat) (c : Bool) (x : Nat) (k : Nat) : Prop :=
  x < n ∧ ((k = 2 * hgt b w n c x + 1 ∧ hgt b w n (!c) x = hgt b w n c x) ∨ (k = 2 * hgt b w n c x ∧ hgt b w n c x = hgt b w n (!c) x + 1))
theorem Mid.uniq (hd : Des n b w) (ht : Tree n b w) {c c' : Bool} {x x' k k' : Nat} (h : Mid b w n c x k) (h' : Mid b w n c' x' k') :
    k = k' ∧ (k % 2 = 1 → x = x') ∧ (k % 2 = 0 → ends b w n c x = ends b w n c' x' ∧ c = c') := by
  obtain ⟨hx, h⟩ := h
  obtain ⟨hx', h'⟩ := h'
  rcases Rc.all hd hx x' hx' with rfl | ⟨a, a', d, hr⟩
  · by_cases e : c = c'
    · subst e
      exact ⟨by omega, fun _ => rfl, fun _ => ⟨rfl, rfl⟩⟩
    · obtain rfl : c' = !c := by cases c <;> cases c' <;> simp_all
      rw [Bool.not_not] at h'
      exact ⟨by omega, fun _ => rfl, fun _ => by omega⟩
  · have hd0 := hr.pos
    obtain ⟨f1, f2⟩ := hr.far hd ht hx
    have hA : (hgt b w n a x = hgt b w n c x ∧ hgt b w n (!a) x = hgt b w n (!c) x ∧ a = c) ∨ (hgt b w n a x = hgt b w n (!c) x ∧ hgt b w n (!a) x = hgt b w n c x ∧ a = !c) := by
      cases a <;> cases c <;> simp
    have hB : (hgt b w n a' x' = hgt b w n c' x' ∧ hgt b w n (!a') x' = hgt b w n (!c') x' ∧ a' = c') ∨ (hgt b w n a' x' = hgt b w n (!c') x' ∧ hgt b w n (!a') x' = hgt b w n c' x' ∧ a' = !c') := by
      cases a' <;> cases c' <;> simp
    have key : d = 1 ∧ a = c ∧ a' = !c' ∧ k = k' ∧ k % 2 = 0 := by
      rcases hA with ⟨g1, g2, g3⟩ | ⟨g1, g2, g3⟩ <;> rcases hB with ⟨g4, g5, g6⟩ | ⟨g4, g5, g6⟩ <;> rcases h with h | h <;> rcases h' with h' | h' <;>
        first | exact ⟨by omega, g3, g6, by omega, by omega⟩ | (exfalso; omega)
    obtain ⟨rfl, rfl, k2, k3, k4⟩ := key
    refine ⟨k3, fun _ => by omega, fun _ => ?_⟩
    cases hr with
    | one h1 =>
      have : a = c' := by cases a <;> cases c' <;> simp_all
      subst this
      exact ⟨h1.2.2.symm, rfl⟩
    | more h1 h2 => have := h1.pos; omega

/-! ### Two sweeps -/
/-- A longest path that goes away from an edge at its vertex of one colour. -/
def Lg (b w : List Nat) (n : Nat) : Bool → Nat → List Nat → Prop
  | c, x, [] => hgt b w n c x = 0
  | c, x, y :: l => Nb b w n c x y ∧ hgt b w n c x = hgt b w n (!c) y + 1 ∧ Lg b w n (!c) y l
theorem Lg.len : ∀ {c : Bool} {x : Nat} {l : List Nat}, Lg b w n c x l → l.length = hgt b w n c x
  | c, x, [], h => by rw [Lg] at h; rw [h]; rfl
  | c, x, y :: l, h => by
    rw [Lg] at h
    rw [List.length_cons, h.2.2.len, h.2.1]
/-- The vertices on a path. -/
def sn (b w : List Nat) (n : Nat) : Bool → Nat → List Nat → List Nat
  | c, x, [] => [ends b w n c x]
  | c, x, y :: l => ends b w n c x :: sn b w n (!c) y l
theorem sn_len : ∀ {c : Bool} {x : Nat} {l : List Nat}, (sn b w n c x l).length = l.length + 1
  | c, x, [] => rfl
  | c, x, y :: l => by rw [sn, List.length_cons, sn_len, List.length_cons]
/-- The way back from an edge to where a longest path began. -/
def Back (b w : List Nat) (n : Nat) : Bool → Nat → Nat → List Nat → Prop
  | c, x, d, [] => x < n ∧ hgt b w n c x = d ∧ ∀ z, z < n → ends b w n (!c) z = ends b w n (!c) x → hgt b w n c z ≤ d
  | c, x, d, y :: g => x < n ∧ hgt b w n c x = d ∧ Nb b w n (!c) x y ∧ Back b w n (!c) y (d + 1) g
theorem Back.mid (hd : Des n b w) (ht : Tree n b w) : ∀ (g : List Nat) (c : Bool) (x d : Nat) (pre l : List Nat) (cu : Bool), Back b w n c x d g → Lg b w n (!c) x l → pre.length = d → d ≤ l.length → (c = (cu ^^ decide (d % 2 = 1))) →
    ∃ pre' x' l' c', pre ++ x :: l = pre' ++ x' :: l' ∧ c' = (cu ^^ decide (pre'.length % 2 = 1)) ∧ Mid b w n (!c') x' (pre ++ x :: l).length ∧ (l'.length = pre'.length ∨ l'.length = pre'.length + 1)
  | g, c, x, d, pre, l, cu, hB, hL, hp, hdl, hc => by
    have hll := hL.len
    have hxd : x < n ∧ hgt b w n c x = d := by cases g <;> rw [Back] at hB <;> exact ⟨hB.1, hB.2.1⟩
    by_cases hm : l.length ≤ d + 1
    · refine ⟨pre, x, l, c, rfl, by rw [hp]; exact hc, ⟨hxd.1, ?_⟩, by omega⟩
      rw [Bool.not_not, List.length_append, List.length_cons]
      omega
    · match l, hL, hll, hdl, hm with
      | [], _, _, _, hm => exact absurd (Nat.zero_le _) hm
      | y' :: l, hL, hll, hdl, hm =>
        rw [Lg] at hL
        obtain ⟨h1, h2, h3⟩ := hL
        rw [List.length_cons] at hll hdl hm
        match g, hB with
        | [], hB =>
          rw [Back] at hB
          have h5 := hB.2.2 y' h1.1 h1.2.2
          rw [Bool.not_not] at h2
          omega
        | y :: g, hB =>
          rw [Back] at hB
          obtain ⟨_, _, h5, h6⟩ := hB
          have hyy : y' = y := Classical.byContradiction fun hne => by
            have hy : hgt b w n (!c) y = d + 1 := by cases g <;> rw [Back] at h6 <;> exact h6.2.1
            have h7 := hgt_nb hd ht h5.1 (c := !c) (y := y') ⟨h1.1, hne, h1.2.2.trans h5.2.2.symm⟩
            omega
          subst hyy
          have := Back.mid hd ht g (!c) y' (d + 1) (pre ++ [x]) l cu h6 h3 (by simp [hp]) (by omega) (by
            rw [hc]
            rcases Nat.mod_two_eq_zero_or_one d with e | e <;> cases cu <;> simp [e] <;> omega)
          rw [List.append_assoc] at this
          exact this
termination_by g => g.length
/-- A path turned round. -/
theorem Back.of : ∀ {l : List Nat} {c : Bool} {x : Nat} {g : List Nat}, Lg b w n c x l → Back b w n c x l.length g →
    ∃ x' g', Back b w n (c ^^ decide (l.length % 2 = 1)) x' 0 g' ∧ (sn b w n c x l).getD l.length 0 = ends b w n (c ^^ decide (l.length % 2 = 1)) x' ∧ (x :: l).getD l.length 0 = x'
  | [], c, x, g, hL, hB => ⟨x, g, by simpa using hB, by simp [sn], rfl⟩
  | y :: l, c, x, g, hL, hB => by
    rw [Lg] at hL
    obtain ⟨h1, h2, h3⟩ := hL
    have hx : x < n := by cases g <;> rw [Back] at hB <;> exact hB.1
    obtain ⟨x', g', k1, k2, k3⟩ := Back.of (l := l) (c := !c) (x := y) (g := x :: g) h3 (by
      rw [Back, Bool.not_not]
      exact ⟨h1.1, h3.len.symm, h1.symm hx, by simpa using hB⟩)
    have e : ((!c) ^^ decide (l.length % 2 = 1)) = (c ^^ decide ((y :: l).length % 2 = 1)) := by
      rw [List.length_cons]
      rcases Nat.mod_two_eq_zero_or_one l.length with e | e <;> cases c <;> simp [e] <;> omega
    rw [e] at k1 k2
    exact ⟨x', g', k1, by simpa [sn] using k2, by simpa using k3⟩
end
end Go.Bm

/- Weights of trees: the plain law. Some vertex has just one of any edges that are left; weights with given sums are one or none. -/
set_option linter.unusedVariables false
set_option linter.unusedSimpArgs false
namespace Go.Bm
open Go Go.Am

section
variable {n : Nat} {b w : List Nat}
/-- The edges of all vertices, black ones first. -/
def verts (b w : List Nat) (n : Nat) : List (List Nat) := cyc b n ++ cyc w n
theorem verts_at (hd : Des n b w) {v : Nat} (hv : v < (verts b w n).length) : ∃ c, (∃ x, x < n ∧ ends b w n c x = v) ∧ ∀ y, y < n → (y ∈ (verts b w n)[v] ↔ ends b w n c y = v) := by
  obtain ⟨hb, hw, _⟩ := id hd
  have hv' : v < (cyc b n).length + (cyc w n).length := by rw [← List.length_append]; exact hv
  by_cases h : v < (cyc b n).length
  · have e : (verts b w n)[v] = (cyc b n)[v] := List.getElem_append_left h
    obtain ⟨x, hx, hxv⟩ := vix_surj hb h
    refine ⟨false, ⟨x, hx, by simp [ends, hxv]⟩, fun y hy => ?_⟩
    rw [e]
    simp only [ends, Bool.false_eq_true, if_false]
    refine ⟨fun hm => vix_of hb hy h hm, fun hm => ?_⟩
    subst hm
    exact vix_mem hb hy
  · have hvw : v - (cyc b n).length < (cyc w n).length := by omega
    have e : (verts b w n)[v] = (cyc w n)[v - (cyc b n).length] := List.getElem_append_right (by omega)
    obtain ⟨x, hx, hxv⟩ := vix_surj hw hvw
    refine ⟨true, ⟨x, hx, by simp only [ends, if_true, hxv]; omega⟩, fun y hy => ?_⟩
    rw [e]
    simp only [ends, if_true]
    refine ⟨fun hm => by rw [vix_of hw hy hvw hm]; omega, fun hm => ?_⟩
    have : vix w n y = v - (cyc b n).length := by omega
    simp only [← this]
    exact vix_mem hw hy
theorem verts_lt (hd : Des n b w) {v y : Nat} (hv : v < (verts b w n).length) (h : y ∈ (verts b w n)[v]) : y < n := by
  obtain ⟨hb, hw, _⟩ := id hd
  have : (verts b w n)[v] ∈ cyc b n ++ cyc w n := List.getElem_mem hv
  rcases List.mem_append.1 this with h1 | h1
  · exact (cyc_is hb h1).lt _ h
  · exact (cyc_is hw h1).lt _ h
theorem verts_nod (hd : Des n b w) {v : Nat} (hv : v < (verts b w n).length) : ((verts b w n)[v]).Nodup := by
  obtain ⟨hb, hw, _⟩ := id hd
  have : (verts b w n)[v] ∈ cyc b n ++ cyc w n := List.getElem_mem hv
  rcases List.mem_append.1 this with h1 | h1
  · exact (cyc_is hb h1).nod
  · exact (cyc_is hw h1).nod
theorem ends_lt (hd : Des n b w) {c : Bool} {x : Nat} (hx : x < n) : ends b w n c x < (verts b w n).length := by
  obtain ⟨hb, hw, _⟩ := id hd
  rw [verts, List.length_append]
  cases c
  · have := vix_lt hb hx
    simp only [ends, Bool.false_eq_true, if_false]
    omega
  · have := vix_lt hw hx
    simp only [ends, if_true]
    omega
theorem mem_verts (hd : Des n b w) {c : Bool} {x y : Nat} (hx : x < n) (hy : y < n) : y ∈ (verts b w n)[ends b w n c x]'(ends_lt hd hx) ↔ ends b w n c y = ends b w n c x := by
  obtain ⟨hb, hw, _⟩ := id hd
  cases c
  · have hv := vix_lt hb hx
    have e0 : ends b w n false x = vix b n x := by simp [ends]
    have e1 : ends b w n false y = vix b n y := by simp [ends]
    rw [e1]
    have e : (verts b w n)[ends b w n false x]'(ends_lt hd hx) = (cyc b n)[vix b n x] := by
      simp only [e0]
      exact List.getElem_append_left hv
    rw [e, e0]
    refine ⟨fun hm => vix_of hb hy hv hm, fun hm => ?_⟩
    simp only [← hm]
    exact vix_mem hb hy
  · have hv := vix_lt hw hx
    have e0 : ends b w n true x = (cyc b n).length + vix w n x := by simp [ends]
    have e1 : ends b w n true y = (cyc b n).length + vix w n y := by simp [ends]
    have e : (verts b w n)[ends b w n true x]'(ends_lt hd hx) = (cyc w n)[vix w n x] := by
      simp only [e0, verts]
      rw [List.getElem_append_right (by omega)]
      simp only [Nat.add_sub_cancel_left]
    rw [e, e0, e1]
    refine ⟨fun hm => by rw [vix_of hw hy hv hm], fun hm => ?_⟩
    have : vix w n y = vix w n x := by omega
    simp only [← this]
    exact vix_mem hw hy
/-- Of any edges, some vertex has just one. -/
theorem leaf (hd : Des n b w) (ht : Tree n b w) (O : Nat → Prop) : (∃ x, x < n ∧ O x) → ∃ c x, x < n ∧ O x ∧ ∀ y, y < n → O y → ends b w n c y = ends b w n c x → y = x := by
  rintro ⟨x0, hx0, ho0⟩
  have key : ∀ (r : Nat) (c : Bool) (x : Nat), x < n → O x → (behind b w n c x).length ≤ r → ∃ c x, x < n ∧ O x ∧ ∀ y, y < n → O y → ends b w n c y = ends b w n c x → y = x := by
    intro r
    induction r with
    | zero =>
      intro c x hx ho hr
      refine ⟨c, x, hx, ho, fun y hy hoy he => Classical.byContradiction fun hne => ?_⟩
      have := behind_less hd ht hx hy hne he
      omega
    | succ r ih =>
      intro c x hx ho hr
      by_cases h : ∃ y, y < n ∧ O y ∧ ends b w n c y = ends b w n c x ∧ y ≠ x
      · obtain ⟨y, hy, hoy, he, hne⟩ := h
        have := behind_less hd ht hx hy hne he
        exact ih (!c) y hy hoy (by omega)
      · exact ⟨c, x, hx, ho, fun y hy hoy he => Classical.byContradiction fun hne => h ⟨y, hy, hoy, he, hne⟩⟩
  exact key _ false x0 hx0 ho0 (Nat.le_refl _)

/-! ### Weights -/
def vsum (o : List Int) (l : List Nat) : Int := (l.map (el o)).sum
/-- Weights of edges that have given sums at the vertices. -/
structure Good (b w : List Nat) (n : Nat) (s : List Int) (W : List Int) : Prop where
  len : W.length = n
  pos : ∀ x, x < n → 1 ≤ el W x
  sum : ∀ v (hv : v < (verts b w n).length), vsum W (verts b w n)[v] = el s v
theorem at_ext {o o' : List Int} (h : o.length = o'.length) (h2 : ∀ x, x < o.length → el o x = el o' x) : o = o' := by
  refine List.ext_getElem h fun i h3 h4 => ?_
  have := h2 i h3
  simpa [el, List.getD, h3, h4] using this
theorem vsum_one {o o' : List Int} : ∀ {l : List Nat} {x : Nat}, l.Nodup → x ∈ l → (∀ y ∈ l, y ≠ x → el o y = el o' y) → vsum o l - vsum o' l = el o x - el o' x
  | a :: l, x, hn, hx, h => by
    rw [List.nodup_cons] at hn
    simp only [vsum, List.map_cons, List.sum_cons]
    by_cases e : a = x
    · subst e
      have : l.map (el o) = l.map (el o') := List.map_congr_left fun y hy => h y (by simp [hy]) (fun e => hn.1 (e ▸ hy))
      rw [this]
      omega
    · have hx' : x ∈ l := by
        rcases List.mem_cons.1 hx with h | h
        · exact absurd h.symm e
        · exact h
      have ih := vsum_one (o := o) (o' := o') hn.2 hx' fun y hy => h y (by simp [hy])
      have := h a (by simp) e
      simp only [vsum] at ih
      omega
theorem vsum_congr {o o' : List Int} {l : List Nat} (h : ∀ y ∈ l, el o y = el o' y) : vsum o l = vsum o' l := by
  simp only [vsum]
  rw [List.map_congr_left h]
theorem Good.uniq (hd : Des n b w) (ht : Tree n b w) {s W W' : List Int} (h : Good b w n s W) (h' : Good b w n s W') : W = W' := by
  refine at_ext (by rw [h.len, h'.len]) fun x hx => Classical.byContradiction fun hne => ?_
  obtain ⟨c, x, hx, ho, hu⟩ := leaf hd ht (fun x => el W x ≠ el W' x) ⟨x, by rw [h.len] at hx; exact hx, hne⟩
  have hv := ends_lt hd (c := c) hx
  have h1 := vsum_one (o := W) (o' := W') (verts_nod hd hv) ((mem_verts hd hx hx).2 rfl) fun y hy hyx => Classical.byContradiction fun hne => by
    have hyn := verts_lt hd hv hy
    exact hyx (hu y hyn hne ((mem_verts hd hx hyn).1 hy))
  rw [h.sum _ hv, h'.sum _ hv] at h1
  omega
/-- The weights told so far: each 0 or positive, and those of all good ones. -/
structure Part (b w : List Nat) (n : Nat) (s : List Int) (o : List Int) : Prop where
  len : o.length = n
  nn : ∀ x, x < n → 0 ≤ el o x
  good : ∀ W, Good b w n s W → ∀ x, x < n → el o x ≠ 0 → el o x = el W x
def opens (o : List Int) (l : List Nat) : List Nat := l.filter fun x => el o x == 0
theorem mem_opens {o : List Int} {l : List Nat} {x : Nat} : x ∈ opens o l ↔ x ∈ l ∧ el o x = 0 := by simp [opens]
theorem Part.zero {s : List Int} : Part b w n s (List.replicate n 0) := by
  have h : ∀ x, x < n → el (List.replicate n (0 : Int)) x = 0 := fun x hx => by simp [el, List.getD, hx]
  exact ⟨by simp, fun x hx => by rw [h x hx]; exact Int.le_refl _, fun W _ x hx hne => absurd (h x hx) hne⟩
/-- The one edge without a weight has the rest. -/
theorem Part.one (hd : Des n b w) {s o W : List Int} (hp : Part b w n s o) (hW : Good b w n s W) {v x : Nat} (hv : v < (verts b w n).length) (h : opens o (verts b w n)[v] = [x]) :
    el W x = el s v - vsum o (verts b w n)[v] := by
  have hx : x ∈ opens o (verts b w n)[v] := by rw [h]; simp
  obtain ⟨hx1, hx2⟩ := mem_opens.1 hx
  have h1 := vsum_one (o := W) (o' := o) (verts_nod hd hv) hx1 fun y hy hyx => by
    have hyn := verts_lt hd hv hy
    refine (hp.good W hW y hyn fun h0 => ?_).symm
    have : y ∈ opens o (verts b w n)[v] := mem_opens.2 ⟨hy, h0⟩
    rw [h, List.mem_singleton] at this
    exact hyx this
  rw [hW.sum v hv, hx2] at h1
  omega
theorem Part.none (hd : Des n b w) {s o W : List Int} (hp : Part b w n s o) (hW : Good b w n s W) {v : Nat} (hv : v < (verts b w n).length) (h : opens o (verts b w n)[v] = []) :
    el s v - vsum o (verts b w n)[v] = 0 := by
  have : vsum o (verts b w n)[v] = vsum W (verts b w n)[v] := vsum_congr fun y hy => hp.good W hW y (verts_lt hd hv hy) fun h0 => by
    have : y ∈ opens o (verts b w n)[v] := mem_opens.2 ⟨hy, h0⟩
    rw [h] at this
    cases this
  rw [this, hW.sum v hv]
  omega
theorem at_set {o : List Int} {x y : Nat} {r : Int} (hx : x < o.length) : el (o.set x r) y = if y = x then r else el o y := by
  simp only [el, List.getD, List.getElem?_set]
  by_cases e : y = x
  · subst e; simp [hx]
  · rw [if_neg (Ne.symm e), if_neg e]
theorem Part.set (hd : Des n b w) {s o : List Int} (hp : Part b w n s o) {v x : Nat} (hv : v < (verts b w n).length) (h : opens o (verts b w n)[v] = [x])
    (hr : 1 ≤ el s v - vsum o (verts b w n)[v]) : Part b w n s (o.set x (el s v - vsum o (verts b w n)[v])) := by
  have hx : x ∈ opens o (verts b w n)[v] := by rw [h]; simp
  have hxn := verts_lt hd hv (mem_opens.1 hx).1
  refine ⟨by rw [List.length_set]; exact hp.len, fun y hy => ?_, fun W hW y hy hne => ?_⟩
  · rw [at_set (by rw [hp.len]; exact hxn)]
    split
    · omega
    · exact hp.nn y hy
  · rw [at_set (by rw [hp.len]; exact hxn)] at hne ⊢
    split
    · rename_i e
      subst e
      exact (hp.one hd hW hv h).symm
    · rename_i e
      rw [if_neg e] at hne
      exact hp.good W hW y hy hne
/-- How many have no weight yet. -/
def left (o : List Int) (n : Nat) : Nat := (opens o (List.range n)).length
theorem left_set {o : List Int} {x : Nat} {r : Int} (hn : o.length = n) (hx : x < n) (h0 : el o x = 0) (hr : r ≠ 0) : left (o.set x r) n + 1 = left o n := by
  have e : opens (o.set x r) (List.range n) = (opens o (List.range n)).erase x := by
    have hnd : (opens o (List.range n)).Nodup := List.Pairwise.filter _ List.nodup_range
    rw [List.Nodup.erase_eq_filter hnd, opens, opens, List.filter_filter]
    refine List.filter_congr fun y hy => ?_
    rw [at_set (by omega)]
    by_cases e : y = x
    · subst e; simp [hr]
    · simp [e]
  rw [left, left, e, List.length_erase_of_mem (mem_opens.2 ⟨by simpa using hx, h0⟩)]
  have : 0 < (opens o (List.range n)).length := List.length_pos_of_mem (mem_opens.2 ⟨by simpa using hx, h0⟩)
  omega
theorem left_zero {o : List Int} (h : left o n = 0) : ∀ x, x < n → el o x ≠ 0 := fun x hx h0 => by
  have : x ∈ opens o (List.range n) := mem_opens.2 ⟨by simpa using hx, h0⟩
  rw [List.eq_nil_of_length_eq_zero h] at this
  cases this
theorem left_le {o : List Int} : left o n ≤ n := by
  have := List.length_filter_le (fun x => el o x == 0) (List.range n)
  rw [List.length_range] at this
  exact this
/-- If some have no weight yet, some vertex tells one. -/
theorem left_leaf (hd : Des n b w) (ht : Tree n b w) {o : List Int} (h : left o n ≠ 0) : ∃ v, ∃ hv : v < (verts b w n).length, ∃ x, opens o (verts b w n)[v] = [x] := by
  obtain ⟨x0, hx0⟩ : ∃ x, x ∈ opens o (List.range n) := List.exists_mem_of_ne_nil _ fun e => h (by rw [left, e]; rfl)
  obtain ⟨c, x, hx, ho, hu⟩ := leaf hd ht (fun x => el o x = 0) ⟨x0, by simpa using (mem_opens.1 hx0).1, (mem_opens.1 hx0).2⟩
  have hv := ends_lt hd (c := c) hx
  refine ⟨_, hv, x, ?_⟩
  have hnod : (opens o (verts b w n)[ends b w n c x]).Nodup := List.Pairwise.filter _ (verts_nod hd hv)
  have hmem : x ∈ opens o (verts b w n)[ends b w n c x] := mem_opens.2 ⟨(mem_verts hd hx hx).2 rfl, ho⟩
  have hall : ∀ y ∈ opens o (verts b w n)[ends b w n c x], y = x := fun y hy => by
    obtain ⟨h1, h2⟩ := mem_opens.1 hy
    have hyn := verts_lt hd hv h1
    exact hu y hyn h2 ((mem_verts hd hx hyn).1 h1)
  match opens o (verts b w n)[ends b w n c x], hnod, hmem, hall with
  | [a], _, hm, _ => rw [List.mem_singleton] at hm; rw [hm]
  | a :: a' :: l, hn, _, ha =>
    rw [ha a (by simp), ha a' (by simp)] at hn
    simp at hn
/-- All have a weight: they are good, or none are. -/
theorem Part.full {s o : List Int} (hp : Part b w n s o) (h0 : left o n = 0) (hs : ∀ v (hv : v < (verts b w n).length), vsum o (verts b w n)[v] = el s v) : Good b w n s o :=
  ⟨hp.len, fun x hx => by have := hp.nn x hx; have := left_zero h0 x hx; omega, hs⟩
theorem Part.bad (hd : Des n b w) {s o W : List Int} (hp : Part b w n s o) (h0 : left o n = 0) (hW : Good b w n s W) : o = W :=
  at_ext (by rw [hp.len, hW.len]) fun x hx => by
    rw [hp.len] at hx
    exact hp.good W hW x hx (left_zero h0 x hx)
/-- What both return. -/
def Res (b w : List Nat) (n : Nat) (s : List Int) : Option (List Int) → Prop
  | some o => Good b w n s o
  | none => ∀ W, ¬ Good b w n s W
theorem Res.uniq (hd : Des n b w) (ht : Tree n b w) {s : List Int} {r r' : Option (List Int)} (h : Res b w n s r) (h' : Res b w n s r') : r = r' := by
  cases r with
  | none =>
    cases r' with
    | none => rfl
    | some o => exact absurd h' (h o)
  | some o =>
    cases r' with
    | none => exact absurd h (h' o)
    | some o' => rw [Good.uniq hd ht h h']
end
end Go.Bm

/- Lists of numbers in descending order, made by counting. -/
set_option linter.unusedVariables false
set_option linter.unusedSimpArgs false
namespace Go.Bm
open Go Go.Am

/-- How many there are of each number, at the first i. -/
def cntT (zs : List Nat) : Nat → List Nat
  | 0 => List.replicate 17 0
  | i + 1 => (cntT zs i).set (nl zs i) (nl (cntT zs i) (nl zs i) + 1)
theorem cntT_len {zs : List Nat} {i : Nat} : (cntT zs i).length = 17 := by
  induction i with
  | zero => simp [cntT]
  | succ i ih => simp [cntT, ih]
theorem take_succ_nl' {zs : List Nat} {i : Nat} (h : i < zs.length) : zs.take (i + 1) = zs.take i ++ [nl zs i] := by
  rw [List.take_add_one]
  simp [nl, List.getD, h]
theorem cntT_nl {zs : List Nat} {i v : Nat} (hi : i ≤ zs.length) (hv : v < 17) : nl (cntT zs i) v = (zs.take i).count v := by
  induction i with
  | zero => simp only [cntT, nl_rep]; split <;> simp
  | succ i ih =>
    rw [take_succ_nl' (by omega), List.count_append, cntT, nl_set, ih (by omega)]
    by_cases h : v = nl zs i
    · subst h
      rw [if_pos ⟨rfl, by rw [cntT_len]; exact hv⟩, ih (by omega)]
      simp
    · rw [if_neg (fun e => h e.1)]
      have : ([nl zs i] : List Nat).count v = 0 := by
        rw [List.count_cons, List.count_nil]
        simp [show (nl zs i == v) = false by simpa using fun e => h e.symm]
      omega
/-- The numbers n, n - 1, .. as often as they come. -/
def typK (cn : List Nat) (n : Nat) : Nat → List Nat
  | 0 => []
  | k + 1 => typK cn n k ++ List.replicate (nl cn (n - k)) (n - k)
def typL (zs : List Nat) (n : Nat) : List Nat := typK (cntT zs zs.length) n n
theorem typK_count {cn : List Nat} {n v : Nat} : ∀ {k : Nat}, k ≤ n → (typK cn n k).count v = if n - k < v ∧ v ≤ n then nl cn v else 0
  | 0, _ => by
    rw [if_neg (by omega)]
    rfl
  | k + 1, hk => by
    rw [typK, List.count_append, typK_count (by omega), List.count_replicate]
    by_cases h : n - k = v
    · subst h
      rw [if_neg (by omega), if_pos (by simp), if_pos (by omega)]
      omega
    · have e : ((n - k) == v) = false := by simpa using h
      rw [e]
      simp only [Bool.false_eq_true, if_false, Nat.add_zero]
      by_cases h2 : n - k < v ∧ v ≤ n
      · rw [if_pos h2, if_pos (by omega)]
      · rw [if_neg h2, if_neg (by omega)]
theorem typK_ge {cn : List Nat} {n : Nat} : ∀ {k : Nat}, k ≤ n → ∀ z ∈ typK cn n k, n + 1 - k ≤ z
  | 0, _, z, hz => by simp [typK] at hz
  | k + 1, hk, z, hz => by
    simp only [typK, List.mem_append, List.mem_replicate] at hz
    rcases hz with hz | ⟨_, rfl⟩
    · have := typK_ge (k := k) (by omega) z hz
      omega
    · omega
theorem typK_dsc {cn : List Nat} {n : Nat} : ∀ {k : Nat}, k ≤ n → ∀ i j, i ≤ j → j < (typK cn n k).length → nl (typK cn n k) j ≤ nl (typK cn n k) i
  | 0, _, i, j, _, h => by simp [typK] at h
  | k + 1, hk, i, j, h1, h2 => by
    have ih := typK_dsc (cn := cn) (n := n) (k := k) (by omega)
    simp only [typK, List.length_append, List.length_replicate] at h2 ⊢
    simp only [nl_append]
    by_cases hj : j < (typK cn n k).length
    · rw [if_pos hj, if_pos (by omega)]
      exact ih i j h1 hj
    · rw [if_neg hj, nl_rep, if_pos (by omega)]
      by_cases hi : i < (typK cn n k).length
      · rw [if_pos hi]
        have : nl (typK cn n k) i ∈ typK cn n k := nl_mem hi
        have := typK_ge (by omega) _ this
        omega
      · rw [if_neg hi, nl_rep, if_pos (by omega)]
        exact Nat.le_refl _
theorem typL_dsc {zs : List Nat} {n : Nat} : Dsc (ofN (typL zs n)) := fun i j h1 h2 => by
  rw [ofN_len] at h2
  rw [el_ofN, el_ofN]
  exact Int.ofNat_le.2 (typK_dsc (Nat.le_refl _) i j h1 h2)
theorem typL_perm {zs : List Nat} {n : Nat} (hn : n ≤ 16) (h : ∀ z ∈ zs, 1 ≤ z ∧ z ≤ n) : (typL zs n).Perm zs := by
  rw [List.perm_iff_count]
  intro v
  rw [typL, typK_count (Nat.le_refl _), Nat.sub_self]
  by_cases hv : 0 < v ∧ v ≤ n
  · rw [if_pos hv, cntT_nl (Nat.le_refl _) (by omega), List.take_length]
  · rw [if_neg hv, List.count_eq_zero.2 fun hm => hv (by have := h v hm; omega)]
theorem typK_le {zs : List Nat} {n k : Nat} (hn : n ≤ 16) (hk : k ≤ n) (h : ∀ z ∈ zs, 1 ≤ z ∧ z ≤ n) : (typK (cntT zs zs.length) n k).length ≤ zs.length := by
  have hp := (typL_perm hn h).length_eq
  have : ∀ j, j ≤ n → (typK (cntT zs zs.length) n j).length ≤ (typK (cntT zs zs.length) n n).length := by
    intro j hj
    obtain ⟨d, rfl⟩ : ∃ d, n = j + d := ⟨n - j, by omega⟩
    have : ∀ m d, (typK (cntT zs zs.length) m j).length ≤ (typK (cntT zs zs.length) m (j + d)).length := by
      intro m d
      induction d with
      | zero => exact Nat.le_refl _
      | succ d ih =>
        rw [show j + (d + 1) = (j + d) + 1 by omega, typK, List.length_append]
        omega
    exact this _ d
  have := this k hk
  rw [typL] at hp
  omega
/-- The lengths of the cycles in descending order. -/
def lens (p : List Nat) (n : Nat) : List Nat := (cyc p n).map List.length
def typ (p : List Nat) (n : Nat) : List Nat := typL (lens p n) n
section
variable {p : List Nat} {n : Nat}
theorem lens_ok (hp : Perm p n) : ∀ z ∈ lens p n, 1 ≤ z ∧ z ≤ n := fun z hz => by
  obtain ⟨c, hc, rfl⟩ := List.mem_map.1 hz
  exact cyc_len hp hc
theorem lens_len (hp : Perm p n) : (lens p n).length ≤ 16 := by
  rw [lens, List.length_map]
  have := cyc_num hp
  have := hp.1
  omega
theorem typ_perm (hp : Perm p n) : (typ p n).Perm (lens p n) := typL_perm (by have := hp.1; omega) (lens_ok hp)
theorem typ_len (hp : Perm p n) : (typ p n).length = (cyc p n).length := by rw [(typ_perm hp).length_eq, lens, List.length_map]
end
end Go.Bm

/- Cycles in memory. -/
set_option linter.unusedVariables false
set_option linter.unusedSimpArgs false
namespace Go.Bm
open Go Go.Am

/-- A list of numbers that is only read. -/
abbrev FN (c : List Nat) : Value := Fz c.length 1 (c.map N64)
theorem NNL_FN {p : List (List Nat)} : NNL (p.map FN) := NNL.map fun _ => NN.fz
theorem NNL_64 {p : List Nat} : NNL (p.map N64) := NNL.map fun _ => NN.int
theorem app1_FN {H : BH} {b bytes cn : Nat} {xs : List (List Nat)} {y : List Nat} (h : (xs.length + 1) * bytes ≤ 140737488355328) : app1 (some [Fz y.length 1 (y.map N64)]) (some (xs.map FN)) H b xs.length bytes cn = some (S H.length 0 (xs.length + 1) 1, (H.set b none) ++ [some ((xs ++ [y]).map FN)]) := app1_g (g := FN) rfl h
theorem getN_FN {xs : List (List Nat)} {k : Nat} (h : k < xs.length) : getN none (xs.map FN) k = some (FN (xs.getD k [])) := by
  simp [getN, h, List.getD]
theorem frz_ne {i j o l e : Nat} {cs : List Value} (h : j ≠ i) : frz i cs (S j o l e) = S j o l e := by
  simp only [frz]
  rw [if_neg (fun k => h k.1)]
theorem RV : (type_of% @NNL_FN) ∧ (type_of% @NNL_64) := ⟨@NNL_FN, @NNL_64⟩
theorem cycles_run {p : List Nat} {n : Nat} (hb : By 16 p) (hp : Perm p n) :
    CallX false F_impl_cycles [PL p, I n] [] fun v H1 => ∃ j, v = S j 0 (cyc p n).length 1 ∧ blk H1 j = some ((cyc p n).map FN) := by
  have hlen := hb.len
  have hn := hp.1
  obtain ⟨M, hM⟩ : ∃ M, M = 16 := ⟨_, rfl⟩
  have hcyc : cyc p n = (cycK p M n).2 := by rw [hM]; rfl
  rw [hcyc]
  refine CallX_body Γ_impl_cycles ?_
  simp only [A_impl_cycles, T_aiff]
  refine T_rseq fun Kr hKr => ?_
  simp (disch := omega) only [RA, ↓reduceIte, Nat.reduceEqDiff, Nat.reduceBEq, Nat.reduceSub, Nat.reduceAdd, Nat.reduceMul, Nat.reduceLT, Nat.reduceLeDiff, Int.reduceLE, Int.reduceLT, Int.reduceEq, Int.reduceNeg, Int.reduceToNat, Int.reduceMul, Int.reduceAdd, Int.reduceSub, Int.reduceBEq, Int.reduceBNe, reduceCtorEq, RD]
  refine hKr _ _ ?_
  clear hKr Kr
  try simp only [RN, reduceIte]
  try refine T_e rfl ?_
  refine T_rseq fun Kr hKr => ?_
  simp (disch := omega) only [RA, ↓reduceIte, Nat.reduceEqDiff, Nat.reduceBEq, Nat.reduceSub, Nat.reduceAdd, Nat.reduceMul, Nat.reduceLT, Nat.reduceLeDiff, Int.reduceLE, Int.reduceLT, Int.reduceEq, Int.reduceNeg, Int.reduceToNat, Int.reduceMul, Int.reduceAdd, Int.reduceSub, Int.reduceBEq, Int.reduceBNe, reduceCtorEq, RD]
  refine hKr _ _ ?_
  clear hKr Kr
  try simp only [RN, reduceIte]
  try refine T_e rfl ?_
  refine T_rseq fun Kr hKr => ?_
  simp (disch := omega) only [RA, ↓reduceIte, Nat.reduceEqDiff, Nat.reduceBEq, Nat.reduceSub, Nat.reduceAdd, Nat.reduceMul, Nat.reduceLT, Nat.reduceLeDiff, Int.reduceLE, Int.reduceLT, Int.reduceEq, Int.reduceNeg, Int.reduceToNat, Int.reduceMul, Int.reduceAdd, Int.reduceSub, Int.reduceBEq, Int.reduceBNe, reduceCtorEq, RD]
  refine hKr _ _ ?_
  clear hKr Kr
  try simp only [RN, reduceIte]
  try refine T_e rfl ?_
  refine T_rseq fun Kr hKr => ?_
  simp (disch := omega) only [RA, ↓reduceIte, Nat.reduceEqDiff, Nat.reduceBEq, Nat.reduceSub, Nat.reduceAdd, Nat.reduceMul, Nat.reduceLT, Nat.reduceLeDiff, Int.reduceLE, Int.reduceLT, Int.reduceEq, Int.reduceNeg, Int.reduceToNat, Int.reduceMul, Int.reduceAdd, Int.reduceSub, Int.reduceBEq, Int.reduceBNe, reduceCtorEq, RD]
  refine hKr _ _ ?_
  clear hKr Kr
  try simp only [RN, reduceIte]
  try refine T_e rfl ?_
  refine T_wloop (fun m f H' => ∃ i sc, i ≤ n ∧ m = n - i ∧ sc = cycK p M i ∧ f 2 = P 0 0 ∧ f 5 = S 1 0 sc.2.length 1 ∧ f 6 = P 2 0 ∧ f 12 = I n ∧ f 13 = I i ∧ H' = [some (p.map N8), some (sc.2.map FN), some (sc.1.map B)]) (n) ?_ ?_
  · refine ⟨_, _, Gh.refl, 0, (List.replicate 16 false, []), by omega, by omega, rfl, ?_, ?_, ?_, ?_, ?_, by simp⟩
    any_goals (simp (disch := omega) only [RA, ↓reduceIte, Nat.reduceEqDiff, RD, RE, *] <;> rfl)
  · rintro m f H' R ⟨i, sc, hi, rfl, hsc, g2, g5, g6, g12, g13, rfl⟩ hN hX hR hE
    simp only [A_impl_cycles.l1, T_aiff]
    have hok := CycOk.all hM hp hi
    rw [← hsc] at hok
    have hsl := hok.len
    have hnum := hok.num
    refine T_rseq fun Kr hKr => ?_
    simp (disch := omega) only [RA, ↓reduceIte, Nat.reduceEqDiff, RD, g12, g13]
    refine hKr _ _ ?_
    clear hKr Kr
    try simp only [RN, reduceIte]
    try refine T_e rfl ?_
    refine T_csplit (p := i < n) (by simp only [RA, ↓reduceIte, Nat.reduceEqDiff] <;> rfl) (by (try simp only [RB]) <;> first | done | exact Iff.rfl | omega | simp) (fun hc => ?_) (fun hc => ?_) <;> (try simp only [RN, reduceIte]) <;> (try refine T_e rfl ?_)
    · have hnext : ∀ f' sc', f' 2 = P 0 0 → f' 5 = S 1 0 sc'.2.length 1 → f' 6 = P 2 0 → f' 12 = I n → f' 13 = I i → sc' = cycK p M (i + 1) → T 0 A_impl_cycles.r14 R f' [some (p.map N8), some (sc'.2.map FN), some (sc'.1.map B)] := by
        intro f' sc' g2 g5 g6 g12 g13 hs
        refine T_reg_k fun Kr hKr => ?_
        simp (disch := omega) only [RA, ↓reduceIte, Nat.reduceEqDiff, RD, g13]
        refine hKr _ _ ?_
        clear hKr Kr
        refine hN (n - (i + 1)) _ _ _ _ (by omega) Gh.refl ⟨i + 1, sc', by omega, rfl, hs, ?_, ?_, ?_, ?_, ?_, rfl⟩
        any_goals (simp (disch := omega) only [RA, ↓reduceIte, Nat.reduceEqDiff, RD, RE, *] <;> rfl)
      refine T_seq (T_block ?_)
      try simp only [RN, reduceIte]
      try refine T_e rfl ?_
      refine T_rseq fun Kr hKr => ?_
      simp (disch := omega) only [RA, ↓reduceIte, Nat.reduceEqDiff, RD, g13]
      refine hKr _ _ ?_
      clear hKr Kr
      try simp only [RN, reduceIte]
      try refine T_e rfl ?_
      refine T_rseq fun Kr hKr => ?_
      simp (disch := omega) only [RA, ↓reduceIte, Nat.reduceEqDiff, RD, g6, hsl]
      refine hKr _ _ ?_
      clear hKr Kr
      try simp only [RN, reduceIte]
      try refine T_e rfl ?_
      refine T_csplit (p := bl sc.1 i = true) (by simp only [RA, ↓reduceIte, Nat.reduceEqDiff] <;> rfl) (by (try simp only [RB]) <;> first | done | exact Iff.rfl | omega | simp) (fun hc => ?_) (fun hc => ?_) <;> (try simp only [RN, reduceIte]) <;> (try refine T_e rfl ?_)
      · simp only [blkQ, thenQ, loopQ, if_true]
        refine hnext _ sc ?_ ?_ ?_ ?_ ?_ (by rw [cycK, ← hsc, if_pos hc])
        any_goals (simp (disch := omega) only [RA, ↓reduceIte, Nat.reduceEqDiff, RD, RE, *] <;> rfl)
      · have h0 : bl sc.1 i = false := by simpa using hc
        have hin : i < n := by assumption
        have hdone := WkOk.done hM hp hsl hin h0 hok.inv
        refine T_rseq fun Kr hKr => ?_
        simp (disch := omega) only [RA, ↓reduceIte, Nat.reduceEqDiff, Nat.reduceBEq, Nat.reduceSub, Nat.reduceAdd, Nat.reduceMul, Nat.reduceLT, Nat.reduceLeDiff, Int.reduceLE, Int.reduceLT, Int.reduceEq, Int.reduceNeg, Int.reduceToNat, Int.reduceMul, Int.reduceAdd, Int.reduceSub, Int.reduceBEq, Int.reduceBNe, reduceCtorEq, RD]
        refine hKr _ _ ?_
        clear hKr Kr
        try simp only [RN, reduceIte]
        try refine T_e rfl ?_
        refine T_rseq fun Kr hKr => ?_
        simp (disch := omega) only [RA, ↓reduceIte, Nat.reduceEqDiff, Nat.reduceBEq, Nat.reduceSub, Nat.reduceAdd, Nat.reduceMul, Nat.reduceLT, Nat.reduceLeDiff, Int.reduceLE, Int.reduceLT, Int.reduceEq, Int.reduceNeg, Int.reduceToNat, Int.reduceMul, Int.reduceAdd, Int.reduceSub, Int.reduceBEq, Int.reduceBNe, reduceCtorEq, RD]
        refine hKr _ _ ?_
        clear hKr Kr
        try simp only [RN, reduceIte]
        try refine T_e rfl ?_
        refine T_wloop (fun m f H' => ∃ j st, j ≤ M ∧ m = M - j ∧ st = wk p (sc.1, [], i) j ∧ f 2 = P 0 0 ∧ f 5 = S 1 0 sc.2.length 1 ∧ f 6 = P 2 0 ∧ f 12 = I n ∧ f 13 = I i ∧ f 8 = S 3 0 st.2.1.length 1 ∧ f 9 = I st.2.2 ∧ H' = [some (p.map N8), some (sc.2.map FN), some (st.1.map B), some (st.2.1.map N64)]) (M) ?_ ?_
        · refine ⟨_, _, Gh.refl, 0, (sc.1, [], i), by omega, by omega, rfl, ?_, ?_, ?_, ?_, ?_, ?_, ?_, by simp⟩
          any_goals (simp (disch := omega) only [RA, ↓reduceIte, Nat.reduceEqDiff, RD, RE, *] <;> rfl)
        · clear g2 g5 g6 g12 g13
          rintro m f H' R1 ⟨j, st, hj, rfl, hst, g2, g5, g6, g12, g13, g8, g9, rfl⟩ hN1 hX1 hR1 hE1
          simp only [A_impl_cycles.l0, T_aiff]
          have hw := WkOk.wk hp hsl hin h0 hok.inv j
          have hstep : wk p (sc.1, [], i) (j + 1) = wstep p st := by rw [hst]; rfl
          have hstop : bl st.1 st.2.2 = true → wk p (sc.1, [], i) M = st := fun h => by
            rw [hst] at h ⊢
            exact wk_stop h M hj
          have hdj : j = M → bl st.1 st.2.2 = true := fun h => by
            rw [hst, h]
            exact hdone
          rw [← hst] at hw
          clear hst hdone
          obtain ⟨s, l, k⟩ := st
          simp only at g8 g9 hstop hdj hstep ⊢
          have hwl : s.length = 16 := hw.len
          have hwk : k < n := hw.at_
          have hpk := hp.lt hwk
          have hll : l.length ≤ 16 := by
            have h1 := hw.cnt
            have h2 := List.count_le_length (a := true) (l := s)
            simp only at h1
            omega
          refine T_rseq fun Kr hKr => ?_
          simp (disch := omega) only [RA, ↓reduceIte, Nat.reduceEqDiff, Nat.reduceBEq, Nat.reduceSub, Nat.reduceAdd, Nat.reduceMul, Nat.reduceLT, Nat.reduceLeDiff, Int.reduceLE, Int.reduceLT, Int.reduceEq, Int.reduceNeg, Int.reduceToNat, Int.reduceMul, Int.reduceAdd, Int.reduceSub, Int.reduceBEq, Int.reduceBNe, reduceCtorEq, RD, g6, g9, hwl]
          refine hKr _ _ ?_
          clear hKr Kr
          try simp only [RN, reduceIte]
          try refine T_e rfl ?_
          refine T_csplit (p := ¬ bl s k = true) (by simp only [RA, ↓reduceIte, Nat.reduceEqDiff, Nat.reduceBEq, Nat.reduceSub, Nat.reduceAdd, Nat.reduceMul, Nat.reduceLT, Nat.reduceLeDiff, Int.reduceLE, Int.reduceLT, Int.reduceEq, Int.reduceNeg, Int.reduceToNat, Int.reduceMul, Int.reduceAdd, Int.reduceSub, Int.reduceBEq, Int.reduceBNe, reduceCtorEq] <;> rfl) (by (try simp only [RB]) <;> first | done | exact Iff.rfl | omega | simp) (fun hc => ?_) (fun hc => ?_) <;> (try simp only [RN, reduceIte]) <;> (try refine T_e rfl ?_)
          · rw [wstep, if_neg hc] at hstep
            have hjM : j < M := by
              rcases Nat.lt_or_ge j M with h | h
              · exact h
              · exact absurd (hdj (by omega)) hc
            first | refine T_bfree rfl ?_ | refine T_bfree' rfl ?_
            try simp only [RN, reduceIte]
            try refine T_e rfl ?_
            refine T_rseq fun Kr hKr => ?_
            simp (disch := omega) only [RA, ↓reduceIte, Nat.reduceEqDiff, Nat.reduceBEq, Nat.reduceSub, Nat.reduceAdd, Nat.reduceMul, Nat.reduceLT, Nat.reduceLeDiff, Int.reduceLE, Int.reduceLT, Int.reduceEq, Int.reduceNeg, Int.reduceToNat, Int.reduceMul, Int.reduceAdd, Int.reduceSub, Int.reduceBEq, Int.reduceBNe, reduceCtorEq, RD, g6, g9, hwl]
            refine hKr _ _ ?_
            clear hKr Kr
            try simp only [RN, reduceIte]
            try refine T_e rfl ?_
            refine T_rseq fun Kr hKr => ?_
            simp (disch := omega) only [RA, ↓reduceIte, Nat.reduceEqDiff, Nat.reduceBEq, Nat.reduceSub, Nat.reduceAdd, Nat.reduceMul, Nat.reduceLT, Nat.reduceLeDiff, Int.reduceLE, Int.reduceLT, Int.reduceEq, Int.reduceNeg, Int.reduceToNat, Int.reduceMul, Int.reduceAdd, Int.reduceSub, Int.reduceBEq, Int.reduceBNe, reduceCtorEq, RD, g8, g9, app1_64]
            refine hKr _ _ ?_
            clear hKr Kr
            try simp only [RN, reduceIte]
            try refine T_e rfl ?_
            refine T_reg_k fun Kr hKr => ?_
            simp (disch := omega) only [RA, ↓reduceIte, Nat.reduceEqDiff, Nat.reduceBEq, Nat.reduceSub, Nat.reduceAdd, Nat.reduceMul, Nat.reduceLT, Nat.reduceLeDiff, Int.reduceLE, Int.reduceLT, Int.reduceEq, Int.reduceNeg, Int.reduceToNat, Int.reduceMul, Int.reduceAdd, Int.reduceSub, Int.reduceBEq, Int.reduceBNe, reduceCtorEq, RD, g2, g9]
            refine hKr _ _ ?_
            clear hKr Kr
            refine hN1 (M - (j + 1)) _ _ _ _ (by omega) (Gh.nrm [0, 1, 2, 5] rfl rfl (by simp only [RH, RV])) ⟨j + 1, (s.set k true, l ++ [k], nl p k), by omega, rfl, hstep.symm, ?_, ?_, ?_, ?_, ?_, ?_, ?_, rfl⟩
            any_goals (simp (disch := omega) only [RA, ↓reduceIte, Nat.reduceEqDiff, Nat.reduceBEq, Nat.reduceSub, Nat.reduceAdd, Nat.reduceMul, Nat.reduceLT, Nat.reduceLeDiff, Int.reduceLE, Int.reduceLT, Int.reduceEq, Int.reduceNeg, Int.reduceToNat, Int.reduceMul, Int.reduceAdd, Int.reduceSub, Int.reduceBEq, Int.reduceBNe, reduceCtorEq, RD, RE, *] <;> rfl)
          · refine hX1 _ _ ?_
            have hc' : bl s k = true := by simpa using hc
            have hfin := hstop hc'
            have hfl : l.length * 1 = (l.map N64).length := by simp
            have hfz : ∀ f2 : Fr, f2 2 = P 0 0 → f2 5 = S 1 0 sc.2.length 1 → f2 6 = P 2 0 → f2 8 = Fz l.length 1 (l.map N64) → f2 12 = I n → f2 13 = I i → T 0 A_impl_cycles.r13 (blkQ 1 (thenQ 0 A_impl_cycles.r14 R)) f2 [some (p.map N8), some (sc.2.map FN), some (s.map B), none] := by
              clear g2 g5 g6 g12 g13 g8 g9
              intro f2 g2 g5 g6 g8 g12 g13
              refine T_reg_k fun Kr hKr => ?_
              simp (disch := omega) only [RA, ↓reduceIte, Nat.reduceEqDiff, Nat.reduceBEq, Nat.reduceSub, Nat.reduceAdd, Nat.reduceMul, Nat.reduceLT, Nat.reduceLeDiff, Int.reduceLE, Int.reduceLT, Int.reduceEq, Int.reduceNeg, Int.reduceToNat, Int.reduceMul, Int.reduceAdd, Int.reduceSub, Int.reduceBEq, Int.reduceBNe, reduceCtorEq, RD, g5, g8, app1_FN]
              refine hKr _ _ ?_
              clear hKr Kr
              simp only [blkQ, thenQ, loopQ, if_true]
              refine T_gh (Gh.nrm [0, 5, 2] rfl rfl (by simp only [RH, RV])) ?_
              refine hnext _ (s, sc.2 ++ [l]) ?_ ?_ ?_ ?_ ?_ ?_
              any_goals (simp (disch := omega) only [RA, ↓reduceIte, Nat.reduceEqDiff, RD, RE, *] <;> rfl)
              rw [cycK, ← hsc, if_neg (by simp [h0]), hfin]
            exact T_gh (Gh.fz (i := 3) (cs := l.map N64) rfl NNL_64) (hfz _ (by simp (disch := omega) only [RA, ↓reduceIte, Nat.reduceEqDiff, RD, RE, RZ, frz_ne, frz_all, *] <;> rfl) (by simp (disch := omega) only [RA, ↓reduceIte, Nat.reduceEqDiff, RD, RE, RZ, frz_ne, frz_all, *] <;> rfl) (by simp (disch := omega) only [RA, ↓reduceIte, Nat.reduceEqDiff, RD, RE, RZ, frz_ne, frz_all, *] <;> rfl) (by simp (disch := omega) only [RA, ↓reduceIte, Nat.reduceEqDiff, RD, RE, RZ, frz_ne, frz_all, *] <;> rfl) (by simp (disch := omega) only [RA, ↓reduceIte, Nat.reduceEqDiff, RD, RE, RZ, frz_ne, frz_all, *] <;> rfl) (by simp (disch := omega) only [RA, ↓reduceIte, Nat.reduceEqDiff, RD, RE, RZ, frz_ne, frz_all, *] <;> rfl))
    · refine hX _ _ ?_
      obtain rfl : i = n := by omega
      refine T_rseq fun Kr hKr => ?_
      simp (disch := omega) only [RA, ↓reduceIte, Nat.reduceEqDiff, RD, g5]
      refine hKr _ _ ?_
      clear hKr Kr
      try simp only [RN, reduceIte]
      try refine T_e rfl ?_
      refine bodyQ_ret (by simp (disch := omega) only [RA, ↓reduceIte, Nat.reduceEqDiff, RD, resAll, resOf, g5]; rfl) GhV.refl ?_
      simp only [tup]
      rw [hsc]
      exact ⟨1, rfl, rfl⟩
theorem cycles_spec {x : Bool} {p : List Nat} {n : Nat} {H : BH} {K : Value → BH → Prop} (hb : By 16 p) (hp : Perm p n) (hK : K (Fz (cyc p n).length 1 ((cyc p n).map FN)) H) : CallX x F_impl_cycles [PL p, I n] H K :=
  callRZ (by (simp only [RH])) NNL_FN (by simp) (cycles_run hb hp) hK
theorem l01Cycles_run {p : List Nat} {n : Nat} (hb : By 16 p) (hp : Perm p n) :
    CallX false F_spec_l01Cycles [PL p, I n] [] fun v H1 => ∃ j, v = S j 0 (cyc p n).length 1 ∧ blk H1 j = some ((cyc p n).map FN) := by
  have hlen := hb.len
  have hn := hp.1
  obtain ⟨M, hM⟩ : ∃ M, M = 16 := ⟨_, rfl⟩
  have hcyc : cyc p n = (cycK p M n).2 := by rw [hM]; rfl
  rw [hcyc]
  refine CallX_body Γ_spec_l01Cycles ?_
  simp only [A_spec_l01Cycles, T_aiff]
  refine T_rseq fun Kr hKr => ?_
  simp (disch := omega) only [RA, ↓reduceIte, Nat.reduceEqDiff, Nat.reduceBEq, Nat.reduceSub, Nat.reduceAdd, Nat.reduceMul, Nat.reduceLT, Nat.reduceLeDiff, Int.reduceLE, Int.reduceLT, Int.reduceEq, Int.reduceNeg, Int.reduceToNat, Int.reduceMul, Int.reduceAdd, Int.reduceSub, Int.reduceBEq, Int.reduceBNe, reduceCtorEq, RD]
  refine hKr _ _ ?_
  clear hKr Kr
  try simp only [RN, reduceIte]
  try refine T_e rfl ?_
  refine T_rseq fun Kr hKr => ?_
  simp (disch := omega) only [RA, ↓reduceIte, Nat.reduceEqDiff, Nat.reduceBEq, Nat.reduceSub, Nat.reduceAdd, Nat.reduceMul, Nat.reduceLT, Nat.reduceLeDiff, Int.reduceLE, Int.reduceLT, Int.reduceEq, Int.reduceNeg, Int.reduceToNat, Int.reduceMul, Int.reduceAdd, Int.reduceSub, Int.reduceBEq, Int.reduceBNe, reduceCtorEq, RD]
  refine hKr _ _ ?_
  clear hKr Kr
  try simp only [RN, reduceIte]
  try refine T_e rfl ?_
  refine T_rseq fun Kr hKr => ?_
  simp (disch := omega) only [RA, ↓reduceIte, Nat.reduceEqDiff, Nat.reduceBEq, Nat.reduceSub, Nat.reduceAdd, Nat.reduceMul, Nat.reduceLT, Nat.reduceLeDiff, Int.reduceLE, Int.reduceLT, Int.reduceEq, Int.reduceNeg, Int.reduceToNat, Int.reduceMul, Int.reduceAdd, Int.reduceSub, Int.reduceBEq, Int.reduceBNe, reduceCtorEq, RD]
  refine hKr _ _ ?_
  clear hKr Kr
  try simp only [RN, reduceIte]
  try refine T_e rfl ?_
  refine T_wloop (fun m f H' => ∃ i sc, i ≤ n ∧ m = n - i ∧ sc = cycK p M i ∧ f 1 = I n ∧ f 2 = P 0 0 ∧ f 5 = S 1 0 sc.2.length 1 ∧ f 6 = P 2 0 ∧ f 7 = I i ∧ H' = [some (p.map N8), some (sc.2.map FN), some (sc.1.map B)]) (n) ?_ ?_
  · refine ⟨_, _, Gh.refl, 0, (List.replicate 16 false, []), by omega, by omega, rfl, ?_, ?_, ?_, ?_, ?_, by simp⟩
    any_goals (simp (disch := omega) only [RA, ↓reduceIte, Nat.reduceEqDiff, RD, RE, *] <;> rfl)
  · rintro m f H' R ⟨i, sc, hi, rfl, hsc, g1, g2, g5, g6, g7, rfl⟩ hN hX hR hE
    simp only [A_spec_l01Cycles.l1, T_aiff]
    have hok := CycOk.all hM hp hi
    rw [← hsc] at hok
    have hsl := hok.len
    have hnum := hok.num
    refine T_rseq fun Kr hKr => ?_
    simp (disch := omega) only [RA, ↓reduceIte, Nat.reduceEqDiff, RD, g1, g7]
    refine hKr _ _ ?_
    clear hKr Kr
    try simp only [RN, reduceIte]
    try refine T_e rfl ?_
    refine T_csplit (p := i < n) (by simp only [RA, ↓reduceIte, Nat.reduceEqDiff] <;> rfl) (by (try simp only [RB]) <;> first | done | exact Iff.rfl | omega | simp) (fun hc => ?_) (fun hc => ?_) <;> (try simp only [RN, reduceIte]) <;> (try refine T_e rfl ?_)
    · have hnext : ∀ f' sc', f' 1 = I n → f' 2 = P 0 0 → f' 5 = S 1 0 sc'.2.length 1 → f' 6 = P 2 0 → f' 7 = I i → sc' = cycK p M (i + 1) → T 0 A_spec_l01Cycles.r4 R f' [some (p.map N8), some (sc'.2.map FN), some (sc'.1.map B)] := by
        intro f' sc' g1 g2 g5 g6 g7 hs
        refine T_reg_k fun Kr hKr => ?_
        simp (disch := omega) only [RA, ↓reduceIte, Nat.reduceEqDiff, RD, g7]
        refine hKr _ _ ?_
        clear hKr Kr
        refine hN (n - (i + 1)) _ _ _ _ (by omega) Gh.refl ⟨i + 1, sc', by omega, rfl, hs, ?_, ?_, ?_, ?_, ?_, rfl⟩
        any_goals (simp (disch := omega) only [RA, ↓reduceIte, Nat.reduceEqDiff, RD, RE, *] <;> rfl)
      have hin : i < n := by assumption
      first | refine T_bfree rfl ?_ | refine T_bfree' rfl ?_
      try simp only [RN, reduceIte]
      try refine T_e rfl ?_
      refine T_rseq fun Kr hKr => ?_
      simp (disch := omega) only [RA, ↓reduceIte, Nat.reduceEqDiff, Nat.reduceBEq, Nat.reduceSub, Nat.reduceAdd, Nat.reduceMul, Nat.reduceLT, Nat.reduceLeDiff, Int.reduceLE, Int.reduceLT, Int.reduceEq, Int.reduceNeg, Int.reduceToNat, Int.reduceMul, Int.reduceAdd, Int.reduceSub, Int.reduceBEq, Int.reduceBNe, reduceCtorEq, RD]
      refine hKr _ _ ?_
      clear hKr Kr
      try simp only [RN, reduceIte]
      try refine T_e rfl ?_
      refine T_rseq fun Kr hKr => ?_
      simp (disch := omega) only [RA, ↓reduceIte, Nat.reduceEqDiff, RD, g7]
      refine hKr _ _ ?_
      clear hKr Kr
      try simp only [RN, reduceIte]
      try refine T_e rfl ?_
      by_cases hm : bl sc.1 i = true
      · refine T_wloop (fun m f H' => m = 0 ∧ f 1 = I n ∧ f 2 = P 0 0 ∧ f 5 = S 1 0 sc.2.length 1 ∧ f 6 = P 2 0 ∧ f 7 = I i ∧ f 8 = S 3 0 0 1 ∧ f 9 = I i ∧ H' = [some (p.map N8), some (sc.2.map FN), some (sc.1.map B), some []]) (0) ?_ ?_
        · refine ⟨_, _, Gh.refl, rfl, ?_, ?_, ?_, ?_, ?_, ?_, ?_, by simp⟩
          any_goals (simp (disch := omega) only [RA, ↓reduceIte, Nat.reduceEqDiff, RD, RE, *] <;> rfl)
        · clear g1 g2 g5 g6 g7
          rintro m f H' R1 ⟨rfl, g1, g2, g5, g6, g7, g8, g9, rfl⟩ hN1 hX1 hR1 hE1
          simp only [A_spec_l01Cycles.l0, T_aiff]
          refine T_rseq fun Kr hKr => ?_
          simp (disch := omega) only [RA, ↓reduceIte, Nat.reduceEqDiff, RD, g6, g9, hsl]
          refine hKr _ _ ?_
          clear hKr Kr
          try simp only [RN, reduceIte]
          try refine T_e rfl ?_
          refine T_cseq (t := false) (by simp (disch := omega) only [RA, ↓reduceIte, Nat.reduceEqDiff, RD, hm]) ?_
          try simp only [RN, reduceIte]
          try refine T_e rfl ?_
          refine hX1 _ _ ?_
          try simp only [RN, reduceIte]
          try refine T_e rfl ?_
          refine T_rseq fun Kr hKr => ?_
          simp (disch := omega) only [RA, ↓reduceIte, Nat.reduceEqDiff, Nat.reduceBEq, Nat.reduceSub, Nat.reduceAdd, Nat.reduceMul, Nat.reduceLT, Nat.reduceLeDiff, Int.reduceLE, Int.reduceLT, Int.reduceEq, Int.reduceNeg, Int.reduceToNat, Int.reduceMul, Int.reduceAdd, Int.reduceSub, Int.reduceBEq, Int.reduceBNe, reduceCtorEq, RD, g8]
          refine hKr _ _ ?_
          clear hKr Kr
          try simp only [RN, reduceIte]
          try refine T_e rfl ?_
          refine T_cseq (t := false) (by simp (disch := omega) only [RA, ↓reduceIte, Nat.reduceEqDiff, RD]) ?_
          try simp only [RN, reduceIte]
          try refine T_e rfl ?_
          refine T_gh (Gh.nrm [0, 1, 2] rfl rfl (by simp only [RH, RV])) ?_
          refine hnext _ sc ?_ ?_ ?_ ?_ ?_ (by rw [cycK, ← hsc, if_pos hm])
          any_goals (simp (disch := omega) only [RA, ↓reduceIte, Nat.reduceEqDiff, RD, RE, *] <;> rfl)
      · have h0 : bl sc.1 i = false := by simpa using hm
        have hdone := WkOk.done hM hp hsl hin h0 hok.inv
        have hcyc1 := (WkOk.cyc hM hp hsl hin h0 hok.inv hok.upto).1.ne
        refine T_wloop (fun m f H' => ∃ j st, j ≤ M ∧ m = M - j ∧ st = wk p (sc.1, [], i) j ∧ f 1 = I n ∧ f 2 = P 0 0 ∧ f 5 = S 1 0 sc.2.length 1 ∧ f 6 = P 2 0 ∧ f 7 = I i ∧ f 8 = S 3 0 st.2.1.length 1 ∧ f 9 = I st.2.2 ∧ H' = [some (p.map N8), some (sc.2.map FN), some (st.1.map B), some (st.2.1.map N64)]) (M) ?_ ?_
        · refine ⟨_, _, Gh.refl, 0, (sc.1, [], i), by omega, by omega, rfl, ?_, ?_, ?_, ?_, ?_, ?_, ?_, by simp⟩
          any_goals (simp (disch := omega) only [RA, ↓reduceIte, Nat.reduceEqDiff, RD, RE, *] <;> rfl)
        · clear g1 g2 g5 g6 g7
          rintro m f H' R1 ⟨j, st, hj, rfl, hst, g1, g2, g5, g6, g7, g8, g9, rfl⟩ hN1 hX1 hR1 hE1
          simp only [A_spec_l01Cycles.l0, T_aiff]
          have hw := WkOk.wk hp hsl hin h0 hok.inv j
          have hstep : wk p (sc.1, [], i) (j + 1) = wstep p st := by rw [hst]; rfl
          have hstop : bl st.1 st.2.2 = true → wk p (sc.1, [], i) M = st := fun h => by
            rw [hst] at h ⊢
            exact wk_stop h M hj
          have hdj : j = M → bl st.1 st.2.2 = true := fun h => by
            rw [hst, h]
            exact hdone
          rw [← hst] at hw
          clear hst hdone
          obtain ⟨s, l, k⟩ := st
          simp only at g8 g9 hstop hdj hstep ⊢
          have hwl : s.length = 16 := hw.len
          have hwk : k < n := hw.at_
          have hpk := hp.lt hwk
          have hll : l.length ≤ 16 := by
            have h1 := hw.cnt
            have h2 := List.count_le_length (a := true) (l := s)
            simp only at h1
            omega
          refine T_rseq fun Kr hKr => ?_
          simp (disch := omega) only [RA, ↓reduceIte, Nat.reduceEqDiff, Nat.reduceBEq, Nat.reduceSub, Nat.reduceAdd, Nat.reduceMul, Nat.reduceLT, Nat.reduceLeDiff, Int.reduceLE, Int.reduceLT, Int.reduceEq, Int.reduceNeg, Int.reduceToNat, Int.reduceMul, Int.reduceAdd, Int.reduceSub, Int.reduceBEq, Int.reduceBNe, reduceCtorEq, RD, g6, g9, hwl]
          refine hKr _ _ ?_
          clear hKr Kr
          try simp only [RN, reduceIte]
          try refine T_e rfl ?_
          refine T_csplit (p := ¬ bl s k = true) (by simp only [RA, ↓reduceIte, Nat.reduceEqDiff, Nat.reduceBEq, Nat.reduceSub, Nat.reduceAdd, Nat.reduceMul, Nat.reduceLT, Nat.reduceLeDiff, Int.reduceLE, Int.reduceLT, Int.reduceEq, Int.reduceNeg, Int.reduceToNat, Int.reduceMul, Int.reduceAdd, Int.reduceSub, Int.reduceBEq, Int.reduceBNe, reduceCtorEq] <;> rfl) (by (try simp only [RB]) <;> first | done | exact Iff.rfl | omega | simp) (fun hc => ?_) (fun hc => ?_) <;> (try simp only [RN, reduceIte]) <;> (try refine T_e rfl ?_)
          · rw [wstep, if_neg hc] at hstep
            have hjM : j < M := by
              rcases Nat.lt_or_ge j M with h | h
              · exact h
              · exact absurd (hdj (by omega)) hc
            first | refine T_bfree rfl ?_ | refine T_bfree' rfl ?_
            try simp only [RN, reduceIte]
            try refine T_e rfl ?_
            refine T_rseq fun Kr hKr => ?_
            simp (disch := omega) only [RA, ↓reduceIte, Nat.reduceEqDiff, Nat.reduceBEq, Nat.reduceSub, Nat.reduceAdd, Nat.reduceMul, Nat.reduceLT, Nat.reduceLeDiff, Int.reduceLE, Int.reduceLT, Int.reduceEq, Int.reduceNeg, Int.reduceToNat, Int.reduceMul, Int.reduceAdd, Int.reduceSub, Int.reduceBEq, Int.reduceBNe, reduceCtorEq, RD, g6, g9, hwl]
            refine hKr _ _ ?_
            clear hKr Kr
            try simp only [RN, reduceIte]
            try refine T_e rfl ?_
            refine T_rseq fun Kr hKr => ?_
            simp (disch := omega) only [RA, ↓reduceIte, Nat.reduceEqDiff, Nat.reduceBEq, Nat.reduceSub, Nat.reduceAdd, Nat.reduceMul, Nat.reduceLT, Nat.reduceLeDiff, Int.reduceLE, Int.reduceLT, Int.reduceEq, Int.reduceNeg, Int.reduceToNat, Int.reduceMul, Int.reduceAdd, Int.reduceSub, Int.reduceBEq, Int.reduceBNe, reduceCtorEq, RD, g8, g9, app1_64]
            refine hKr _ _ ?_
            clear hKr Kr
            try simp only [RN, reduceIte]
            try refine T_e rfl ?_
            refine T_reg_k fun Kr hKr => ?_
            simp (disch := omega) only [RA, ↓reduceIte, Nat.reduceEqDiff, RD, g2, g9]
            refine hKr _ _ ?_
            clear hKr Kr
            refine hN1 (M - (j + 1)) _ _ _ _ (by omega) (Gh.nrm [0, 1, 2, 5] rfl rfl (by simp only [RH, RV])) ⟨j + 1, (s.set k true, l ++ [k], nl p k), by omega, rfl, hstep.symm, ?_, ?_, ?_, ?_, ?_, ?_, ?_, rfl⟩
            any_goals (simp (disch := omega) only [RA, ↓reduceIte, Nat.reduceEqDiff, Nat.reduceAdd, Nat.reduceMul, Int.reduceToNat, Nat.reduceLT, reduceCtorEq, RD, RE, *] <;> rfl)
          · refine hX1 _ _ ?_
            have hc' : bl s k = true := by simpa using hc
            have hfin := hstop hc'
            rw [hfin] at hcyc1
            have hfl : l.length * 1 = (l.map N64).length := by simp
            have hl0 : 0 < l.length := hcyc1
            try simp only [RN, reduceIte]
            try refine T_e rfl ?_
            refine T_rseq fun Kr hKr => ?_
            simp (disch := omega) only [RA, ↓reduceIte, Nat.reduceEqDiff, Nat.reduceBEq, Nat.reduceSub, Nat.reduceAdd, Nat.reduceMul, Nat.reduceLT, Nat.reduceLeDiff, Int.reduceLE, Int.reduceLT, Int.reduceEq, Int.reduceNeg, Int.reduceToNat, Int.reduceMul, Int.reduceAdd, Int.reduceSub, Int.reduceBEq, Int.reduceBNe, reduceCtorEq, RD, g8]
            refine hKr _ _ ?_
            clear hKr Kr
            try simp only [RN, reduceIte]
            try refine T_e rfl ?_
            refine T_cseq (t := true) (by simp (disch := omega) only [RA, ↓reduceIte, Nat.reduceEqDiff, Nat.reduceBEq, Nat.reduceSub, Nat.reduceAdd, Nat.reduceMul, Nat.reduceLT, Nat.reduceLeDiff, Int.reduceLE, Int.reduceLT, Int.reduceEq, Int.reduceNeg, Int.reduceToNat, Int.reduceMul, Int.reduceAdd, Int.reduceSub, Int.reduceBEq, Int.reduceBNe, reduceCtorEq, RD]) ?_
            try simp only [RN, reduceIte]
            try refine T_e rfl ?_
            have hfz : ∀ f2 : Fr, f2 1 = I n → f2 2 = P 0 0 → f2 5 = S 1 0 sc.2.length 1 → f2 6 = P 2 0 → f2 7 = I i → f2 8 = Fz l.length 1 (l.map N64) → T 0 (.seq A_spec_l01Cycles.r12 A_spec_l01Cycles.r4) R f2 [some (p.map N8), some (sc.2.map FN), some (s.map B), none] := by
              clear g1 g2 g5 g6 g7 g8 g9
              intro f2 g1 g2 g5 g6 g7 g8
              refine T_rseq fun Kr hKr => ?_
              simp (disch := omega) only [RA, ↓reduceIte, Nat.reduceEqDiff, Nat.reduceBEq, Nat.reduceSub, Nat.reduceAdd, Nat.reduceMul, Nat.reduceLT, Nat.reduceLeDiff, Int.reduceLE, Int.reduceLT, Int.reduceEq, Int.reduceNeg, Int.reduceToNat, Int.reduceMul, Int.reduceAdd, Int.reduceSub, Int.reduceBEq, Int.reduceBNe, reduceCtorEq, RD, g5, g8, app1_FN]
              refine hKr _ _ ?_
              clear hKr Kr
              try simp only [RN, reduceIte]
              try refine T_e rfl ?_
              refine T_gh (Gh.nrm [0, 5, 2] rfl rfl (by simp only [RH, RV])) ?_
              refine hnext _ (s, sc.2 ++ [l]) ?_ ?_ ?_ ?_ ?_ ?_
              any_goals (simp (disch := omega) only [RA, ↓reduceIte, Nat.reduceEqDiff, RD, RE, *] <;> rfl)
              rw [cycK, ← hsc, if_neg (by simp [h0]), hfin]
            exact T_gh (Gh.fz (i := 3) (cs := l.map N64) rfl NNL_64) (hfz _ (by simp (disch := omega) only [RA, ↓reduceIte, Nat.reduceEqDiff, RD, RE, RZ, frz_ne, frz_all, *] <;> rfl) (by simp (disch := omega) only [RA, ↓reduceIte, Nat.reduceEqDiff, RD, RE, RZ, frz_ne, frz_all, *] <;> rfl) (by simp (disch := omega) only [RA, ↓reduceIte, Nat.reduceEqDiff, RD, RE, RZ, frz_ne, frz_all, *] <;> rfl) (by simp (disch := omega) only [RA, ↓reduceIte, Nat.reduceEqDiff, RD, RE, RZ, frz_ne, frz_all, *] <;> rfl) (by simp (disch := omega) only [RA, ↓reduceIte, Nat.reduceEqDiff, RD, RE, RZ, frz_ne, frz_all, *] <;> rfl) (by simp (disch := omega) only [RA, ↓reduceIte, Nat.reduceEqDiff, RD, RE, RZ, frz_ne, frz_all, *] <;> rfl))
    · refine hX _ _ ?_
      obtain rfl : i = n := by omega
      refine T_rseq fun Kr hKr => ?_
      simp (disch := omega) only [RA, ↓reduceIte, Nat.reduceEqDiff, RD, g5]
      refine hKr _ _ ?_
      clear hKr Kr
      try simp only [RN, reduceIte]
      try refine T_e rfl ?_
      refine bodyQ_ret (by simp (disch := omega) only [RA, ↓reduceIte, Nat.reduceEqDiff, RD, resAll, resOf, g5]; rfl) GhV.refl ?_
      simp only [tup]
      rw [hsc]
      exact ⟨1, rfl, rfl⟩
theorem l01Cycles_spec {x : Bool} {p : List Nat} {n : Nat} {H : BH} {K : Value → BH → Prop} (hb : By 16 p) (hp : Perm p n) (hK : K (Fz (cyc p n).length 1 ((cyc p n).map FN)) H) : CallX x F_spec_l01Cycles [PL p, I n] H K :=
  callRZ (by (simp only [RH])) NNL_FN (by simp) (l01Cycles_run hb hp) hK
end Go.Bm

/- Lists put behind lists. -/
set_option linter.unusedVariables false
set_option linter.unusedSimpArgs false
namespace Go.Bm
open Go Go.Am

/-- More elements, out of what is only read. -/
def appz (c : Option (List Value)) (H : BH) (b l m bytes : Nat) (ys : List Value) : Option (Value × BH) :=
  match c with
  | some cs => if ys.length = m ∧ l ≤ cs.length ∧ (l + m) * bytes ≤ 140737488355328 ∧ ys.all one2 = true then some (S H.length 0 (l + m) 1, (H.set b none) ++ [some (cs.take l ++ ys)]) else bAppend 1 bytes (S b 0 l 1) (Fz m 1 ys) H
  | none => bAppend 1 bytes (S b 0 l 1) (Fz m 1 ys) H
theorem bApp_z {H : BH} {b l m bytes : Nat} {ys : List Value} : bAppend 1 bytes (S b 0 l 1) (Fz m 1 ys) H = appz (blk H b) H b l m bytes ys := by
  unfold appz
  split
  · rename_i cs hb
    split
    · rename_i h
      obtain ⟨h1, h2, h3, h4⟩ := h
      by_cases hm : m = 0
      · subst hm
        obtain rfl : ys = [] := List.eq_nil_of_length_eq_zero h1
        simp only [Nat.add_zero] at h3
        simp [bAppend, newC, Fz, hb, h2, h3]
      · simp only [bAppend, newC, Fz, if_neg hm, if_true, hb, Nat.mul_one]
        rw [if_pos ⟨h2, h3, h4⟩]
    · rfl
  · rfl
section
variable {H : BH} {b bytes : Nat}
theorem appz_g {α : Type} {g : α → Value} {xs ys : List α} (ho : ∀ a, one2 (g a) = true) (h : (xs.length + ys.length) * bytes ≤ 140737488355328) :
    appz (some (xs.map g)) H b xs.length ys.length bytes (ys.map g) = some (S H.length 0 (xs.length + ys.length) 1, (H.set b none) ++ [some ((xs ++ ys).map g)]) := by
  simp only [appz]
  rw [if_pos ⟨by simp, by simp, h, by simp [ho]⟩]
  simp [List.take_of_length_le]
theorem appz_0 {α : Type} {g : α → Value} {ys : List α} (ho : ∀ a, one2 (g a) = true) (h : ys.length * bytes ≤ 140737488355328) :
    appz (some []) H b 0 ys.length bytes (ys.map g) = some (S H.length 0 ys.length 1, (H.set b none) ++ [some (ys.map g)]) := by
  have := appz_g (H := H) (b := b) (bytes := bytes) (g := g) (xs := []) (ys := ys) ho (by simpa using h)
  simpa using this
theorem appz_FN {xs ys : List (List Nat)} (h : (xs.length + ys.length) * bytes ≤ 140737488355328) : appz (some (xs.map FN)) H b xs.length ys.length bytes (ys.map FN) = some (S H.length 0 (xs.length + ys.length) 1, (H.set b none) ++ [some ((xs ++ ys).map FN)]) := appz_g (fun _ => rfl) h
theorem appz_FN0 {ys : List (List Nat)} (h : ys.length * bytes ≤ 140737488355328) : appz (some []) H b 0 ys.length bytes (ys.map FN) = some (S H.length 0 ys.length 1, (H.set b none) ++ [some (ys.map FN)]) := appz_0 (fun _ => rfl) h
theorem appz_I {xs ys : List Int} (h : (xs.length + ys.length) * bytes ≤ 140737488355328) : appz (some (xs.map I)) H b xs.length ys.length bytes (ys.map I) = some (S H.length 0 (xs.length + ys.length) 1, (H.set b none) ++ [some ((xs ++ ys).map I)]) := appz_g (fun _ => rfl) h
theorem appz_I0 {ys : List Int} (h : ys.length * bytes ≤ 140737488355328) : appz (some []) H b 0 ys.length bytes (ys.map I) = some (S H.length 0 ys.length 1, (H.set b none) ++ [some (ys.map I)]) := appz_0 (fun _ => rfl) h
end
/-- Two lists that a call makes out of what is only read. -/
theorem callRZ2 {x : Bool} {g : Nat} {args : List Value} {H : BH} {K : Value → BH → Prop} (ha : NNL args)
    (h : CallX false g args [] fun v H1 => ∃ i j l1 l2 e1 e2 c1 c2, i ≠ j ∧ v = .tuple ⟨[S i 0 l1 e1, S j 0 l2 e2]⟩ ∧ blk H1 i = some c1 ∧ blk H1 j = some c2 ∧ NNL c1 ∧ NNL c2 ∧ l1 * e1 = c1.length ∧ l2 * e2 = c2.length ∧ K (.tuple ⟨[Fz l1 e1 c1, Fz l2 e2 c2]⟩) H) : CallX x g args H K :=
  callP ha (h.gh fun v H1 ⟨i, j, l1, l2, e1, e2, c1, c2, h1, h2, h3, h4, h5, h6, h7, h8, hK⟩ => by
    have hi := blk_ltN h3
    refine ⟨frzT j c2 (frzT i c1 v), (H1.set i none).set j none, (GhV.fz h3 h5).trans (GhV.fz (by rw [blk_setN hi, if_neg (Ne.symm h1)]; exact h4) h6), ?_⟩
    have a1 : frz i c1 (S i 0 l1 e1) = Fz l1 e1 c1 := frz_all h7
    have a2 : frz i c1 (S j 0 l2 e2) = S j 0 l2 e2 := frz_ne (Ne.symm h1)
    have a3 : frz j c2 (S j 0 l2 e2) = Fz l2 e2 c2 := frz_all h8
    have a4 : frz j c2 (Fz l1 e1 c1) = Fz l1 e1 c1 := rfl
    have e : frzT j c2 (frzT i c1 v) = .tuple ⟨[Fz l1 e1 c1, Fz l2 e2 c2]⟩ := by
      rw [h2]
      simp only [frzT, List.map_cons, List.map_nil, a1, a2, a3, a4]
    rw [e]
    refine ⟨NN.tuple fun c hc => ?_, hK⟩
    rcases List.mem_cons.1 hc with rfl | hc
    · exact .fz
    · rw [List.mem_singleton.1 hc]
      exact .fz)
theorem st1_64v {H : BH} {b o : Nat} {s : List Nat} {c : Nat} (h : o < s.length) : stO (some (s.map N64)) H b o 1 (.int .i64 (c : Int)) = some (undef, H.set b (some ((s.set o c).map N64))) := by
  have e : splice (s.map N64) o [.int .i64 (c : Int)] = (s.set o c).map N64 := splice_1 (g := N64) h
  rw [stO_int (by simpa using h), e]
theorem repl2_64 {n : Nat} : repl [.int .i64 0, .int .i64 0] n = (List.replicate (n * 2) 0).map N64 := by
  induction n with
  | zero => rfl
  | succ n ih =>
    have e : repl [.int .i64 0, .int .i64 0] (n + 1) = [.int .i64 0, .int .i64 0] ++ repl [.int .i64 0, .int .i64 0] n := by simp [repl, List.replicate_succ]
    rw [e, ih, show (n + 1) * 2 = n * 2 + 1 + 1 by omega, List.replicate_succ, List.replicate_succ]
    rfl
theorem CloneSS_spec {x : Bool} {cs : List (List Nat)} {H : BH} {K : Value → BH → Prop} (h0 : 0 < cs.length) (hl : cs.length ≤ 1000) (hK : K (S H.length 0 cs.length 1) (H ++ [some (cs.map FN)])) :
    CallX x F_slices_Clone_SS_int64_int64 [Fz cs.length 1 (cs.map FN)] H K := by
  refine callRO (.cons .fz .nil) NNL_FN ?_ hK
  refine CallX_body Γ_slices_Clone_SS_int64_int64 ?_
  simp only [A_slices_Clone_SS_int64_int64, T_aiff]
  refine T_rseq fun Kr hKr => ?_
  simp (disch := omega) only [RA, ↓reduceIte, Nat.reduceEqDiff, Nat.reduceBEq, Nat.reduceSub, Nat.reduceAdd, Nat.reduceMul, Nat.reduceLT, Nat.reduceLeDiff, Int.reduceLE, Int.reduceLT, Int.reduceEq, Int.reduceNeg, Int.reduceToNat, Int.reduceMul, Int.reduceAdd, Int.reduceSub, Int.reduceBEq, Int.reduceBNe, reduceCtorEq, RD]
  refine hKr _ _ ?_
  clear hKr Kr
  try simp only [RN, reduceIte]
  try refine T_e rfl ?_
  refine T_rseq fun Kr hKr => ?_
  simp (disch := omega) only [RA, ↓reduceIte, Nat.reduceEqDiff, Nat.reduceBEq, Nat.reduceSub, Nat.reduceAdd, Nat.reduceMul, Nat.reduceLT, Nat.reduceLeDiff, Int.reduceLE, Int.reduceLT, Int.reduceEq, Int.reduceNeg, Int.reduceToNat, Int.reduceMul, Int.reduceAdd, Int.reduceSub, Int.reduceBEq, Int.reduceBNe, reduceCtorEq, RD, eqnW_fz h0]
  refine hKr _ _ ?_
  clear hKr Kr
  try simp only [RN, reduceIte]
  try refine T_e rfl ?_
  refine T_cseq (t := false) (by simp (disch := omega) only [RA, ↓reduceIte, Nat.reduceEqDiff, Nat.reduceBEq, Nat.reduceSub, Nat.reduceAdd, Nat.reduceMul, Nat.reduceLT, Nat.reduceLeDiff, Int.reduceLE, Int.reduceLT, Int.reduceEq, Int.reduceNeg, Int.reduceToNat, Int.reduceMul, Int.reduceAdd, Int.reduceSub, Int.reduceBEq, Int.reduceBNe, reduceCtorEq, RD]) ?_
  try simp only [RN, reduceIte]
  try refine T_e rfl ?_
  refine T_rseq fun Kr hKr => ?_
  simp (disch := omega) only [RA, ↓reduceIte, Nat.reduceEqDiff, Nat.reduceBEq, Nat.reduceSub, Nat.reduceAdd, Nat.reduceMul, Nat.reduceLT, Nat.reduceLeDiff, Int.reduceLE, Int.reduceLT, Int.reduceEq, Int.reduceNeg, Int.reduceToNat, Int.reduceMul, Int.reduceAdd, Int.reduceSub, Int.reduceBEq, Int.reduceBNe, reduceCtorEq, RD, bApp_z, appz_FN0]
  refine hKr _ _ ?_
  clear hKr Kr
  try simp only [RN, reduceIte]
  try refine T_e rfl ?_
  refine bodyQ_ret (by simp (disch := omega) only [RA, ↓reduceIte, Nat.reduceEqDiff, Nat.reduceBEq, Nat.reduceSub, Nat.reduceAdd, Nat.reduceMul, Nat.reduceLT, Nat.reduceLeDiff, Int.reduceLE, Int.reduceLT, Int.reduceEq, Int.reduceNeg, Int.reduceToNat, Int.reduceMul, Int.reduceAdd, Int.reduceSub, Int.reduceBEq, Int.reduceBNe, reduceCtorEq, RD, resAll, resOf]; rfl) GhV.refl ?_
  simp only [tup]
  exact ⟨1, rfl, rfl⟩
theorem Clone_spec {x : Bool} {xs : List Int} {H : BH} {K : Value → BH → Prop} (h0 : 0 < xs.length) (hl : xs.length ≤ 1000) (hK : K (S H.length 0 xs.length 1) (H ++ [some (xs.map I)])) :
    CallX x F_slices_Clone_int64_int64 [Fz xs.length 1 (xs.map I)] H K := by
  refine callRO (.cons .fz .nil) NNL_I ?_ hK
  refine CallX_body Γ_slices_Clone_int64_int64 ?_
  simp only [A_slices_Clone_int64_int64, T_aiff]
  refine T_rseq fun Kr hKr => ?_
  simp (disch := omega) only [RA, ↓reduceIte, Nat.reduceEqDiff, Nat.reduceBEq, Nat.reduceSub, Nat.reduceAdd, Nat.reduceMul, Nat.reduceLT, Nat.reduceLeDiff, Int.reduceLE, Int.reduceLT, Int.reduceEq, Int.reduceNeg, Int.reduceToNat, Int.reduceMul, Int.reduceAdd, Int.reduceSub, Int.reduceBEq, Int.reduceBNe, reduceCtorEq, RD]
  refine hKr _ _ ?_
  clear hKr Kr
  try simp only [RN, reduceIte]
  try refine T_e rfl ?_
  refine T_rseq fun Kr hKr => ?_
  simp (disch := omega) only [RA, ↓reduceIte, Nat.reduceEqDiff, Nat.reduceBEq, Nat.reduceSub, Nat.reduceAdd, Nat.reduceMul, Nat.reduceLT, Nat.reduceLeDiff, Int.reduceLE, Int.reduceLT, Int.reduceEq, Int.reduceNeg, Int.reduceToNat, Int.reduceMul, Int.reduceAdd, Int.reduceSub, Int.reduceBEq, Int.reduceBNe, reduceCtorEq, RD, eqnW_fz h0]
  refine hKr _ _ ?_
  clear hKr Kr
  try simp only [RN, reduceIte]
  try refine T_e rfl ?_
  refine T_cseq (t := false) (by simp (disch := omega) only [RA, ↓reduceIte, Nat.reduceEqDiff, Nat.reduceBEq, Nat.reduceSub, Nat.reduceAdd, Nat.reduceMul, Nat.reduceLT, Nat.reduceLeDiff, Int.reduceLE, Int.reduceLT, Int.reduceEq, Int.reduceNeg, Int.reduceToNat, Int.reduceMul, Int.reduceAdd, Int.reduceSub, Int.reduceBEq, Int.reduceBNe, reduceCtorEq, RD]) ?_
  try simp only [RN, reduceIte]
  try refine T_e rfl ?_
  refine T_rseq fun Kr hKr => ?_
  simp (disch := omega) only [RA, ↓reduceIte, Nat.reduceEqDiff, Nat.reduceBEq, Nat.reduceSub, Nat.reduceAdd, Nat.reduceMul, Nat.reduceLT, Nat.reduceLeDiff, Int.reduceLE, Int.reduceLT, Int.reduceEq, Int.reduceNeg, Int.reduceToNat, Int.reduceMul, Int.reduceAdd, Int.reduceSub, Int.reduceBEq, Int.reduceBNe, reduceCtorEq, RD, bApp_z, appz_I0]
  refine hKr _ _ ?_
  clear hKr Kr
  try simp only [RN, reduceIte]
  try refine T_e rfl ?_
  refine bodyQ_ret (by simp (disch := omega) only [RA, ↓reduceIte, Nat.reduceEqDiff, Nat.reduceBEq, Nat.reduceSub, Nat.reduceAdd, Nat.reduceMul, Nat.reduceLT, Nat.reduceLeDiff, Int.reduceLE, Int.reduceLT, Int.reduceEq, Int.reduceNeg, Int.reduceToNat, Int.reduceMul, Int.reduceAdd, Int.reduceSub, Int.reduceBEq, Int.reduceBNe, reduceCtorEq, RD, resAll, resOf]; rfl) GhV.refl ?_
  simp only [tup]
  exact ⟨1, rfl, rfl⟩
theorem l01Own_spec {x : Bool} {xs : List Int} {H : BH} {K : Value → BH → Prop} (hl : xs.length ≤ 1000) (hK : K (S H.length 0 xs.length 1) (H ++ [some (xs.map I)])) :
    CallX x F_spec_l01Own [Fz xs.length 1 (xs.map I)] H K := by
  refine callRO (.cons .fz .nil) NNL_I ?_ hK
  refine CallX_body Γ_spec_l01Own ?_
  simp only [A_spec_l01Own, T_aiff]
  refine T_rseq fun Kr hKr => ?_
  simp (disch := omega) only [RA, ↓reduceIte, Nat.reduceEqDiff, Nat.reduceBEq, Nat.reduceSub, Nat.reduceAdd, Nat.reduceMul, Nat.reduceLT, Nat.reduceLeDiff, Int.reduceLE, Int.reduceLT, Int.reduceEq, Int.reduceNeg, Int.reduceToNat, Int.reduceMul, Int.reduceAdd, Int.reduceSub, Int.reduceBEq, Int.reduceBNe, reduceCtorEq, RD]
  refine hKr _ _ ?_
  clear hKr Kr
  try simp only [RN, reduceIte]
  try refine T_e rfl ?_
  refine T_rseq fun Kr hKr => ?_
  simp (disch := omega) only [RA, ↓reduceIte, Nat.reduceEqDiff, Nat.reduceBEq, Nat.reduceSub, Nat.reduceAdd, Nat.reduceMul, Nat.reduceLT, Nat.reduceLeDiff, Int.reduceLE, Int.reduceLT, Int.reduceEq, Int.reduceNeg, Int.reduceToNat, Int.reduceMul, Int.reduceAdd, Int.reduceSub, Int.reduceBEq, Int.reduceBNe, reduceCtorEq, RD, bApp_z, appz_I0]
  refine hKr _ _ ?_
  clear hKr Kr
  try simp only [RN, reduceIte]
  try refine T_e rfl ?_
  refine bodyQ_ret (by simp (disch := omega) only [RA, ↓reduceIte, Nat.reduceEqDiff, Nat.reduceBEq, Nat.reduceSub, Nat.reduceAdd, Nat.reduceMul, Nat.reduceLT, Nat.reduceLeDiff, Int.reduceLE, Int.reduceLT, Int.reduceEq, Int.reduceNeg, Int.reduceToNat, Int.reduceMul, Int.reduceAdd, Int.reduceSub, Int.reduceBEq, Int.reduceBNe, reduceCtorEq, RD, resAll, resOf]; rfl) GhV.refl ?_
  simp only [tup]
  exact ⟨1, rfl, rfl⟩
end Go.Bm

