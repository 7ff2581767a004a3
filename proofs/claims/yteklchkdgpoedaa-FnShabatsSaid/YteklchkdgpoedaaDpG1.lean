/- DpTa, DpW, DpDi, DpDj, DpDe, DpDk, DpDl, Sp0, Sp1, Sp2, Sp3, Sp4 -/
import Derived.Test.YteklchkdgpoedaaAmS
import Derived.Test.YteklchkdgpoedaaBmU
import Derived.Test.YteklchkdgpoedaaBmV
import Derived.Test.YteklchkdgpoedaaDpG0
/- Trees: the plain law. Without any one dart a tree falls apart; what lies behind a dart is less and less. -/
set_option linter.unusedVariables false
set_option linter.unusedSimpArgs false
namespace Go.Bm
open Go Go.Am

/-- A tree: one face, and one vertex more than edges. -/
def Tree (n : Nat) (b w : List Nat) : Prop := (cyc (faceP b w n) n).length = 1 ∧ (cyc b n).length + (cyc w n).length = n + 1
instance (n : Nat) (b w : List Nat) : Decidable (Tree n b w) := by unfold Tree; infer_instance

/-! ### Vertices by number -/
def vix (p : List Nat) (n x : Nat) : Nat := (cyc p n).findIdx fun c => c.contains x
theorem vix_lt {p : List Nat} {n x : Nat} (hp : Perm p n) (hx : x < n) : vix p n x < (cyc p n).length := by
  obtain ⟨c, hc, hxc⟩ := cyc_at hp hx
  exact List.findIdx_lt_length_of_exists ⟨c, hc, by simpa using hxc⟩
theorem vix_mem {p : List Nat} {n x : Nat} (hp : Perm p n) (hx : x < n) : x ∈ (cyc p n)[vix p n x]'(vix_lt hp hx) := by
  have h2 : ((cyc p n)[vix p n x]'(vix_lt hp hx)).contains x = true := List.findIdx_getElem (w := vix_lt hp hx)
  simpa using h2
theorem cyc_nod {p : List Nat} {n : Nat} (hp : Perm p n) : (cyc p n).flatten.Nodup := (CycOk.all rfl hp (Nat.le_refl n)).nod
/-- A number is in one cycle only. -/
theorem flat_uniq : ∀ {cs : List (List Nat)} {i j x : Nat} (hi : i < cs.length) (hj : j < cs.length), cs.flatten.Nodup → x ∈ cs[i] → x ∈ cs[j] → i = j
  | c :: cs, 0, 0, x, _, _, _, _, _ => rfl
  | c :: cs, 0, j + 1, x, _, hj, hn, h1, h2 => by
    rw [List.flatten_cons, List.nodup_append] at hn
    exact absurd rfl (hn.2.2 x h1 x (List.mem_flatten.2 ⟨_, List.getElem_mem (by simpa using hj), h2⟩))
  | c :: cs, i + 1, 0, x, hi, _, hn, h1, h2 => by
    rw [List.flatten_cons, List.nodup_append] at hn
    exact absurd rfl (hn.2.2 x h2 x (List.mem_flatten.2 ⟨_, List.getElem_mem (by simpa using hi), h1⟩))
  | c :: cs, i + 1, j + 1, x, hi, hj, hn, h1, h2 => by
    rw [List.flatten_cons, List.nodup_append] at hn
    rw [flat_uniq (cs := cs) (by simpa using hi) (by simpa using hj) hn.2.1 h1 h2]
theorem vix_of {p : List Nat} {n x i : Nat} (hp : Perm p n) (hx : x < n) (hi : i < (cyc p n).length) (h : x ∈ (cyc p n)[i]) : vix p n x = i :=
  flat_uniq (vix_lt hp hx) hi (cyc_nod hp) (vix_mem hp hx) h
theorem vix_step {p : List Nat} {n x : Nat} (hp : Perm p n) (hx : x < n) : vix p n (nl p x) = vix p n x :=
  vix_of hp (hp.lt hx) (vix_lt hp hx) ((cyc_is hp (List.getElem_mem _)).fwd (vix_mem hp hx))
theorem vix_surj {p : List Nat} {n i : Nat} (hp : Perm p n) (hi : i < (cyc p n).length) : ∃ x, x < n ∧ vix p n x = i := by
  have hc := cyc_is hp (List.getElem_mem hi)
  have hm : nl (cyc p n)[i] 0 ∈ (cyc p n)[i] := nl_mem hc.ne
  exact ⟨_, hc.lt _ hm, vix_of hp (hc.lt _ hm) hi hm⟩

/-! ### Pieces: numbers of vertices that stay connected, edge by edge -/
def merge (f : Nat → Nat) (e : Nat × Nat) : Nat → Nat := fun x => if f x = f e.1 then f e.2 else f x
def pieces (es : List (Nat × Nat)) : Nat → Nat := es.foldl merge id
theorem pieces_two : ∀ (es : List (Nat × Nat)) (f : Nat → Nat) (V m : Nat) (S : List Nat), S.Nodup → m + es.length ≤ S.length → (∀ a ∈ S, ∃ x, x < V ∧ f x = a) →
    ∃ S' : List Nat, S'.Nodup ∧ m ≤ S'.length ∧ ∀ a ∈ S', ∃ x, x < V ∧ (es.foldl merge f) x = a
  | [], f, V, m, S, h1, h2, h3 => ⟨S, h1, by simpa using h2, h3⟩
  | e :: es, f, V, m, S, h1, h2, h3 => by
    have hl := List.length_erase (a := f e.1) (l := S)
    refine pieces_two es (merge f e) V m (S.erase (f e.1)) (h1.erase _) ?_ fun a ha => ?_
    · simp only [List.length_cons] at h2
      split at hl <;> omega
    · obtain ⟨x, hx, hxa⟩ := h3 a (List.mem_of_mem_erase ha)
      refine ⟨x, hx, ?_⟩
      have hne : a ≠ f e.1 := fun h => by
        subst h
        exact (List.Nodup.not_mem_erase h1) ha
      rw [merge, if_neg (by rw [hxa]; exact hne), hxa]
theorem pieces_mono : ∀ (es : List (Nat × Nat)) (f : Nat → Nat) (x y : Nat), f x = f y → (es.foldl merge f) x = (es.foldl merge f) y
  | [], f, x, y, h => h
  | e :: es, f, x, y, h => pieces_mono es (merge f e) x y (by simp only [merge, h])
theorem pieces_edge : ∀ (es : List (Nat × Nat)) (f : Nat → Nat) (e : Nat × Nat), e ∈ es → (es.foldl merge f) e.1 = (es.foldl merge f) e.2
  | e' :: es, f, e, h => by
    rcases List.mem_cons.1 h with rfl | h
    · exact pieces_mono es _ _ _ (by
        simp only [merge, if_true]
        split
        · rfl
        · rfl)
    · exact pieces_edge es (merge f e') e h
section
variable {b w : List Nat} {n : Nat}
/-- The vertices of a dart; those of w behind those of b. -/
def ends (b w : List Nat) (n : Nat) (c : Bool) (x : Nat) : Nat := if c then (cyc b n).length + vix w n x else vix b n x
def others (b w : List Nat) (n y : Nat) : List (Nat × Nat) := ((List.range n).filter fun z => z != y).map fun z => (ends b w n false z, ends b w n true z)
/-- The piece of each vertex when one dart is taken out. -/
def lab (b w : List Nat) (n y : Nat) : Nat → Nat := pieces (others b w n y)
theorem lab_edge {y z : Nat} (hz : z < n) (h : z ≠ y) (c c' : Bool) : lab b w n y (ends b w n c z) = lab b w n y (ends b w n c' z) := by
  have key : lab b w n y (ends b w n false z) = lab b w n y (ends b w n true z) :=
    pieces_edge _ id (ends b w n false z, ends b w n true z) (List.mem_map.2 ⟨z, List.mem_filter.2 ⟨List.mem_range.2 hz, by simpa using h⟩, rfl⟩)
  cases c <;> cases c' <;> first | rfl | exact key | exact key.symm
theorem filter_ne_len {y : Nat} (hy : y < n) : ((List.range n).filter fun z => z != y).length + 1 = n := by
  have h1 : ((List.range n).filter fun z => z != y) = (List.range n).erase y := (List.Nodup.erase_eq_filter List.nodup_range y).symm
  rw [h1, List.length_erase_of_mem (List.mem_range.2 hy), List.length_range]
  omega
/-- A tree falls apart without any one dart. -/
theorem Tree.apart (hd : Des n b w) (ht : Tree n b w) {y : Nat} (hy : y < n) : lab b w n y (ends b w n false y) ≠ lab b w n y (ends b w n true y) := by
  intro he
  obtain ⟨hb, hw, _⟩ := id hd
  have hall : ∀ z, z < n → lab b w n y (ends b w n false z) = lab b w n y (ends b w n true z) := fun z hz => by
    by_cases e : z = y
    · rw [e]; exact he
    · exact lab_edge hz e _ _
  have hone := hd.ind (fun z => lab b w n y (ends b w n false z) = lab b w n y (ends b w n false 0))
    (fun z hz hS => by
      have e : ends b w n false (nl b z) = ends b w n false z := by simp only [ends]; exact vix_step hb hz
      rw [e]; exact hS)
    (fun z hz hS => by
      have e : ends b w n true (nl w z) = ends b w n true z := by simp only [ends, if_true]; rw [vix_step hw hz]
      rw [hall _ (hw.lt hz), e, ← hall z hz]; exact hS) rfl
  obtain ⟨S, h1, h2, h3⟩ := pieces_two (others b w n y) id (n + 1) 2 (List.range (n + 1)) List.nodup_range (by
    have := filter_ne_len hy
    rw [others, List.length_map, List.length_range]
    omega) (fun a ha => ⟨a, List.mem_range.1 ha, rfl⟩)
  have hvert : ∀ v, v < n + 1 → lab b w n y v = lab b w n y (ends b w n false 0) := fun v hv => by
    have ht2 := ht.2
    rcases Nat.lt_or_ge v (cyc b n).length with h | h
    · obtain ⟨x, hx, rfl⟩ := vix_surj hb h
      exact hone x hx
    · obtain ⟨x, hx, hxv⟩ := vix_surj hw (show v - (cyc b n).length < (cyc w n).length by omega)
      have e : v = ends b w n true x := by simp only [ends, if_true]; omega
      rw [e, ← hall x hx]
      exact hone x hx
  match S, h1, h2, h3 with
  | [], _, h2, _ => simp at h2
  | [_], _, h2, _ => simp at h2
  | a :: a' :: _, h1, _, h3 =>
    obtain ⟨x, hx, hxa⟩ := h3 a (by simp)
    obtain ⟨x', hx', hxa'⟩ := h3 a' (by simp)
    have e1 : lab b w n y x = a := hxa
    have e2 : lab b w n y x' = a' := hxa'
    have : a = a' := by rw [← e1, ← e2, hvert x hx, hvert x' hx']
    simp only [List.nodup_cons, List.mem_cons] at h1
    exact h1.1 (.inl this)
/-- The darts behind a dart at its vertex of one colour. -/
def behind (b w : List Nat) (n : Nat) (c : Bool) (x : Nat) : List Nat := (List.range n).filter fun z => z != x && lab b w n x (ends b w n false z) == lab b w n x (ends b w n c x)
/-! ### Words -/
/-! ### Round a vertex -/
def it (p : List Nat) (x : Nat) : Nat → Nat
  | 0 => nl p x
  | i + 1 => nl p (it p x i)
end
/-- Bytes as a string. -/
def bs (l : List UInt8) : ByteArray := ⟨l.toArray⟩
end Go.Bm

/- Types of permutations, and what is clean. -/
set_option linter.unusedVariables false
set_option linter.unusedSimpArgs false
namespace Go.Bm
open Go Go.Am

/-! ### Clean -/
def Clean (w : List Nat) (n : Nat) : Prop := ∀ x, x < n → nl w x ≠ x ∧ nl w (nl w x) = x
instance (w : List Nat) (n : Nat) : Decidable (Clean w n) := by unfold Clean; infer_instance
end Go.Bm

/- Draws: types and passports. -/
set_option linter.unusedVariables false
set_option linter.unusedSimpArgs false
namespace Go.Bm
open Go Go.Am

section
variable {code : List Nat} {a : Nat} {h : Int}
section
variable {x y z : Value} {H : BH} {b j o l e : Nat}
end
end
end Go.Bm

/- Draws: passports, types, numbers. -/
set_option linter.unusedVariables false
set_option linter.unusedSimpArgs false
namespace Go.Bm
open Go Go.Am

section
variable {code : List Nat} {a : Nat} {h : Int}
end
end Go.Bm

/- How many permutations commute with one of a type: the plain product. -/
set_option linter.unusedVariables false
set_option linter.unusedSimpArgs false
namespace Go.Bm
open Go Go.Am

/-- How often in a row the number at a place came till there. -/
def runK (xs : List Int) : Nat → Int
  | 0 => 1
  | i + 1 => if el xs (i + 1) = el xs i then runK xs i + 1 else 1
def prodR (xs : List Int) : Nat → Int
  | 0 => 1
  | i + 1 => prodR xs i * runK xs i
def prodE (xs : List Int) : Nat → Int
  | 0 => 1
  | i + 1 => prodE xs i * el xs i
def cenK (xs : List Int) : Nat → Int
  | 0 => 1
  | i + 1 => cenK xs i * el xs i * runK xs i
theorem cenK_eq {xs : List Int} : ∀ i, cenK xs i = prodR xs i * prodE xs i
  | 0 => rfl
  | i + 1 => by
    simp only [cenK, prodR, prodE, cenK_eq i, Int.mul_assoc, Int.mul_left_comm, Int.mul_comm]
def facI : Nat → Int
  | 0 => 1
  | n + 1 => facI n * ((n + 1 : Nat) : Int)
theorem facI_pos : ∀ n, 1 ≤ facI n
  | 0 => by simp [facI]
  | n + 1 => by
    have h := facI_pos n
    have : (1 : Int) * 1 ≤ facI n * ((n + 1 : Nat) : Int) := Int.mul_le_mul h (by omega) (by omega) (by omega)
    simpa [facI] using this
theorem facI_mono {m : Nat} : ∀ {n : Nat}, m ≤ n → facI m ≤ facI n
  | 0, h => by
    obtain rfl : m = 0 := by omega
    exact Int.le_refl _
  | n + 1, h => by
    by_cases e : m = n + 1
    · rw [e]; exact Int.le_refl _
    · have ih := facI_mono (m := m) (n := n) (by omega)
      have hp := facI_pos n
      have : facI n * 1 ≤ facI n * ((n + 1 : Nat) : Int) := Int.mul_le_mul_of_nonneg_left (by omega) (by omega)
      simp only [facI]
      omega
theorem runK_pos {xs : List Int} : ∀ i, 1 ≤ runK xs i
  | 0 => by simp [runK]
  | i + 1 => by
    have := runK_pos (xs := xs) i
    simp only [runK]
    split <;> omega
theorem prodR_pos {xs : List Int} : ∀ i, 1 ≤ prodR xs i
  | 0 => by simp [prodR]
  | i + 1 => by
    have h := prodR_pos (xs := xs) i
    have hr := runK_pos (xs := xs) i
    have : (1 : Int) * 1 ≤ prodR xs i * runK xs i := Int.mul_le_mul h hr (by omega) (by omega)
    simpa [prodR] using this
section
variable {xs : List Int} {n : Nat}
theorem runK_le (h : ∀ j, j < n → OkAt xs j) : ∀ i, i < n → runK xs i * el xs i ≤ sumK xs (i + 1)
  | 0, hi => by simp [runK, sumK]
  | i + 1, hi => by
    have ih := runK_le h i (by omega)
    have h1 := (h (i + 1) (by omega)).1
    have h0 := (h i (by omega)).1
    have hs := (sumK_ge (xs := xs) (i := i + 1) fun j hj => h j (by omega)).1
    rw [sumK]
    simp only [runK]
    split
    · rename_i e
      rw [e, Int.add_mul]
      omega
    · omega
theorem prodE_pos (h : ∀ j, j < n → OkAt xs j) : ∀ i, i ≤ n → 1 ≤ prodE xs i
  | 0, _ => by simp [prodE]
  | i + 1, hi => by
    have ih := prodE_pos h i (by omega)
    have h1 := (h i (by omega)).1
    have : (1 : Int) * 1 ≤ prodE xs i * el xs i := Int.mul_le_mul ih h1.1 (by omega) (by omega)
    simpa [prodE] using this
theorem cenK_pos (h : ∀ j, j < n → OkAt xs j) {i : Nat} (hi : i ≤ n) : 1 ≤ cenK xs i := by
  rw [cenK_eq]
  have : (1 : Int) * 1 ≤ prodR xs i * prodE xs i := Int.mul_le_mul (prodR_pos i) (prodE_pos h i hi) (by omega) (by have := prodR_pos (xs := xs) i; omega)
  simpa using this
theorem cenK_le (h : ∀ j, j < n → OkAt xs j) : ∀ i, i ≤ n → cenK xs i ≤ facI (sumK xs i).toNat
  | 0, _ => by simp [cenK, sumK, facI]
  | i + 1, hi => by
    have ih := cenK_le h i (by omega)
    have h1 := (h i (by omega)).1
    have hs := (sumK_ge (xs := xs) (i := i) fun j hj => h j (by omega)).1
    have hr := runK_le h i (by omega)
    have hp := runK_pos (xs := xs) i
    have hc := cenK_pos h (i := i) (by omega)
    obtain ⟨m, hm⟩ : ∃ m : Nat, (sumK xs (i + 1)).toNat = m + 1 := ⟨(sumK xs (i + 1)).toNat - 1, by rw [sumK] at hr ⊢; omega⟩
    have hsm : sumK xs (i + 1) = ((m + 1 : Nat) : Int) := by
      rw [sumK] at hm ⊢
      omega
    have hmono : facI (sumK xs i).toNat ≤ facI m := facI_mono (by rw [sumK] at hm; omega)
    have e : cenK xs (i + 1) = cenK xs i * (runK xs i * el xs i) := by
      simp only [cenK, Int.mul_assoc, Int.mul_left_comm, Int.mul_comm]
    rw [e, hm, facI]
    have hre : 0 ≤ runK xs i * el xs i := Int.mul_nonneg (by omega) (by omega)
    exact Int.mul_le_mul (by omega) (by omega) hre (by have := facI_pos m; omega)
end
theorem fac16 : facI 16 = 20922789888000 := by decide
section
variable {xs : List Int} (ht : TypeP xs)
include ht
theorem cen_le {i : Nat} (hi : i ≤ xs.length) : cenK xs i ≤ 20922789888000 := by
  have h1 := cenK_le ht.2.1 i hi
  have h2 := sumK_mono (xs := xs) (i := i) (k := xs.length) ht.2.1 hi
  have h3 := ht.2.2
  rw [sumI] at h3
  have h4 : facI (sumK xs i).toNat ≤ facI 16 := facI_mono (by omega)
  rw [fac16] at h4
  omega
theorem prodR_le {i : Nat} (hi : i ≤ xs.length) : prodR xs i ≤ 20922789888000 := by
  have h1 := cen_le ht hi
  have h2 := prodE_pos ht.2.1 i hi
  have h3 := prodR_pos (xs := xs) i
  rw [cenK_eq] at h1
  have : prodR xs i * 1 ≤ prodR xs i * prodE xs i := Int.mul_le_mul_of_nonneg_left h2 (by omega)
  omega
theorem run_le16 {i : Nat} (hi : i < xs.length) : runK xs i ≤ 16 := by
  have h1 := runK_le ht.2.1 i hi
  have h2 := sumK_mono (xs := xs) (i := i + 1) (k := xs.length) ht.2.1 (by omega)
  have h3 := ht.2.2
  have h4 := (ht.2.1 i hi).1
  have h5 := runK_pos (xs := xs) i
  rw [sumI] at h3
  have : runK xs i * 1 ≤ runK xs i * el xs i := Int.mul_le_mul_of_nonneg_left h4.1 (by omega)
  omega
end
end Go.Bm

/- Types: the functions that are compared, and what the law asks of them. -/
set_option linter.unusedVariables false
set_option linter.unusedSimpArgs false
namespace Go.Bm
open Go Go.Am

section
variable {xs : List Int}
theorem repeated_spec {x : Bool} {H : BH} {K : Value → BH → Prop} (ht : TypeP xs) (hK : K (I (prodR xs xs.length)) H) : CallX x F_impl_repeated [FI xs] H K := by
  have hl := ht.1
  refine callP (.cons .fz .nil) ?_
  refine CallX_body Γ_impl_repeated ?_; simp only [A_impl_repeated, T_aiff]
  refine T_rseq fun Kr hKr => ?_; simp (disch := omega) only [RA, ↓reduceIte, Nat.reduceEqDiff, RD]; refine hKr _ _ ?_; clear hKr Kr; (try simp only [RN, reduceIte]); try refine T_e rfl ?_
  refine T_rseq fun Kr hKr => ?_; simp (disch := omega) only [RA, ↓reduceIte, Nat.reduceEqDiff, RD]; refine hKr _ _ ?_; clear hKr Kr; (try simp only [RN, reduceIte]); try refine T_e rfl ?_
  refine T_rseq fun Kr hKr => ?_; simp (disch := omega) only [RA, ↓reduceIte, Nat.reduceEqDiff, RD]; refine hKr _ _ ?_; clear hKr Kr; (try simp only [RN, reduceIte]); try refine T_e rfl ?_
  refine T_wloop (fun m f H' => ∃ i r, i ≤ xs.length ∧ m = xs.length - i ∧ (∀ j, i = j + 1 → r = runK xs j) ∧ f 0 = FI xs ∧ f 3 = I (prodR xs i) ∧ f 4 = I r ∧ f 7 = FI xs ∧ f 8 = I xs.length ∧ f 9 = I i ∧ H' = []) (xs.length) ?_ ?_
  · refine ⟨_, _, Gh.refl, 0, 0, by omega, by omega, fun j hj => by omega, ?_, ?_, ?_, ?_, ?_, ?_, rfl⟩
    any_goals (simp (disch := omega) only [RA, ↓reduceIte, Nat.reduceEqDiff, RD, RE, *] <;> rfl)
  · rintro m f H' R ⟨i, r, hi, rfl, hr, g0, g3, g4, g7, g8, g9, rfl⟩ hN hX hR hE
    simp only [A_impl_repeated.l0, T_aiff]
    refine T_rseq fun Kr hKr => ?_; simp (disch := omega) only [RA, ↓reduceIte, Nat.reduceEqDiff, RD, g8, g9]; refine hKr _ _ ?_; clear hKr Kr; (try simp only [RN, reduceIte]); try refine T_e rfl ?_
    refine T_csplit (p := i < xs.length) (by simp only [RA, ↓reduceIte, Nat.reduceEqDiff] <;> rfl) (by (try simp only [RB]) <;> first | done | exact Iff.rfl | omega | simp) (fun hc => ?_) (fun hc => ?_) <;> (try simp only [RN, reduceIte]) <;> (try refine T_e rfl ?_)
    · have hil : i < xs.length := by assumption
      have hp := prodR_le ht (i := i + 1) (by omega)
      have hp0 := prodR_pos (xs := xs) (i + 1)
      have hrun := run_le16 ht hil
      have hrp := runK_pos (xs := xs) i
      have ep : prodR xs i * runK xs i = prodR xs (i + 1) := rfl
      have hgo : ∀ f', f' 0 = FI xs → f' 3 = I (prodR xs i) → f' 4 = I (runK xs i) → f' 7 = FI xs → f' 8 = I xs.length → f' 9 = I i → T 0 (.seq A_impl_repeated.r8 A_impl_repeated.r9) R f' [] := by
        clear g0 g3 g4 g7 g8 g9
        intro f' g0 g3 g4 g7 g8 g9
        refine T_rseq fun Kr hKr => ?_; simp (disch := omega) only [RA, ↓reduceIte, Nat.reduceEqDiff, RD, g3, g4, ep]; refine hKr _ _ ?_; clear hKr Kr; (try simp only [RN, reduceIte]); try refine T_e rfl ?_
        refine T_reg_k fun Kr hKr => ?_; simp (disch := omega) only [RA, ↓reduceIte, Nat.reduceEqDiff, RD, g9]; refine hKr _ _ ?_; clear hKr Kr
        exact hN (xs.length - (i + 1)) _ _ _ _ (by omega) Gh.refl ⟨i + 1, runK xs i, by omega, rfl, fun j hj => by
          obtain rfl : j = i := by omega
          rfl, (by simp (disch := omega) only [RA, ↓reduceIte, Nat.reduceEqDiff, RD, RE, *] <;> rfl), (by simp (disch := omega) only [RA, ↓reduceIte, Nat.reduceEqDiff, RD, RE, *] <;> rfl), (by simp (disch := omega) only [RA, ↓reduceIte, Nat.reduceEqDiff, RD, RE, *] <;> rfl), (by simp (disch := omega) only [RA, ↓reduceIte, Nat.reduceEqDiff, RD, RE, *] <;> rfl), (by simp (disch := omega) only [RA, ↓reduceIte, Nat.reduceEqDiff, RD, RE, *] <;> rfl), (by simp (disch := omega) only [RA, ↓reduceIte, Nat.reduceEqDiff, RD, RE, *] <;> rfl), rfl⟩
      (first | refine T_bfree rfl ?_ | refine T_bfree' rfl ?_); (try simp only [RN, reduceIte]); try refine T_e rfl ?_
      refine T_rseq fun Kr hKr => ?_; simp (disch := omega) only [RA, ↓reduceIte, Nat.reduceEqDiff, RD, g7, g9]; refine hKr _ _ ?_; clear hKr Kr; (try simp only [RN, reduceIte]); try refine T_e rfl ?_
      cases i with
      | zero =>
        refine T_rseq fun Kr hKr => ?_; simp (disch := omega) only [RA, ↓reduceIte, Nat.reduceEqDiff, RD]; refine hKr _ _ ?_; clear hKr Kr; (try simp only [RN, reduceIte]); try refine T_e rfl ?_
        refine T_cseq (t := false) (by simp (disch := omega) only [RA, ↓reduceIte, Nat.reduceEqDiff, RD]) ?_; (try simp only [RN, reduceIte]); try refine T_e rfl ?_
        refine T_rseq fun Kr hKr => ?_; simp (disch := omega) only [RA, ↓reduceIte, Nat.reduceEqDiff, RD]; refine hKr _ _ ?_; clear hKr Kr; (try simp only [RN, reduceIte]); try refine T_e rfl ?_
        refine hgo _ ?_ ?_ ?_ ?_ ?_ ?_
        any_goals (simp (disch := omega) only [RA, ↓reduceIte, Nat.reduceEqDiff, RD, RE, *] <;> rfl)
      | succ i =>
        have e2 : ((i + 1 : Nat) : Int) - 1 = (i : Int) := by omega
        have hr1 := hr i rfl
        subst hr1
        have hil2 : i < xs.length := by omega
        have hri := runK_pos (xs := xs) i
        have hri2 := run_le16 ht hil2
        by_cases he : el xs (i + 1) = el xs i
        · have e3 : runK xs (i + 1) = runK xs i + 1 := by rw [runK, if_pos he]
          refine T_rseq fun Kr hKr => ?_; simp (disch := omega) only [RA, ↓reduceIte, Nat.reduceEqDiff, RD, g0, e2, he]; refine hKr _ _ ?_; clear hKr Kr; (try simp only [RN, reduceIte]); try refine T_e rfl ?_
          refine T_cseq (t := true) (by simp (disch := omega) only [RA, ↓reduceIte, Nat.reduceEqDiff, RD]) ?_; (try simp only [RN, reduceIte]); try refine T_e rfl ?_
          refine T_rseq fun Kr hKr => ?_; simp (disch := omega) only [RA, ↓reduceIte, Nat.reduceEqDiff, RD, g4]; refine hKr _ _ ?_; clear hKr Kr; (try simp only [RN, reduceIte]); try refine T_e rfl ?_
          refine hgo _ ?_ ?_ ?_ ?_ ?_ ?_
          any_goals (simp (disch := omega) only [RA, ↓reduceIte, Nat.reduceEqDiff, RD, RE, *] <;> rfl)
        · have e3 : runK xs (i + 1) = 1 := by rw [runK, if_neg he]
          refine T_rseq fun Kr hKr => ?_; simp (disch := omega) only [RA, ↓reduceIte, Nat.reduceEqDiff, RD, g0, e2, he]; refine hKr _ _ ?_; clear hKr Kr; (try simp only [RN, reduceIte]); try refine T_e rfl ?_
          refine T_cseq (t := false) (by simp (disch := omega) only [RA, ↓reduceIte, Nat.reduceEqDiff, RD]) ?_; (try simp only [RN, reduceIte]); try refine T_e rfl ?_
          refine T_rseq fun Kr hKr => ?_; simp (disch := omega) only [RA, ↓reduceIte, Nat.reduceEqDiff, RD]; refine hKr _ _ ?_; clear hKr Kr; (try simp only [RN, reduceIte]); try refine T_e rfl ?_
          refine hgo _ ?_ ?_ ?_ ?_ ?_ ?_
          any_goals (simp (disch := omega) only [RA, ↓reduceIte, Nat.reduceEqDiff, RD, RE, *] <;> rfl)
    · refine hX _ _ ?_
      obtain rfl : i = xs.length := by omega
      refine T_rseq fun Kr hKr => ?_; simp (disch := omega) only [RA, ↓reduceIte, Nat.reduceEqDiff, RD, g3]; refine hKr _ _ ?_; clear hKr Kr; (try simp only [RN, reduceIte]); try refine T_e rfl ?_
      refine bodyQ_ret (by simp (disch := omega) only [RA, ↓reduceIte, Nat.reduceEqDiff, RD, resAll, resOf]; rfl) GhV.refl ?_; simp only [tup]
      exact ⟨.int, hK⟩
end
end Go.Bm

/- The law of types: what it draws, and its own helpers. -/
set_option linter.unusedVariables false
set_option linter.unusedSimpArgs false
namespace Go.Bm
open Go Go.Am

section
variable {code : List Nat} {H : BH} {K : Value → BH → Prop} {x : Bool}
theorem big_spec (hK : K (.bool (decide (4096 < code.length))) H) : CallX x F_laws_big [FB code] H K := by
  refine callP (.cons .fz .nil) ?_
  refine CallX_body Γ_laws_big ?_; simp only [A_laws_big, T_aiff]
  refine T_rseq fun Kr hKr => ?_; simp (disch := omega) only [RA, ↓reduceIte, Nat.reduceEqDiff, RD]; refine hKr _ _ ?_; clear hKr Kr; (try simp only [RN, reduceIte]); try refine T_e rfl ?_
  refine T_rseq fun Kr hKr => ?_; simp (disch := omega) only [RA, ↓reduceIte, Nat.reduceEqDiff, RD]; refine hKr _ _ ?_; clear hKr Kr; (try simp only [RN, reduceIte]); try refine T_e rfl ?_
  refine bodyQ_ret (by simp (disch := omega) only [RA, ↓reduceIte, Nat.reduceEqDiff, RD, resAll, resOf]; rfl) GhV.refl ?_; simp only [tup]
  rw [show decide ((4096 : Int) < (code.length : Int)) = decide (4096 < code.length) by rw [decide_eq_decide]; omega]
  exact ⟨.bool, hK⟩
theorem likeInts_spec {xs ys : List Int} (hl : xs.length < 4611686018427387904) (hl' : ys.length < 4611686018427387904) (hK : K (.bool (decide (xs = ys))) H) : CallX x F_laws_likeInts [FI xs, FI ys] H K := by
  refine callP (.cons .fz (.cons .fz .nil)) ?_
  refine CallX_body Γ_laws_likeInts ?_; simp only [A_laws_likeInts, T_aiff]
  refine T_rseq fun Kr hKr => ?_; simp (disch := omega) only [RA, ↓reduceIte, Nat.reduceEqDiff, RD]; refine hKr _ _ ?_; clear hKr Kr; (try simp only [RN, reduceIte]); try refine T_e rfl ?_
  refine T_rseq fun Kr hKr => ?_; simp (disch := omega) only [RA, ↓reduceIte, Nat.reduceEqDiff, RD]; refine hKr _ _ ?_; clear hKr Kr; (try simp only [RN, reduceIte]); try refine T_e rfl ?_
  refine T_csplit (p := ¬ xs.length = ys.length) (by simp only [RA, ↓reduceIte, Nat.reduceEqDiff] <;> rfl) (by (try simp only [RB]) <;> first | done | exact Iff.rfl | omega | simp) (fun hc => ?_) (fun hc => ?_) <;> (try simp only [RN, reduceIte]) <;> (try refine T_e rfl ?_)
  · refine T_rseq fun Kr hKr => ?_; simp (disch := omega) only [RA, ↓reduceIte, Nat.reduceEqDiff, RD]; refine hKr _ _ ?_; clear hKr Kr; (try simp only [RN, reduceIte]); try refine T_e rfl ?_
    refine bodyQ_ret (by simp (disch := omega) only [RA, ↓reduceIte, Nat.reduceEqDiff, RD, resAll, resOf]; rfl) GhV.refl ?_; simp only [tup]
    rw [show decide (xs = ys) = false by simp; intro e; exact hc (by rw [e])] at hK
    exact ⟨.bool, hK⟩
  have hll := Decidable.not_not.1 hc
  clear hc
  refine T_rseq fun Kr hKr => ?_; simp (disch := omega) only [RA, ↓reduceIte, Nat.reduceEqDiff, RD]; refine hKr _ _ ?_; clear hKr Kr; (try simp only [RN, reduceIte]); try refine T_e rfl ?_
  refine T_wloop (fun m f H' => ∃ i, i ≤ xs.length ∧ m = xs.length - i ∧ (∀ j, j < i → el xs j = el ys j) ∧ f 0 = FI xs ∧ f 1 = FI ys ∧ f 5 = I i ∧ H' = []) (xs.length) ?_ ?_
  · refine ⟨_, _, Gh.refl, 0, by omega, by omega, fun j hj => by omega, ?_, ?_, ?_, rfl⟩
    any_goals (simp (disch := omega) only [RA, ↓reduceIte, Nat.reduceEqDiff, RD, RE, *] <;> rfl)
  · rintro m f H' R ⟨i, hi, rfl, he, g0, g1, g5, rfl⟩ hN hX hR hE
    simp only [A_laws_likeInts.l0, T_aiff]
    refine T_rseq fun Kr hKr => ?_; simp (disch := omega) only [RA, ↓reduceIte, Nat.reduceEqDiff, RD, g0, g5]; refine hKr _ _ ?_; clear hKr Kr; (try simp only [RN, reduceIte]); try refine T_e rfl ?_
    refine T_csplit (p := i < xs.length) (by simp only [RA, ↓reduceIte, Nat.reduceEqDiff] <;> rfl) (by (try simp only [RB]) <;> first | done | exact Iff.rfl | omega | simp) (fun hc => ?_) (fun hc => ?_) <;> (try simp only [RN, reduceIte]) <;> (try refine T_e rfl ?_)
    · have hil : i < xs.length := by assumption
      have hil' : i < ys.length := by omega
      (first | refine T_bfree rfl ?_ | refine T_bfree' rfl ?_); (try simp only [RN, reduceIte]); try refine T_e rfl ?_
      refine T_rseq fun Kr hKr => ?_; simp (disch := omega) only [RA, ↓reduceIte, Nat.reduceEqDiff, RD, g0, g1, g5]; refine hKr _ _ ?_; clear hKr Kr; (try simp only [RN, reduceIte]); try refine T_e rfl ?_
      refine T_csplit (p := ¬ el xs i = el ys i) (by simp only [RA, ↓reduceIte, Nat.reduceEqDiff] <;> rfl) (by (try simp only [RB]) <;> first | done | exact Iff.rfl | omega | simp) (fun hc => ?_) (fun hc => ?_) <;> (try simp only [RN, reduceIte]) <;> (try refine T_e rfl ?_)
      · refine T_rseq fun Kr hKr => ?_; simp (disch := omega) only [RA, ↓reduceIte, Nat.reduceEqDiff, RD]; refine hKr _ _ ?_; clear hKr Kr; (try simp only [RN, reduceIte]); try refine T_e rfl ?_
        refine hR _ _ ?_
        refine bodyQ_ret (by simp (disch := omega) only [RA, ↓reduceIte, Nat.reduceEqDiff, RD, resAll, resOf]; rfl) GhV.refl ?_; simp only [tup]
        rw [show decide (xs = ys) = false by simp; intro e; exact hc (by rw [e])] at hK
        exact ⟨.bool, hK⟩
      have hee := Decidable.not_not.1 hc
      refine T_reg_k fun Kr hKr => ?_; simp (disch := omega) only [RA, ↓reduceIte, Nat.reduceEqDiff, RD, g5]; refine hKr _ _ ?_; clear hKr Kr
      have he' : ∀ j, j < i + 1 → el xs j = el ys j := fun j hj => by
        by_cases e : j = i
        · rw [e]; exact hee
        · exact he j (by omega)
      refine hN (xs.length - (i + 1)) _ _ _ _ (by omega) Gh.refl ⟨i + 1, by omega, rfl, he', ?_, ?_, ?_, rfl⟩
      any_goals (simp (disch := omega) only [RA, ↓reduceIte, Nat.reduceEqDiff, RD, RE, *] <;> rfl)
    · refine hX _ _ ?_
      have e : xs = ys := by
        apply List.ext_getElem hll
        intro j h1 h2
        have := he j (by omega)
        simpa [el, List.getD, h1, h2] using this
      rw [show decide (xs = ys) = true by simp [e]] at hK
      refine T_rseq fun Kr hKr => ?_; simp (disch := omega) only [RA, ↓reduceIte, Nat.reduceEqDiff, RD]; refine hKr _ _ ?_; clear hKr Kr; (try simp only [RN, reduceIte]); try refine T_e rfl ?_
      refine bodyQ_ret (by simp (disch := omega) only [RA, ↓reduceIte, Nat.reduceEqDiff, RD, resAll, resOf]; rfl) GhV.refl ?_; simp only [tup]
      exact ⟨.bool, hK⟩
theorem lists9_spec {xss yss : List (List Int)} (hl : xss.length < 1048576) (hl' : yss.length < 1048576) (hx : ∀ xs ∈ xss, xs.length < 4611686018427387904) (hy : ∀ xs ∈ yss, xs.length < 4611686018427387904)
    (hK : K (.bool (decide (xss = yss))) H) : CallX x F_laws_lists9 [FII xss, FII yss] H K := by
  refine callP (.cons .fz (.cons .fz .nil)) ?_
  refine CallX_body Γ_laws_lists9 ?_; simp only [A_laws_lists9, T_aiff]
  refine T_rseq fun Kr hKr => ?_; simp (disch := omega) only [RA, ↓reduceIte, Nat.reduceEqDiff, RD]; refine hKr _ _ ?_; clear hKr Kr; (try simp only [RN, reduceIte]); try refine T_e rfl ?_
  refine T_rseq fun Kr hKr => ?_; simp (disch := omega) only [RA, ↓reduceIte, Nat.reduceEqDiff, RD]; refine hKr _ _ ?_; clear hKr Kr; (try simp only [RN, reduceIte]); try refine T_e rfl ?_
  refine T_csplit (p := ¬ xss.length = yss.length) (by simp only [RA, ↓reduceIte, Nat.reduceEqDiff] <;> rfl) (by (try simp only [RB]) <;> first | done | exact Iff.rfl | omega | simp) (fun hc => ?_) (fun hc => ?_) <;> (try simp only [RN, reduceIte]) <;> (try refine T_e rfl ?_)
  · refine T_rseq fun Kr hKr => ?_; simp (disch := omega) only [RA, ↓reduceIte, Nat.reduceEqDiff, RD]; refine hKr _ _ ?_; clear hKr Kr; (try simp only [RN, reduceIte]); try refine T_e rfl ?_
    refine bodyQ_ret (by simp (disch := omega) only [RA, ↓reduceIte, Nat.reduceEqDiff, RD, resAll, resOf]; rfl) GhV.refl ?_; simp only [tup]
    rw [show decide (xss = yss) = false by simp; intro e; exact hc (by rw [e])] at hK
    exact ⟨.bool, hK⟩
  have hll := Decidable.not_not.1 hc
  clear hc
  refine T_rseq fun Kr hKr => ?_; simp (disch := omega) only [RA, ↓reduceIte, Nat.reduceEqDiff, RD]; refine hKr _ _ ?_; clear hKr Kr; (try simp only [RN, reduceIte]); try refine T_e rfl ?_
  refine T_wloop (fun m f H' => ∃ i, i ≤ xss.length ∧ m = xss.length - i ∧ (∀ j, j < i → xss.getD j [] = yss.getD j []) ∧ f 0 = FII xss ∧ f 1 = FII yss ∧ f 5 = I i ∧ H' = []) (xss.length) ?_ ?_
  · refine ⟨_, _, Gh.refl, 0, by omega, by omega, fun j hj => by omega, ?_, ?_, ?_, rfl⟩
    any_goals (simp (disch := omega) only [RA, ↓reduceIte, Nat.reduceEqDiff, RD, RE, *] <;> rfl)
  · rintro m f H' R ⟨i, hi, rfl, he, g0, g1, g5, rfl⟩ hN hX hR hE
    simp only [A_laws_lists9.l0, T_aiff]
    refine T_rseq fun Kr hKr => ?_; simp (disch := omega) only [RA, ↓reduceIte, Nat.reduceEqDiff, RD, g0, g5]; refine hKr _ _ ?_; clear hKr Kr; (try simp only [RN, reduceIte]); try refine T_e rfl ?_
    refine T_csplit (p := i < xss.length) (by simp only [RA, ↓reduceIte, Nat.reduceEqDiff] <;> rfl) (by (try simp only [RB]) <;> first | done | exact Iff.rfl | omega | simp) (fun hc => ?_) (fun hc => ?_) <;> (try simp only [RN, reduceIte]) <;> (try refine T_e rfl ?_)
    · have hil : i < xss.length := by assumption
      have hil' : i < yss.length := by omega
      (first | refine T_bfree rfl ?_ | refine T_bfree' rfl ?_); (try simp only [RN, reduceIte]); try refine T_e rfl ?_
      refine T_rseq fun Kr hKr => ?_; simp (disch := omega) only [RA, ↓reduceIte, Nat.reduceEqDiff, RD, g0, g1, g5, getN_FI]
      refine likeInts_spec (hx _ (getD_mem' hil)) (hy _ (getD_mem' hil')) ?_
      simp (disch := omega) only [RA, ↓reduceIte, Nat.reduceEqDiff, RD]
      refine hKr _ _ ?_; clear hKr Kr; (try simp only [blkQ, thenQ, loopQ]); (try simp only [RN, reduceIte]); try refine T_e rfl ?_
      refine T_csplit (p := ¬ xss.getD i [] = yss.getD i []) (by simp only [RA, ↓reduceIte, Nat.reduceEqDiff] <;> rfl) (by (try simp only [RB]) <;> first | done | exact Iff.rfl | omega | simp) (fun hc => ?_) (fun hc => ?_) <;> (try simp only [RN, reduceIte]) <;> (try refine T_e rfl ?_)
      · refine T_rseq fun Kr hKr => ?_; simp (disch := omega) only [RA, ↓reduceIte, Nat.reduceEqDiff, RD]; refine hKr _ _ ?_; clear hKr Kr; (try simp only [RN, reduceIte]); try refine T_e rfl ?_
        refine hR _ _ ?_
        refine bodyQ_ret (by simp (disch := omega) only [RA, ↓reduceIte, Nat.reduceEqDiff, RD, resAll, resOf]; rfl) GhV.refl ?_; simp only [tup]
        rw [show decide (xss = yss) = false by simp; intro e; exact hc (by rw [e])] at hK
        exact ⟨.bool, hK⟩
      have hee := Decidable.not_not.1 hc
      refine T_reg_k fun Kr hKr => ?_; simp (disch := omega) only [RA, ↓reduceIte, Nat.reduceEqDiff, RD, g5]; refine hKr _ _ ?_; clear hKr Kr
      have he' : ∀ j, j < i + 1 → xss.getD j [] = yss.getD j [] := fun j hj => by
        by_cases e : j = i
        · rw [e]; exact hee
        · exact he j (by omega)
      refine hN (xss.length - (i + 1)) _ _ _ _ (by omega) Gh.refl ⟨i + 1, by omega, rfl, he', ?_, ?_, ?_, rfl⟩
      any_goals (simp (disch := omega) only [RA, ↓reduceIte, Nat.reduceEqDiff, RD, RE, *] <;> rfl)
    · refine hX _ _ ?_
      have e : xss = yss := by
        apply List.ext_getElem hll
        intro j h1 h2
        have := he j (by omega)
        simpa [List.getD, h1, h2] using this
      rw [show decide (xss = yss) = true by simp [e]] at hK
      refine T_rseq fun Kr hKr => ?_; simp (disch := omega) only [RA, ↓reduceIte, Nat.reduceEqDiff, RD]; refine hKr _ _ ?_; clear hKr Kr; (try simp only [RN, reduceIte]); try refine T_e rfl ?_
      refine bodyQ_ret (by simp (disch := omega) only [RA, ↓reduceIte, Nat.reduceEqDiff, RD, resAll, resOf]; rfl) GhV.refl ?_; simp only [tup]
      exact ⟨.bool, hK⟩
variable (hl : code.length ≤ 1048576) (hcd : ∀ i, nl code i < 256)
include hl hcd
end
end Go.Bm

/- The laws' own helpers. -/
set_option linter.unusedVariables false
set_option linter.unusedSimpArgs false
namespace Go.Am
open Go

end Go.Am

/- Polynomials: what they are; values. -/
set_option linter.unusedVariables false
set_option linter.unusedSimpArgs false
namespace Go.Am
open Go

def Poly (xs : List Int) : Prop := (∀ i, i < xs.length → 0 ≤ el xs i ∧ el xs i ≤ 10006) ∧ xs.length ≤ 17 ∧ (xs.length = 0 ∨ el xs (xs.length - 1) ≠ 0)
instance (xs : List Int) : Decidable (Poly xs) := by unfold Poly; infer_instance

theorem l01In_spec {x a b : Int} {H : AHeap} {K : Value → AHeap → Prop} (hK : K (.bool (decide (a ≤ x ∧ x ≤ b))) H) : CallT F_spec_l01In [I x, I a, I b] H K := by
  refine CallT_body Γ_spec_l01In ?_; simp only [A_spec_l01In, T_aiff]
  refine T_rseq fun Kr hKr => ?_; simp (disch := omega) only [RF, RO, RC, tup, ↓reduceIte, Nat.reduceEqDiff, RD]; refine hKr _ _ ?_; clear hKr Kr; try simp only [RN, Bool.false_eq_true, reduceIte]
  by_cases h : a ≤ x
  · refine T_rseq fun Kr hKr => ?_; simp (disch := omega) only [RF, RO, RC, tup, ↓reduceIte, Nat.reduceEqDiff, RD, h]; refine hKr _ _ ?_; clear hKr Kr; try simp only [RN, Bool.false_eq_true, reduceIte]
    refine ⟨_, rfl, ?_⟩; simp only [RF, ev_t, ev_c, tup, ↓reduceIte, Nat.reduceEqDiff, h]
    simpa [h] using hK
  · refine T_rseq fun Kr hKr => ?_; simp (disch := omega) only [RF, RO, RC, tup, ↓reduceIte, Nat.reduceEqDiff, RD, h]; refine hKr _ _ ?_; clear hKr Kr; try simp only [RN, Bool.false_eq_true, reduceIte]
    refine ⟨_, rfl, ?_⟩; simp only [RF, ev_t, ev_c, tup, ↓reduceIte, Nat.reduceEqDiff, h]
    simpa [h] using hK
theorem isNumber_spec {x : Int} {H : AHeap} {K : Value → AHeap → Prop} (hK : K (.bool (decide (0 ≤ x ∧ x ≤ 10006))) H) : CallT F_impl_isNumber [I x] H K := by
  have hd : (x < 10007) ↔ (x ≤ 10006) := by omega
  refine CallT_body Γ_impl_isNumber ?_; simp only [A_impl_isNumber, T_aiff]
  refine T_rseq fun Kr hKr => ?_; simp (disch := omega) only [RF, RO, RC, tup, ↓reduceIte, Nat.reduceEqDiff, RD]; refine hKr _ _ ?_; clear hKr Kr; try simp only [RN, Bool.false_eq_true, reduceIte]
  by_cases h : 0 ≤ x
  · refine T_rseq fun Kr hKr => ?_; simp (disch := omega) only [RF, RO, RC, tup, ↓reduceIte, Nat.reduceEqDiff, RD, h]; refine hKr _ _ ?_; clear hKr Kr; try simp only [RN, Bool.false_eq_true, reduceIte]
    refine ⟨_, rfl, ?_⟩; simp only [RF, ev_t, ev_c, tup, ↓reduceIte, Nat.reduceEqDiff, h]
    simpa [h, hd] using hK
  · refine T_rseq fun Kr hKr => ?_; simp (disch := omega) only [RF, RO, RC, tup, ↓reduceIte, Nat.reduceEqDiff, RD, h]; refine hKr _ _ ?_; clear hKr Kr; try simp only [RN, Bool.false_eq_true, reduceIte]
    refine ⟨_, rfl, ?_⟩; simp only [RF, ev_t, ev_c, tup, ↓reduceIte, Nat.reduceEqDiff, h]
    simpa [h] using hK
theorem l06Is_spec {H : AHeap} {v : Value} {xs : List Int} {K : Value → AHeap → Prop} (hx : IsI H v xs) (hl : xs.length < 2 ^ 62) (hK : K (.bool (decide (Poly xs))) H) : CallT F_spec_l06Is [v] H K := by
  obtain ⟨a, e, rfl⟩ := hx.len
  refine CallT_body Γ_spec_l06Is ?_; simp only [A_spec_l06Is, T_aiff]
  refine T_rseq fun Kr hKr => ?_; simp (disch := omega) only [RF, RO, RC, tup, ↓reduceIte, Nat.reduceEqDiff, RD]; refine hKr _ _ ?_; clear hKr Kr; try simp only [RN, Bool.false_eq_true, reduceIte]
  refine T_rseq fun Kr hKr => ?_; simp (disch := omega) only [RF, RO, RC, tup, ↓reduceIte, Nat.reduceEqDiff, RD]; refine hKr _ _ ?_; clear hKr Kr; try simp only [RN, Bool.false_eq_true, reduceIte]
  refine T_wloop (fun n f H' => ∃ k, k ≤ xs.length ∧ n = xs.length - k ∧ H' = H ∧ f 0 = .slice a xs.length e ∧ f 3 = I k ∧ ∀ i, i < k → 0 ≤ el xs i ∧ el xs i ≤ 10006) (xs.length) ?_ ?_
  · exact ⟨0, by omega, by omega, rfl, by simp [RF], by simp [RF], by simp⟩
  · rintro n f H' R ⟨k, hk, rfl, rfl, h0, h3, hkk⟩ hN hX hR
    simp only [A_spec_l06Is.l0, T_aiff]
    refine T_rseq fun Kr hKr => ?_; simp (disch := omega) only [RF, RO, RC, tup, ↓reduceIte, Nat.reduceEqDiff, RD, h0, h3]; refine hKr _ _ ?_; clear hKr Kr; try simp only [RN, Bool.false_eq_true, reduceIte]
    by_cases hlt : k < xs.length
    · refine T_cseq (t := true) (by simp (disch := omega) only [RF, RO, RC, tup, ↓reduceIte, Nat.reduceEqDiff, decT, decF, hlt]) ?_; try simp only [RN, Bool.false_eq_true, reduceIte]
      (first | refine T_bfree rfl ?_ | refine T_bfree' rfl ?_); try simp only [RN, Bool.false_eq_true, reduceIte]
      obtain ⟨b, o, blk, heq, hb, hg, hlen, hel⟩ := hx.pos (by omega)
      cases heq
      refine T_rseq fun Kr hKr => ?_; simp (disch := omega) only [RF, RO, RC, tup, ↓reduceIte, Nat.reduceEqDiff, RD, h0, h3, hlt, hg, hel]
      refine l01In_spec ?_
      by_cases hn : 0 ≤ el xs k ∧ el xs k ≤ 10006
      · rw [decide_eq_true hn]
        simp (disch := omega) only [RF, RO, RC, tup, ↓reduceIte, Nat.reduceEqDiff, RD]
        refine hKr _ _ ?_; clear hKr Kr; (try simp only [blkQ, thenQ, loopQ]); try simp only [RN, if_true, if_false, Bool.false_eq_true, if_pos, reduceIte]
        refine T_cseq (t := false) (by simp (disch := omega) only [RF, RO, RC, tup, ↓reduceIte, Nat.reduceEqDiff, decT, decF]) ?_; try simp only [RN, Bool.false_eq_true, reduceIte]
        refine T_reg_k fun Kr hKr => ?_; simp (disch := omega) only [RF, RO, RC, tup, ↓reduceIte, Nat.reduceEqDiff, RD, h3]; refine hKr _ _ ?_; clear hKr Kr
        refine hN (xs.length - (k + 1)) _ _ (by omega) ⟨k + 1, by omega, rfl, rfl, by simp [RF, h0], by simp [RF, h3], fun i hi => ?_⟩
        by_cases h : i = k
        · subst h; exact hn
        · exact hkk i (by omega)
      · rw [decide_eq_false hn]
        simp (disch := omega) only [RF, RO, RC, tup, ↓reduceIte, Nat.reduceEqDiff, RD]
        refine hKr _ _ ?_; clear hKr Kr; (try simp only [blkQ, thenQ, loopQ]); try simp only [RN, if_true, if_false, Bool.false_eq_true, if_pos, reduceIte]
        refine T_cseq (t := true) (by simp (disch := omega) only [RF, RO, RC, tup, ↓reduceIte, Nat.reduceEqDiff, decT, decF]) ?_; try simp only [RN, Bool.false_eq_true, reduceIte]
        refine T_rseq fun Kr hKr => ?_; simp (disch := omega) only [RF, RO, RC, tup, ↓reduceIte, Nat.reduceEqDiff, RD]; refine hKr _ _ ?_; clear hKr Kr; try simp only [RN, Bool.false_eq_true, reduceIte]
        refine hR _ _ ?_
        refine ⟨_, rfl, ?_⟩; simp only [RF, ev_t, ev_c, tup, ↓reduceIte, Nat.reduceEqDiff]
        have : ¬ Poly xs := fun h => hn (h.1 k hlt)
        simpa [this] using hK
    · refine T_cseq (t := false) (by simp (disch := omega) only [RF, RO, RC, tup, ↓reduceIte, Nat.reduceEqDiff, decT, decF, hlt]) ?_; try simp only [RN, Bool.false_eq_true, reduceIte]
      refine hX _ _ ?_
      have hall : ∀ i, i < xs.length → 0 ≤ el xs i ∧ el xs i ≤ 10006 := fun i hi => hkk i (by omega)
      by_cases h17 : xs.length ≤ 17
      · by_cases hz : xs.length = 0
        · refine T_rseq fun Kr hKr => ?_; simp (disch := omega) only [RF, RO, RC, tup, ↓reduceIte, Nat.reduceEqDiff, RD, h0, h17, hz]; refine hKr _ _ ?_; clear hKr Kr; try simp only [RN, Bool.false_eq_true, reduceIte]
          refine ⟨_, rfl, ?_⟩; simp only [RF, ev_t, ev_c, tup, ↓reduceIte, Nat.reduceEqDiff]
          have : Poly xs := ⟨hall, h17, .inl hz⟩
          simpa [this] using hK
        · obtain ⟨b, o, blk, heq, hb, hg, hlen, hel⟩ := hx.pos (by omega)
          cases heq
          have h1 : IntKind.i64.wrap ((xs.length : Int) - 1) = ((xs.length - 1 : Nat) : Int) := by rw [w64 (by omega) (by omega)]; omega
          have h1' : xs.length - 1 < xs.length := by omega
          refine T_rseq fun Kr hKr => ?_; simp (disch := omega) only [RF, RO, RC, tup, ↓reduceIte, Nat.reduceEqDiff, RD, h0, h17, hz, h1, h1', hg, hel]; refine hKr _ _ ?_; clear hKr Kr; try simp only [RN, Bool.false_eq_true, reduceIte]
          refine ⟨_, rfl, ?_⟩; simp only [RF, ev_t, ev_c, tup, ↓reduceIte, Nat.reduceEqDiff]
          have : Poly xs ↔ el xs (xs.length - 1) ≠ 0 := ⟨fun h => (h.2.2).resolve_left hz, fun h => ⟨hall, h17, .inr h⟩⟩
          by_cases hq : el xs (xs.length - 1) = 0
          · simpa [this, hq] using hK
          · simpa [this, hq] using hK
      · refine T_rseq fun Kr hKr => ?_; simp (disch := omega) only [RF, RO, RC, tup, ↓reduceIte, Nat.reduceEqDiff, RD, h0, h17]; refine hKr _ _ ?_; clear hKr Kr; try simp only [RN, Bool.false_eq_true, reduceIte]
        refine ⟨_, rfl, ?_⟩; simp only [RF, ev_t, ev_c, tup, ↓reduceIte, Nat.reduceEqDiff]
        have : ¬ Poly xs := fun h => h17 h.2.1
        simpa [this] using hK
theorem impl_IsPolynomial_spec {H : AHeap} {v : Value} {xs : List Int} {K : Value → AHeap → Prop} (hx : IsI H v xs) (hl : xs.length < 2 ^ 62) (hK : K (.bool (decide (Poly xs))) H) : CallT F_impl_IsPolynomial [v] H K := by
  have hK0 := hK
  obtain ⟨a, e, rfl⟩ := hx.len
  refine CallT_body Γ_impl_IsPolynomial ?_; simp only [A_impl_IsPolynomial, T_aiff]
  refine T_rseq fun Kr hKr => ?_; simp (disch := omega) only [RF, RO, RC, tup, ↓reduceIte, Nat.reduceEqDiff, RD]; refine hKr _ _ ?_; clear hKr Kr; try simp only [RN, Bool.false_eq_true, reduceIte]
  by_cases h17 : xs.length ≤ 17
  · by_cases hz : 0 < xs.length ∧ el xs (xs.length - 1) = 0
    · have hz0 := hz.1
      obtain ⟨b, o, blk, heq, hb, hg, hlen, hel⟩ := hx.pos (by omega)
      cases heq
      have h1 : IntKind.i64.wrap ((xs.length : Int) - 1) = ((xs.length - 1 : Nat) : Int) := by rw [w64 (by omega) (by omega)]; omega
      have h1' : xs.length - 1 < xs.length := by omega
      refine T_rseq fun Kr hKr => ?_; simp (disch := omega) only [RF, RO, RC, tup, ↓reduceIte, Nat.reduceEqDiff, RD, h17, hz0, h1, h1', hg, hel, hz.2]; refine hKr _ _ ?_; clear hKr Kr; try simp only [RN, Bool.false_eq_true, reduceIte]
      refine T_cseq (t := true) (by simp (disch := omega) only [RF, RO, RC, tup, ↓reduceIte, Nat.reduceEqDiff, decT, decF]) ?_; try simp only [RN, Bool.false_eq_true, reduceIte]
      refine T_rseq fun Kr hKr => ?_; simp (disch := omega) only [RF, RO, RC, tup, ↓reduceIte, Nat.reduceEqDiff, RD]; refine hKr _ _ ?_; clear hKr Kr; try simp only [RN, Bool.false_eq_true, reduceIte]
      refine ⟨_, rfl, ?_⟩; simp only [RF, ev_t, ev_c, tup, ↓reduceIte, Nat.reduceEqDiff]
      have : ¬ Poly xs := fun h => by rcases h.2.2 with h | h; exact absurd h (by omega); exact h hz.2
      simpa [this] using hK
    · have key : Poly xs ↔ ∀ i, i < xs.length → 0 ≤ el xs i ∧ el xs i ≤ 10006 := ⟨fun h => h.1, fun h => ⟨h, h17, by by_cases hl : xs.length = 0; exact .inl hl; exact .inr fun hq => hz ⟨by omega, hq⟩⟩⟩
      refine T_rseq fun K hK => ?_
      have hgoal : ∀ f' : Fr, f' 0 = .slice a xs.length e → f' 21 = .bool false → K f' H := by
        intro f' h0 h21
        refine hK _ _ ?_
        refine T_cseq (t := false) (by simp [ev, h21]) ?_
        try simp only [RN, Bool.false_eq_true, reduceIte]
        refine T_rseq fun Kr hKr => ?_; simp (disch := omega) only [RF, RO, RC, tup, ↓reduceIte, Nat.reduceEqDiff, RD, h0]; refine hKr _ _ ?_; clear hKr Kr; try simp only [RN, Bool.false_eq_true, reduceIte]
        refine T_wloop (fun n f H' => ∃ k, k ≤ xs.length ∧ n = xs.length - k ∧ H' = H ∧ f 22 = .slice a xs.length e ∧ f 23 = I xs.length ∧ f 24 = I k ∧ ∀ i, i < k → 0 ≤ el xs i ∧ el xs i ≤ 10006) (xs.length) ?_ ?_
        · exact ⟨0, by omega, by omega, rfl, by simp [RF], by simp [RF], by simp [RF], by simp⟩
        · rintro n f H' R ⟨k, hk, rfl, rfl, h0, h1, h3, hkk⟩ hN hX hR
          simp only [A_impl_IsPolynomial.l0, T_aiff]
          refine T_rseq fun Kr hKr => ?_; simp (disch := omega) only [RF, RO, RC, tup, ↓reduceIte, Nat.reduceEqDiff, RD, h1, h3]; refine hKr _ _ ?_; clear hKr Kr; try simp only [RN, Bool.false_eq_true, reduceIte]
          by_cases hlt : k < xs.length
          · refine T_cseq (t := true) (by simp (disch := omega) only [RF, RO, RC, tup, ↓reduceIte, Nat.reduceEqDiff, decT, decF, hlt]) ?_; try simp only [RN, Bool.false_eq_true, reduceIte]
            (first | refine T_bfree rfl ?_ | refine T_bfree' rfl ?_); try simp only [RN, Bool.false_eq_true, reduceIte]
            obtain ⟨b, o, blk, heq, hb, hg, hlen, hel⟩ := hx.pos (by omega)
            cases heq
            refine T_rseq fun Kr hKr => ?_; simp (disch := omega) only [RF, RO, RC, tup, ↓reduceIte, Nat.reduceEqDiff, RD, h0, h3, hlt, hg, hel]; refine hKr _ _ ?_; clear hKr Kr; try simp only [RN, Bool.false_eq_true, reduceIte]
            refine T_rseq fun Kr hKr => ?_; simp (disch := omega) only [RF, RO, RC, tup, ↓reduceIte, Nat.reduceEqDiff, RD]
            refine isNumber_spec ?_
            by_cases hn : 0 ≤ el xs k ∧ el xs k ≤ 10006
            · rw [decide_eq_true hn]
              simp (disch := omega) only [RF, RO, RC, tup, ↓reduceIte, Nat.reduceEqDiff, RD]
              refine hKr _ _ ?_; clear hKr Kr; (try simp only [blkQ, thenQ, loopQ]); try simp only [RN, if_true, if_false, Bool.false_eq_true, if_pos, reduceIte]
              refine T_cseq (t := false) (by simp (disch := omega) only [RF, RO, RC, tup, ↓reduceIte, Nat.reduceEqDiff, decT, decF]) ?_; try simp only [RN, Bool.false_eq_true, reduceIte]
              refine T_reg_k fun Kr hKr => ?_; simp (disch := omega) only [RF, RO, RC, tup, ↓reduceIte, Nat.reduceEqDiff, RD, h3]; refine hKr _ _ ?_; clear hKr Kr
              refine hN (xs.length - (k + 1)) _ _ (by omega) ⟨k + 1, by omega, rfl, rfl, by simp [RF, h0], by simp [RF, h1], by simp [RF], fun i hi => ?_⟩
              by_cases h : i = k
              · subst h; exact hn
              · exact hkk i (by omega)
            · rw [decide_eq_false hn]
              simp (disch := omega) only [RF, RO, RC, tup, ↓reduceIte, Nat.reduceEqDiff, RD]
              refine hKr _ _ ?_; clear hKr Kr; (try simp only [blkQ, thenQ, loopQ]); try simp only [RN, if_true, if_false, Bool.false_eq_true, if_pos, reduceIte]
              refine T_cseq (t := true) (by simp (disch := omega) only [RF, RO, RC, tup, ↓reduceIte, Nat.reduceEqDiff, decT, decF]) ?_; try simp only [RN, Bool.false_eq_true, reduceIte]
              refine T_rseq fun Kr hKr => ?_; simp (disch := omega) only [RF, RO, RC, tup, ↓reduceIte, Nat.reduceEqDiff, RD]; refine hKr _ _ ?_; clear hKr Kr; try simp only [RN, Bool.false_eq_true, reduceIte]
              refine hR _ _ ?_
              refine ⟨_, rfl, ?_⟩; simp only [RF, ev_t, ev_c, tup, ↓reduceIte, Nat.reduceEqDiff]
              have : ¬ Poly xs := fun h => hn (h.1 k hlt)
              simpa [this] using hK0
          · refine T_cseq (t := false) (by simp (disch := omega) only [RF, RO, RC, tup, ↓reduceIte, Nat.reduceEqDiff, decT, decF, hlt]) ?_; try simp only [RN, Bool.false_eq_true, reduceIte]
            refine hX _ _ ?_
            refine T_rseq fun Kr hKr => ?_; simp (disch := omega) only [RF, RO, RC, tup, ↓reduceIte, Nat.reduceEqDiff, RD]; refine hKr _ _ ?_; clear hKr Kr; try simp only [RN, Bool.false_eq_true, reduceIte]
            refine ⟨_, rfl, ?_⟩; simp only [RF, ev_t, ev_c, tup, ↓reduceIte, Nat.reduceEqDiff]
            have : Poly xs := key.2 fun i hi => hkk i (by omega)
            simpa [this] using hK0
      by_cases hl0 : 0 < xs.length
      · obtain ⟨b, o, blk, heq, hb, hg, hlen, hel⟩ := hx.pos (by omega)
        cases heq
        have h1 : IntKind.i64.wrap ((xs.length : Int) - 1) = ((xs.length - 1 : Nat) : Int) := by rw [w64 (by omega) (by omega)]; omega
        have h1' : xs.length - 1 < xs.length := by omega
        have h2 : el xs (xs.length - 1) ≠ 0 := fun h => hz ⟨hl0, h⟩
        simp (disch := omega) only [RF, RO, RC, tup, ↓reduceIte, Nat.reduceEqDiff, RD, h17, hl0, h1, h1', hg, hel, h2]
        exact hgoal _ (by simp [RF]) (by simp [RF, h2])
      · simp (disch := omega) only [RF, RO, RC, tup, ↓reduceIte, Nat.reduceEqDiff, RD, h17, hl0]
        exact hgoal _ (by simp [RF]) (by simp [RF])
  · refine T_rseq fun Kr hKr => ?_; simp (disch := omega) only [RF, RO, RC, tup, ↓reduceIte, Nat.reduceEqDiff, RD, h17]; refine hKr _ _ ?_; clear hKr Kr; try simp only [RN, Bool.false_eq_true, reduceIte]
    refine T_cseq (t := true) (by simp (disch := omega) only [RF, RO, RC, tup, ↓reduceIte, Nat.reduceEqDiff, decT, decF]) ?_; try simp only [RN, Bool.false_eq_true, reduceIte]
    refine T_rseq fun Kr hKr => ?_; simp (disch := omega) only [RF, RO, RC, tup, ↓reduceIte, Nat.reduceEqDiff, RD]; refine hKr _ _ ?_; clear hKr Kr; try simp only [RN, Bool.false_eq_true, reduceIte]
    refine ⟨_, rfl, ?_⟩; simp only [RF, ev_t, ev_c, tup, ↓reduceIte, Nat.reduceEqDiff]
    have : ¬ Poly xs := fun h => h17 h.2.1
    simpa [this] using hK
end Go.Am

/- Polynomials: remainders, values, stars. -/
set_option linter.unusedVariables false
set_option linter.unusedSimpArgs false
namespace Go.Am
open Go

def md (x : Int) : Int := x % 10007
theorem md_lo (x : Int) : 0 ≤ md x := Int.emod_nonneg _ (by decide)
theorem md_hi (x : Int) : md x ≤ 10006 := by unfold md; omega
theorem tmodp (x : Int) : x.tmod 10007 = if 0 ≤ x then x % 10007 else -((-x) % 10007) := by
  split
  · rename_i h; exact Int.tmod_eq_emod_of_nonneg h
  · rename_i h
    have : x = -(-x) := by omega
    rw [this, Int.neg_tmod, Int.tmod_eq_emod_of_nonneg (by omega), Int.neg_neg]
theorem tmodm {x : Int} (h : 0 ≤ x) : x.tmod 10007 = md x := Int.tmod_eq_emod_of_nonneg h
theorem mulb {a b : Int} (h1 : 0 ≤ a) (h2 : a ≤ 100000) (h3 : 0 ≤ b) (h4 : b ≤ 100000) : 0 ≤ a * b ∧ a * b ≤ 10000000000 :=
  ⟨Int.mul_nonneg h1 h3, by have := Int.mul_le_mul h2 h4 h3 (by omega); omega⟩
theorem mulb' {a b : Int} (h1 : -100000 ≤ a) (h2 : a ≤ 100000) (h3 : 0 ≤ b) (h4 : b ≤ 100000) : -10000000000 ≤ a * b ∧ a * b ≤ 10000000000 := by
  by_cases h : 0 ≤ a
  · have := mulb h h2 h3 h4; omega
  · have := mulb (a := -a) (by omega) (by omega) h3 h4
    rw [Int.neg_mul] at this
    omega
theorem ifz {α : Type} {a b : α} : (if (10007 : Int) = 0 then a else b) = b := rfl

theorem l06Mod_spec {x : Int} {H : AHeap} {K : Value → AHeap → Prop} (h1 : -1000000000000000 ≤ x) (h2 : x ≤ 1000000000000000) (hK : K (I (md x)) H) : CallT F_spec_l06Mod [I x] H K := by
  have ht := tmodp x
  have hb : -10006 ≤ x.tmod 10007 ∧ x.tmod 10007 ≤ 10006 := by
    rw [ht]; split <;> omega
  refine CallT_body Γ_spec_l06Mod ?_; simp only [A_spec_l06Mod, T_aiff]
  refine T_rseq fun Kr hKr => ?_; simp (disch := omega) only [RF, RO, RC, tup, ↓reduceIte, Nat.reduceEqDiff, RD]; refine hKr _ _ ?_; clear hKr Kr; try simp only [RN, Bool.false_eq_true, reduceIte]
  refine T_rseq fun Kr hKr => ?_; simp (disch := omega) only [RF, RO, RC, tup, ↓reduceIte, Nat.reduceEqDiff, RD, ifz]; refine hKr _ _ ?_; clear hKr Kr; try simp only [RN, Bool.false_eq_true, reduceIte]
  refine ⟨_, rfl, ?_⟩; simp only [RF, ev_t, ev_c, tup, ↓reduceIte, Nat.reduceEqDiff]
  have : (x.tmod 10007 + 10007).tmod 10007 = md x := by
    rw [tmodm (by omega), ht]
    unfold md
    split <;> omega
  rw [this]
  exact hK

def value (xs : List Int) (x : Int) : Int := xs.foldr (fun a out => md (out * x + a)) 0
theorem value_cons (a : Int) (xs : List Int) (x : Int) : value (a :: xs) x = md (value xs x * x + a) := rfl
theorem value_lo (xs : List Int) (x : Int) : 0 ≤ value xs x := by cases xs with | nil => exact Int.le_refl _ | cons a xs => exact md_lo _
theorem value_hi (xs : List Int) (x : Int) : value xs x ≤ 10006 := by cases xs with | nil => show (0 : Int) ≤ _; omega | cons a xs => exact md_hi _
theorem drop_el {xs : List Int} {k : Nat} (h : k < xs.length) : xs.drop k = el xs k :: xs.drop (k + 1) := by
  rw [List.drop_eq_getElem_cons h]
  simp [el, List.getD, h]

/-- Numbers that no product carries too far. -/
def Fit (xs : List Int) : Prop := ∀ i, i < xs.length → 0 ≤ el xs i ∧ el xs i ≤ 10007
theorem Poly.fit {xs : List Int} (h : Poly xs) : Fit xs := fun i hi => by have := h.1 i hi; omega

theorem l06Value_spec {H : AHeap} {v : Value} {xs : List Int} {x : Int} {K : Value → AHeap → Prop} (hx : IsI H v xs) (hf : Fit xs) (hl : xs.length < 100000) (h1 : 0 ≤ x) (h2 : x ≤ 10007) (hK : K (I (value xs x)) H) : CallT F_spec_l06Value [v, I x] H K := by
  obtain ⟨a, e, rfl⟩ := hx.len
  refine CallT_body Γ_spec_l06Value ?_; simp only [A_spec_l06Value, T_aiff]
  refine T_rseq fun Kr hKr => ?_; simp (disch := omega) only [RF, RO, RC, tup, ↓reduceIte, Nat.reduceEqDiff, RD]; refine hKr _ _ ?_; clear hKr Kr; try simp only [RN, Bool.false_eq_true, reduceIte]
  refine T_rseq fun Kr hKr => ?_; simp (disch := omega) only [RF, RO, RC, tup, ↓reduceIte, Nat.reduceEqDiff, RD]; refine hKr _ _ ?_; clear hKr Kr; try simp only [RN, Bool.false_eq_true, reduceIte]
  refine T_rseq fun Kr hKr => ?_; simp (disch := omega) only [RF, RO, RC, tup, ↓reduceIte, Nat.reduceEqDiff, RD]; refine hKr _ _ ?_; clear hKr Kr; try simp only [RN, Bool.false_eq_true, reduceIte]
  refine T_wloop (fun n f H' => ∃ k, k ≤ xs.length ∧ n = k ∧ H' = H ∧ f 0 = .slice a xs.length e ∧ f 1 = I x ∧ f 5 = I (value (xs.drop k) x) ∧ f 6 = I ((k : Int) - 1)) (xs.length) ?_ ?_
  · exact ⟨xs.length, by omega, by omega, rfl, by simp [RF], by simp [RF], by simp [RF, value], by simp [RF]⟩
  · rintro n f H' R ⟨k, hk, rfl, rfl, h0, h1', h5, h6⟩ hN hX hR
    simp only [A_spec_l06Value.l0, T_aiff]
    refine T_rseq fun Kr hKr => ?_; simp (disch := omega) only [RF, RO, RC, tup, ↓reduceIte, Nat.reduceEqDiff, RD, h0, h6]; refine hKr _ _ ?_; clear hKr Kr; try simp only [RN, Bool.false_eq_true, reduceIte]
    by_cases hlt : 0 < n
    · refine T_cseq (t := true) (by simp (disch := omega) only [RF, RO, RC, tup, ↓reduceIte, Nat.reduceEqDiff, decT, decF]) ?_; try simp only [RN, Bool.false_eq_true, reduceIte]
      (first | refine T_bfree rfl ?_ | refine T_bfree' rfl ?_); try simp only [RN, Bool.false_eq_true, reduceIte]
      obtain ⟨b, o, blk, heq, hb, hg, hlen, hel⟩ := hx.pos (by omega)
      cases heq
      have hi : (n : Int) - 1 = ((n - 1 : Nat) : Int) := by omega
      have hn1 : n - 1 < xs.length := by omega
      have hv1 := value_lo (xs.drop n) x
      have hv2 := value_hi (xs.drop n) x
      have hm := mulb hv1 (by omega) h1 (by omega)
      have hfk := hf (n - 1) hn1
      refine T_rseq fun Kr hKr => ?_; simp (disch := omega) only [RF, RO, RC, tup, ↓reduceIte, Nat.reduceEqDiff, RD, h0, h1', h5, h6, hi, hn1, hg, hel]
      refine l06Mod_spec (by omega) (by omega) ?_
      simp (disch := omega) only [RF, RO, RC, tup, ↓reduceIte, Nat.reduceEqDiff, RD]
      refine hKr _ _ ?_; clear hKr Kr; (try simp only [blkQ, thenQ, loopQ]); try simp only [RN, Bool.false_eq_true, reduceIte]
      refine T_reg_k fun Kr hKr => ?_; simp (disch := omega) only [RF, RO, RC, tup, ↓reduceIte, Nat.reduceEqDiff, RD, h6]; refine hKr _ _ ?_; clear hKr Kr
      refine hN (n - 1) _ _ (by omega) ⟨n - 1, by omega, rfl, rfl, by simp [RF, h0], by simp [RF, h1'], ?_, by simp [RF]; omega⟩
      rw [drop_el hn1, value_cons, Nat.sub_add_cancel (by omega)]
      simp [RF]
    · refine T_cseq (t := false) (by simp (disch := omega) only [RF, RO, RC, tup, ↓reduceIte, Nat.reduceEqDiff, decT, decF]) ?_; try simp only [RN, Bool.false_eq_true, reduceIte]
      refine hX _ _ ?_
      refine T_rseq fun Kr hKr => ?_; simp (disch := omega) only [RF, RO, RC, tup, ↓reduceIte, Nat.reduceEqDiff, RD, h5]; refine hKr _ _ ?_; clear hKr Kr; try simp only [RN, Bool.false_eq_true, reduceIte]
      refine ⟨_, rfl, ?_⟩; simp only [RF, ev_t, ev_c, tup, ↓reduceIte, Nat.reduceEqDiff]
      have : n = 0 := by omega
      subst this
      exact hK

end Go.Am

/- Slices that grow; polynomials cut at their end; slopes; stars. -/
set_option linter.unusedVariables false
set_option linter.unusedSimpArgs false
namespace Go.Am
open Go

theorem IsI.row {H : AHeap} {b o e n : Nat} {xs : List Int} (h : IsI H (S b o n e) xs) (hp : 0 < xs.length) : n = xs.length ∧ e = 1 ∧ b < H.n ∧ H.row b o (n * 1) = some (xs.map I) := by
  obtain ⟨b', o', blk, he, hb, hg, hl, hel⟩ := h.pos hp
  cases he
  refine ⟨rfl, rfl, hb, ?_⟩
  simp only [AHeap.row, hg, Nat.mul_one]
  rw [if_pos hl]
  congr 1
  apply List.ext_getElem?
  intro i
  rw [List.getElem?_take]
  split
  · rename_i hi
    rw [List.getElem?_drop, hel i hi]
    simp [hi, el, List.getD]
  · rename_i hi
    rw [List.getElem?_eq_none (by simp; omega)]
theorem all_I (xs : List Int) : (xs.map I).all (·.oneCell') = true := by
  rw [List.all_eq_true]
  intro v hv
  obtain ⟨n, _, rfl⟩ := List.mem_map.1 hv
  rfl
def newOf (xa : Option Addr) (xl e : Nat) (H : AHeap) : Option (List Value) :=
  match xa with
  | some ⟨b, o, none⟩ => if xl = 0 then some [] else H.row b o (xl * e)
  | none => if xl = 0 then some [] else none
  | _ => none
def putNew (e bytes : Nat) (s : Value) (xl : Nat) (H : AHeap) (new : List Value) : Option (Value × AHeap) :=
  match s with
  | .slice none 0 0 =>
    if xl = 0 then some (s, H)
    else if xl * bytes ≤ 140737488355328 then some (S H.n 0 xl e, H.alloc new) else none
  | .slice (some ⟨b, 0, none⟩) l e' =>
    if e' ≠ e then none else
    (match H.get b with
    | some blk =>
      if blk.rw = true ∧ l * e ≤ blk.cells.length ∧ (l + xl) * bytes ≤ 140737488355328 ∧ new.all (·.oneCell') = true
      then some (S H.n 0 (l + xl) e, (H.kill b).alloc (blk.cells.take (l * e) ++ new)) else none
    | none => none)
  | _ => none
theorem aAppend_eq {e bytes xl xe : Nat} {s : Value} {xa : Option Addr} {H : AHeap} {new : List Value} (h1 : ¬ (xl ≠ 0 ∧ xe ≠ e)) (h2 : newOf xa xl e H = some new) : aAppend e bytes s (.slice xa xl xe) H = putNew e bytes s xl H new := by
  simp only [aAppend, h1, if_false]
  rcases xa with _ | ⟨b, o, _ | sp⟩
  · simp only [newOf] at h2
    simp only [h2]
    rfl
  · simp only [newOf] at h2
    simp only [h2]
    rfl
  · simp [newOf] at h2
theorem appendS {lo hi : Nat} {H : AHeap} {v u : Value} {xs ys : List Int} (hv : OwnI lo hi H v xs) (hu : IsI H u ys) (hx : xs.length < 1000000) (hy : ys.length < 10000000) :
    ∃ v' H', aAppend 1 8 v u H = some (v', H') ∧ OwnI H.n H'.n H' v' (xs ++ ys) ∧ Out lo hi H H' := by
  have hrow : ∃ a e, u = .slice a ys.length e ∧ (ys.length ≠ 0 → e = 1) ∧ newOf a ys.length 1 H = some (ys.map I) := by
    rcases hu with ⟨rfl, rfl⟩ | ⟨b, o, blk, rfl, hb, hg, hl, hel⟩
    · exact ⟨none, 0, rfl, by simp, rfl⟩
    · refine ⟨_, _, rfl, fun _ => rfl, ?_⟩
      by_cases h0 : ys.length = 0
      · have : ys = [] := List.eq_nil_of_length_eq_zero h0
        subst this
        rfl
      · simp only [newOf, h0, if_false]
        exact (IsI.row (.inr ⟨b, o, blk, rfl, hb, hg, hl, hel⟩) (by omega)).2.2.2
  obtain ⟨a, e, rfl, he, hrow⟩ := hrow
  have hcond : ¬ (ys.length ≠ 0 ∧ e ≠ 1) := fun h => h.2 (he h.1)
  rcases hv with ⟨rfl, rfl⟩ | ⟨b, rest, rfl, h1, h2, h3, h4⟩
  · by_cases h0 : ys.length = 0
    · have : ys = [] := List.eq_nil_of_length_eq_zero h0
      subst this
      refine ⟨.slice none 0 0, H, ?_, .nil, .refl⟩
      rw [aAppend_eq hcond hrow]
      rfl
    · refine ⟨S H.n 0 ys.length 1, H.alloc (ys.map I), ?_, .inr ⟨H.n, [], by simp, Nat.le_refl _, Nat.lt_succ_self _, Nat.lt_succ_self _, by rw [get_alloc_same]; simp⟩, ⟨Nat.le_succ _, fun b hb _ => get_alloc_ne _ _ _ (by omega)⟩⟩
      rw [aAppend_eq hcond hrow]
      simp only [putNew, h0, if_false]
      rw [if_pos (by omega)]
  · refine ⟨S H.n 0 (xs.length + ys.length) 1, (H.kill b).alloc (xs.map I ++ ys.map I), ?_, .inr ⟨H.n, [], by simp, Nat.le_refl _, Nat.lt_succ_self _, Nat.lt_succ_self _, ?_⟩, ⟨Nat.le_succ _, fun x hx ho => ?_⟩⟩
    · rw [aAppend_eq hcond hrow]
      simp only [putNew, h4]
      rw [if_neg (by simp), if_pos ⟨trivial, by simp, by omega, all_I ys⟩]
      have : ((xs.map I ++ rest).take (xs.length * 1)) = xs.map I := by rw [Nat.mul_one, List.take_append_of_le_length (by simp), List.take_of_length_le (by simp)]
      rw [this]
    · have := get_alloc_same (H.kill b) (xs.map I ++ ys.map I)
      rw [show (H.kill b).n = H.n from rfl] at this
      rw [this]
      simp
    · rw [get_alloc_ne _ _ _ (by show x ≠ H.n; omega), get_kill_ne _ _ _ (by omega)]
theorem append1 {lo hi : Nat} {H : AHeap} {v : Value} {xs : List Int} (y : Int) (hv : OwnI lo hi H v xs) (hx : xs.length < 1000000) :
    ∃ v' H', aAppend 1 8 v (S H.n 0 1 1) (H.alloc [I y]) = some (v', H') ∧ OwnI H.n H'.n H' v' (xs ++ [y]) ∧ Out lo hi H H' := by
  have hu : IsI (H.alloc [I y]) (S H.n 0 1 1) [y] := .inr ⟨H.n, 0, _, rfl, Nat.lt_succ_self _, get_alloc_same _ _, by simp, fun i hi => by
    have : i = 0 := by simpa using hi
    subst this; rfl⟩
  obtain ⟨v', H', h1, h2, h3⟩ := appendS (hv.ext (Ext.alloc H [I y])) hu hx (by simp)
  exact ⟨v', H', h1, h2.weak (Nat.le_succ _) (Nat.le_refl _), ⟨Nat.le_trans (Nat.le_succ _) h3.n, fun b hb ho => (h3.get b (Nat.lt_succ_of_lt hb) ho).trans (get_alloc_ne _ _ _ (by omega))⟩⟩
theorem own_empty (H : AHeap) : OwnI H.n (H.n + 1) (H.alloc []) (S H.n 0 0 1) [] := .inr ⟨H.n, [], by simp, Nat.le_refl _, Nat.lt_succ_self _, Nat.lt_succ_self _, by rw [get_alloc_same]; rfl⟩

/-- How many are left when zeros at the end are cut off the first n. -/
def tl (xs : List Int) : Nat → Nat
  | 0 => 0
  | n + 1 => if el xs n = 0 then tl xs n else n + 1
def trim (xs : List Int) : List Int := xs.take (tl xs xs.length)
theorem tl_le (xs : List Int) : ∀ n, tl xs n ≤ n
  | 0 => Nat.le_refl _
  | n + 1 => by
    simp only [tl]
    split
    · exact Nat.le_succ_of_le (tl_le xs n)
    · exact Nat.le_refl _
theorem tl_stop {xs : List Int} {n : Nat} (h : n = 0 ∨ el xs (n - 1) ≠ 0) : tl xs n = n := by
  cases n with
  | zero => rfl
  | succ n => simp only [tl]; rw [if_neg (by simpa using h)]
theorem tl_step {xs : List Int} {n : Nat} (h : 0 < n) (hz : el xs (n - 1) = 0) : tl xs n = tl xs (n - 1) := by
  cases n with
  | zero => omega
  | succ n => simp only [tl]; rw [if_pos (by simpa using hz)]; rfl
theorem trim_len (xs : List Int) : (trim xs).length = tl xs xs.length := by
  rw [trim, List.length_take, Nat.min_eq_left (tl_le _ _)]
theorem trim_le (xs : List Int) : (trim xs).length ≤ xs.length := by rw [trim_len]; exact tl_le _ _

theorem l01Own_spec {H : AHeap} {v : Value} {xs : List Int} {K : Value → AHeap → Prop} (hx : IsI H v xs) (hl : xs.length < 100000) (hK : ∀ v' H', Ext H H' → OwnI H.n H'.n H' v' xs → K v' H') : CallT F_spec_l01Own [v] H K := by
  obtain ⟨v', H', ha, ho, hout⟩ := appendS (own_empty H) (hx.ext (Ext.alloc H [])) (by simp) (by omega)
  refine CallT_body Γ_spec_l01Own ?_; simp only [A_spec_l01Own, T_aiff]
  refine T_rseq fun Kr hKr => ?_; simp (disch := omega) only [RF, RO, RC, tup, ↓reduceIte, Nat.reduceEqDiff, RD]; refine hKr _ _ ?_; clear hKr Kr; try simp only [RN, Bool.false_eq_true, reduceIte]
  refine T_rseq fun Kr hKr => ?_; simp (disch := omega) only [RF, RO, RC, tup, ↓reduceIte, Nat.reduceEqDiff, RD, ha]; refine hKr _ _ ?_; clear hKr Kr; try simp only [RN, Bool.false_eq_true, reduceIte]
  refine ⟨_, rfl, ?_⟩; simp only [RF, ev_t, ev_c, tup, ↓reduceIte, Nat.reduceEqDiff]
  refine hK _ _ ⟨Nat.le_trans (Nat.le_succ _) hout.n, fun b hb => (hout.get b (Nat.lt_succ_of_lt hb) (.inl hb)).trans (get_alloc_ne _ _ _ (by omega))⟩ ?_
  simpa using ho.weak (Nat.le_succ _) (Nat.le_refl _)

theorem IsI.pre {H : AHeap} {b o e n : Nat} {xs : List Int} (h : IsI H (S b o n e) xs) (he : e = 1) {k : Nat} (hk : k ≤ xs.length) : IsI H (S b o k 1) (xs.take k) ∨ (k = 0 ∧ e = 1) := by
  rcases h with ⟨h, _⟩ | ⟨b', o', blk, heq, hb, hg, hl, hel⟩
  · cases h
  · cases heq
    refine .inl (.inr ⟨b, o, blk, by rw [List.length_take, Nat.min_eq_left hk], hb, hg, by rw [List.length_take]; omega, fun i hi => ?_⟩)
    rw [List.length_take] at hi
    rw [hel i (by omega)]
    simp [el, List.getD, show i < k by omega]

theorem l06Trim_spec {H : AHeap} {v : Value} {xs : List Int} {K : Value → AHeap → Prop} (hx : IsI H v xs) (hl : xs.length < 100000) (hK : ∀ v' H', Ext H H' → OwnI H.n H'.n H' v' (trim xs) → K v' H') : CallT F_spec_l06Trim [v] H K := by
  obtain ⟨a, e, rfl⟩ := hx.len
  refine CallT_body Γ_spec_l06Trim ?_; simp only [A_spec_l06Trim, T_aiff]
  refine T_rseq fun Kr hKr => ?_; simp (disch := omega) only [RF, RO, RC, tup, ↓reduceIte, Nat.reduceEqDiff, RD]; refine hKr _ _ ?_; clear hKr Kr; try simp only [RN, Bool.false_eq_true, reduceIte]
  refine T_rseq fun Kr hKr => ?_; simp (disch := omega) only [RF, RO, RC, tup, ↓reduceIte, Nat.reduceEqDiff, RD]; refine hKr _ _ ?_; clear hKr Kr; try simp only [RN, Bool.false_eq_true, reduceIte]
  refine T_wloop (fun n f H' => n ≤ xs.length ∧ H' = H ∧ f 0 = .slice a xs.length e ∧ f 3 = I n ∧ tl xs n = tl xs xs.length) (xs.length) ?_ ?_
  · exact ⟨Nat.le_refl _, rfl, by simp [RF], by simp [RF], rfl⟩
  · rintro n f H' R ⟨hk, rfl, h0, h3, ht⟩ hN hX hR
    simp only [A_spec_l06Trim.l0, T_aiff]
    have hexit : ∀ f' : Fr, f' 0 = .slice a xs.length e → f' 3 = I n → (n = 0 ∨ el xs (n - 1) ≠ 0) → T (ACode.seq A_spec_l06Trim.r4 .ret) (bodyQ [ARes.tmp 2] K) f' H' := by
      intro f' h0 h3 hs
      have htn := tl_stop hs
      rw [ht] at htn
      have htrim : trim xs = xs.take n := by rw [trim, htn]
      rcases hx with ⟨heq, rfl⟩ | ⟨b, o, blk, heq, hb, hg, hl', hel⟩
      · cases heq
        obtain rfl : n = 0 := by simpa using hk
        simp only [List.length_nil] at h0
        refine T_rseq fun Kr hKr => ?_; simp (disch := omega) only [RF, RO, RC, tup, ↓reduceIte, Nat.reduceEqDiff, RD, h0, h3, List.length_nil]
        refine l01Own_spec (.inl ⟨rfl, rfl⟩) (by simp) fun v' H' he ho => ?_
        simp (disch := omega) only [RF, RO, RC, tup, ↓reduceIte, Nat.reduceEqDiff, RD]
        refine hKr _ _ ?_; clear hKr Kr; (try simp only [blkQ, thenQ, loopQ]); try simp only [RN, Bool.false_eq_true, reduceIte]
        refine ⟨_, rfl, ?_⟩; simp only [RF, ev_t, ev_c, tup, ↓reduceIte, Nat.reduceEqDiff]
        exact hK _ _ he (by rw [htrim]; simpa using ho)
      · cases heq
        have hx' : IsI H' (S b o n 1) (xs.take n) := .inr ⟨b, o, blk, by rw [List.length_take, Nat.min_eq_left hk], hb, hg, by rw [List.length_take]; omega, fun i hi => by
          rw [List.length_take] at hi
          rw [hel i (by omega)]
          simp [el, List.getD, show i < n by omega]⟩
        refine T_rseq fun Kr hKr => ?_; simp (disch := omega) only [RF, RO, RC, tup, ↓reduceIte, Nat.reduceEqDiff, RD, h0, h3]
        refine l01Own_spec hx' (by rw [List.length_take]; omega) fun v' H' he ho => ?_
        simp (disch := omega) only [RF, RO, RC, tup, ↓reduceIte, Nat.reduceEqDiff, RD]
        refine hKr _ _ ?_; clear hKr Kr; (try simp only [blkQ, thenQ, loopQ]); try simp only [RN, Bool.false_eq_true, reduceIte]
        refine ⟨_, rfl, ?_⟩; simp only [RF, ev_t, ev_c, tup, ↓reduceIte, Nat.reduceEqDiff]
        exact hK _ _ he (by rw [htrim]; exact ho)
    by_cases hn : 0 < n
    · obtain ⟨b, o, blk, heq, hb, hg, hlen, hel⟩ := hx.pos (by omega)
      cases heq
      have hi : (n : Int) - 1 = ((n - 1 : Nat) : Int) := by omega
      have hn1 : n - 1 < xs.length := by omega
      by_cases hz : el xs (n - 1) = 0
      · refine T_rseq fun Kr hKr => ?_; simp (disch := omega) only [RF, RO, RC, tup, ↓reduceIte, Nat.reduceEqDiff, reduceCtorEq, RD, h0, h3, hi, hn1, hg, hel, hz]; refine hKr _ _ ?_; clear hKr Kr; try simp only [RN, Bool.false_eq_true, reduceIte]
        refine T_cseq (t := true) (by simp (disch := omega) only [RF, RO, RC, tup, ↓reduceIte, Nat.reduceEqDiff, decT, decF]) ?_; try simp only [RN, Bool.false_eq_true, reduceIte]
        (first | refine T_bfree rfl ?_ | refine T_bfree' rfl ?_); try simp only [RN, Bool.false_eq_true, reduceIte]
        refine T_reg_k fun Kr hKr => ?_; simp (disch := omega) only [RF, RO, RC, tup, ↓reduceIte, Nat.reduceEqDiff, RD, h3, hi]; refine hKr _ _ ?_; clear hKr Kr
        refine hN (n - 1) _ _ (by omega) ⟨by omega, rfl, by simp [RF, h0], by simp [RF], by rw [← tl_step hn hz]; exact ht⟩
      · refine T_rseq fun Kr hKr => ?_; simp (disch := omega) only [RF, RO, RC, tup, ↓reduceIte, Nat.reduceEqDiff, reduceCtorEq, RD, h0, h3, hi, hn1, hg, hel, hz]; refine hKr _ _ ?_; clear hKr Kr; try simp only [RN, Bool.false_eq_true, reduceIte]
        refine T_cseq (t := false) (by simp (disch := omega) only [RF, RO, RC, tup, ↓reduceIte, Nat.reduceEqDiff, decT, decF]) ?_; try simp only [RN, Bool.false_eq_true, reduceIte]
        refine hX _ _ (hexit _ (by simp [RF, h0]) (by simp [RF, h3]) (.inr hz))
    · refine T_rseq fun Kr hKr => ?_; simp (disch := omega) only [RF, RO, RC, tup, ↓reduceIte, Nat.reduceEqDiff, RD, h0, h3]; refine hKr _ _ ?_; clear hKr Kr; try simp only [RN, Bool.false_eq_true, reduceIte]
      refine T_cseq (t := false) (by simp (disch := omega) only [RF, RO, RC, tup, ↓reduceIte, Nat.reduceEqDiff, decT, decF]) ?_; try simp only [RN, Bool.false_eq_true, reduceIte]
      refine hX _ _ (hexit _ (by simp [RF, h0]) (by simp [RF, h3]) (.inl (by omega)))

theorem OwnI.pre {lo hi : Nat} {H : AHeap} {b n e : Nat} {xs : List Int} (h : OwnI lo hi H (S b 0 n e) xs) {k : Nat} (hk : k ≤ xs.length) : OwnI lo hi H (S b 0 k 1) (xs.take k) := by
  rcases h with ⟨h, _⟩ | ⟨b', rest, heq, h1, h2, h3, h4⟩
  · cases h
  · cases heq
    refine .inr ⟨b, (xs.drop k).map I ++ rest, by rw [List.length_take, Nat.min_eq_left hk], h1, h2, h3, ?_⟩
    rw [h4, ← List.append_assoc, ← List.map_append, List.take_append_drop]

theorem cut_spec {lo hi : Nat} {H : AHeap} {v : Value} {xs : List Int} {K : Value → AHeap → Prop} (hx : OwnI lo hi H v xs) (hl : xs.length < 100000) (hK : ∀ v', OwnI lo hi H v' (trim xs) → K v' H) : CallT F_impl_cut [v] H K := by
  refine CallT_body Γ_impl_cut ?_; simp only [A_impl_cut, T_aiff]
  refine T_rseq fun Kr hKr => ?_; simp (disch := omega) only [RF, RO, RC, tup, ↓reduceIte, Nat.reduceEqDiff, RD]; refine hKr _ _ ?_; clear hKr Kr; try simp only [RN, Bool.false_eq_true, reduceIte]
  refine T_wloop (fun n f H' => n ≤ xs.length ∧ H' = H ∧ (∃ u, f 0 = u ∧ OwnI lo hi H u (xs.take n)) ∧ tl xs n = tl xs xs.length) (xs.length) ?_ ?_
  · exact ⟨Nat.le_refl _, rfl, ⟨v, by simp [RF], by simpa using hx⟩, rfl⟩
  · rintro n f H' R ⟨hk, rfl, ⟨u, h0, hu⟩, ht⟩ hN hX hR
    simp only [A_impl_cut.l0, T_aiff]
    obtain ⟨a, e, rfl⟩ := hu.len
    have hlen : (xs.take n).length = n := by rw [List.length_take, Nat.min_eq_left hk]
    rw [hlen] at hu h0
    have hexit : ∀ f' : Fr, f' 0 = .slice a n e → (n = 0 ∨ el xs (n - 1) ≠ 0) → T (ACode.seq A_impl_cut.r3 .ret) (bodyQ [ARes.tmp 2] K) f' H' := by
      intro f' h0 hs
      have htn := tl_stop hs
      rw [ht] at htn
      refine T_rseq fun Kr hKr => ?_; simp (disch := omega) only [RF, RO, RC, tup, ↓reduceIte, Nat.reduceEqDiff, RD, h0]; refine hKr _ _ ?_; clear hKr Kr; try simp only [RN, Bool.false_eq_true, reduceIte]
      refine ⟨_, rfl, ?_⟩; simp only [RF, ev_t, ev_c, tup, ↓reduceIte, Nat.reduceEqDiff]
      exact hK _ (by rw [trim, htn]; exact hu)
    by_cases hn : 0 < n
    · obtain ⟨b, rest, heq, h1, h2, h3, hg⟩ := hu.pos (by omega)
      rw [hlen] at heq
      cases heq
      have hi : (n : Int) - 1 = ((n - 1 : Nat) : Int) := by omega
      have hn1 : n - 1 < n := by omega
      have hc : (List.map I (List.take n xs) ++ rest)[0 + (n - 1)]? = some (I (el xs (n - 1))) := by
        rw [Nat.zero_add, get_own (by omega)]
        simp [el, List.getD, hn1]
      simp only [Nat.zero_add] at hc
      generalize hcs : List.map I (List.take n xs) ++ rest = cs at hg hc
      by_cases hz : el xs (n - 1) = 0
      · refine T_rseq fun Kr hKr => ?_; simp (disch := omega) only [RF, RO, RC, tup, ↓reduceIte, Nat.reduceEqDiff, reduceCtorEq, RD, h0, hi, hn1, hg, hc, hz]; refine hKr _ _ ?_; clear hKr Kr; try simp only [RN, Bool.false_eq_true, reduceIte]
        refine T_cseq (t := true) (by simp (disch := omega) only [RF, RO, RC, tup, ↓reduceIte, Nat.reduceEqDiff, decT, decF]) ?_; try simp only [RN, Bool.false_eq_true, reduceIte]
        (first | refine T_bfree rfl ?_ | refine T_bfree' rfl ?_); try simp only [RN, Bool.false_eq_true, reduceIte]
        refine T_reg_k fun Kr hKr => ?_; simp (disch := omega) only [RF, RO, RC, tup, ↓reduceIte, Nat.reduceEqDiff, RD, h0, hi]; refine hKr _ _ ?_; clear hKr Kr
        have hp := hu.pre (k := n - 1) (by omega)
        rw [List.take_take, Nat.min_eq_left (by omega)] at hp
        refine hN (n - 1) _ _ (by omega) ⟨by omega, rfl, ⟨S b 0 (n - 1) 1, by simp [RF], hp⟩, by rw [← tl_step hn hz]; exact ht⟩
      · refine T_rseq fun Kr hKr => ?_; simp (disch := omega) only [RF, RO, RC, tup, ↓reduceIte, Nat.reduceEqDiff, reduceCtorEq, RD, h0, hi, hn1, hg, hc, hz]; refine hKr _ _ ?_; clear hKr Kr; try simp only [RN, Bool.false_eq_true, reduceIte]
        refine T_cseq (t := false) (by simp (disch := omega) only [RF, RO, RC, tup, ↓reduceIte, Nat.reduceEqDiff, decT, decF]) ?_; try simp only [RN, Bool.false_eq_true, reduceIte]
        refine hX _ _ (hexit _ (by simp [RF, h0]) (.inr hz))
    · refine T_rseq fun Kr hKr => ?_; simp (disch := omega) only [RF, RO, RC, tup, ↓reduceIte, Nat.reduceEqDiff, RD, h0]; refine hKr _ _ ?_; clear hKr Kr; try simp only [RN, Bool.false_eq_true, reduceIte]
      refine T_cseq (t := false) (by simp (disch := omega) only [RF, RO, RC, tup, ↓reduceIte, Nat.reduceEqDiff, decT, decF]) ?_; try simp only [RN, Bool.false_eq_true, reduceIte]
      refine hX _ _ (hexit _ (by simp [RF, h0]) (.inl (by omega)))
end Go.Am

/- Slopes and stars. -/
set_option linter.unusedVariables false
set_option linter.unusedSimpArgs false
namespace Go.Am
open Go

theorem Out.refl' (lo hi : Nat) (H : AHeap) : Out lo hi H H := ⟨Nat.le_refl _, fun _ _ _ => rfl⟩
/-- The first n of a rule. -/
def gen (n : Nat) (g : Nat → Int) : List Int := (List.range n).map g
theorem gen_len (n : Nat) (g : Nat → Int) : (gen n g).length = n := by simp [gen]
theorem gen_succ (n : Nat) (g : Nat → Int) : gen (n + 1) g = gen n g ++ [g n] := by simp [gen, List.range_succ]
theorem el_gen {n i : Nat} {g : Nat → Int} (h : i < n) : el (gen n g) i = g i := by simp [el, gen, List.getD, h]
theorem el_out {xs : List Int} {i : Nat} (h : xs.length ≤ i) : el xs i = 0 := by simp [el, List.getD, List.getElem?_eq_none h]
theorem el_trim (xs : List Int) (i : Nat) : el (trim xs) i = el xs i := by
  have key : ∀ n, ∀ i, tl xs n ≤ i → i < n → el xs i = 0 := by
    intro n
    induction n with
    | zero => intro i _ h; omega
    | succ n ih =>
      intro i h1 h2
      simp only [tl] at h1
      split at h1
      · rename_i hz
        by_cases h : i = n
        · subst h; exact hz
        · exact ih i h1 (by omega)
      · omega
  by_cases h : i < tl xs xs.length
  · simp [el, trim, List.getD, h]
  · rw [el_out (by rw [trim_len]; omega)]
    by_cases h' : i < xs.length
    · exact (key _ i (by omega) h').symm
    · exact (el_out (by omega)).symm
def slope (xs : List Int) : List Int := trim (gen (xs.length - 1) fun i => md (el xs (i + 1) * ((i : Int) + 1)))
theorem slope_len (xs : List Int) : (slope xs).length ≤ xs.length - 1 := by
  have := trim_le (gen (xs.length - 1) fun i => md (el xs (i + 1) * ((i : Int) + 1)))
  rwa [gen_len] at this

theorem l06Slope_spec {H : AHeap} {v : Value} {xs : List Int} {K : Value → AHeap → Prop} (hx : IsI H v xs) (hf : Fit xs) (hl : xs.length < 10000) (hK : ∀ v' H', Ext H H' → OwnI H.n H'.n H' v' (slope xs) → K v' H') : CallT F_spec_l06Slope [v] H K := by
  obtain ⟨a, e, rfl⟩ := hx.len
  refine CallT_body Γ_spec_l06Slope ?_; simp only [A_spec_l06Slope, T_aiff]
  refine T_rseq fun Kr hKr => ?_; simp (disch := omega) only [RF, RO, RC, tup, ↓reduceIte, Nat.reduceEqDiff, RD]; refine hKr _ _ ?_; clear hKr Kr; try simp only [RN, Bool.false_eq_true, reduceIte]
  refine T_rseq fun Kr hKr => ?_; simp (disch := omega) only [RF, RO, RC, tup, ↓reduceIte, Nat.reduceEqDiff, RD]; refine hKr _ _ ?_; clear hKr Kr; try simp only [RN, Bool.false_eq_true, reduceIte]
  refine T_rseq fun Kr hKr => ?_; simp (disch := omega) only [RF, RO, RC, tup, ↓reduceIte, Nat.reduceEqDiff, RD]; refine hKr _ _ ?_; clear hKr Kr; try simp only [RN, Bool.false_eq_true, reduceIte]
  refine T_wloop (fun n f H' => ∃ k lo hi u, k ≤ xs.length - 1 ∧ n = xs.length - 1 - k ∧ Ext H H' ∧ H.n ≤ lo ∧ hi ≤ H'.n ∧ f 0 = .slice a xs.length e ∧ f 3 = u ∧ f 4 = I ((k + 1 : Nat) : Int) ∧ OwnI lo hi H' u (gen k fun i => md (el xs (i + 1) * ((i : Int) + 1)))) (xs.length - 1) ?_ ?_
  · exact ⟨0, H.n, H.n + 1, S H.n 0 0 1, by omega, by omega, Ext.alloc _ _, Nat.le_refl _, Nat.le_refl _, by simp [RF], by simp [RF], by simp [RF], own_empty H⟩
  · rintro n f H' R ⟨k, lo, hi, u, hk, rfl, he, hlo, hhi, h0, h3, h4, ho⟩ hN hX hR
    simp only [A_spec_l06Slope.l0, T_aiff]
    refine T_rseq fun Kr hKr => ?_; simp (disch := omega) only [RF, RO, RC, tup, ↓reduceIte, Nat.reduceEqDiff, RD, h0, h4]; refine hKr _ _ ?_; clear hKr Kr; try simp only [RN, Bool.false_eq_true, reduceIte]
    by_cases hlt : k + 1 < xs.length
    · refine T_cseq (t := true) (by simp (disch := omega) only [RF, RO, RC, tup, ↓reduceIte, Nat.reduceEqDiff, decT, decF]) ?_; try simp only [RN, Bool.false_eq_true, reduceIte]
      (first | refine T_bfree rfl ?_ | refine T_bfree' rfl ?_); try simp only [RN, Bool.false_eq_true, reduceIte]
      obtain ⟨b, o, blk, heq, hb, hg, hlen, hel⟩ := (hx.ext he).pos (by omega)
      cases heq
      have hfk := hf (k + 1) hlt
      have hm := mulb hfk.1 (by omega) (b := ((k + 1 : Nat) : Int)) (by omega) (by omega)
      obtain ⟨v', H2, ha, ho2, hout⟩ := append1 (md (el xs (k + 1) * ((k + 1 : Nat) : Int))) ho (by rw [gen_len]; omega)
      refine T_rseq fun Kr hKr => ?_; simp (disch := omega) only [RF, RO, RC, tup, ↓reduceIte, Nat.reduceEqDiff, RD, h0, h3, h4, hlt, hg, hel]
      refine l06Mod_spec (by omega) (by omega) ?_
      simp (disch := omega) only [RF, RO, RC, tup, ↓reduceIte, Nat.reduceEqDiff, RD, ha]
      refine hKr _ _ ?_; clear hKr Kr; (try simp only [blkQ, thenQ, loopQ]); try simp only [RN, Bool.false_eq_true, reduceIte]
      refine T_reg_k fun Kr hKr => ?_; simp (disch := omega) only [RF, RO, RC, tup, ↓reduceIte, Nat.reduceEqDiff, RD, h4]; refine hKr _ _ ?_; clear hKr Kr
      refine hN (xs.length - 1 - (k + 1)) _ _ (by omega) ⟨k + 1, _, _, v', by omega, rfl, he.out hout hlo, Nat.le_trans he.n (Nat.le_refl _), Nat.le_refl _, by simp [RF, h0], by simp [RF], by simp [RF], ?_⟩
      rw [gen_succ]
      simpa using ho2
    · refine T_cseq (t := false) (by simp (disch := omega) only [RF, RO, RC, tup, ↓reduceIte, Nat.reduceEqDiff, decT, decF]) ?_; try simp only [RN, Bool.false_eq_true, reduceIte]
      refine hX _ _ ?_
      have hkk : k = xs.length - 1 := by omega
      subst hkk
      refine T_rseq fun Kr hKr => ?_; simp (disch := omega) only [RF, RO, RC, tup, ↓reduceIte, Nat.reduceEqDiff, RD, h3]
      refine l06Trim_spec ho.is (by rw [gen_len]; omega) fun v' H2 he2 ho2 => ?_
      simp (disch := omega) only [RF, RO, RC, tup, ↓reduceIte, Nat.reduceEqDiff, RD]
      refine hKr _ _ ?_; clear hKr Kr; (try simp only [blkQ, thenQ, loopQ]); try simp only [RN, Bool.false_eq_true, reduceIte]
      refine ⟨_, rfl, ?_⟩; simp only [RF, ev_t, ev_c, tup, ↓reduceIte, Nat.reduceEqDiff]
      exact hK _ _ (he.trans' he2) (ho2.weak he.n (Nat.le_refl _))

theorem derivative_spec {H : AHeap} {v : Value} {xs : List Int} {K : Value → AHeap → Prop} (hx : IsI H v xs) (hf : Fit xs) (hl : xs.length < 10000) (hK : ∀ v' H', Ext H H' → OwnI H.n H'.n H' v' (slope xs) → K v' H') : CallT F_impl_derivative [v] H K := by
  obtain ⟨a, e, rfl⟩ := hx.len
  refine CallT_body Γ_impl_derivative ?_; simp only [A_impl_derivative, T_aiff]
  refine T_rseq fun Kr hKr => ?_; simp (disch := omega) only [RF, RO, RC, tup, ↓reduceIte, Nat.reduceEqDiff, RD]; refine hKr _ _ ?_; clear hKr Kr; try simp only [RN, Bool.false_eq_true, reduceIte]
  refine T_rseq fun Kr hKr => ?_; simp (disch := omega) only [RF, RO, RC, tup, ↓reduceIte, Nat.reduceEqDiff, RD]; refine hKr _ _ ?_; clear hKr Kr; try simp only [RN, Bool.false_eq_true, reduceIte]
  refine T_rseq fun Kr hKr => ?_; simp (disch := omega) only [RF, RO, RC, tup, ↓reduceIte, Nat.reduceEqDiff, RD]; refine hKr _ _ ?_; clear hKr Kr; try simp only [RN, Bool.false_eq_true, reduceIte]
  refine T_wloop (fun n f H' => ∃ k lo hi u, k ≤ xs.length - 1 ∧ n = xs.length - 1 - k ∧ Ext H H' ∧ H.n ≤ lo ∧ hi ≤ H'.n ∧ f 0 = .slice a xs.length e ∧ f 3 = u ∧ f 4 = I ((k + 1 : Nat) : Int) ∧ OwnI lo hi H' u (gen k fun i => md (el xs (i + 1) * ((i : Int) + 1)))) (xs.length - 1) ?_ ?_
  · exact ⟨0, H.n, H.n + 1, S H.n 0 0 1, by omega, by omega, Ext.alloc _ _, Nat.le_refl _, Nat.le_refl _, by simp [RF], by simp [RF], by simp [RF], own_empty H⟩
  · rintro n f H' R ⟨k, lo, hi, u, hk, rfl, he, hlo, hhi, h0, h3, h4, ho⟩ hN hX hR
    simp only [A_impl_derivative.l0, T_aiff]
    refine T_rseq fun Kr hKr => ?_; simp (disch := omega) only [RF, RO, RC, tup, ↓reduceIte, Nat.reduceEqDiff, RD, h0, h4]; refine hKr _ _ ?_; clear hKr Kr; try simp only [RN, Bool.false_eq_true, reduceIte]
    by_cases hlt : k + 1 < xs.length
    · refine T_cseq (t := true) (by simp (disch := omega) only [RF, RO, RC, tup, ↓reduceIte, Nat.reduceEqDiff, decT, decF]) ?_; try simp only [RN, Bool.false_eq_true, reduceIte]
      (first | refine T_bfree rfl ?_ | refine T_bfree' rfl ?_); try simp only [RN, Bool.false_eq_true, reduceIte]
      obtain ⟨b, o, blk, heq, hb, hg, hlen, hel⟩ := (hx.ext he).pos (by omega)
      cases heq
      have hfk := hf (k + 1) hlt
      have hm := mulb hfk.1 (by omega) (b := ((k + 1 : Nat) : Int)) (by omega) (by omega)
      obtain ⟨v', H2, ha, ho2, hout⟩ := append1 (md (el xs (k + 1) * ((k + 1 : Nat) : Int))) ho (by rw [gen_len]; omega)
      refine T_rseq fun Kr hKr => ?_; simp (disch := omega) only [RF, RO, RC, tup, ↓reduceIte, Nat.reduceEqDiff, RD, h0, h3, h4, hlt, hg, hel, ifz, tmodm, ha]; refine hKr _ _ ?_; clear hKr Kr; try simp only [RN, Bool.false_eq_true, reduceIte]
      refine T_reg_k fun Kr hKr => ?_; simp (disch := omega) only [RF, RO, RC, tup, ↓reduceIte, Nat.reduceEqDiff, RD, h4]; refine hKr _ _ ?_; clear hKr Kr
      refine hN (xs.length - 1 - (k + 1)) _ _ (by omega) ⟨k + 1, _, _, v', by omega, rfl, he.out hout hlo, Nat.le_trans he.n (Nat.le_refl _), Nat.le_refl _, by simp [RF, h0], by simp [RF], by simp [RF], ?_⟩
      rw [gen_succ]
      simpa using ho2
    · refine T_cseq (t := false) (by simp (disch := omega) only [RF, RO, RC, tup, ↓reduceIte, Nat.reduceEqDiff, decT, decF]) ?_; try simp only [RN, Bool.false_eq_true, reduceIte]
      refine hX _ _ ?_
      have hkk : k = xs.length - 1 := by omega
      subst hkk
      refine T_rseq fun Kr hKr => ?_; simp (disch := omega) only [RF, RO, RC, tup, ↓reduceIte, Nat.reduceEqDiff, RD, h3]
      refine cut_spec ho (by rw [gen_len]; omega) fun v' ho2 => ?_
      simp (disch := omega) only [RF, RO, RC, tup, ↓reduceIte, Nat.reduceEqDiff, RD]
      refine hKr _ _ ?_; clear hKr Kr; (try simp only [blkQ, thenQ, loopQ]); try simp only [RN, Bool.false_eq_true, reduceIte]
      refine ⟨_, rfl, ?_⟩; simp only [RF, ev_t, ev_c, tup, ↓reduceIte, Nat.reduceEqDiff]
      exact hK _ _ he (ho2.weak hlo hhi)

theorem isPower_spec {x : Int} {H : AHeap} {K : Value → AHeap → Prop} (hK : K (.bool (decide (1 ≤ x ∧ x ≤ 16))) H) : CallT F_impl_isPower [I x] H K := by
  refine CallT_body Γ_impl_isPower ?_; simp only [A_impl_isPower, T_aiff]
  refine T_rseq fun Kr hKr => ?_; simp (disch := omega) only [RF, RO, RC, tup, ↓reduceIte, Nat.reduceEqDiff, RD]; refine hKr _ _ ?_; clear hKr Kr; try simp only [RN, Bool.false_eq_true, reduceIte]
  by_cases h : 1 ≤ x
  · refine T_rseq fun Kr hKr => ?_; simp (disch := omega) only [RF, RO, RC, tup, ↓reduceIte, Nat.reduceEqDiff, RD, h]; refine hKr _ _ ?_; clear hKr Kr; try simp only [RN, Bool.false_eq_true, reduceIte]
    refine ⟨_, rfl, ?_⟩; simp only [RF, ev_t, ev_c, tup, ↓reduceIte, Nat.reduceEqDiff, h]
    simpa [h] using hK
  · refine T_rseq fun Kr hKr => ?_; simp (disch := omega) only [RF, RO, RC, tup, ↓reduceIte, Nat.reduceEqDiff, RD, h]; refine hKr _ _ ?_; clear hKr Kr; try simp only [RN, Bool.false_eq_true, reduceIte]
    refine ⟨_, rfl, ?_⟩; simp only [RF, ev_t, ev_c, tup, ↓reduceIte, Nat.reduceEqDiff, h]
    simpa [h] using hK
def monom (k : Int) (n : Nat) : List Int := List.replicate n 0 ++ [k]
theorem l06Monomial_spec {k : Int} {n : Nat} {H : AHeap} {K : Value → AHeap → Prop} (hn : n < 1000) (hK : ∀ v' H', Ext H H' → OwnI H.n H'.n H' v' (monom k n) → K v' H') : CallT F_spec_l06Monomial [I k, I n] H K := by
  obtain ⟨v', H2, ha, ho2, hout⟩ := append1 k (own_make H n) (by simp; omega)
  refine CallT_body Γ_spec_l06Monomial ?_; simp only [A_spec_l06Monomial, T_aiff]
  refine T_rseq fun Kr hKr => ?_; simp (disch := omega) only [RF, RO, RC, tup, ↓reduceIte, Nat.reduceEqDiff, RD]; refine hKr _ _ ?_; clear hKr Kr; try simp only [RN, Bool.false_eq_true, reduceIte]
  refine T_rseq fun Kr hKr => ?_; simp (disch := omega) only [RF, RO, RC, tup, ↓reduceIte, Nat.reduceEqDiff, RD, ha]; refine hKr _ _ ?_; clear hKr Kr; try simp only [RN, Bool.false_eq_true, reduceIte]
  refine ⟨_, rfl, ?_⟩; simp only [RF, ev_t, ev_c, tup, ↓reduceIte, Nat.reduceEqDiff]
  exact hK _ _ ((Ext.alloc _ _).out hout (Nat.le_refl _)) (ho2.weak (Nat.le_succ _) (Nat.le_refl _))
def resStarPolynomial (a : Int) : List Int × Int := if 1 ≤ a ∧ a ≤ 16 then (monom 1 a.toNat, 0) else ([], 2)
theorem resStarPolynomial_len (a : Int) : (resStarPolynomial a).1.length < 1000 := by
  unfold resStarPolynomial
  split
  · simp [monom]; omega
  · simp
theorem StarPolynomial_spec {H : AHeap} {a : Int} {K : Value → AHeap → Prop} (hb : -9223372036854775808 ≤ a ∧ a < 9223372036854775808)
    (hK : ∀ v' H', Ext H H' → OwnI H.n H'.n H' v' (resStarPolynomial a).1 → K (.tuple ⟨[v', I (resStarPolynomial a).2]⟩) H') : CallT F_spec_StarPolynomial [I a] H K := by
  refine CallT_body Γ_spec_StarPolynomial ?_; simp only [A_spec_StarPolynomial, T_aiff]
  refine T_rseq fun Kr hKr => ?_; simp (disch := omega) only [RF, RO, RC, tup, ↓reduceIte, Nat.reduceEqDiff, RD]; refine hKr _ _ ?_; clear hKr Kr; try simp only [RN, Bool.false_eq_true, reduceIte]
  refine T_rseq fun Kr hKr => ?_; simp (disch := omega) only [RF, RO, RC, tup, ↓reduceIte, Nat.reduceEqDiff, reduceCtorEq, RD]
  refine l01In_spec ?_
  by_cases hp : 1 ≤ a ∧ a ≤ 16
  · rw [decide_eq_true hp]
    simp only [resStarPolynomial, hp, and_self, if_true] at hK
    simp (disch := omega) only [RF, RO, RC, tup, ↓reduceIte, Nat.reduceEqDiff, RD]
    refine hKr _ _ ?_; clear hKr Kr; (try simp only [blkQ, thenQ, loopQ]); try simp only [RN, Bool.false_eq_true, reduceIte]
    refine T_cseq (t := false) (by simp (disch := omega) only [RF, RO, RC, tup, ↓reduceIte, Nat.reduceEqDiff, decT, decF]) ?_; try simp only [RN, Bool.false_eq_true, reduceIte]
    obtain ⟨n, rfl⟩ := Int.eq_ofNat_of_zero_le (show 0 ≤ a by omega)
    refine T_rseq fun Kr hKr => ?_; simp (disch := omega) only [RF, RO, RC, tup, ↓reduceIte, Nat.reduceEqDiff, reduceCtorEq, RD]
    refine l06Monomial_spec (by omega) fun v' H' he ho => ?_
    simp (disch := omega) only [RF, RO, RC, tup, ↓reduceIte, Nat.reduceEqDiff, RD]
    refine hKr _ _ ?_; clear hKr Kr; (try simp only [blkQ, thenQ, loopQ]); try simp only [RN, Bool.false_eq_true, reduceIte]
    refine ⟨_, rfl, ?_⟩; simp only [RF, ev_t, ev_c, tup, ↓reduceIte, Nat.reduceEqDiff]
    exact hK _ _ he ho
  · rw [decide_eq_false hp]
    simp only [resStarPolynomial, hp, if_false] at hK
    simp (disch := omega) only [RF, RO, RC, tup, ↓reduceIte, Nat.reduceEqDiff, RD]
    refine hKr _ _ ?_; clear hKr Kr; (try simp only [blkQ, thenQ, loopQ]); try simp only [RN, Bool.false_eq_true, reduceIte]
    refine T_cseq (t := true) (by simp (disch := omega) only [RF, RO, RC, tup, ↓reduceIte, Nat.reduceEqDiff, decT, decF]) ?_; try simp only [RN, Bool.false_eq_true, reduceIte]
    refine T_rseq fun Kr hKr => ?_; simp (disch := omega) only [RF, RO, RC, tup, ↓reduceIte, Nat.reduceEqDiff, RD]; refine hKr _ _ ?_; clear hKr Kr; try simp only [RN, Bool.false_eq_true, reduceIte]
    refine ⟨_, rfl, ?_⟩; simp only [RF, ev_t, ev_c, tup, ↓reduceIte, Nat.reduceEqDiff]
    exact hK _ _ (Ext.refl' _) .nil
theorem impl_StarPolynomial_spec {H : AHeap} {a : Int} {K : Value → AHeap → Prop} (hb : -9223372036854775808 ≤ a ∧ a < 9223372036854775808)
    (hK : ∀ v' H', Ext H H' → OwnI H.n H'.n H' v' (resStarPolynomial a).1 → K (.tuple ⟨[v', I (resStarPolynomial a).2]⟩) H') : CallT F_impl_StarPolynomial [I a] H K := by
  refine CallT_body Γ_impl_StarPolynomial ?_; simp only [A_impl_StarPolynomial, T_aiff]
  refine T_rseq fun Kr hKr => ?_; simp (disch := omega) only [RF, RO, RC, tup, ↓reduceIte, Nat.reduceEqDiff, RD]; refine hKr _ _ ?_; clear hKr Kr; try simp only [RN, Bool.false_eq_true, reduceIte]
  refine T_rseq fun Kr hKr => ?_; simp (disch := omega) only [RF, RO, RC, tup, ↓reduceIte, Nat.reduceEqDiff, RD]
  refine isPower_spec ?_
  by_cases hp : 1 ≤ a ∧ a ≤ 16
  · rw [decide_eq_true hp]
    simp only [resStarPolynomial, hp, and_self, if_true] at hK
    simp (disch := omega) only [RF, RO, RC, tup, ↓reduceIte, Nat.reduceEqDiff, RD]
    refine hKr _ _ ?_; clear hKr Kr; (try simp only [blkQ, thenQ, loopQ]); try simp only [RN, if_true, if_false, Bool.false_eq_true, if_pos, reduceIte]
    refine T_cseq (t := false) (by simp (disch := omega) only [RF, RO, RC, tup, ↓reduceIte, Nat.reduceEqDiff, decT, decF]) ?_; try simp only [RN, Bool.false_eq_true, reduceIte]
    obtain ⟨n, rfl⟩ := Int.eq_ofNat_of_zero_le (show 0 ≤ a by omega)
    have hn1 : ((n : Int) + 1).toNat = n + 1 := by omega
    have hm := own_make H (n + 1)
    obtain ⟨b, rest, heq, h1, h2, h3, hg⟩ := hm.pos (by simp)
    rw [List.length_replicate] at heq
    cases heq
    have hr : n < (List.replicate (n + 1) (0 : Int)).length := by simp
    generalize hrep : List.replicate (n + 1) (0 : Int) = rs at hg hr
    refine T_rseq fun Kr hKr => ?_; simp (disch := omega) only [RF, RO, RC, tup, ↓reduceIte, Nat.reduceEqDiff, reduceCtorEq, RD, hn1]; refine hKr _ _ ?_; clear hKr Kr; try simp only [RN, Bool.false_eq_true, reduceIte]
    refine T_rseq fun Kr hKr => ?_; simp (disch := omega) only [RF, RO, RC, tup, ↓reduceIte, Nat.reduceEqDiff, RD, hg]; refine hKr _ _ ?_; clear hKr Kr; try simp only [RN, Bool.false_eq_true, reduceIte]
    refine T_rseq fun Kr hKr => ?_; simp (disch := omega) only [RF, RO, RC, tup, ↓reduceIte, Nat.reduceEqDiff, RD]; refine hKr _ _ ?_; clear hKr Kr; try simp only [RN, Bool.false_eq_true, reduceIte]
    refine ⟨_, rfl, ?_⟩; simp only [RF, ev_t, ev_c, tup, ↓reduceIte, Nat.reduceEqDiff]
    refine hK _ _ ((Ext.alloc _ _).set (Nat.le_refl _) _) (.inr ⟨H.n, rest, by simp [monom], Nat.le_refl _, Nat.lt_succ_self _, Nat.lt_succ_self _, ?_⟩)
    rw [get_set_same]
    have : rs.set n 1 = monom 1 (n : Int).toNat := by
      subst hrep
      apply List.ext_getElem (by simp [monom])
      intro i h1 h2
      simp only [List.length_set, List.length_replicate] at h1
      by_cases h : i = n
      · subst h; simp [monom]
      · rw [List.getElem_set_ne (by omega)]
        simp [monom, List.getElem_append, show i < n by omega]
    rw [this]
  · rw [decide_eq_false hp]
    simp only [resStarPolynomial, hp, if_false] at hK
    simp (disch := omega) only [RF, RO, RC, tup, ↓reduceIte, Nat.reduceEqDiff, RD]
    refine hKr _ _ ?_; clear hKr Kr; (try simp only [blkQ, thenQ, loopQ]); try simp only [RN, if_true, if_false, Bool.false_eq_true, if_pos, reduceIte]
    refine T_cseq (t := true) (by simp (disch := omega) only [RF, RO, RC, tup, ↓reduceIte, Nat.reduceEqDiff, decT, decF]) ?_; try simp only [RN, Bool.false_eq_true, reduceIte]
    refine T_rseq fun Kr hKr => ?_; simp (disch := omega) only [RF, RO, RC, tup, ↓reduceIte, Nat.reduceEqDiff, RD]; refine hKr _ _ ?_; clear hKr Kr; try simp only [RN, Bool.false_eq_true, reduceIte]
    refine ⟨_, rfl, ?_⟩; simp only [RF, ev_t, ev_c, tup, ↓reduceIte, Nat.reduceEqDiff]
    exact hK _ _ (Ext.refl' _) .nil
end Go.Am

