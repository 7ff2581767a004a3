/- The map of orientable flags, what it comes to. -/
import Derived.Test.YtdadgoboeonoaaaDpE
import Derived.Test.YtdadgoboeonoaaaDp5
set_option linter.unusedVariables false
set_option linter.unusedSimpArgs false
namespace Go.Bm
open Go Go.Am

/-! ### All flags that are met are well -/
structure Ex2 (a b : CS) : Prop where
  keep : ∀ x, nl a.1 x ≠ 0 → nl b.1 x = nl a.1 x
  ok : b.2.2 = true → a.2.2 = true
theorem Ex2.refl (a : CS) : Ex2 a a := ⟨fun _ _ => rfl, id⟩
theorem Ex2.trans {a b c : CS} (h : Ex2 a b) (k : Ex2 b c) : Ex2 a c := ⟨fun x hx => by rw [k.keep x (by rw [h.keep x hx]; exact hx), h.keep x hx], fun q => h.ok (k.ok q)⟩
theorem vis2_ex {st : CS} {x y : Nat} : Ex2 st (vis2 x y st) := by
  unfold vis2
  split
  · exact .refl _
  · rename_i hok
    have hok : st.2.2 = true := by simpa using hok
    split
    · exact ⟨fun _ _ => rfl, fun h => by cases h⟩
    · split
      · rename_i hy
        refine ⟨fun z hz => ?_, fun _ => hok⟩
        simp only [nl_set]
        split
        · rename_i he
          rw [he.1] at hz
          exact absurd hy hz
        · rfl
      · exact .refl _
theorem vis2_ok {st : CS} {x y : Nat} (hx : nl st.1 x ≠ 0) (hy : y < st.1.length) (h2 : nl st.1 x ≤ 2) (h : (vis2 x y st).2.2 = true) : nl (vis2 x y st).1 y ≠ 0 ∧ nl (vis2 x y st).1 y ≠ nl st.1 x := by
  have hok := vis2_ex.ok h
  revert h
  unfold vis2
  rw [if_neg (by simp [hok])]
  split
  · intro h; cases h
  · rename_i h1
    split
    · intro _
      dsimp only
      rw [nl_set, if_pos ⟨rfl, hy⟩]
      omega
    · rename_i h0
      exact fun _ => ⟨h0, h1⟩
theorem rnd2_ex {x : Nat} : ∀ {ls : List (List Nat)} {st : CS}, Ex2 st (rnd2 ls x st)
  | [], st => .refl _
  | p :: ls, st => vis2_ex.trans (rnd2_ex (ls := ls) (st := vis2 x (nl p x) st))
theorem rnd2_ok {x : Nat} : ∀ {ls : List (List Nat)} {st : CS}, Ci st → nl st.1 x ≠ 0 → (∀ p ∈ ls, nl p x < 32) → (rnd2 ls x st).2.2 = true → ∀ p ∈ ls, nl (rnd2 ls x st).1 (nl p x) ≠ 0 ∧ nl (rnd2 ls x st).1 (nl p x) ≠ nl st.1 x
  | [], st, _, _, _, _, p, hp => by simp at hp
  | q :: ls, st, hC, hx, hl, hok, p, hp => by
    have hv := hC.vis hx (hl q (by simp))
    have hok1 : (vis2 x (nl q x) st).2.2 = true := (rnd2_ex (ls := ls)).ok hok
    have hkx : nl (vis2 x (nl q x) st).1 x = nl st.1 x := vis2_ex.keep x hx
    rcases List.mem_cons.1 hp with rfl | hp
    · have h1 := vis2_ok hx (by rw [hC.len]; exact hl p (by simp)) (hC.le2 x) hok1
      have h2 := (rnd2_ex (x := x) (ls := ls) (st := vis2 x (nl p x) st)).keep _ h1.1
      show nl (rnd2 ls x (vis2 x (nl p x) st)).1 _ ≠ 0 ∧ nl (rnd2 ls x (vis2 x (nl p x) st)).1 _ ≠ _
      rw [h2]
      exact h1
    · have := rnd2_ok (ls := ls) hv.1 hv.2 (fun r hr => hl r (by simp [hr])) hok p hp
      rw [hkx] at this
      exact this
structure Cf (ls : List (List Nat)) (n k : Nat) (st : CS) : Prop where
  mem : ∀ x, nl st.1 x ≠ 0 → ∃ i, i < st.2.1.length ∧ nl st.2.1 i = x
  ltn : ∀ i, i < st.2.1.length → nl st.2.1 i < n
  done : st.2.2 = true → ∀ i, i < k → i < st.2.1.length → ∀ p ∈ ls, nl st.1 (nl p (nl st.2.1 i)) ≠ 0 ∧ nl st.1 (nl p (nl st.2.1 i)) ≠ nl st.1 (nl st.2.1 i)
theorem vis2_mem {st : CS} {x y n : Nat} (hy : y < n) (h1 : ∀ x, nl st.1 x ≠ 0 → ∃ i, i < st.2.1.length ∧ nl st.2.1 i = x) (h2 : ∀ i, i < st.2.1.length → nl st.2.1 i < n) :
    (∀ z, nl (vis2 x y st).1 z ≠ 0 → ∃ i, i < (vis2 x y st).2.1.length ∧ nl (vis2 x y st).2.1 i = z) ∧ ∀ i, i < (vis2 x y st).2.1.length → nl (vis2 x y st).2.1 i < n := by
  unfold vis2
  split
  · exact ⟨h1, h2⟩
  · split
    · exact ⟨h1, h2⟩
    · split
      · refine ⟨fun z hz => ?_, fun i hi => ?_⟩
        · simp only [nl_set] at hz
          split at hz
          · rename_i he
            refine ⟨st.2.1.length, by simp, ?_⟩
            simp only [nl_append]
            rw [if_neg (by omega), nl_single (by omega)]
            exact he.1.symm
          · obtain ⟨i, hi, he⟩ := h1 z hz
            refine ⟨i, by simp; omega, ?_⟩
            simp only [nl_append]
            rw [if_pos hi]
            exact he
        · simp only [List.length_append, List.length_singleton] at hi
          simp only [nl_append]
          split
          · exact h2 i (by assumption)
          · rw [nl_single (by omega)]
            exact hy
      · exact ⟨h1, h2⟩
theorem rnd2_mem {x n : Nat} : ∀ {ls : List (List Nat)} {st : CS}, (∀ p ∈ ls, nl p x < n) → (∀ x, nl st.1 x ≠ 0 → ∃ i, i < st.2.1.length ∧ nl st.2.1 i = x) → (∀ i, i < st.2.1.length → nl st.2.1 i < n) →
    (∀ z, nl (rnd2 ls x st).1 z ≠ 0 → ∃ i, i < (rnd2 ls x st).2.1.length ∧ nl (rnd2 ls x st).2.1 i = z) ∧ ∀ i, i < (rnd2 ls x st).2.1.length → nl (rnd2 ls x st).2.1 i < n
  | [], st, _, h1, h2 => ⟨h1, h2⟩
  | p :: ls, st, hp, h1, h2 => by
    obtain ⟨h3, h4⟩ := vis2_mem (x := x) (hp p (by simp)) h1 h2
    exact rnd2_mem (ls := ls) (fun q hq => hp q (by simp [hq])) h3 h4
theorem cls_cf {ls : List (List Nat)} {n : Nat} (hn : 0 < n) (hl : ∀ p ∈ ls, ∀ i, nl p i < 32) (hln : ∀ p ∈ ls, ∀ i, i < n → nl p i < n) : ∀ k, Cf ls n k (cls ls c0 k)
  | 0 => ⟨fun x hx => ⟨0, by simp [cls, c0], by
      have : x = 0 := by
        simp only [cls, c0, nl_set, nl_rep] at hx
        rcases Nat.eq_zero_or_pos x with h | h
        · exact h
        · exfalso
          apply hx
          rw [if_neg (by omega)]
          split <;> rfl
      rw [this]; rfl⟩, fun i hi => by
      have : i = 0 := by simpa [cls, c0] using hi
      subst this
      exact hn, fun _ i hi => by omega⟩
  | k + 1 => by
    have ih := cls_cf hn hl hln k
    have hC := Ci.c0.cls hl k
    simp only [cls]
    generalize cls ls c0 k = st at ih hC ⊢
    split
    · rename_i hc
      obtain ⟨hok, hk⟩ := hc
      obtain ⟨hxk, hxc⟩ := hC.lt k hk
      have hx2 := ih.ltn k hk
      obtain ⟨h3, h4⟩ := rnd2_mem (ls := ls) (fun p hp => hln p hp _ hx2) ih.mem ih.ltn
      obtain ⟨w, hw⟩ := @rnd2_pre (nl st.2.1 k) ls st
      have hex := @rnd2_ex (nl st.2.1 k) ls st
      refine ⟨h3, h4, fun hok2 i hi hil p hp => ?_⟩
      have hik : i < st.2.1.length := by omega
      have hqi : nl (rnd2 ls (nl st.2.1 k) st).2.1 i = nl st.2.1 i := by rw [hw, nl_append, if_pos hik]
      rw [hqi]
      rw [hex.keep (nl st.2.1 i) (hC.lt i hik).2]
      rcases Nat.lt_or_ge i k with h | h
      · obtain ⟨h5, h6⟩ := ih.done hok i h hik p hp
        rw [hex.keep _ h5]
        exact ⟨h5, h6⟩
      · obtain rfl : i = k := by omega
        exact rnd2_ok hC hxc (fun p hp => hl p hp _) hok2 p hp
    · rename_i hc
      refine ⟨ih.mem, ih.ltn, fun hok i hi hil p hp => ih.done hok i ?_ hil p hp⟩
      rcases Nat.lt_or_ge i k with h | h
      · exact h
      · exact absurd ⟨hok, by omega⟩ hc
theorem clsR_ok {c t s : List Nat} {n : Nat} (hn : 0 < n) (hl : ∀ p ∈ [c, t, s], ∀ i, nl p i < 32) (hln : ∀ p ∈ [c, t, s], ∀ i, i < n → nl p i < n) (hok : (clsR c t s).2.2 = true) :
    ∀ x, nl (clsR c t s).1 x ≠ 0 → x < n ∧ ∀ p ∈ [c, t, s], nl (clsR c t s).1 (nl p x) ≠ 0 ∧ nl (clsR c t s).1 (nl p x) ≠ nl (clsR c t s).1 x := by
  intro x hx
  have h := cls_cf hn hl hln 32
  have hC := Ci.c0.cls hl 32
  obtain ⟨i, hi, rfl⟩ := h.mem x hx
  exact ⟨h.ltn i hi, h.done hok i (by have := hC.le; omega) hi⟩

/-! ### Half of the flags at the most are of the first class -/
theorem inj_le {f : Nat → Nat} : ∀ (l m : List Nat), l.Nodup → (∀ x ∈ l, f x ∈ m) → (∀ x ∈ l, ∀ y ∈ l, f x = f y → x = y) → l.length ≤ m.length
  | [], m, _, _, _ => Nat.zero_le _
  | a :: l, m, hd, hm, hi => by
    rw [List.nodup_cons] at hd
    have := inj_le (f := f) l (m.erase (f a)) hd.2 (fun x hx => by
      refine (List.mem_erase_of_ne fun e => ?_).2 (hm x (by simp [hx]))
      have := hi x (by simp [hx]) a (by simp) e
      exact hd.1 (this ▸ hx)) fun x hx y hy => hi x (by simp [hx]) y (by simp [hy])
    rw [List.length_erase_of_mem (hm a (by simp))] at this
    have : 0 < m.length := List.length_pos_of_mem (hm a (by simp))
    simp only [List.length_cons]
    omega
theorem filt2 {p q : Nat → Bool} (h : ∀ x, p x = true → q x = false) : ∀ l : List Nat, (l.filter p).length + (l.filter q).length ≤ l.length
  | [] => by simp
  | a :: l => by
    have ih := filt2 h l
    have := h a
    cases hp : p a <;> cases hq : q a <;> simp [List.filter_cons, hp, hq] <;> first | omega | (rw [hp] at this; simp [hq] at this)
def ones (cl : List Nat) (k : Nat) : Nat := ((List.range k).filter fun x => nl cl x == 1).length
theorem ones_succ {cl : List Nat} {k : Nat} : ones cl (k + 1) = ones cl k + if nl cl k = 1 then 1 else 0 := by
  simp only [ones, List.range_succ, List.filter_append, List.length_append]
  by_cases h : nl cl k = 1 <;> simp [h]
theorem ones_mono {cl : List Nat} {k m : Nat} (h : k ≤ m) : ones cl k ≤ ones cl m := by
  induction m with
  | zero => obtain rfl : k = 0 := by omega
            exact Nat.le_refl _
  | succ m ih =>
    rcases Nat.lt_or_ge k (m + 1) with h1 | h1
    · rw [ones_succ]
      have := ih (by omega)
      omega
    · obtain rfl : k = m + 1 := by omega
      exact Nat.le_refl _
theorem ones_le {cl : List Nat} {k : Nat} : ones cl k ≤ k := by
  unfold ones
  have := List.length_filter_le (fun x => nl cl x == 1) (List.range k)
  rw [List.length_range] at this
  exact this
theorem ones16 {cl t : List Nat} {n : Nat} (hn : n ≤ 32) (ht : ∀ x, x < n → nl t x < n ∧ nl t (nl t x) = x) (h2 : ∀ i, nl cl i ≤ 2) (hok : ∀ x, nl cl x ≠ 0 → nl cl (nl t x) ≠ 0 ∧ nl cl (nl t x) ≠ nl cl x) : ones cl n ≤ 16 := by
  have h1 : ones cl n ≤ ((List.range n).filter fun x => nl cl x == 2).length := by
    refine inj_le (f := nl t) _ _ (List.Pairwise.filter _ List.nodup_range) (fun x hx => ?_) fun x hx y hy e => ?_
    · simp only [List.mem_filter, List.mem_range, beq_iff_eq] at hx ⊢
      refine ⟨(ht x hx.1).1, ?_⟩
      have := hok x (by omega)
      have := h2 (nl t x)
      omega
    · simp only [List.mem_filter, List.mem_range] at hx hy
      rw [← (ht x hx.1).2, e, (ht y hy.1).2]
  have h3 := filt2 (p := fun x => nl cl x == 1) (q := fun x => nl cl x == 2) (fun x hx => by simp only [beq_iff_eq] at hx; simp [hx]) (List.range n)
  rw [List.length_range] at h3
  unfold ones at h1 ⊢
  omega

/-! ### The numbers, and the map -/
def numK (cl : List Nat) : Nat → List Nat
  | 0 => List.replicate 32 0
  | k + 1 => if nl cl k = 1 then (numK cl k).set k (ones cl k) else numK cl k
theorem numK_len {cl : List Nat} {k : Nat} : (numK cl k).length = 32 := by
  induction k with
  | zero => simp [numK]
  | succ k ih => simp only [numK]; split <;> simp [ih]
theorem numK_lt {cl : List Nat} {k i : Nat} : nl (numK cl k) i ≤ ones cl k := by
  induction k with
  | zero => simp only [numK, nl_rep]; split <;> omega
  | succ k ih =>
    simp only [numK]
    rw [ones_succ]
    split
    · rename_i h
      simp only [nl_set]
      split <;> omega
    · omega
theorem numK_at {cl : List Nat} {k i : Nat} (hi : i < k) (hk : k ≤ 32) (h1 : nl cl i = 1) : nl (numK cl k) i < ones cl k := by
  induction k with
  | zero => omega
  | succ k ih =>
    simp only [numK]
    rw [ones_succ]
    split
    · simp only [nl_set]
      split
      · omega
      · rcases Nat.lt_or_ge i k with h | h
        · have := ih h (by omega); omega
        · have : i = k := by omega
          rename_i hne
          exact absurd ⟨this, by rw [numK_len]; omega⟩ hne
    · rename_i hne
      rcases Nat.lt_or_ge i k with h | h
      · have := ih h (by omega); omega
      · have : i = k := by omega
        rw [this] at h1
        exact absurd h1 hne
def mapB (cl nu p s : List Nat) : Nat → List Nat
  | 0 => z16
  | k + 1 => if nl cl k = 1 then (mapB cl nu p s k).set (nl nu k) (nl nu (nl p (nl s k))) else mapB cl nu p s k
theorem mapB_len {cl nu p s : List Nat} {k : Nat} : (mapB cl nu p s k).length = 16 := by
  induction k with
  | zero => simp [mapB, z16]
  | succ k ih => simp only [mapB]; split <;> simp [ih]
theorem mapB_by {cl nu p s : List Nat} {k : Nat} (hn : ∀ i, nl nu i < 256) : By 16 (mapB cl nu p s k) := by
  induction k with
  | zero => exact z16_by
  | succ k ih =>
    simp only [mapB]
    split
    · exact ih.set (hn _)
    · exact ih
def resMap (n : Int) (c t s : List Nat) : (Int × List Nat × List Nat) × Int :=
  if ¬ Fl n c t s then ((0, z16, z16), 1) else if ¬ (clsR c t s).2.2 = true then ((0, z16, z16), 5)
  else ((ones (clsR c t s).1 n.toNat, mapB (clsR c t s).1 (numK (clsR c t s).1 n.toNat) t s n.toNat, mapB (clsR c t s).1 (numK (clsR c t s).1 n.toNat) c s n.toNat), 0)
theorem resMap_by {n : Int} {c t s : List Nat} : By 16 (resMap n c t s).1.2.1 ∧ By 16 (resMap n c t s).1.2.2 := by
  unfold resMap
  split
  · exact ⟨z16_by, z16_by⟩
  · split
    · exact ⟨z16_by, z16_by⟩
    · rename_i hd _
      have hn := (Decidable.not_not.1 hd).1
      have h1 : ∀ i, nl (numK (clsR c t s).1 n.toNat) i < 256 := fun i => by
        have h1 := @numK_lt (clsR c t s).1 n.toNat i
        have h2 := @ones_le (clsR c t s).1 n.toNat
        omega
      exact ⟨mapB_by h1, mapB_by h1⟩
theorem Fl.n1 {n : Int} {c t s : List Nat} (h : Fl n c t s) : ∃ m : Nat, n = m ∧ 4 ≤ m ∧ m ≤ 32 := by
  have := h.1
  exact ⟨n.toNat, by omega, by omega, by omega⟩
/-- The flags that are met, if all is well: half of them at the most are of the first class. -/
theorem Fl.ones {n : Nat} {c t s : List Nat} (h : Fl n c t s) (hc : By 32 c) (ht : By 32 t) (hs : By 32 s) (hok : (clsR c t s).2.2 = true) : ones (clsR c t s).1 n ≤ 16 := by
  have hl := h.all32 hc ht hs
  have hn := h.1
  have hp : ∀ p, Pairs p n → ∀ i, i < n → nl p i < n ∧ nl p (nl p i) = i := fun p hp i hi => by
    have := (hp i (by omega)).2 (by omega)
    exact ⟨by omega, this.2.2⟩
  have hln : ∀ p ∈ [c, t, s], ∀ i, i < n → nl p i < n := by
    simp
    exact ⟨fun i hi => (hp c h.2.2.1 i hi).1, fun i hi => (hp t h.2.2.2.1 i hi).1, fun i hi => (hp s h.2.2.2.2.1 i hi).1⟩
  exact ones16 (by omega) (hp t h.2.2.2.1) (Ci.c0.cls hl 32).le2 fun x hx => (clsR_ok (by omega) hl hln hok x hx).2 t (by simp)
end Go.Bm
