/- DpKa, DpDb, DpDc, DpDh, DpDd, DpS, DpEa, DpEb, DpTa -/
import Derived.Test.YtbfhlajbjfahiaaBmQ
import Derived.Test.YtbfhlajbjfahiaaBmR
import Derived.Test.YtbfhlajbjfahiaaDpG0
import Derived.Test.YtbfhlajbjfahiaaDpG2
/- All permutations in two orders (plain). -/
set_option linter.unusedVariables false
set_option linter.unusedSimpArgs false
set_option linter.unusedSectionVars false
namespace Go.Bm
open Go Go.Am

/-- The places of a permutation whose first numbers are given. -/
def pad (pre : List Nat) : List Nat := pre ++ List.replicate (16 - pre.length) 0
/-- One number after the other is placed. -/
def lv (n : Nat) : Nat → List Nat → List (List Nat)
  | 0, pre => [pad pre]
  | m + 1, pre => (List.range n).flatMap fun x => if x ∈ pre then [] else lv n m (pre ++ [x])
def swN (p : List Nat) (k i : Nat) : List Nat := (p.set k (nl p i)).set i (nl p k)
/-- Places are changed with later ones. -/
def sw (n : Nat) : Nat → List Nat → Nat → List (List Nat)
  | 0, p, k => [p]
  | m + 1, p, k => (List.range m.succ).flatMap fun d => sw n m (swN p k (k + d)) (k + 1)
/-- A permutation of n numbers as places. -/
def PQ (n : Nat) (q : List Nat) : Prop := Perm q n ∧ q.length = 16
theorem pad_len {pre : List Nat} (h : pre.length ≤ 16) : (pad pre).length = 16 := by simp [pad]; omega
theorem pad_nl {pre : List Nat} {i : Nat} : nl (pad pre) i = if i < pre.length then nl pre i else 0 := by
  rw [pad, nl_append]
  split
  · rfl
  · rw [nl_rep]; split <;> rfl
theorem flatMap_nod {α β : Type} {f : α → List β} : ∀ {l : List α}, l.Nodup → (∀ a ∈ l, (f a).Nodup) → (∀ a ∈ l, ∀ b ∈ l, a ≠ b → ∀ y ∈ f a, y ∉ f b) → (l.flatMap f).Nodup
  | [], _, _, _ => by simp
  | a :: l, hn, h1, h2 => by
    rw [List.flatMap_cons, List.nodup_append]
    rw [List.nodup_cons] at hn
    refine ⟨h1 a (by simp), flatMap_nod hn.2 (fun b hb => h1 b (by simp [hb])) fun b hb c hc => h2 b (by simp [hb]) c (by simp [hc]), fun x hx y hy e => ?_⟩
    subst e
    obtain ⟨b, hb, hxb⟩ := List.mem_flatMap.1 hy
    exact h2 a (by simp) b (by simp [hb]) (fun e => hn.1 (e ▸ hb)) x hx hxb
section
variable {n : Nat}
/-- What is placed so far. -/
structure Pfx (n : Nat) (pre : List Nat) : Prop where
  nod : pre.Nodup
  lt : ∀ x ∈ pre, x < n
  len : pre.length ≤ n
theorem lv_mem (hn : 1 ≤ n ∧ n ≤ 16) : ∀ (m : Nat) {pre : List Nat}, Pfx n pre → pre.length + m = n → ∀ q, q ∈ lv n m pre ↔ PQ n q ∧ q.take pre.length = pre
  | 0, pre, h, hm, q => by
    rw [lv, List.mem_singleton]
    have hl : pre.length = n := by omega
    constructor
    · rintro rfl
      refine ⟨⟨.of hn (fun i h1 h2 => by rw [pad_nl, if_neg (by omega)]) (fun i hi => ?_) (fun i j hi hj e => ?_), pad_len (by omega)⟩, ?_⟩
      · rw [pad_nl, if_pos (by omega)]
        exact h.lt _ (nl_mem (by omega))
      · rw [pad_nl, pad_nl, if_pos (by omega), if_pos (by omega)] at e
        have := nod_nl h.nod (by omega) (by omega) e
        omega
      · rw [pad, List.take_left]
    · rintro ⟨⟨hp, hl16⟩, ht⟩
      refine nl_ext (by rw [hl16, pad_len (by omega)]) fun i hi => ?_
      rw [pad_nl]
      by_cases hin : i < pre.length
      · rw [if_pos hin, ← ht]
        simp [nl, List.getD, List.getElem?_take, hin]
      · rw [if_neg hin]
        exact hp.zero (by omega) (by omega)
  | m + 1, pre, h, hm, q => by
    rw [lv, List.mem_flatMap]
    constructor
    · rintro ⟨x, hx, hq⟩
      split at hq
      · simp at hq
      · rename_i hxp
        have h' : Pfx n (pre ++ [x]) := ⟨by
          rw [List.nodup_append]
          exact ⟨h.nod, by simp, fun a ha b hb e => by rw [List.mem_singleton] at hb; subst hb; subst e; exact hxp ha⟩, fun y hy => by
          rcases List.mem_append.1 hy with hy | hy
          · exact h.lt y hy
          · rw [List.mem_singleton] at hy; subst hy; exact List.mem_range.1 hx, by simp; omega⟩
        obtain ⟨h1, h2⟩ := (lv_mem hn m h' (by simp; omega) q).1 hq
        refine ⟨h1, ?_⟩
        have := congrArg (List.take pre.length) h2
        rwa [List.take_take, List.take_left, List.length_append, Nat.min_eq_left (by omega)] at this
    · rintro ⟨⟨hp, hl16⟩, ht⟩
      have hin : pre.length < n := by omega
      have hxn := hp.lt hin
      have hnot : nl q pre.length ∉ pre := fun hmem => by
        obtain ⟨j, hj, he⟩ := mem_nl hmem
        have : nl q j = nl pre j := by
          rw [← ht]
          simp [nl, List.getD, List.getElem?_take, hj]
        have := hp.inj (by omega) hin (this.trans he)
        omega
      refine ⟨nl q pre.length, List.mem_range.2 hxn, ?_⟩
      rw [if_neg hnot]
      have h' : Pfx n (pre ++ [nl q pre.length]) := ⟨by
          rw [List.nodup_append]
          exact ⟨h.nod, by simp, fun a ha b hb e => by rw [List.mem_singleton] at hb; subst hb; subst e; exact hnot ha⟩, fun y hy => by
          rcases List.mem_append.1 hy with hy | hy
          · exact h.lt y hy
          · rw [List.mem_singleton] at hy; subst hy; exact hxn, by simp; omega⟩
      refine (lv_mem hn m h' (by simp; omega) q).2 ⟨⟨hp, hl16⟩, ?_⟩
      rw [List.length_append, List.length_singleton, List.take_add_one, ht]
      congr 1
      simp [nl, List.getD, show pre.length < q.length by omega]
theorem lv_nod (hn : 1 ≤ n ∧ n ≤ 16) : ∀ (m : Nat) {pre : List Nat}, Pfx n pre → pre.length + m = n → (lv n m pre).Nodup
  | 0, pre, _, _ => by simp [lv]
  | m + 1, pre, h, hm => by
    have h' : ∀ x, x < n → x ∉ pre → Pfx n (pre ++ [x]) := fun x hx hxp => ⟨by
          rw [List.nodup_append]
          exact ⟨h.nod, by simp, fun a ha b hb e => by rw [List.mem_singleton] at hb; subst hb; subst e; exact hxp ha⟩, fun y hy => by
          rcases List.mem_append.1 hy with hy | hy
          · exact h.lt y hy
          · rw [List.mem_singleton] at hy; subst hy; exact hx, by simp; omega⟩
    refine flatMap_nod List.nodup_range (fun x hx => ?_) fun x hx y hy hxy q hq hq' => ?_
    · split
      · exact List.nodup_nil
      · rename_i hxp
        exact lv_nod hn m (h' x (List.mem_range.1 hx) hxp) (by simp; omega)
    · split at hq
      · simp at hq
      · rename_i hxp
        split at hq'
        · simp at hq'
        · rename_i hyp
          have h1 := ((lv_mem hn m (h' x (List.mem_range.1 hx) hxp) (by simp; omega) q).1 hq).2
          have h2 := ((lv_mem hn m (h' y (List.mem_range.1 hy) hyp) (by simp; omega) q).1 hq').2
          rw [List.length_append, List.length_singleton] at h1 h2
          rw [h1] at h2
          have := List.append_cancel_left h2
          simp at this
          exact hxy this
theorem swN_nl {p : List Nat} {k i j : Nat} (hl : p.length = 16) (hk : k < 16) (hi : i < 16) : nl (swN p k i) j = if j = i then nl p k else if j = k then nl p i else nl p j := by
  rw [swN, nl_set, nl_set, List.length_set, hl]
  by_cases e1 : j = i
  · rw [if_pos ⟨e1, by omega⟩, if_pos e1]
  · rw [if_neg (by omega), if_neg e1]
    by_cases e2 : j = k
    · rw [if_pos ⟨e2, by omega⟩, if_pos e2]
    · rw [if_neg (by omega), if_neg e2]
theorem swN_pq {p : List Nat} {k i : Nat} (h : PQ n p) (hk : k < n) (hi : i < n) : PQ n (swN p k i) := ⟨h.1.swap h.2 hk hi, by rw [swN, List.length_set, List.length_set, h.2]⟩
theorem sw_mem : ∀ (m : Nat) {p : List Nat} {k : Nat}, PQ n p → k + m = n → ∀ q, q ∈ sw n m p k ↔ PQ n q ∧ ∀ j, j < k → nl q j = nl p j
  | 0, p, k, h, hm, q => by
    rw [sw, List.mem_singleton]
    constructor
    · rintro rfl
      exact ⟨h, fun _ _ => rfl⟩
    · rintro ⟨hq, he⟩
      refine nl_ext (by rw [hq.2, h.2]) fun i hi => ?_
      rcases Nat.lt_or_ge i k with h1 | h1
      · exact he i h1
      · rw [hq.1.zero (by omega) (by have := hq.2; omega), h.1.zero (by omega) (by have := hq.2; omega)]
  | m + 1, p, k, h, hm, q => by
    have hn := h.1.1
    have hl := h.2
    rw [sw, List.mem_flatMap]
    constructor
    · rintro ⟨d, hd, hq⟩
      have hd' : d < m + 1 := List.mem_range.1 hd
      obtain ⟨h1, h2⟩ := (sw_mem m (swN_pq h (show k < n by omega) (show k + d < n by omega)) (by omega) q).1 hq
      refine ⟨h1, fun j hj => ?_⟩
      rw [h2 j (by omega), swN_nl hl (by omega) (by omega), if_neg (by omega), if_neg (by omega)]
    · rintro ⟨hq, he⟩
      obtain ⟨i, hi, hie⟩ := h.1.surj (hq.1.lt (show k < n by omega))
      have hki : k ≤ i := by
        rcases Nat.lt_or_ge i k with h1 | h1
        · have := hq.1.inj (show i < n by omega) (show k < n by omega) ((he i h1).trans hie)
          omega
        · exact h1
      refine ⟨i - k, List.mem_range.2 (by omega), ?_⟩
      rw [show k + (i - k) = i by omega]
      refine (sw_mem m (swN_pq h (by omega) hi) (by omega) q).2 ⟨hq, fun j hj => ?_⟩
      rw [swN_nl hl (by omega) (by omega)]
      by_cases e1 : j = k
      · subst e1
        by_cases e2 : j = i
        · rw [if_pos e2, ← hie, e2]
        · rw [if_neg e2, if_pos rfl, hie]
      · rw [if_neg (by omega), if_neg e1]
        exact he j (by omega)
theorem sw_nod : ∀ (m : Nat) {p : List Nat} {k : Nat}, PQ n p → k + m = n → (sw n m p k).Nodup
  | 0, p, k, _, _ => by simp [sw]
  | m + 1, p, k, h, hm => by
    have hn := h.1.1
    have hl := h.2
    have hs : ∀ d, d < m + 1 → PQ n (swN p k (k + d)) := fun d hd => swN_pq h (by omega) (by omega)
    refine flatMap_nod List.nodup_range (fun d hd => sw_nod m (hs d (List.mem_range.1 hd)) (by omega)) fun d hd e he hde q hq hq' => ?_
    rw [List.mem_range] at hd he
    have h1 := ((sw_mem m (hs d hd) (by omega) q).1 hq).2 k (by omega)
    have h2 := ((sw_mem m (hs e he) (by omega) q).1 hq').2 k (by omega)
    have key : ∀ d, d < m + 1 → nl (swN p k (k + d)) k = nl p (k + d) := fun d hd => by
      rw [swN_nl hl (by omega) (by omega)]
      by_cases e : k = k + d
      · rw [if_pos e, ← e]
      · rw [if_neg e, if_pos rfl]
    rw [key d hd] at h1
    rw [key e he] at h2
    have := h.1.inj (show k + d < n by omega) (show k + e < n by omega) (h1.symm.trans h2)
    omega
/-- Both orders name the same permutations. -/
theorem lv_sw (hn : 1 ≤ n ∧ n ≤ 16) : (lv n n []).Perm (sw n n (idK n) 0) := by
  have hid : PQ n (idK n) := ⟨idK_perm hn, idK_len⟩
  refine (List.perm_ext_iff_of_nodup (lv_nod hn n ⟨by simp, by simp, by simp⟩ (by simp)) (sw_nod n hid (by omega))).2 fun q => ?_
  rw [lv_mem hn n ⟨by simp, by simp, by simp⟩ (by simp), sw_mem n hid (by omega)]
  simp
end
end Go.Bm

/- All types of a number. -/
set_option linter.unusedVariables false
set_option linter.unusedSimpArgs false
namespace Go.Bm
open Go Go.Am

end Go.Bm

/- All types of a number: the walks. -/
set_option linter.unusedVariables false
set_option linter.unusedSimpArgs false
namespace Go.Bm
open Go Go.Am

end Go.Bm

/- Draws: dessins. -/
set_option linter.unusedVariables false
set_option linter.unusedSimpArgs false
namespace Go.Bm
open Go Go.Am

section
variable {code : List Nat} {a : Nat} {h : Int}
end
end Go.Bm

/- All types of a number: the reference's walk. -/
set_option linter.unusedVariables false
set_option linter.unusedSimpArgs false
namespace Go.Bm
open Go Go.Am

end Go.Bm

/- What laws do with slices: equal, marked, held. -/
set_option linter.unusedVariables false
set_option linter.unusedSimpArgs false
namespace Go.Bm
open Go Go.Am

/-- A slice of numbers: nil, a block of one's own, or one that is only read. -/
def Sl (H : BH) (v : Value) (xs : List Int) : Prop := (v = .slice none 0 0 ∧ xs = []) ∨ (∃ i, v = S i 0 xs.length 1 ∧ blk H i = some (xs.map I)) ∨ v = FI xs
theorem Sl.own {H : BH} {i : Nat} {xs : List Int} (h : blk H i = some (xs.map I)) : Sl H (S i 0 xs.length 1) xs := .inr (.inl ⟨i, rfl, h⟩)
theorem Sl.fz {H : BH} {xs : List Int} : Sl H (FI xs) xs := .inr (.inr rfl)
theorem Sl.nil {H : BH} : Sl H (.slice none 0 0) [] := .inl ⟨rfl, rfl⟩
theorem Sl.len {H : BH} {v : Value} {xs : List Int} (h : Sl H v xs) : lenW v = some (I xs.length) := by
  rcases h with ⟨rfl, rfl⟩ | ⟨i, rfl, _⟩ | rfl <;> rfl
theorem Sl.get {H : BH} {v : Value} {xs : List Int} (h : Sl H v xs) {j : Nat} (hj : j < xs.length) : ∃ p, idxW 1 v (I j) = some p ∧ loadW none H p = some (I (el xs j)) := by
  rcases h with ⟨rfl, rfl⟩ | ⟨i, rfl, hb⟩ | rfl
  · simp at hj
  · refine ⟨_, idxW_s (by omega), ?_⟩
    rw [loadW_p, hb, getO_some, getN_I0 (by omega)]
    simp
  · refine ⟨_, idxW_fz (by omega), ?_⟩
    rw [loadW_fp, getN_I0 (by omega)]
    simp
theorem eqInt64S_spec {v u : Value} {xs ys : List Int} {H : BH} {K : Value → BH → Prop} (hv : Sl H v xs) (hu : Sl H u ys) (hl : xs.length < 4611686018427387904) (hl' : ys.length < 4611686018427387904) (hK : K (.bool (decide (xs = ys))) H) :
    CallX false F_laws_eqInt64S [v, u] H K := by
  have v1 := hv.len
  have u1 := hu.len
  refine CallX_body Γ_laws_eqInt64S ?_
  simp only [A_laws_eqInt64S, T_aiff]
  refine T_rseq fun Kr hKr => ?_
  simp (disch := omega) only [RA, ↓reduceIte, Nat.reduceEqDiff, RD]
  refine hKr _ _ ?_
  clear hKr Kr
  try simp only [RN, reduceIte]
  try refine T_e rfl ?_
  refine T_rseq fun Kr hKr => ?_
  simp (disch := omega) only [RA, ↓reduceIte, Nat.reduceEqDiff, RD, v1, u1]
  refine hKr _ _ ?_
  clear hKr Kr
  try simp only [RN, reduceIte]
  try refine T_e rfl ?_
  refine T_csplit (p := ¬ xs.length = ys.length) (by simp only [RA, ↓reduceIte, Nat.reduceEqDiff] <;> rfl) (by (try simp only [RB]) <;> first | done | exact Iff.rfl | omega | simp) (fun hc => ?_) (fun hc => ?_) <;> (try simp only [RN, reduceIte]) <;> (try refine T_e rfl ?_)
  · refine T_rseq fun Kr hKr => ?_
    simp (disch := omega) only [RA, ↓reduceIte, Nat.reduceEqDiff, RD]
    refine hKr _ _ ?_
    clear hKr Kr
    try simp only [RN, reduceIte]
    try refine T_e rfl ?_
    refine bodyQ_ret (by simp (disch := omega) only [RA, ↓reduceIte, Nat.reduceEqDiff, RD, resAll, resOf]; rfl) GhV.refl ?_
    simp only [tup]
    rw [show decide (xs = ys) = false by simp; intro e; exact hc (by rw [e])] at hK
    exact hK
  have hll := Decidable.not_not.1 hc
  clear hc
  refine T_rseq fun Kr hKr => ?_
  simp (disch := omega) only [RA, ↓reduceIte, Nat.reduceEqDiff, RD]
  refine hKr _ _ ?_
  clear hKr Kr
  try simp only [RN, reduceIte]
  try refine T_e rfl ?_
  refine T_wloop (fun m f H' => ∃ i, i ≤ xs.length ∧ m = xs.length - i ∧ (∀ j, j < i → el xs j = el ys j) ∧ f 0 = v ∧ f 1 = u ∧ f 5 = I i ∧ H' = H) (xs.length) ?_ ?_
  · refine ⟨_, _, Gh.refl, 0, by omega, by omega, fun j hj => by omega, ?_, ?_, ?_, rfl⟩
    any_goals (simp (disch := omega) only [RA, ↓reduceIte, Nat.reduceEqDiff, RD, RE, *] <;> rfl)
  · rintro m f H' R ⟨i, hi, rfl, he, g0, g1, g5, rfl⟩ hN hX hR hE
    simp only [A_laws_eqInt64S.l0, T_aiff]
    refine T_rseq fun Kr hKr => ?_
    simp (disch := omega) only [RA, ↓reduceIte, Nat.reduceEqDiff, RD, g0, g5, v1]
    refine hKr _ _ ?_
    clear hKr Kr
    try simp only [RN, reduceIte]
    try refine T_e rfl ?_
    refine T_csplit (p := i < xs.length) (by simp only [RA, ↓reduceIte, Nat.reduceEqDiff] <;> rfl) (by (try simp only [RB]) <;> first | done | exact Iff.rfl | omega | simp) (fun hc => ?_) (fun hc => ?_) <;> (try simp only [RN, reduceIte]) <;> (try refine T_e rfl ?_)
    · obtain ⟨p, p1, p2⟩ := hv.get hc
      obtain ⟨q, q1, q2⟩ := hu.get (show i < ys.length by omega)
      first | refine T_bfree rfl ?_ | refine T_bfree' rfl ?_
      try simp only [RN, reduceIte]
      try refine T_e rfl ?_
      refine T_rseq fun Kr hKr => ?_
      simp (disch := omega) only [RA, ↓reduceIte, Nat.reduceEqDiff, RD, g0, g1, g5, p1, p2, q1, q2]
      refine hKr _ _ ?_
      clear hKr Kr
      try simp only [RN, reduceIte]
      try refine T_e rfl ?_
      refine T_csplit (p := ¬ el xs i = el ys i) (by simp only [RA, ↓reduceIte, Nat.reduceEqDiff] <;> rfl) (by (try simp only [RB]) <;> first | done | exact Iff.rfl | omega | simp) (fun hc => ?_) (fun hc => ?_) <;> (try simp only [RN, reduceIte]) <;> (try refine T_e rfl ?_)
      · refine T_rseq fun Kr hKr => ?_
        simp (disch := omega) only [RA, ↓reduceIte, Nat.reduceEqDiff, RD]
        refine hKr _ _ ?_
        clear hKr Kr
        try simp only [RN, reduceIte]
        try refine T_e rfl ?_
        refine hR _ _ ?_
        refine bodyQ_ret (by simp (disch := omega) only [RA, ↓reduceIte, Nat.reduceEqDiff, RD, resAll, resOf]; rfl) GhV.refl ?_
        simp only [tup]
        rw [show decide (xs = ys) = false by simp; intro e; exact hc (by rw [e])] at hK
        exact hK
      have hee := Decidable.not_not.1 hc
      refine T_reg_k fun Kr hKr => ?_
      simp (disch := omega) only [RA, ↓reduceIte, Nat.reduceEqDiff, RD, g5]
      refine hKr _ _ ?_
      clear hKr Kr
      have he' : ∀ j, j < i + 1 → el xs j = el ys j := fun j hj => by
        by_cases e : j = i
        · rw [e]; exact hee
        · exact he j (by omega)
      refine hN (xs.length - (i + 1)) _ _ _ _ (by omega) Gh.refl ⟨i + 1, by omega, rfl, he', ?_, ?_, ?_, rfl⟩
      any_goals (simp (disch := omega) only [RA, ↓reduceIte, Nat.reduceEqDiff, RD, RE, *] <;> rfl)
    · refine hX _ _ ?_
      have e : xs = ys := by
        apply List.ext_getElem hll
        intro j h1 h2
        have := he j (by omega)
        simpa [el, List.getD, h1, h2] using this
      rw [show decide (xs = ys) = true by simp [e]] at hK
      refine T_rseq fun Kr hKr => ?_
      simp (disch := omega) only [RA, ↓reduceIte, Nat.reduceEqDiff, RD]
      refine hKr _ _ ?_
      clear hKr Kr
      try simp only [RN, reduceIte]
      try refine T_e rfl ?_
      refine bodyQ_ret (by simp (disch := omega) only [RA, ↓reduceIte, Nat.reduceEqDiff, RD, resAll, resOf]; rfl) GhV.refl ?_
      simp only [tup]
      exact hK
theorem el_set {xs : List Int} {i j : Nat} {c : Int} : el (xs.set i c) j = if j = i ∧ i < xs.length then c else el xs j := by
  unfold el
  simp only [List.getD]
  rw [List.getElem?_set]
  by_cases h : i = j
  · subst h
    by_cases h2 : i < xs.length
    · simp [h2]
    · simp [h2]
  · rw [if_neg h, if_neg (fun e => h e.1.symm)]
end Go.Bm

/- Slices of slices in laws; sums and types of lists; passports. -/
set_option linter.unusedVariables false
set_option linter.unusedSimpArgs false
namespace Go.Bm
open Go Go.Am

theorem getD_mem' {α : Type} {ls : List α} {d : α} {j : Nat} (h : j < ls.length) : ls.getD j d ∈ ls := by simp [List.getD, h]
theorem szInt64S_spec {x : Bool} {xs : List Int} {a : Int} {H : BH} {K : Value → BH → Prop} (ha : 0 ≤ a ∧ a ≤ 1048576) (hl : xs.length ≤ 9223372036854775807)
    (hK : K (I (if a - xs.length < 0 then -1 else a - xs.length)) H) : CallX x F_laws_szInt64S [FI xs, I a] H K := by
  refine callP (.cons .fz (.cons .int .nil)) ?_
  refine CallX_body Γ_laws_szInt64S ?_
  simp only [A_laws_szInt64S, T_aiff]
  refine T_rseq fun Kr hKr => ?_
  simp (disch := omega) only [RA, ↓reduceIte, Nat.reduceEqDiff, RD]
  refine hKr _ _ ?_
  clear hKr Kr
  try simp only [RN, reduceIte]
  try refine T_e rfl ?_
  refine T_rseq fun Kr hKr => ?_
  simp (disch := omega) only [RA, ↓reduceIte, Nat.reduceEqDiff, RD]
  refine hKr _ _ ?_
  clear hKr Kr
  try simp only [RN, reduceIte]
  try refine T_e rfl ?_
  refine T_rseq fun Kr hKr => ?_
  simp (disch := omega) only [RA, ↓reduceIte, Nat.reduceEqDiff, RD]
  refine hKr _ _ ?_
  clear hKr Kr
  try simp only [RN, reduceIte]
  try refine T_e rfl ?_
  refine T_csplit (p := a - xs.length < 0) (by simp only [RA, ↓reduceIte, Nat.reduceEqDiff] <;> rfl) (by (try simp only [RB]) <;> first | done | exact Iff.rfl | omega | simp) (fun hc => ?_) (fun hc => ?_) <;> (try simp only [RN, reduceIte]) <;> (try refine T_e rfl ?_)
  · refine T_rseq fun Kr hKr => ?_
    simp (disch := omega) only [RA, ↓reduceIte, Nat.reduceEqDiff, RD]
    refine hKr _ _ ?_
    clear hKr Kr
    try simp only [RN, reduceIte]
    try refine T_e rfl ?_
    refine bodyQ_ret (by simp (disch := omega) only [RA, ↓reduceIte, Nat.reduceEqDiff, RD, resAll, resOf]; rfl) GhV.refl ?_
    simp only [tup]
    rw [if_pos hc] at hK
    exact ⟨.int, hK⟩
  · refine T_rseq fun Kr hKr => ?_
    simp (disch := omega) only [RA, ↓reduceIte, Nat.reduceEqDiff, RD]
    refine hKr _ _ ?_
    clear hKr Kr
    try simp only [RN, reduceIte]
    try refine T_e rfl ?_
    refine bodyQ_ret (by simp (disch := omega) only [RA, ↓reduceIte, Nat.reduceEqDiff, RD, resAll, resOf]; rfl) GhV.refl ?_
    simp only [tup]
    rw [if_neg hc] at hK
    exact ⟨.int, hK⟩
theorem getN_FI {xs : List (List Int)} {k : Nat} (h : k < xs.length) : getN none (xs.map FI) k = some (FI (xs.getD k [])) := by
  simp [getN, h, List.getD]
theorem szInt64SS_spec {x : Bool} {xss : List (List Int)} {H : BH} {K : Value → BH → Prop} (hl : xss.length ≤ 9223372036854775807) (hll : ∀ xs ∈ xss, xs.length ≤ 9223372036854775807)
    (hK : ∀ r : Int, r ≤ 1048576 → -1 ≤ r → (0 ≤ r → xss.length ≤ 1048576 ∧ ∀ xs ∈ xss, xs.length ≤ 1048576) → K (I r) H) : CallX x F_laws_szInt64SS [FII xss, I 1048576] H K := by
  refine callP (.cons .fz (.cons .int .nil)) ?_
  refine CallX_body Γ_laws_szInt64SS ?_
  simp only [A_laws_szInt64SS, T_aiff]
  refine T_rseq fun Kr hKr => ?_
  simp (disch := omega) only [RA, ↓reduceIte, Nat.reduceEqDiff, RD]
  refine hKr _ _ ?_
  clear hKr Kr
  try simp only [RN, reduceIte]
  try refine T_e rfl ?_
  refine T_rseq fun Kr hKr => ?_
  simp (disch := omega) only [RA, ↓reduceIte, Nat.reduceEqDiff, RD]
  refine hKr _ _ ?_
  clear hKr Kr
  try simp only [RN, reduceIte]
  try refine T_e rfl ?_
  refine T_rseq fun Kr hKr => ?_
  simp (disch := omega) only [RA, ↓reduceIte, Nat.reduceEqDiff, RD]
  refine hKr _ _ ?_
  clear hKr Kr
  try simp only [RN, reduceIte]
  try refine T_e rfl ?_
  refine T_csplit (p := (1048576 : Int) - xss.length < 0) (by simp only [RA, ↓reduceIte, Nat.reduceEqDiff] <;> rfl) (by (try simp only [RB]) <;> first | done | exact Iff.rfl | omega | simp) (fun hc => ?_) (fun hc => ?_) <;> (try simp only [RN, reduceIte]) <;> (try refine T_e rfl ?_)
  · refine T_rseq fun Kr hKr => ?_
    simp (disch := omega) only [RA, ↓reduceIte, Nat.reduceEqDiff, RD]
    refine hKr _ _ ?_
    clear hKr Kr
    try simp only [RN, reduceIte]
    try refine T_e rfl ?_
    refine bodyQ_ret (by simp (disch := omega) only [RA, ↓reduceIte, Nat.reduceEqDiff, RD, resAll, resOf]; rfl) GhV.refl ?_
    simp only [tup]
    exact ⟨.int, hK (-1) (by omega) (by omega) (fun h => by omega)⟩
  have hxl : xss.length ≤ 1048576 := by omega
  clear hc
  refine T_rseq fun Kr hKr => ?_
  simp (disch := omega) only [RA, ↓reduceIte, Nat.reduceEqDiff, RD]
  refine hKr _ _ ?_
  clear hKr Kr
  try simp only [RN, reduceIte]
  try refine T_e rfl ?_
  refine T_wloop (fun m f H' => ∃ i a, i ≤ xss.length ∧ m = xss.length - i ∧ 0 ≤ a ∧ a ≤ 1048576 ∧ (∀ j, j < i → (xss.getD j []).length ≤ 1048576) ∧ f 0 = FII xss ∧ f 1 = I a ∧ f 5 = I i ∧ H' = []) (xss.length) ?_ ?_
  · refine ⟨_, _, Gh.refl, 0, 1048576 - (xss.length : Int), by omega, by omega, by omega, by omega, fun j hj => by omega, ?_, ?_, ?_, rfl⟩
    any_goals (simp (disch := omega) only [RA, ↓reduceIte, Nat.reduceEqDiff, RD, RE, *] <;> rfl)
  · rintro m f H' R ⟨i, a, hi, rfl, ha0, ha1, hall, g0, g1, g5, rfl⟩ hN hX hR hE
    simp only [A_laws_szInt64SS.l0, T_aiff]
    refine T_rseq fun Kr hKr => ?_
    simp (disch := omega) only [RA, ↓reduceIte, Nat.reduceEqDiff, RD, g0, g5]
    refine hKr _ _ ?_
    clear hKr Kr
    try simp only [RN, reduceIte]
    try refine T_e rfl ?_
    refine T_csplit (p := i < xss.length) (by simp only [RA, ↓reduceIte, Nat.reduceEqDiff] <;> rfl) (by (try simp only [RB]) <;> first | done | exact Iff.rfl | omega | simp) (fun hc => ?_) (fun hc => ?_) <;> (try simp only [RN, reduceIte]) <;> (try refine T_e rfl ?_)
    · have hxi := hll _ (getD_mem' (d := []) hc)
      first | refine T_bfree rfl ?_ | refine T_bfree' rfl ?_
      try simp only [RN, reduceIte]
      try refine T_e rfl ?_
      refine T_rseq fun Kr hKr => ?_
      simp (disch := omega) only [RA, ↓reduceIte, Nat.reduceEqDiff, RD, g0, g1, g5, getN_FI]
      refine szInt64S_spec ⟨ha0, ha1⟩ hxi ?_
      by_cases hneg : a - (xss.getD i []).length < 0
      · rw [if_pos hneg]
        simp (disch := omega) only [RA, ↓reduceIte, Nat.reduceEqDiff, RD]
        refine hKr _ _ ?_
        clear hKr Kr
        try simp only [blkQ, thenQ, loopQ]
        try simp only [RN, reduceIte]
        try refine T_e rfl ?_
        refine T_rseq fun Kr hKr => ?_
        simp (disch := omega) only [RA, ↓reduceIte, Nat.reduceEqDiff, RD]
        refine hKr _ _ ?_
        clear hKr Kr
        try simp only [RN, reduceIte]
        try refine T_e rfl ?_
        refine T_cseq (t := true) (by simp (disch := omega) only [RA, ↓reduceIte, Nat.reduceEqDiff, RD]) ?_
        try simp only [RN, reduceIte]
        try refine T_e rfl ?_
        refine T_rseq fun Kr hKr => ?_
        simp (disch := omega) only [RA, ↓reduceIte, Nat.reduceEqDiff, RD]
        refine hKr _ _ ?_
        clear hKr Kr
        try simp only [RN, reduceIte]
        try refine T_e rfl ?_
        refine hR _ _ ?_
        refine bodyQ_ret (by simp (disch := omega) only [RA, ↓reduceIte, Nat.reduceEqDiff, RD, resAll, resOf]; rfl) GhV.refl ?_
        simp only [tup]
        exact ⟨.int, hK (-1) (by omega) (by omega) (fun h => by omega)⟩
      · rw [if_neg hneg]
        have hall' : ∀ j, j < i + 1 → (xss.getD j []).length ≤ 1048576 := fun j hj => by
          by_cases e : j = i
          · rw [e]; omega
          · exact hall j (by omega)
        simp (disch := omega) only [RA, ↓reduceIte, Nat.reduceEqDiff, RD]
        refine hKr _ _ ?_
        clear hKr Kr
        try simp only [blkQ, thenQ, loopQ]
        try simp only [RN, reduceIte]
        try refine T_e rfl ?_
        refine T_rseq fun Kr hKr => ?_
        simp (disch := omega) only [RA, ↓reduceIte, Nat.reduceEqDiff, RD]
        refine hKr _ _ ?_
        clear hKr Kr
        try simp only [RN, reduceIte]
        try refine T_e rfl ?_
        refine T_cseq (t := false) (by simp (disch := omega) only [RA, ↓reduceIte, Nat.reduceEqDiff, RD]) ?_
        try simp only [RN, reduceIte]
        try refine T_e rfl ?_
        refine T_reg_k fun Kr hKr => ?_
        simp (disch := omega) only [RA, ↓reduceIte, Nat.reduceEqDiff, RD, g5]
        refine hKr _ _ ?_
        clear hKr Kr
        refine hN (xss.length - (i + 1)) _ _ _ _ (by omega) Gh.refl ⟨i + 1, a - (xss.getD i []).length, by omega, rfl, by omega, by omega, hall', ?_, ?_, ?_, rfl⟩
        any_goals (simp (disch := omega) only [RA, ↓reduceIte, Nat.reduceEqDiff, RD, RE, *] <;> rfl)
    · refine hX _ _ ?_
      refine T_rseq fun Kr hKr => ?_
      simp (disch := omega) only [RA, ↓reduceIte, Nat.reduceEqDiff, RD, g1]
      refine hKr _ _ ?_
      clear hKr Kr
      try simp only [RN, reduceIte]
      try refine T_e rfl ?_
      refine bodyQ_ret (by simp (disch := omega) only [RA, ↓reduceIte, Nat.reduceEqDiff, RD, resAll, resOf]; rfl) GhV.refl ?_
      simp only [tup]
      refine ⟨.int, hK a ha1 (by omega) fun _ => ⟨hxl, fun xs hxs => ?_⟩⟩
      obtain ⟨j, hj, rfl⟩ := List.mem_iff_getElem.1 hxs
      have := hall j (by omega)
      simpa [List.getD, hj] using this
def cpI (xs : List Int) : Nat → List Int
  | 0 => List.replicate xs.length 0
  | k + 1 => (cpI xs k).set k (el xs k)
theorem cpI_len {xs : List Int} {k : Nat} : (cpI xs k).length = xs.length := by
  induction k with
  | zero => simp [cpI]
  | succ k ih => simp [cpI, ih]
theorem cpI_el {xs : List Int} {k i : Nat} (hi : i < xs.length) (hk : i < k) : el (cpI xs k) i = el xs i := by
  induction k with
  | zero => omega
  | succ k ih =>
    rw [cpI, el_set, cpI_len]
    by_cases e : i = k
    · subst e; rw [if_pos ⟨rfl, hi⟩]
    · rw [if_neg (fun h => e h.1), ih (by omega)]
theorem cpI_all {xs : List Int} : cpI xs xs.length = xs := by
  apply List.ext_getElem cpI_len
  intro i h1 h2
  have := cpI_el (k := xs.length) h2 h2
  simpa [el, List.getD, h1, h2] using this
theorem toInt64S_run {xs : List Int} (hl : xs.length ≤ 1048576) : CallX false F_laws_toInt64S [FI xs] [] fun v H1 => ∃ j, v = S j 0 xs.length 1 ∧ blk H1 j = some (xs.map I) := by
  refine CallX_body Γ_laws_toInt64S ?_
  simp only [A_laws_toInt64S, T_aiff]
  refine T_rseq fun Kr hKr => ?_
  simp (disch := omega) only [RA, ↓reduceIte, Nat.reduceEqDiff, RD]
  refine hKr _ _ ?_
  clear hKr Kr
  try simp only [RN, reduceIte]
  try refine T_e rfl ?_
  refine T_rseq fun Kr hKr => ?_
  simp (disch := omega) only [RA, ↓reduceIte, Nat.reduceEqDiff, RD]
  refine hKr _ _ ?_
  clear hKr Kr
  try simp only [RN, reduceIte]
  try refine T_e rfl ?_
  refine T_rseq fun Kr hKr => ?_
  simp (disch := omega) only [RA, ↓reduceIte, Nat.reduceEqDiff, RD]
  refine hKr _ _ ?_
  clear hKr Kr
  try simp only [RN, reduceIte]
  try refine T_e rfl ?_
  refine T_wloop (fun m f H' => ∃ i, i ≤ xs.length ∧ m = xs.length - i ∧ f 0 = FI xs ∧ f 3 = S 0 0 xs.length 1 ∧ f 4 = I i ∧ H' = [some ((cpI xs i).map I)]) (xs.length) ?_ ?_
  · refine ⟨_, _, Gh.refl, 0, by omega, by omega, ?_, ?_, ?_, by simp [cpI]⟩
    any_goals (simp (disch := omega) only [RA, ↓reduceIte, Nat.reduceEqDiff, RD, RE, *] <;> rfl)
  · rintro m f H' R ⟨i, hi, rfl, g0, g3, g4, rfl⟩ hN hX hR hE
    simp only [A_laws_toInt64S.l0, T_aiff]
    have hcl := @cpI_len xs i
    refine T_rseq fun Kr hKr => ?_
    simp (disch := omega) only [RA, ↓reduceIte, Nat.reduceEqDiff, RD, g0, g4]
    refine hKr _ _ ?_
    clear hKr Kr
    try simp only [RN, reduceIte]
    try refine T_e rfl ?_
    refine T_csplit (p := i < xs.length) (by simp only [RA, ↓reduceIte, Nat.reduceEqDiff] <;> rfl) (by (try simp only [RB]) <;> first | done | exact Iff.rfl | omega | simp) (fun hc => ?_) (fun hc => ?_) <;> (try simp only [RN, reduceIte]) <;> (try refine T_e rfl ?_)
    · first | refine T_bfree rfl ?_ | refine T_bfree' rfl ?_
      try simp only [RN, reduceIte]
      try refine T_e rfl ?_
      refine T_rseq fun Kr hKr => ?_
      simp (disch := omega) only [RA, ↓reduceIte, Nat.reduceEqDiff, RD, g0, g3, g4, hcl]
      refine hKr _ _ ?_
      clear hKr Kr
      try simp only [RN, reduceIte]
      try refine T_e rfl ?_
      refine T_reg_k fun Kr hKr => ?_
      simp (disch := omega) only [RA, ↓reduceIte, Nat.reduceEqDiff, RD, g4]
      refine hKr _ _ ?_
      clear hKr Kr
      refine hN (xs.length - (i + 1)) _ _ _ _ (by omega) Gh.refl ⟨i + 1, by omega, rfl, ?_, ?_, ?_, rfl⟩
      any_goals (simp (disch := omega) only [RA, ↓reduceIte, Nat.reduceEqDiff, RD, RE, *] <;> rfl)
    · refine hX _ _ ?_
      obtain rfl : i = xs.length := by omega
      refine T_rseq fun Kr hKr => ?_
      simp (disch := omega) only [RA, ↓reduceIte, Nat.reduceEqDiff, RD, g3]
      refine hKr _ _ ?_
      clear hKr Kr
      try simp only [RN, reduceIte]
      try refine T_e rfl ?_
      refine bodyQ_ret (by simp (disch := omega) only [RA, ↓reduceIte, Nat.reduceEqDiff, RD, resAll, resOf, g3]; rfl) GhV.refl ?_
      simp only [tup]
      rw [cpI_all]
      exact ⟨0, rfl, rfl⟩
theorem toInt64S_spec {x : Bool} {xs : List Int} {H : BH} {K : Value → BH → Prop} (hl : xs.length ≤ 1048576) (hK : K (FI xs) H) : CallX x F_laws_toInt64S [FI xs] H K :=
  callRZ (.cons .fz .nil) NNL_I (by simp) (toInt64S_run hl) hK
/-- The first k copied, nil behind. -/
def cpII (xss : List (List Int)) (k : Nat) : List Value := (xss.take k).map FI ++ List.replicate (xss.length - k) (.slice none 0 0)
theorem cpII_len {xss : List (List Int)} {k : Nat} (h : k ≤ xss.length) : (cpII xss k).length = xss.length := by
  simp [cpII]
  omega
theorem cpII_st {xss : List (List Int)} {k b : Nat} {H : BH} (h : k < xss.length) : stO (some (cpII xss k)) H b k 1 (FI (xss.getD k [])) = some (undef, H.set b (some (cpII xss (k + 1)))) := by
  rw [stO_1 rfl rfl rfl (by rw [cpII_len (by omega)]; exact h)]
  congr 4
  have hk : ((xss.take k).map FI).length = k := by simp; omega
  have e1 : (cpII xss k).take k = (xss.take k).map FI := by
    rw [cpII, List.take_append_of_le_length (by omega), List.take_of_length_le (by omega)]
  have e2 : (cpII xss k).drop (k + 1) = List.replicate (xss.length - (k + 1)) (.slice none 0 0) := by
    rw [cpII, List.drop_append, List.drop_eq_nil_of_le (by omega), hk, List.drop_replicate, List.nil_append]
    congr 1
    omega
  show (cpII xss k).take k ++ [FI (xss.getD k [])] ++ (cpII xss k).drop (k + 1) = _
  rw [e1, e2, cpII, List.take_add_one, List.map_append]
  simp [List.getD, h]
theorem toInt64SS_spec {x : Bool} {xss : List (List Int)} {H : BH} {K : Value → BH → Prop} (hl : xss.length ≤ 1048576) (hll : ∀ xs ∈ xss, xs.length ≤ 1048576) (hK : K (FII xss) H) : CallX x F_laws_toInt64SS [FII xss] H K := by
  refine callRZ (.cons .fz .nil) NNL_FI (by simp) ?_ hK
  refine CallX_body Γ_laws_toInt64SS ?_
  simp only [A_laws_toInt64SS, T_aiff]
  refine T_rseq fun Kr hKr => ?_
  simp (disch := omega) only [RA, ↓reduceIte, Nat.reduceEqDiff, RD]
  refine hKr _ _ ?_
  clear hKr Kr
  try simp only [RN, reduceIte]
  try refine T_e rfl ?_
  refine T_rseq fun Kr hKr => ?_
  simp (disch := omega) only [RA, ↓reduceIte, Nat.reduceEqDiff, RD]
  refine hKr _ _ ?_
  clear hKr Kr
  try simp only [RN, reduceIte]
  try refine T_e rfl ?_
  refine T_rseq fun Kr hKr => ?_
  simp (disch := omega) only [RA, ↓reduceIte, Nat.reduceEqDiff, RD]
  refine hKr _ _ ?_
  clear hKr Kr
  try simp only [RN, reduceIte]
  try refine T_e rfl ?_
  refine T_wloop (fun m f H' => ∃ i, i ≤ xss.length ∧ m = xss.length - i ∧ f 0 = FII xss ∧ f 3 = S 0 0 xss.length 1 ∧ f 4 = I i ∧ H' = [some (cpII xss i)]) (xss.length) ?_ ?_
  · refine ⟨_, _, Gh.refl, 0, by omega, by omega, ?_, ?_, ?_, by simp [cpII]⟩
    any_goals (simp (disch := omega) only [RA, ↓reduceIte, Nat.reduceEqDiff, RD, RE, *] <;> rfl)
  · rintro m f H' R ⟨i, hi, rfl, g0, g3, g4, rfl⟩ hN hX hR hE
    simp only [A_laws_toInt64SS.l0, T_aiff]
    refine T_rseq fun Kr hKr => ?_
    simp (disch := omega) only [RA, ↓reduceIte, Nat.reduceEqDiff, RD, g0, g4]
    refine hKr _ _ ?_
    clear hKr Kr
    try simp only [RN, reduceIte]
    try refine T_e rfl ?_
    refine T_csplit (p := i < xss.length) (by simp only [RA, ↓reduceIte, Nat.reduceEqDiff] <;> rfl) (by (try simp only [RB]) <;> first | done | exact Iff.rfl | omega | simp) (fun hc => ?_) (fun hc => ?_) <;> (try simp only [RN, reduceIte]) <;> (try refine T_e rfl ?_)
    · have hxi := hll _ (getD_mem' (d := []) hc)
      first | refine T_bfree rfl ?_ | refine T_bfree' rfl ?_
      try simp only [RN, reduceIte]
      try refine T_e rfl ?_
      refine T_rseq fun Kr hKr => ?_
      simp (disch := omega) only [RA, ↓reduceIte, Nat.reduceEqDiff, RD, g0, g3, g4, getN_FI]
      refine toInt64S_spec hxi ?_
      simp (disch := omega) only [RA, ↓reduceIte, Nat.reduceEqDiff, RD, g3, g4, cpII_st]
      refine hKr _ _ ?_
      clear hKr Kr
      try simp only [blkQ, thenQ, loopQ]
      try simp only [RN, reduceIte]
      try refine T_e rfl ?_
      refine T_reg_k fun Kr hKr => ?_
      simp (disch := omega) only [RA, ↓reduceIte, Nat.reduceEqDiff, RD, g4]
      refine hKr _ _ ?_
      clear hKr Kr
      refine hN (xss.length - (i + 1)) _ _ _ _ (by omega) Gh.refl ⟨i + 1, by omega, rfl, ?_, ?_, ?_, rfl⟩
      any_goals (simp (disch := omega) only [RA, ↓reduceIte, Nat.reduceEqDiff, RD, RE, *] <;> rfl)
    · refine hX _ _ ?_
      obtain rfl : i = xss.length := by omega
      refine T_rseq fun Kr hKr => ?_
      simp (disch := omega) only [RA, ↓reduceIte, Nat.reduceEqDiff, RD, g3]
      refine hKr _ _ ?_
      clear hKr Kr
      try simp only [RN, reduceIte]
      try refine T_e rfl ?_
      refine bodyQ_ret (by simp (disch := omega) only [RA, ↓reduceIte, Nat.reduceEqDiff, RD, resAll, resOf, g3]; rfl) GhV.refl ?_
      simp only [tup]
      exact ⟨0, rfl, by simp [cpII, blk]⟩
/-- Slices of slices are equal to themselves. -/
theorem eqInt64SS_same {xss : List (List Int)} {H : BH} {K : Value → BH → Prop} (hl : xss.length ≤ 1048576) (hll : ∀ xs ∈ xss, xs.length ≤ 1048576) (hK : K (.bool true) H) : CallX false F_laws_eqInt64SS [FII xss, FII xss] H K := by
  refine callP (.cons .fz (.cons .fz .nil)) ?_
  refine CallX_body Γ_laws_eqInt64SS ?_
  simp only [A_laws_eqInt64SS, T_aiff]
  refine T_rseq fun Kr hKr => ?_
  simp (disch := omega) only [RA, ↓reduceIte, Nat.reduceEqDiff, RD]
  refine hKr _ _ ?_
  clear hKr Kr
  try simp only [RN, reduceIte]
  try refine T_e rfl ?_
  refine T_rseq fun Kr hKr => ?_
  simp (disch := omega) only [RA, ↓reduceIte, Nat.reduceEqDiff, RD]
  refine hKr _ _ ?_
  clear hKr Kr
  try simp only [RN, reduceIte]
  try refine T_e rfl ?_
  refine T_cseq (t := false) (by simp (disch := omega) only [RA, ↓reduceIte, Nat.reduceEqDiff, RD]) ?_
  try simp only [RN, reduceIte]
  try refine T_e rfl ?_
  refine T_rseq fun Kr hKr => ?_
  simp (disch := omega) only [RA, ↓reduceIte, Nat.reduceEqDiff, RD]
  refine hKr _ _ ?_
  clear hKr Kr
  try simp only [RN, reduceIte]
  try refine T_e rfl ?_
  refine T_wloop (fun m f H' => ∃ i, i ≤ xss.length ∧ m = xss.length - i ∧ f 0 = FII xss ∧ f 1 = FII xss ∧ f 5 = I i ∧ H' = []) (xss.length) ?_ ?_
  · refine ⟨_, _, Gh.refl, 0, by omega, by omega, ?_, ?_, ?_, rfl⟩
    any_goals (simp (disch := omega) only [RA, ↓reduceIte, Nat.reduceEqDiff, RD, RE, *] <;> rfl)
  · rintro m f H' R ⟨i, hi, rfl, g0, g1, g5, rfl⟩ hN hX hR hE
    simp only [A_laws_eqInt64SS.l0, T_aiff]
    refine T_rseq fun Kr hKr => ?_
    simp (disch := omega) only [RA, ↓reduceIte, Nat.reduceEqDiff, RD, g0, g5]
    refine hKr _ _ ?_
    clear hKr Kr
    try simp only [RN, reduceIte]
    try refine T_e rfl ?_
    refine T_csplit (p := i < xss.length) (by simp only [RA, ↓reduceIte, Nat.reduceEqDiff] <;> rfl) (by (try simp only [RB]) <;> first | done | exact Iff.rfl | omega | simp) (fun hc => ?_) (fun hc => ?_) <;> (try simp only [RN, reduceIte]) <;> (try refine T_e rfl ?_)
    · have hxi := hll _ (getD_mem' (d := []) hc)
      first | refine T_bfree rfl ?_ | refine T_bfree' rfl ?_
      try simp only [RN, reduceIte]
      try refine T_e rfl ?_
      refine T_rseq fun Kr hKr => ?_
      simp (disch := omega) only [RA, ↓reduceIte, Nat.reduceEqDiff, RD, g0, g1, g5, getN_FI]
      refine callP (.cons .fz (.cons .fz .nil)) ?_
      refine eqInt64S_spec Sl.fz Sl.fz (by omega) (by omega) ?_
      refine ⟨.bool, ?_⟩
      simp (disch := omega) only [RA, ↓reduceIte, Nat.reduceEqDiff, RD]
      refine hKr _ _ ?_
      clear hKr Kr
      try simp only [blkQ, thenQ, loopQ]
      try simp only [RN, reduceIte]
      try refine T_e rfl ?_
      refine T_cseq (t := false) (by simp (disch := omega) only [RA, ↓reduceIte, Nat.reduceEqDiff, RD]) ?_
      try simp only [RN, reduceIte]
      try refine T_e rfl ?_
      refine T_reg_k fun Kr hKr => ?_
      simp (disch := omega) only [RA, ↓reduceIte, Nat.reduceEqDiff, RD, g5]
      refine hKr _ _ ?_
      clear hKr Kr
      refine hN (xss.length - (i + 1)) _ _ _ _ (by omega) Gh.refl ⟨i + 1, by omega, rfl, ?_, ?_, ?_, rfl⟩
      any_goals (simp (disch := omega) only [RA, ↓reduceIte, Nat.reduceEqDiff, RD, RE, *] <;> rfl)
    · refine hX _ _ ?_
      refine T_rseq fun Kr hKr => ?_
      simp (disch := omega) only [RA, ↓reduceIte, Nat.reduceEqDiff, RD]
      refine hKr _ _ ?_
      clear hKr Kr
      try simp only [RN, reduceIte]
      try refine T_e rfl ?_
      refine bodyQ_ret (by simp (disch := omega) only [RA, ↓reduceIte, Nat.reduceEqDiff, RD, resAll, resOf]; rfl) GhV.refl ?_
      simp only [tup]
      exact ⟨.bool, hK⟩
end Go.Bm

/- Sums and types of lists; passports and their Euler numbers. -/
set_option linter.unusedVariables false
set_option linter.unusedSimpArgs false
namespace Go.Bm
open Go Go.Am

def sumK (xs : List Int) : Nat → Int
  | 0 => 0
  | i + 1 => sumK xs i + el xs i
def sumI (xs : List Int) : Int := sumK xs xs.length
def OkAt (xs : List Int) (i : Nat) : Prop := (1 ≤ el xs i ∧ el xs i ≤ 16) ∧ (0 < i → el xs i ≤ el xs (i - 1))
instance (xs : List Int) (i : Nat) : Decidable (OkAt xs i) := by unfold OkAt; infer_instance
def TypeP (xs : List Int) : Prop := (1 ≤ xs.length ∧ xs.length ≤ 16) ∧ (∀ i, i < xs.length → OkAt xs i) ∧ sumI xs ≤ 16
instance (xs : List Int) : Decidable (TypeP xs) := by unfold TypeP; infer_instance
theorem sumK_ge {xs : List Int} : ∀ {i : Nat}, (∀ j, j < i → OkAt xs j) → (i : Int) ≤ sumK xs i ∧ sumK xs i ≤ 16 * i
  | 0, _ => by simp [sumK]
  | i + 1, h => by
    have ih := sumK_ge (i := i) fun j hj => h j (by omega)
    have := (h i (by omega)).1
    simp only [sumK]
    omega
theorem sumK_mono {xs : List Int} {i : Nat} : ∀ {k : Nat}, (∀ j, j < k → OkAt xs j) → i ≤ k → sumK xs i ≤ sumK xs k
  | 0, _, h => by
    obtain rfl : i = 0 := by omega
    exact Int.le_refl _
  | k + 1, hk, h => by
    by_cases e : i = k + 1
    · rw [e]; exact Int.le_refl _
    · have ih := sumK_mono (i := i) (k := k) (fun j hj => hk j (by omega)) (by omega)
      have := (hk k (by omega)).1
      simp only [sumK]
      omega
theorem TypeP.pos {xs : List Int} (h : TypeP xs) : 1 ≤ sumI xs := by
  have := (sumK_ge h.2.1).1
  have := h.1
  rw [sumI]
  omega
theorem l04Sum_spec {x : Bool} {xs : List Int} {H : BH} {K : Value → BH → Prop} (hl : xs.length ≤ 16) (hb : ∀ i, i < xs.length → OkAt xs i) (hK : K (I (sumI xs)) H) : CallX x F_spec_l04Sum [FI xs] H K := by
  refine callP (.cons .fz .nil) ?_
  refine CallX_body Γ_spec_l04Sum ?_
  simp only [A_spec_l04Sum, T_aiff]
  refine T_rseq fun Kr hKr => ?_
  simp (disch := omega) only [RA, ↓reduceIte, Nat.reduceEqDiff, RD]
  refine hKr _ _ ?_
  clear hKr Kr
  try simp only [RN, reduceIte]
  try refine T_e rfl ?_
  refine T_rseq fun Kr hKr => ?_
  simp (disch := omega) only [RA, ↓reduceIte, Nat.reduceEqDiff, RD]
  refine hKr _ _ ?_
  clear hKr Kr
  try simp only [RN, reduceIte]
  try refine T_e rfl ?_
  refine T_rseq fun Kr hKr => ?_
  simp (disch := omega) only [RA, ↓reduceIte, Nat.reduceEqDiff, RD]
  refine hKr _ _ ?_
  clear hKr Kr
  try simp only [RN, reduceIte]
  try refine T_e rfl ?_
  refine T_wloop (fun m f H' => ∃ i, i ≤ xs.length ∧ m = xs.length - i ∧ f 0 = FI xs ∧ f 3 = I (sumK xs i) ∧ f 4 = I i ∧ H' = []) (xs.length) ?_ ?_
  · refine ⟨_, _, Gh.refl, 0, by omega, by omega, ?_, ?_, ?_, rfl⟩
    any_goals (simp (disch := omega) only [RA, ↓reduceIte, Nat.reduceEqDiff, RD, RE, *] <;> rfl)
  · rintro m f H' R ⟨i, hi, rfl, g0, g3, g4, rfl⟩ hN hX hR hE
    simp only [A_spec_l04Sum.l0, T_aiff]
    have hs := sumK_ge (i := i) fun j hj => hb j (by omega)
    refine T_rseq fun Kr hKr => ?_
    simp (disch := omega) only [RA, ↓reduceIte, Nat.reduceEqDiff, RD, g0, g4]
    refine hKr _ _ ?_
    clear hKr Kr
    try simp only [RN, reduceIte]
    try refine T_e rfl ?_
    refine T_csplit (p := i < xs.length) (by simp only [RA, ↓reduceIte, Nat.reduceEqDiff] <;> rfl) (by (try simp only [RB]) <;> first | done | exact Iff.rfl | omega | simp) (fun hc => ?_) (fun hc => ?_) <;> (try simp only [RN, reduceIte]) <;> (try refine T_e rfl ?_)
    · have ho := (hb i hc).1
      have e1 : sumK xs (i + 1) = sumK xs i + el xs i := rfl
      first | refine T_bfree rfl ?_ | refine T_bfree' rfl ?_
      try simp only [RN, reduceIte]
      try refine T_e rfl ?_
      refine T_rseq fun Kr hKr => ?_
      simp (disch := omega) only [RA, ↓reduceIte, Nat.reduceEqDiff, RD, g0, g3, g4]
      refine hKr _ _ ?_
      clear hKr Kr
      try simp only [RN, reduceIte]
      try refine T_e rfl ?_
      refine T_reg_k fun Kr hKr => ?_
      simp (disch := omega) only [RA, ↓reduceIte, Nat.reduceEqDiff, RD, g4]
      refine hKr _ _ ?_
      clear hKr Kr
      refine hN (xs.length - (i + 1)) _ _ _ _ (by omega) Gh.refl ⟨i + 1, by omega, rfl, ?_, ?_, ?_, rfl⟩
      any_goals (simp (disch := omega) only [RA, ↓reduceIte, Nat.reduceEqDiff, RD, RE, *] <;> rfl)
      all_goals (rw [e1]; simp (disch := omega) only [RA, ↓reduceIte, Nat.reduceEqDiff, RD, *])
    · refine hX _ _ ?_
      obtain rfl : i = xs.length := by omega
      refine T_rseq fun Kr hKr => ?_
      simp (disch := omega) only [RA, ↓reduceIte, Nat.reduceEqDiff, RD, g3]
      refine hKr _ _ ?_
      clear hKr Kr
      try simp only [RN, reduceIte]
      try refine T_e rfl ?_
      refine bodyQ_ret (by simp (disch := omega) only [RA, ↓reduceIte, Nat.reduceEqDiff, RD, resAll, resOf]; rfl) GhV.refl ?_
      simp only [tup]
      exact ⟨.int, hK⟩
theorem sumOfType_spec {x : Bool} {xs : List Int} {H : BH} {K : Value → BH → Prop} (hl : xs.length ≤ 1048576) (hK : K (I (if TypeP xs then sumI xs else 0)) H) : CallX x F_impl_sumOfType [FI xs] H K := by
  refine callP (.cons .fz .nil) ?_
  refine CallX_body Γ_impl_sumOfType ?_
  simp only [A_impl_sumOfType, T_aiff]
  refine T_rseq fun Kr hKr => ?_
  simp (disch := omega) only [RA, ↓reduceIte, Nat.reduceEqDiff, RD]
  refine hKr _ _ ?_
  clear hKr Kr
  try simp only [RN, reduceIte]
  try refine T_e rfl ?_
  refine T_rseq fun Kr hKr => ?_
  simp (disch := omega) only [RA, ↓reduceIte, Nat.reduceEqDiff, RD]
  refine hKr _ _ ?_
  clear hKr Kr
  try simp only [RN, reduceIte]
  try refine T_e rfl ?_
  refine T_rseq fun Kr hKr => ?_
  simp (disch := omega) only [RA, ↓reduceIte, Nat.reduceEqDiff, RD]
  refine hKr _ _ ?_
  clear hKr Kr
  try simp only [RN, reduceIte]
  try refine T_e rfl ?_
  refine T_wloop (fun m f H' => ∃ i, i ≤ xs.length ∧ m = xs.length - i ∧ (∀ j, j < i → OkAt xs j) ∧ sumK xs i ≤ 16 ∧ f 0 = FI xs ∧ f 3 = I (sumK xs i) ∧ f 6 = FI xs ∧ f 7 = I xs.length ∧ f 8 = I i ∧ H' = []) (xs.length) ?_ ?_
  · refine ⟨_, _, Gh.refl, 0, by omega, by omega, fun j hj => by omega, by simp [sumK], ?_, ?_, ?_, ?_, ?_, rfl⟩
    any_goals (simp (disch := omega) only [RA, ↓reduceIte, Nat.reduceEqDiff, RD, RE, *] <;> rfl)
  · rintro m f H' R ⟨i, hi, rfl, hall, hs16, g0, g3, g6, g7, g8, rfl⟩ hN hX hR hE
    simp only [A_impl_sumOfType.l0, T_aiff]
    have hs := sumK_ge hall
    refine T_rseq fun Kr hKr => ?_
    simp (disch := omega) only [RA, ↓reduceIte, Nat.reduceEqDiff, RD, g7, g8]
    refine hKr _ _ ?_
    clear hKr Kr
    try simp only [RN, reduceIte]
    try refine T_e rfl ?_
    refine T_csplit (p := i < xs.length) (by simp only [RA, ↓reduceIte, Nat.reduceEqDiff] <;> rfl) (by (try simp only [RB]) <;> first | done | exact Iff.rfl | omega | simp) (fun hc => ?_) (fun hc => ?_) <;> (try simp only [RN, reduceIte]) <;> (try refine T_e rfl ?_)
    · have hil : i < xs.length := by assumption
      have hno : ¬ OkAt xs i → (if TypeP xs then sumI xs else 0) = 0 := fun h => if_neg fun ht => h (ht.2.1 i hil)
      have hbad : ∀ f' rest, ¬ TypeP xs → T 0 (.seq A_impl_sumOfType.r6 (.seq .ret rest)) R f' [] := fun f' rest h => by
        rw [if_neg h] at hK
        refine T_rseq fun Kr hKr => ?_
        simp (disch := omega) only [RA, ↓reduceIte, Nat.reduceEqDiff, RD]
        refine hKr _ _ ?_
        clear hKr Kr
        try simp only [RN, reduceIte]
        try refine T_e rfl ?_
        refine hR _ _ ?_
        refine bodyQ_ret (by simp (disch := omega) only [RA, ↓reduceIte, Nat.reduceEqDiff, RD, resAll, resOf]; rfl) GhV.refl ?_
        simp only [tup]
        exact ⟨.int, hK⟩
      have hgood : ∀ f', OkAt xs i → f' 0 = FI xs → f' 3 = I (sumK xs i) → f' 5 = I (el xs i) → f' 6 = FI xs → f' 7 = I xs.length → f' 8 = I i →
          T 0 (.seq A_impl_sumOfType.r7 (.seq (.seq A_impl_sumOfType.r8 (.cond (.t 36) (.seq A_impl_sumOfType.r9 .ret) .skip)) A_impl_sumOfType.r10)) R f' [] := by
        clear g0 g3 g6 g7 g8
        intro f' ho g0 g3 g5 g6 g7 g8
        have ho1 := ho.1
        have e1 : sumK xs (i + 1) = sumK xs i + el xs i := rfl
        have hall' : ∀ j, j < i + 1 → OkAt xs j := fun j hj => by
          by_cases e : j = i
          · rw [e]; exact ho
          · exact hall j (by omega)
        refine T_rseq fun Kr hKr => ?_
        simp (disch := omega) only [RA, ↓reduceIte, Nat.reduceEqDiff, RD, g3, g5]
        refine hKr _ _ ?_
        clear hKr Kr
        try simp only [RN, reduceIte]
        try refine T_e rfl ?_
        refine T_rseq fun Kr hKr => ?_
        simp (disch := omega) only [RA, ↓reduceIte, Nat.reduceEqDiff, RD]
        refine hKr _ _ ?_
        clear hKr Kr
        try simp only [RN, reduceIte]
        try refine T_e rfl ?_
        refine T_csplit (p := 16 < sumK xs i + el xs i) (by simp only [RA, ↓reduceIte, Nat.reduceEqDiff] <;> rfl) (by (try simp only [RB]) <;> first | done | exact Iff.rfl | omega | simp) (fun hc => ?_) (fun hc => ?_) <;> (try simp only [RN, reduceIte]) <;> (try refine T_e rfl ?_)
        · have hnt : ¬ TypeP xs := fun ht => by
            have := sumK_mono (i := i + 1) ht.2.1 (by omega)
            have := ht.2.2
            rw [sumI] at this
            omega
          rw [if_neg hnt] at hK
          refine T_rseq fun Kr hKr => ?_
          simp (disch := omega) only [RA, ↓reduceIte, Nat.reduceEqDiff, RD]
          refine hKr _ _ ?_
          clear hKr Kr
          try simp only [RN, reduceIte]
          try refine T_e rfl ?_
          refine hR _ _ ?_
          refine bodyQ_ret (by simp (disch := omega) only [RA, ↓reduceIte, Nat.reduceEqDiff, RD, resAll, resOf]; rfl) GhV.refl ?_
          simp only [tup]
          exact ⟨.int, hK⟩
        · try simp only [RN, reduceIte]
          try refine T_e rfl ?_
          refine T_reg_k fun Kr hKr => ?_
          simp (disch := omega) only [RA, ↓reduceIte, Nat.reduceEqDiff, RD, g8]
          refine hKr _ _ ?_
          clear hKr Kr
          refine hN (xs.length - (i + 1)) _ _ _ _ (by omega) Gh.refl ⟨i + 1, by omega, rfl, hall', by omega, ?_, ?_, ?_, ?_, ?_, rfl⟩
          any_goals (simp (disch := omega) only [RA, ↓reduceIte, Nat.reduceEqDiff, RD, RE, *] <;> rfl)
          all_goals (rw [e1]; simp (disch := omega) only [RA, ↓reduceIte, Nat.reduceEqDiff, RD, *])
      first | refine T_bfree rfl ?_ | refine T_bfree' rfl ?_
      try simp only [RN, reduceIte]
      try refine T_e rfl ?_
      refine T_rseq fun Kr hKr => ?_
      simp (disch := omega) only [RA, ↓reduceIte, Nat.reduceEqDiff, RD, g6, g8]
      refine hKr _ _ ?_
      clear hKr Kr
      try simp only [RN, reduceIte]
      try refine T_e rfl ?_
      by_cases h1 : el xs i < 1
      · refine T_rseq fun Kr hKr => ?_
        simp (disch := omega) only [RA, ↓reduceIte, Nat.reduceEqDiff, RD]
        refine hKr _ _ ?_
        clear hKr Kr
        try simp only [RN, reduceIte]
        try refine T_e rfl ?_
        refine T_cseq (t := true) (by simp (disch := omega) only [RA, ↓reduceIte, Nat.reduceEqDiff, RD]) ?_
        try simp only [RN, reduceIte]
        try refine T_e rfl ?_
        exact hbad _ _ fun ht => by have := (ht.2.1 i hil).1; omega
      by_cases h2 : 16 < el xs i
      · refine T_rseq fun Kr hKr => ?_
        simp (disch := omega) only [RA, ↓reduceIte, Nat.reduceEqDiff, RD]
        refine hKr _ _ ?_
        clear hKr Kr
        try simp only [RN, reduceIte]
        try refine T_e rfl ?_
        refine T_cseq (t := true) (by simp (disch := omega) only [RA, ↓reduceIte, Nat.reduceEqDiff, RD]) ?_
        try simp only [RN, reduceIte]
        try refine T_e rfl ?_
        exact hbad _ _ fun ht => by have := (ht.2.1 i hil).1; omega
      by_cases h3 : i = 0
      · subst h3
        refine T_rseq fun Kr hKr => ?_
        simp (disch := omega) only [RA, ↓reduceIte, Nat.reduceEqDiff, RD]
        refine hKr _ _ ?_
        clear hKr Kr
        try simp only [RN, reduceIte]
        try refine T_e rfl ?_
        refine T_cseq (t := false) (by simp (disch := omega) only [RA, ↓reduceIte, Nat.reduceEqDiff, RD]) ?_
        try simp only [RN, reduceIte]
        try refine T_e rfl ?_
        try simp only [RN, reduceIte]
        try refine T_e rfl ?_
        refine hgood _ ⟨by omega, fun h => by omega⟩ ?_ ?_ ?_ ?_ ?_ ?_
        any_goals (simp (disch := omega) only [RA, ↓reduceIte, Nat.reduceEqDiff, RD, RE, *] <;> rfl)
      · have e2 : (i : Int) - 1 = ((i - 1 : Nat) : Int) := by omega
        have h5 : i - 1 < xs.length := by omega
        by_cases h4 : el xs (i - 1) < el xs i
        · refine T_rseq fun Kr hKr => ?_
          simp (disch := omega) only [RA, ↓reduceIte, Nat.reduceEqDiff, RD, g0, e2]
          refine hKr _ _ ?_
          clear hKr Kr
          try simp only [RN, reduceIte]
          try refine T_e rfl ?_
          refine T_cseq (t := true) (by simp (disch := omega) only [RA, ↓reduceIte, Nat.reduceEqDiff, RD]) ?_
          try simp only [RN, reduceIte]
          try refine T_e rfl ?_
          exact hbad _ _ fun ht => by have := (ht.2.1 i hil).2; omega
        · refine T_rseq fun Kr hKr => ?_
          simp (disch := omega) only [RA, ↓reduceIte, Nat.reduceEqDiff, RD, g0, e2]
          refine hKr _ _ ?_
          clear hKr Kr
          try simp only [RN, reduceIte]
          try refine T_e rfl ?_
          refine T_cseq (t := false) (by simp (disch := omega) only [RA, ↓reduceIte, Nat.reduceEqDiff, RD]) ?_
          try simp only [RN, reduceIte]
          try refine T_e rfl ?_
          try simp only [RN, reduceIte]
          try refine T_e rfl ?_
          refine hgood _ ⟨by omega, fun h => by omega⟩ ?_ ?_ ?_ ?_ ?_ ?_
          any_goals (simp (disch := omega) only [RA, ↓reduceIte, Nat.reduceEqDiff, RD, RE, *] <;> rfl)
    · refine hX _ _ ?_
      obtain rfl : i = xs.length := by omega
      have e : (if TypeP xs then sumI xs else 0) = sumK xs xs.length := by
        by_cases ht : TypeP xs
        · rw [if_pos ht]; rfl
        · rw [if_neg ht]
          rcases Nat.eq_zero_or_pos xs.length with h | h
          · rw [h]; rfl
          · exact absurd ⟨⟨h, by omega⟩, hall, hs16⟩ ht
      rw [e] at hK
      refine T_rseq fun Kr hKr => ?_
      simp (disch := omega) only [RA, ↓reduceIte, Nat.reduceEqDiff, RD, g3]
      refine hKr _ _ ?_
      clear hKr Kr
      try simp only [RN, reduceIte]
      try refine T_e rfl ?_
      refine bodyQ_ret (by simp (disch := omega) only [RA, ↓reduceIte, Nat.reduceEqDiff, RD, resAll, resOf]; rfl) GhV.refl ?_
      simp only [tup]
      exact ⟨.int, hK⟩
theorem l04Type_spec {x : Bool} {xs : List Int} {H : BH} {K : Value → BH → Prop} (hl : xs.length ≤ 1048576) (hK : K (.bool (decide (TypeP xs))) H) : CallX x F_spec_l04Type [FI xs] H K := by
  refine callP (.cons .fz .nil) ?_
  refine CallX_body Γ_spec_l04Type ?_
  simp only [A_spec_l04Type, T_aiff]
  refine T_rseq fun Kr hKr => ?_
  simp (disch := omega) only [RA, ↓reduceIte, Nat.reduceEqDiff, RD]
  refine hKr _ _ ?_
  clear hKr Kr
  try simp only [RN, reduceIte]
  try refine T_e rfl ?_
  by_cases hlen : 1 ≤ xs.length ∧ xs.length ≤ 16
  · by_cases hz : xs.length < 1
    · omega
    refine T_rseq fun Kr hKr => ?_
    simp (disch := omega) only [RA, ↓reduceIte, Nat.reduceEqDiff, RD]
    refine hKr _ _ ?_
    clear hKr Kr
    try simp only [RN, reduceIte]
    try refine T_e rfl ?_
    refine T_cseq (t := false) (by simp (disch := omega) only [RA, ↓reduceIte, Nat.reduceEqDiff, RD]) ?_
    try simp only [RN, reduceIte]
    try refine T_e rfl ?_
    refine T_rseq fun Kr hKr => ?_
    simp (disch := omega) only [RA, ↓reduceIte, Nat.reduceEqDiff, RD]
    refine hKr _ _ ?_
    clear hKr Kr
    try simp only [RN, reduceIte]
    try refine T_e rfl ?_
    refine T_wloop (fun m f H' => ∃ i, i ≤ xs.length ∧ m = xs.length - i ∧ (∀ j, j < i → OkAt xs j) ∧ f 0 = FI xs ∧ f 3 = I i ∧ H' = []) (xs.length) ?_ ?_
    · refine ⟨_, _, Gh.refl, 0, by omega, by omega, fun j hj => by omega, ?_, ?_, rfl⟩
      any_goals (simp (disch := omega) only [RA, ↓reduceIte, Nat.reduceEqDiff, RD, RE, *] <;> rfl)
    · rintro m f H' R ⟨i, hi, rfl, hall, g0, g3, rfl⟩ hN hX hR hE
      simp only [A_spec_l04Type.l0, T_aiff]
      refine T_rseq fun Kr hKr => ?_
      simp (disch := omega) only [RA, ↓reduceIte, Nat.reduceEqDiff, RD, g0, g3]
      refine hKr _ _ ?_
      clear hKr Kr
      try simp only [RN, reduceIte]
      try refine T_e rfl ?_
      refine T_csplit (p := i < xs.length) (by simp only [RA, ↓reduceIte, Nat.reduceEqDiff] <;> rfl) (by (try simp only [RB]) <;> first | done | exact Iff.rfl | omega | simp) (fun hc => ?_) (fun hc => ?_) <;> (try simp only [RN, reduceIte]) <;> (try refine T_e rfl ?_)
      · have hil : i < xs.length := by assumption
        have hbad : ∀ f' rest, ¬ OkAt xs i → T 0 (.seq A_spec_l04Type.r7 (.seq .ret rest)) R f' [] := fun f' rest h => by
          rw [decide_eq_false (fun ht => h (ht.2.1 i hil))] at hK
          refine T_rseq fun Kr hKr => ?_
          simp (disch := omega) only [RA, ↓reduceIte, Nat.reduceEqDiff, RD]
          refine hKr _ _ ?_
          clear hKr Kr
          try simp only [RN, reduceIte]
          try refine T_e rfl ?_
          refine hR _ _ ?_
          refine bodyQ_ret (by simp (disch := omega) only [RA, ↓reduceIte, Nat.reduceEqDiff, RD, resAll, resOf]; rfl) GhV.refl ?_
          simp only [tup]
          exact ⟨.bool, hK⟩
        have hgood : ∀ f', OkAt xs i → f' 0 = FI xs → f' 3 = I i → T 0 A_spec_l04Type.r5 R f' [] := by
          clear g0 g3
          intro f' ho g0 g3
          have hall' : ∀ j, j < i + 1 → OkAt xs j := fun j hj => by
            by_cases e : j = i
            · rw [e]; exact ho
            · exact hall j (by omega)
          refine T_reg_k fun Kr hKr => ?_
          simp (disch := omega) only [RA, ↓reduceIte, Nat.reduceEqDiff, RD, g3]
          refine hKr _ _ ?_
          clear hKr Kr
          refine hN (xs.length - (i + 1)) _ _ _ _ (by omega) Gh.refl ⟨i + 1, by omega, rfl, hall', ?_, ?_, rfl⟩
          any_goals (simp (disch := omega) only [RA, ↓reduceIte, Nat.reduceEqDiff, RD, RE, *] <;> rfl)
        first | refine T_bfree rfl ?_ | refine T_bfree' rfl ?_
        try simp only [RN, reduceIte]
        try refine T_e rfl ?_
        by_cases h1 : 1 ≤ el xs i ∧ el xs i ≤ 16
        · by_cases h3 : i = 0
          · subst h3
            refine T_rseq fun Kr hKr => ?_
            simp (disch := omega) only [RA, ↓reduceIte, Nat.reduceEqDiff, RD, g0, g3]
            refine l01In_spec ?_
            rw [decide_eq_true h1]
            simp (disch := omega) only [RA, ↓reduceIte, Nat.reduceEqDiff, RD, g3]
            refine hKr _ _ ?_
            clear hKr Kr
            try simp only [blkQ, thenQ, loopQ]
            try simp only [RN, reduceIte]
            try refine T_e rfl ?_
            refine T_cseq (t := false) (by simp (disch := omega) only [RA, ↓reduceIte, Nat.reduceEqDiff, RD]) ?_
            try simp only [RN, reduceIte]
            try refine T_e rfl ?_
            refine hgood _ ⟨h1, fun h => by omega⟩ ?_ ?_
            any_goals (simp (disch := omega) only [RA, ↓reduceIte, Nat.reduceEqDiff, RD, RE, *] <;> rfl)
          · have e2 : (i : Int) - 1 = ((i - 1 : Nat) : Int) := by omega
            have h5 : i - 1 < xs.length := by omega
            by_cases h4 : el xs (i - 1) < el xs i
            · refine T_rseq fun Kr hKr => ?_
              simp (disch := omega) only [RA, ↓reduceIte, Nat.reduceEqDiff, RD, g0, g3]
              refine l01In_spec ?_
              rw [decide_eq_true h1]
              simp (disch := omega) only [RA, ↓reduceIte, Nat.reduceEqDiff, RD, g0, g3, e2]
              refine hKr _ _ ?_
              clear hKr Kr
              try simp only [blkQ, thenQ, loopQ]
              try simp only [RN, reduceIte]
              try refine T_e rfl ?_
              refine T_cseq (t := true) (by simp (disch := omega) only [RA, ↓reduceIte, Nat.reduceEqDiff, RD]) ?_
              try simp only [RN, reduceIte]
              try refine T_e rfl ?_
              exact hbad _ _ fun ho => by have := ho.2; omega
            · refine T_rseq fun Kr hKr => ?_
              simp (disch := omega) only [RA, ↓reduceIte, Nat.reduceEqDiff, RD, g0, g3]
              refine l01In_spec ?_
              rw [decide_eq_true h1]
              simp (disch := omega) only [RA, ↓reduceIte, Nat.reduceEqDiff, RD, g0, g3, e2]
              refine hKr _ _ ?_
              clear hKr Kr
              try simp only [blkQ, thenQ, loopQ]
              try simp only [RN, reduceIte]
              try refine T_e rfl ?_
              refine T_cseq (t := false) (by simp (disch := omega) only [RA, ↓reduceIte, Nat.reduceEqDiff, RD]) ?_
              try simp only [RN, reduceIte]
              try refine T_e rfl ?_
              refine hgood _ ⟨h1, fun h => by omega⟩ ?_ ?_
              any_goals (simp (disch := omega) only [RA, ↓reduceIte, Nat.reduceEqDiff, RD, RE, *] <;> rfl)
        · refine T_rseq fun Kr hKr => ?_
          simp (disch := omega) only [RA, ↓reduceIte, Nat.reduceEqDiff, RD, g0, g3]
          refine l01In_spec ?_
          rw [decide_eq_false h1]
          simp (disch := omega) only [RA, ↓reduceIte, Nat.reduceEqDiff, RD]
          refine hKr _ _ ?_
          clear hKr Kr
          try simp only [blkQ, thenQ, loopQ]
          try simp only [RN, reduceIte]
          try refine T_e rfl ?_
          refine T_cseq (t := true) (by simp (disch := omega) only [RA, ↓reduceIte, Nat.reduceEqDiff, RD]) ?_
          try simp only [RN, reduceIte]
          try refine T_e rfl ?_
          exact hbad _ _ fun ho => h1 ho.1
      · refine hX _ _ ?_
        obtain rfl : i = xs.length := by omega
        refine T_rseq fun Kr hKr => ?_
        simp (disch := omega) only [RA, ↓reduceIte, Nat.reduceEqDiff, RD, g0]
        refine l04Sum_spec hlen.2 hall ?_
        simp (disch := omega) only [RA, ↓reduceIte, Nat.reduceEqDiff, RD]
        refine hKr _ _ ?_
        clear hKr Kr
        try simp only [blkQ, thenQ, loopQ]
        try simp only [RN, reduceIte]
        try refine T_e rfl ?_
        refine bodyQ_ret (by simp (disch := omega) only [RA, ↓reduceIte, Nat.reduceEqDiff, RD, resAll, resOf]; rfl) GhV.refl ?_
        simp only [tup]
        rw [show decide (TypeP xs) = decide (sumI xs ≤ 16) by
          rw [decide_eq_decide]
          exact ⟨fun h => h.2.2, fun h => ⟨hlen, hall, h⟩⟩] at hK
        exact ⟨.bool, hK⟩
  · rw [decide_eq_false (fun ht => hlen ht.1)] at hK
    by_cases hz : xs.length < 1
    · refine T_rseq fun Kr hKr => ?_
      simp (disch := omega) only [RA, ↓reduceIte, Nat.reduceEqDiff, RD]
      refine hKr _ _ ?_
      clear hKr Kr
      try simp only [RN, reduceIte]
      try refine T_e rfl ?_
      refine T_cseq (t := true) (by simp (disch := omega) only [RA, ↓reduceIte, Nat.reduceEqDiff, RD]) ?_
      try simp only [RN, reduceIte]
      try refine T_e rfl ?_
      refine T_rseq fun Kr hKr => ?_
      simp (disch := omega) only [RA, ↓reduceIte, Nat.reduceEqDiff, RD]
      refine hKr _ _ ?_
      clear hKr Kr
      try simp only [RN, reduceIte]
      try refine T_e rfl ?_
      refine bodyQ_ret (by simp (disch := omega) only [RA, ↓reduceIte, Nat.reduceEqDiff, RD, resAll, resOf]; rfl) GhV.refl ?_
      simp only [tup]
      exact ⟨.bool, hK⟩
    · refine T_rseq fun Kr hKr => ?_
      simp (disch := omega) only [RA, ↓reduceIte, Nat.reduceEqDiff, RD]
      refine hKr _ _ ?_
      clear hKr Kr
      try simp only [RN, reduceIte]
      try refine T_e rfl ?_
      refine T_cseq (t := true) (by simp (disch := omega) only [RA, ↓reduceIte, Nat.reduceEqDiff, RD]) ?_
      try simp only [RN, reduceIte]
      try refine T_e rfl ?_
      refine T_rseq fun Kr hKr => ?_
      simp (disch := omega) only [RA, ↓reduceIte, Nat.reduceEqDiff, RD]
      refine hKr _ _ ?_
      clear hKr Kr
      try simp only [RN, reduceIte]
      try refine T_e rfl ?_
      refine bodyQ_ret (by simp (disch := omega) only [RA, ↓reduceIte, Nat.reduceEqDiff, RD, resAll, resOf]; rfl) GhV.refl ?_
      simp only [tup]
      exact ⟨.bool, hK⟩
def at3 (xss : List (List Int)) (i : Nat) : List Int := xss.getD i []
def PassP (xss : List (List Int)) : Prop := xss.length = 3 ∧ ∀ i, i < 3 → TypeP (at3 xss i) ∧ sumI (at3 xss i) = sumI (at3 xss 0)
instance (xss : List (List Int)) : Decidable (PassP xss) := by unfold PassP; infer_instance
theorem l04Is_spec {x : Bool} {xss : List (List Int)} {H : BH} {K : Value → BH → Prop} (hl : xss.length ≤ 1048576) (hll : ∀ xs ∈ xss, xs.length ≤ 1048576) (hK : K (.bool (decide (PassP xss))) H) : CallX x F_spec_l04Is [FII xss] H K := by
  refine callP (.cons .fz .nil) ?_
  refine CallX_body Γ_spec_l04Is ?_
  simp only [A_spec_l04Is, T_aiff]
  refine T_rseq fun Kr hKr => ?_
  simp (disch := omega) only [RA, ↓reduceIte, Nat.reduceEqDiff, RD]
  refine hKr _ _ ?_
  clear hKr Kr
  try simp only [RN, reduceIte]
  try refine T_e rfl ?_
  refine T_rseq fun Kr hKr => ?_
  simp (disch := omega) only [RA, ↓reduceIte, Nat.reduceEqDiff, RD]
  refine hKr _ _ ?_
  clear hKr Kr
  try simp only [RN, reduceIte]
  try refine T_e rfl ?_
  refine T_csplit (p := ¬ xss.length = 3) (by simp only [RA, ↓reduceIte, Nat.reduceEqDiff] <;> rfl) (by (try simp only [RB]) <;> first | done | exact Iff.rfl | omega | simp) (fun hc => ?_) (fun hc => ?_) <;> (try simp only [RN, reduceIte]) <;> (try refine T_e rfl ?_)
  · refine T_rseq fun Kr hKr => ?_
    simp (disch := omega) only [RA, ↓reduceIte, Nat.reduceEqDiff, RD]
    refine hKr _ _ ?_
    clear hKr Kr
    try simp only [RN, reduceIte]
    try refine T_e rfl ?_
    refine bodyQ_ret (by simp (disch := omega) only [RA, ↓reduceIte, Nat.reduceEqDiff, RD, resAll, resOf]; rfl) GhV.refl ?_
    simp only [tup]
    rw [decide_eq_false (fun h => hc h.1)] at hK
    exact ⟨.bool, hK⟩
  have h3 := Decidable.not_not.1 hc
  clear hc
  have hg : ∀ i, i < 3 → getN none (xss.map FI) i = some (FI (at3 xss i)) := fun i hi => getN_FI (by omega)
  have hm : ∀ i, i < 3 → (at3 xss i).length ≤ 1048576 := fun i hi => hll _ (getD_mem' (by omega))
  have hg0 := hg 0 (by omega)
  refine T_rseq fun Kr hKr => ?_
  simp (disch := omega) only [RA, ↓reduceIte, Nat.reduceEqDiff, RD]
  refine hKr _ _ ?_
  clear hKr Kr
  try simp only [RN, reduceIte]
  try refine T_e rfl ?_
  refine T_wloop (fun m f H' => ∃ i, i ≤ 3 ∧ m = 3 - i ∧ (∀ j, j < i → TypeP (at3 xss j) ∧ sumI (at3 xss j) = sumI (at3 xss 0)) ∧ f 0 = FII xss ∧ f 3 = I i ∧ H' = []) (3) ?_ ?_
  · refine ⟨_, _, Gh.refl, 0, by omega, by omega, fun j hj => by omega, ?_, ?_, rfl⟩
    any_goals (simp (disch := omega) only [RA, ↓reduceIte, Nat.reduceEqDiff, RD, RE, *] <;> rfl)
  · rintro m f H' R ⟨i, hi, rfl, hall, g0, g3, rfl⟩ hN hX hR hE
    simp only [A_spec_l04Is.l0, T_aiff]
    refine T_rseq fun Kr hKr => ?_
    simp (disch := omega) only [RA, ↓reduceIte, Nat.reduceEqDiff, RD, g3]
    refine hKr _ _ ?_
    clear hKr Kr
    try simp only [RN, reduceIte]
    try refine T_e rfl ?_
    refine T_csplit (p := i < 3) (by simp only [RA, ↓reduceIte, Nat.reduceEqDiff] <;> rfl) (by (try simp only [RB]) <;> first | done | exact Iff.rfl | omega | simp) (fun hc => ?_) (fun hc => ?_) <;> (try simp only [RN, reduceIte]) <;> (try refine T_e rfl ?_)
    · have hi3 : i < 3 := by assumption
      have hbad : ∀ f' rest, ¬ (TypeP (at3 xss i) ∧ sumI (at3 xss i) = sumI (at3 xss 0)) → T 0 (.seq A_spec_l04Is.r7 (.seq .ret rest)) R f' [] := fun f' rest h => by
        rw [decide_eq_false (fun ht => h (ht.2 i hi3))] at hK
        refine T_rseq fun Kr hKr => ?_
        simp (disch := omega) only [RA, ↓reduceIte, Nat.reduceEqDiff, RD]
        refine hKr _ _ ?_
        clear hKr Kr
        try simp only [RN, reduceIte]
        try refine T_e rfl ?_
        refine hR _ _ ?_
        refine bodyQ_ret (by simp (disch := omega) only [RA, ↓reduceIte, Nat.reduceEqDiff, RD, resAll, resOf]; rfl) GhV.refl ?_
        simp only [tup]
        exact ⟨.bool, hK⟩
      first | refine T_bfree rfl ?_ | refine T_bfree' rfl ?_
      try simp only [RN, reduceIte]
      try refine T_e rfl ?_
      by_cases ht : TypeP (at3 xss i)
      · have ht0 : TypeP (at3 xss 0) := by
          by_cases e : i = 0
          · rw [← e]; exact ht
          · exact (hall 0 (by omega)).1
        refine T_rseq fun Kr hKr => ?_
        simp (disch := omega) only [RA, ↓reduceIte, Nat.reduceEqDiff, RD, g0, g3, hg]
        refine l04Type_spec (hm i hi3) ?_
        rw [decide_eq_true ht]
        simp (disch := omega) only [RA, ↓reduceIte, Nat.reduceEqDiff, RD, g0, g3, hg]
        refine l04Sum_spec ht.1.2 ht.2.1 ?_
        simp (disch := omega) only [RA, ↓reduceIte, Nat.reduceEqDiff, RD, g0, g3, hg0]
        refine l04Sum_spec ht0.1.2 ht0.2.1 ?_
        simp (disch := omega) only [RA, ↓reduceIte, Nat.reduceEqDiff, RD]
        refine hKr _ _ ?_
        clear hKr Kr
        try simp only [blkQ, thenQ, loopQ]
        try simp only [RN, reduceIte]
        try refine T_e rfl ?_
        refine T_csplit (p := ¬ sumI (at3 xss i) = sumI (at3 xss 0)) (by simp only [RA, ↓reduceIte, Nat.reduceEqDiff] <;> rfl) (by (try simp only [RB]) <;> first | done | exact Iff.rfl | omega | simp) (fun hc => ?_) (fun hc => ?_) <;> (try simp only [RN, reduceIte]) <;> (try refine T_e rfl ?_)
        · exact hbad _ _ fun h => hc h.2
        · have he := Decidable.not_not.1 hc
          have hall' : ∀ j, j < i + 1 → TypeP (at3 xss j) ∧ sumI (at3 xss j) = sumI (at3 xss 0) := fun j hj => by
            by_cases e : j = i
            · rw [e]; exact ⟨ht, he⟩
            · exact hall j (by omega)
          refine T_reg_k fun Kr hKr => ?_
          simp (disch := omega) only [RA, ↓reduceIte, Nat.reduceEqDiff, RD, g3]
          refine hKr _ _ ?_
          clear hKr Kr
          refine hN (3 - (i + 1)) _ _ _ _ (by omega) Gh.refl ⟨i + 1, by omega, rfl, hall', ?_, ?_, rfl⟩
          any_goals (simp (disch := omega) only [RA, ↓reduceIte, Nat.reduceEqDiff, RD, RE, *] <;> rfl)
      · refine T_rseq fun Kr hKr => ?_
        simp (disch := omega) only [RA, ↓reduceIte, Nat.reduceEqDiff, RD, g0, g3, hg]
        refine l04Type_spec (hm i hi3) ?_
        rw [decide_eq_false ht]
        simp (disch := omega) only [RA, ↓reduceIte, Nat.reduceEqDiff, RD]
        refine hKr _ _ ?_
        clear hKr Kr
        try simp only [blkQ, thenQ, loopQ]
        try simp only [RN, reduceIte]
        try refine T_e rfl ?_
        refine T_cseq (t := true) (by simp (disch := omega) only [RA, ↓reduceIte, Nat.reduceEqDiff, RD]) ?_
        try simp only [RN, reduceIte]
        try refine T_e rfl ?_
        exact hbad _ _ fun h => ht h.1
    · refine hX _ _ ?_
      obtain rfl : i = 3 := by omega
      refine T_rseq fun Kr hKr => ?_
      simp (disch := omega) only [RA, ↓reduceIte, Nat.reduceEqDiff, RD]
      refine hKr _ _ ?_
      clear hKr Kr
      try simp only [RN, reduceIte]
      try refine T_e rfl ?_
      refine bodyQ_ret (by simp (disch := omega) only [RA, ↓reduceIte, Nat.reduceEqDiff, RD, resAll, resOf]; rfl) GhV.refl ?_
      simp only [tup]
      have hp : PassP xss := ⟨h3, hall⟩
      rw [decide_eq_true hp] at hK
      exact ⟨.bool, hK⟩
def passSum (xss : List (List Int)) : Int := if PassP xss then sumI (at3 xss 0) else 0
theorem sumOfPassport_spec {x : Bool} {xss : List (List Int)} {H : BH} {K : Value → BH → Prop} (hl : xss.length ≤ 1048576) (hll : ∀ xs ∈ xss, xs.length ≤ 1048576) (hK : K (I (passSum xss)) H) : CallX x F_impl_sumOfPassport [FII xss] H K := by
  refine callP (.cons .fz .nil) ?_
  refine CallX_body Γ_impl_sumOfPassport ?_
  simp only [A_impl_sumOfPassport, T_aiff]
  refine T_rseq fun Kr hKr => ?_
  simp (disch := omega) only [RA, ↓reduceIte, Nat.reduceEqDiff, RD]
  refine hKr _ _ ?_
  clear hKr Kr
  try simp only [RN, reduceIte]
  try refine T_e rfl ?_
  refine T_rseq fun Kr hKr => ?_
  simp (disch := omega) only [RA, ↓reduceIte, Nat.reduceEqDiff, RD]
  refine hKr _ _ ?_
  clear hKr Kr
  try simp only [RN, reduceIte]
  try refine T_e rfl ?_
  refine T_csplit (p := ¬ xss.length = 3) (by simp only [RA, ↓reduceIte, Nat.reduceEqDiff] <;> rfl) (by (try simp only [RB]) <;> first | done | exact Iff.rfl | omega | simp) (fun hc => ?_) (fun hc => ?_) <;> (try simp only [RN, reduceIte]) <;> (try refine T_e rfl ?_)
  · refine T_rseq fun Kr hKr => ?_
    simp (disch := omega) only [RA, ↓reduceIte, Nat.reduceEqDiff, RD]
    refine hKr _ _ ?_
    clear hKr Kr
    try simp only [RN, reduceIte]
    try refine T_e rfl ?_
    refine bodyQ_ret (by simp (disch := omega) only [RA, ↓reduceIte, Nat.reduceEqDiff, RD, resAll, resOf]; rfl) GhV.refl ?_
    simp only [tup]
    rw [passSum, if_neg (fun h => hc h.1)] at hK
    exact ⟨.int, hK⟩
  have h3 := Decidable.not_not.1 hc
  clear hc
  have hg : ∀ i, i < 3 → getN none (xss.map FI) i = some (FI (at3 xss i)) := fun i hi => getN_FI (by omega)
  have hm : ∀ i, i < 3 → (at3 xss i).length ≤ 1048576 := fun i hi => hll _ (getD_mem' (by omega))
  have hg0 := hg 0 (by omega)
  have hg1 := hg 1 (by omega)
  have hg2 := hg 2 (by omega)
  have hv : ∀ i, i < 3 → ∃ s, (if TypeP (at3 xss i) then sumI (at3 xss i) else 0) = s ∧ (s = 0 ↔ ¬ TypeP (at3 xss i)) ∧ (TypeP (at3 xss i) → sumI (at3 xss i) = s) := fun i _ => by
    by_cases h : TypeP (at3 xss i)
    · have := h.pos
      exact ⟨_, if_pos h, ⟨fun e => by omega, fun hn => absurd h hn⟩, fun _ => rfl⟩
    · exact ⟨0, if_neg h, by simp [h], fun hn => absurd hn h⟩
  obtain ⟨s0, e0, z0, v0⟩ := hv 0 (by omega)
  obtain ⟨s1, e1, z1, v1⟩ := hv 1 (by omega)
  obtain ⟨s2, e2, z2, v2⟩ := hv 2 (by omega)
  have hps : passSum xss = if s1 = s0 ∧ s2 = s0 then s0 else 0 := by
    unfold passSum
    by_cases hp : PassP xss
    · have p0 := hp.2 0 (by omega)
      have p1 := hp.2 1 (by omega)
      have p2 := hp.2 2 (by omega)
      have a0 := v0 p0.1
      have a1 := v1 p1.1
      have a2 := v2 p2.1
      rw [if_pos hp, if_pos ⟨by rw [← a1, ← a0]; exact p1.2, by rw [← a2, ← a0]; exact p2.2⟩, a0]
    · rw [if_neg hp]
      by_cases hs : s1 = s0 ∧ s2 = s0
      · rw [if_pos hs]
        apply Classical.byContradiction
        intro hne
        have t0 : TypeP (at3 xss 0) := Classical.byContradiction fun h => hne (z0.2 h).symm
        have t1 : TypeP (at3 xss 1) := Classical.byContradiction fun h => hne (by rw [← hs.1]; exact (z1.2 h).symm)
        have t2 : TypeP (at3 xss 2) := Classical.byContradiction fun h => hne (by rw [← hs.2]; exact (z2.2 h).symm)
        refine hp ⟨h3, fun i hi => ?_⟩
        have : i = 0 ∨ i = 1 ∨ i = 2 := by omega
        rcases this with rfl | rfl | rfl
        · exact ⟨t0, rfl⟩
        · exact ⟨t1, by rw [v1 t1, v0 t0]; exact hs.1⟩
        · exact ⟨t2, by rw [v2 t2, v0 t0]; exact hs.2⟩
      · rw [if_neg hs]
  rw [hps] at hK
  refine T_rseq fun Kr hKr => ?_
  simp (disch := omega) only [RA, ↓reduceIte, Nat.reduceEqDiff, Nat.reduceAdd, Nat.reduceMul, Int.reduceToNat, Nat.reduceLT, reduceCtorEq, RD, hg0]
  refine sumOfType_spec (hm 0 (by omega)) ?_
  rw [e0]
  simp (disch := omega) only [RA, ↓reduceIte, Nat.reduceEqDiff, Nat.reduceBEq, Nat.reduceSub, Nat.reduceAdd, Nat.reduceMul, Nat.reduceLT, Nat.reduceLeDiff, Int.reduceLE, Int.reduceLT, Int.reduceEq, Int.reduceNeg, Int.reduceToNat, Int.reduceMul, Int.reduceAdd, Int.reduceSub, Int.reduceBEq, Int.reduceBNe, reduceCtorEq, RD]
  refine hKr _ _ ?_
  clear hKr Kr
  try simp only [blkQ, thenQ, loopQ]
  try simp only [RN, reduceIte]
  try refine T_e rfl ?_
  refine T_rseq fun Kr hKr => ?_
  simp (disch := omega) only [RA, ↓reduceIte, Nat.reduceEqDiff, Nat.reduceBEq, Nat.reduceSub, Nat.reduceAdd, Nat.reduceMul, Nat.reduceLT, Nat.reduceLeDiff, Int.reduceLE, Int.reduceLT, Int.reduceEq, Int.reduceNeg, Int.reduceToNat, Int.reduceMul, Int.reduceAdd, Int.reduceSub, Int.reduceBEq, Int.reduceBNe, reduceCtorEq, RD, hg1]
  refine sumOfType_spec (hm 1 (by omega)) ?_
  rw [e1]
  by_cases h1 : s1 = s0
  · simp (disch := omega) only [RA, ↓reduceIte, Nat.reduceEqDiff, Nat.reduceAdd, Nat.reduceMul, Int.reduceToNat, Nat.reduceLT, reduceCtorEq, RD, hg2]
    refine sumOfType_spec (hm 2 (by omega)) ?_
    rw [e2]
    by_cases h2 : s2 = s0
    · simp (disch := omega) only [RA, ↓reduceIte, Nat.reduceEqDiff, RD]
      refine hKr _ _ ?_
      clear hKr Kr
      try simp only [blkQ, thenQ, loopQ]
      try simp only [RN, reduceIte]
      try refine T_e rfl ?_
      refine T_cseq (t := false) (by simp (disch := omega) only [RA, ↓reduceIte, Nat.reduceEqDiff, RD]) ?_
      try simp only [RN, reduceIte]
      try refine T_e rfl ?_
      refine T_rseq fun Kr hKr => ?_
      simp (disch := omega) only [RA, ↓reduceIte, Nat.reduceEqDiff, RD]
      refine hKr _ _ ?_
      clear hKr Kr
      try simp only [RN, reduceIte]
      try refine T_e rfl ?_
      refine bodyQ_ret (by simp (disch := omega) only [RA, ↓reduceIte, Nat.reduceEqDiff, RD, resAll, resOf]; rfl) GhV.refl ?_
      simp only [tup]
      rw [if_pos ⟨h1, h2⟩] at hK
      exact ⟨.int, hK⟩
    · simp (disch := omega) only [RA, ↓reduceIte, Nat.reduceEqDiff, RD]
      refine hKr _ _ ?_
      clear hKr Kr
      try simp only [blkQ, thenQ, loopQ]
      try simp only [RN, reduceIte]
      try refine T_e rfl ?_
      refine T_cseq (t := true) (by simp (disch := omega) only [RA, ↓reduceIte, Nat.reduceEqDiff, RD]) ?_
      try simp only [RN, reduceIte]
      try refine T_e rfl ?_
      refine T_rseq fun Kr hKr => ?_
      simp (disch := omega) only [RA, ↓reduceIte, Nat.reduceEqDiff, RD]
      refine hKr _ _ ?_
      clear hKr Kr
      try simp only [RN, reduceIte]
      try refine T_e rfl ?_
      refine bodyQ_ret (by simp (disch := omega) only [RA, ↓reduceIte, Nat.reduceEqDiff, RD, resAll, resOf]; rfl) GhV.refl ?_
      simp only [tup]
      rw [if_neg (fun h => h2 h.2)] at hK
      exact ⟨.int, hK⟩
  · simp (disch := omega) only [RA, ↓reduceIte, Nat.reduceEqDiff, RD]
    refine hKr _ _ ?_
    clear hKr Kr
    try simp only [blkQ, thenQ, loopQ]
    try simp only [RN, reduceIte]
    try refine T_e rfl ?_
    refine T_cseq (t := true) (by simp (disch := omega) only [RA, ↓reduceIte, Nat.reduceEqDiff, RD]) ?_
    try simp only [RN, reduceIte]
    try refine T_e rfl ?_
    refine T_rseq fun Kr hKr => ?_
    simp (disch := omega) only [RA, ↓reduceIte, Nat.reduceEqDiff, RD]
    refine hKr _ _ ?_
    clear hKr Kr
    try simp only [RN, reduceIte]
    try refine T_e rfl ?_
    refine bodyQ_ret (by simp (disch := omega) only [RA, ↓reduceIte, Nat.reduceEqDiff, RD, resAll, resOf]; rfl) GhV.refl ?_
    simp only [tup]
    rw [if_neg (fun h => h1 h.1)] at hK
    exact ⟨.int, hK⟩
theorem nn_I2 {a c : Int} : NN (.tuple ⟨[I a, I c]⟩) := NN.tuple (NNL.cons NN.int (NNL.cons NN.int NNL.nil))
end Go.Bm

/- Trees: the plain law. Without any one dart a tree falls apart; what lies behind a dart is less and less. -/
set_option linter.unusedVariables false
set_option linter.unusedSimpArgs false
namespace Go.Bm
open Go Go.Am

theorem then_perm {b w : List Nat} {n : Nat} (hb : Perm b n) (hw : Perm w n) : Perm (thenK b w n) n := by
  have hn := hb.1
  refine ⟨hb.1, fun i _ => ⟨fun h => by rw [thenK_nl (by omega), if_neg (by omega)], fun h => ?_⟩⟩
  have hi : i < n := by omega
  rw [thenK_nl (by omega), if_pos hi]
  have h1 := hw.lt (hb.lt hi)
  refine ⟨by omega, fun j hj e => ?_⟩
  rw [thenK_nl (by omega), if_pos (by omega)] at e
  have := hb.inj (by omega) hi (hw.inj (hb.lt (by omega)) (hb.lt hi) e)
  omega
theorem face_perm {b w : List Nat} {n : Nat} (hb : Perm b n) (hw : Perm w n) : Perm (faceP b w n) n := (then_perm hb hw).back
/-- A tree: one face, and one vertex more than edges. -/
def Tree (n : Nat) (b w : List Nat) : Prop := (cyc (faceP b w n) n).length = 1 ∧ (cyc b n).length + (cyc w n).length = n + 1
instance (n : Nat) (b w : List Nat) : Decidable (Tree n b w) := by unfold Tree; infer_instance

/-! ### Vertices by number -/
def vix (p : List Nat) (n x : Nat) : Nat := (cyc p n).findIdx fun c => c.contains x
theorem vix_lt {p : List Nat} {n x : Nat} (hp : Perm p n) (hx : x < n) : vix p n x < (cyc p n).length := by
  obtain ⟨c, hc, hxc⟩ := cyc_at hp hx
  exact List.findIdx_lt_length_of_exists ⟨c, hc, by simpa using hxc⟩
theorem vix_mem {p : List Nat} {n x : Nat} (hp : Perm p n) (hx : x < n) : x ∈ (cyc p n)[vix p n x]'(vix_lt hp hx) := by
  have h2 : ((cyc p n)[vix p n x]'(vix_lt hp hx)).contains x = true := List.findIdx_getElem (w := vix_lt hp hx)
  simpa using h2
theorem cyc_nod {p : List Nat} {n : Nat} (hp : Perm p n) : (cyc p n).flatten.Nodup := (CycOk.all rfl hp (Nat.le_refl n)).nod
/-- A number is in one cycle only. -/
theorem flat_uniq : ∀ {cs : List (List Nat)} {i j x : Nat} (hi : i < cs.length) (hj : j < cs.length), cs.flatten.Nodup → x ∈ cs[i] → x ∈ cs[j] → i = j
  | c :: cs, 0, 0, x, _, _, _, _, _ => rfl
  | c :: cs, 0, j + 1, x, _, hj, hn, h1, h2 => by
    rw [List.flatten_cons, List.nodup_append] at hn
    exact absurd rfl (hn.2.2 x h1 x (List.mem_flatten.2 ⟨_, List.getElem_mem (by simpa using hj), h2⟩))
  | c :: cs, i + 1, 0, x, hi, _, hn, h1, h2 => by
    rw [List.flatten_cons, List.nodup_append] at hn
    exact absurd rfl (hn.2.2 x h2 x (List.mem_flatten.2 ⟨_, List.getElem_mem (by simpa using hi), h1⟩))
  | c :: cs, i + 1, j + 1, x, hi, hj, hn, h1, h2 => by
    rw [List.flatten_cons, List.nodup_append] at hn
    rw [flat_uniq (cs := cs) (by simpa using hi) (by simpa using hj) hn.2.1 h1 h2]
theorem vix_of {p : List Nat} {n x i : Nat} (hp : Perm p n) (hx : x < n) (hi : i < (cyc p n).length) (h : x ∈ (cyc p n)[i]) : vix p n x = i :=
  flat_uniq (vix_lt hp hx) hi (cyc_nod hp) (vix_mem hp hx) h
theorem vix_step {p : List Nat} {n x : Nat} (hp : Perm p n) (hx : x < n) : vix p n (nl p x) = vix p n x :=
  vix_of hp (hp.lt hx) (vix_lt hp hx) ((cyc_is hp (List.getElem_mem _)).fwd (vix_mem hp hx))
theorem vix_surj {p : List Nat} {n i : Nat} (hp : Perm p n) (hi : i < (cyc p n).length) : ∃ x, x < n ∧ vix p n x = i := by
  have hc := cyc_is hp (List.getElem_mem hi)
  have hm : nl (cyc p n)[i] 0 ∈ (cyc p n)[i] := nl_mem hc.ne
  exact ⟨_, hc.lt _ hm, vix_of hp (hc.lt _ hm) hi hm⟩

/-! ### Pieces: numbers of vertices that stay connected, edge by edge -/
def merge (f : Nat → Nat) (e : Nat × Nat) : Nat → Nat := fun x => if f x = f e.1 then f e.2 else f x
def pieces (es : List (Nat × Nat)) : Nat → Nat := es.foldl merge id
theorem pieces_two : ∀ (es : List (Nat × Nat)) (f : Nat → Nat) (V m : Nat) (S : List Nat), S.Nodup → m + es.length ≤ S.length → (∀ a ∈ S, ∃ x, x < V ∧ f x = a) →
    ∃ S' : List Nat, S'.Nodup ∧ m ≤ S'.length ∧ ∀ a ∈ S', ∃ x, x < V ∧ (es.foldl merge f) x = a
  | [], f, V, m, S, h1, h2, h3 => ⟨S, h1, by simpa using h2, h3⟩
  | e :: es, f, V, m, S, h1, h2, h3 => by
    have hl := List.length_erase (a := f e.1) (l := S)
    refine pieces_two es (merge f e) V m (S.erase (f e.1)) (h1.erase _) ?_ fun a ha => ?_
    · simp only [List.length_cons] at h2
      split at hl <;> omega
    · obtain ⟨x, hx, hxa⟩ := h3 a (List.mem_of_mem_erase ha)
      refine ⟨x, hx, ?_⟩
      have hne : a ≠ f e.1 := fun h => by
        subst h
        exact (List.Nodup.not_mem_erase h1) ha
      rw [merge, if_neg (by rw [hxa]; exact hne), hxa]
theorem pieces_mono : ∀ (es : List (Nat × Nat)) (f : Nat → Nat) (x y : Nat), f x = f y → (es.foldl merge f) x = (es.foldl merge f) y
  | [], f, x, y, h => h
  | e :: es, f, x, y, h => pieces_mono es (merge f e) x y (by simp only [merge, h])
theorem pieces_edge : ∀ (es : List (Nat × Nat)) (f : Nat → Nat) (e : Nat × Nat), e ∈ es → (es.foldl merge f) e.1 = (es.foldl merge f) e.2
  | e' :: es, f, e, h => by
    rcases List.mem_cons.1 h with rfl | h
    · exact pieces_mono es _ _ _ (by
        simp only [merge, if_true]
        split
        · rfl
        · rfl)
    · exact pieces_edge es (merge f e') e h
section
variable {b w : List Nat} {n : Nat}
/-- The vertices of a dart; those of w behind those of b. -/
def ends (b w : List Nat) (n : Nat) (c : Bool) (x : Nat) : Nat := if c then (cyc b n).length + vix w n x else vix b n x
def others (b w : List Nat) (n y : Nat) : List (Nat × Nat) := ((List.range n).filter fun z => z != y).map fun z => (ends b w n false z, ends b w n true z)
/-- The piece of each vertex when one dart is taken out. -/
def lab (b w : List Nat) (n y : Nat) : Nat → Nat := pieces (others b w n y)
theorem lab_edge {y z : Nat} (hz : z < n) (h : z ≠ y) (c c' : Bool) : lab b w n y (ends b w n c z) = lab b w n y (ends b w n c' z) := by
  have key : lab b w n y (ends b w n false z) = lab b w n y (ends b w n true z) :=
    pieces_edge _ id (ends b w n false z, ends b w n true z) (List.mem_map.2 ⟨z, List.mem_filter.2 ⟨List.mem_range.2 hz, by simpa using h⟩, rfl⟩)
  cases c <;> cases c' <;> first | rfl | exact key | exact key.symm
theorem filter_ne_len {y : Nat} (hy : y < n) : ((List.range n).filter fun z => z != y).length + 1 = n := by
  have h1 : ((List.range n).filter fun z => z != y) = (List.range n).erase y := (List.Nodup.erase_eq_filter List.nodup_range y).symm
  rw [h1, List.length_erase_of_mem (List.mem_range.2 hy), List.length_range]
  omega
/-- A tree falls apart without any one dart. -/
theorem Tree.apart (hd : Des n b w) (ht : Tree n b w) {y : Nat} (hy : y < n) : lab b w n y (ends b w n false y) ≠ lab b w n y (ends b w n true y) := by
  intro he
  obtain ⟨hb, hw, _⟩ := id hd
  have hall : ∀ z, z < n → lab b w n y (ends b w n false z) = lab b w n y (ends b w n true z) := fun z hz => by
    by_cases e : z = y
    · rw [e]; exact he
    · exact lab_edge hz e _ _
  have hone := hd.ind (fun z => lab b w n y (ends b w n false z) = lab b w n y (ends b w n false 0))
    (fun z hz hS => by
      have e : ends b w n false (nl b z) = ends b w n false z := by simp only [ends]; exact vix_step hb hz
      rw [e]; exact hS)
    (fun z hz hS => by
      have e : ends b w n true (nl w z) = ends b w n true z := by simp only [ends, if_true]; rw [vix_step hw hz]
      rw [hall _ (hw.lt hz), e, ← hall z hz]; exact hS) rfl
  obtain ⟨S, h1, h2, h3⟩ := pieces_two (others b w n y) id (n + 1) 2 (List.range (n + 1)) List.nodup_range (by
    have := filter_ne_len hy
    rw [others, List.length_map, List.length_range]
    omega) (fun a ha => ⟨a, List.mem_range.1 ha, rfl⟩)
  have hvert : ∀ v, v < n + 1 → lab b w n y v = lab b w n y (ends b w n false 0) := fun v hv => by
    have ht2 := ht.2
    rcases Nat.lt_or_ge v (cyc b n).length with h | h
    · obtain ⟨x, hx, rfl⟩ := vix_surj hb h
      exact hone x hx
    · obtain ⟨x, hx, hxv⟩ := vix_surj hw (show v - (cyc b n).length < (cyc w n).length by omega)
      have e : v = ends b w n true x := by simp only [ends, if_true]; omega
      rw [e, ← hall x hx]
      exact hone x hx
  match S, h1, h2, h3 with
  | [], _, h2, _ => simp at h2
  | [_], _, h2, _ => simp at h2
  | a :: a' :: _, h1, _, h3 =>
    obtain ⟨x, hx, hxa⟩ := h3 a (by simp)
    obtain ⟨x', hx', hxa'⟩ := h3 a' (by simp)
    have e1 : lab b w n y x = a := hxa
    have e2 : lab b w n y x' = a' := hxa'
    have : a = a' := by rw [← e1, ← e2, hvert x hx, hvert x' hx']
    simp only [List.nodup_cons, List.mem_cons] at h1
    exact h1.1 (.inl this)
/-- The darts behind a dart at its vertex of one colour. -/
def behind (b w : List Nat) (n : Nat) (c : Bool) (x : Nat) : List Nat := (List.range n).filter fun z => z != x && lab b w n x (ends b w n false z) == lab b w n x (ends b w n c x)
/-! ### Words -/
/-! ### Round a vertex -/
def it (p : List Nat) (x : Nat) : Nat → Nat
  | 0 => nl p x
  | i + 1 => nl p (it p x i)
end
/-- Bytes as a string. -/
def bs (l : List UInt8) : ByteArray := ⟨l.toArray⟩
end Go.Bm

