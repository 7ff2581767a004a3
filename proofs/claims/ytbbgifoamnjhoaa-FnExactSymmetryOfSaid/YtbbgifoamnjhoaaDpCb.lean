/- Lists of numbers in descending order, made by counting. -/
import Derived.Test.YtbbgifoamnjhoaaDpCa
import Derived.Test.YtbbgifoamnjhoaaDpQ
set_option linter.unusedVariables false
set_option linter.unusedSimpArgs false
namespace Go.Bm
open Go Go.Am

/-- How many there are of each number, at the first i. -/
def cntT (zs : List Nat) : Nat → List Nat
  | 0 => List.replicate 17 0
  | i + 1 => (cntT zs i).set (nl zs i) (nl (cntT zs i) (nl zs i) + 1)
theorem cntT_len {zs : List Nat} {i : Nat} : (cntT zs i).length = 17 := by
  induction i with
  | zero => simp [cntT]
  | succ i ih => simp [cntT, ih]
theorem take_succ_nl' {zs : List Nat} {i : Nat} (h : i < zs.length) : zs.take (i + 1) = zs.take i ++ [nl zs i] := by
  rw [List.take_add_one]
  simp [nl, List.getD, h]
theorem cntT_nl {zs : List Nat} {i v : Nat} (hi : i ≤ zs.length) (hv : v < 17) : nl (cntT zs i) v = (zs.take i).count v := by
  induction i with
  | zero => simp only [cntT, nl_rep]; split <;> simp
  | succ i ih =>
    rw [take_succ_nl' (by omega), List.count_append, cntT, nl_set, ih (by omega)]
    by_cases h : v = nl zs i
    · subst h
      rw [if_pos ⟨rfl, by rw [cntT_len]; exact hv⟩, ih (by omega)]
      simp
    · rw [if_neg (fun e => h e.1)]
      have : ([nl zs i] : List Nat).count v = 0 := by
        rw [List.count_cons, List.count_nil]
        simp [show (nl zs i == v) = false by simpa using fun e => h e.symm]
      omega
/-- The numbers n, n - 1, .. as often as they come. -/
def typK (cn : List Nat) (n : Nat) : Nat → List Nat
  | 0 => []
  | k + 1 => typK cn n k ++ List.replicate (nl cn (n - k)) (n - k)
def typL (zs : List Nat) (n : Nat) : List Nat := typK (cntT zs zs.length) n n
theorem typK_count {cn : List Nat} {n v : Nat} : ∀ {k : Nat}, k ≤ n → (typK cn n k).count v = if n - k < v ∧ v ≤ n then nl cn v else 0
  | 0, _ => by
    rw [if_neg (by omega)]
    rfl
  | k + 1, hk => by
    rw [typK, List.count_append, typK_count (by omega), List.count_replicate]
    by_cases h : n - k = v
    · subst h
      rw [if_neg (by omega), if_pos (by simp), if_pos (by omega)]
      omega
    · have e : ((n - k) == v) = false := by simpa using h
      rw [e]
      simp only [Bool.false_eq_true, if_false, Nat.add_zero]
      by_cases h2 : n - k < v ∧ v ≤ n
      · rw [if_pos h2, if_pos (by omega)]
      · rw [if_neg h2, if_neg (by omega)]
theorem typK_ge {cn : List Nat} {n : Nat} : ∀ {k : Nat}, k ≤ n → ∀ z ∈ typK cn n k, n + 1 - k ≤ z
  | 0, _, z, hz => by simp [typK] at hz
  | k + 1, hk, z, hz => by
    simp only [typK, List.mem_append, List.mem_replicate] at hz
    rcases hz with hz | ⟨_, rfl⟩
    · have := typK_ge (k := k) (by omega) z hz
      omega
    · omega
theorem typK_dsc {cn : List Nat} {n : Nat} : ∀ {k : Nat}, k ≤ n → ∀ i j, i ≤ j → j < (typK cn n k).length → nl (typK cn n k) j ≤ nl (typK cn n k) i
  | 0, _, i, j, _, h => by simp [typK] at h
  | k + 1, hk, i, j, h1, h2 => by
    have ih := typK_dsc (cn := cn) (n := n) (k := k) (by omega)
    simp only [typK, List.length_append, List.length_replicate] at h2 ⊢
    simp only [nl_append]
    by_cases hj : j < (typK cn n k).length
    · rw [if_pos hj, if_pos (by omega)]
      exact ih i j h1 hj
    · rw [if_neg hj, nl_rep, if_pos (by omega)]
      by_cases hi : i < (typK cn n k).length
      · rw [if_pos hi]
        have : nl (typK cn n k) i ∈ typK cn n k := nl_mem hi
        have := typK_ge (by omega) _ this
        omega
      · rw [if_neg hi, nl_rep, if_pos (by omega)]
        exact Nat.le_refl _
theorem typL_dsc {zs : List Nat} {n : Nat} : Dsc (ofN (typL zs n)) := fun i j h1 h2 => by
  rw [ofN_len] at h2
  rw [el_ofN, el_ofN]
  exact Int.ofNat_le.2 (typK_dsc (Nat.le_refl _) i j h1 h2)
theorem typL_perm {zs : List Nat} {n : Nat} (hn : n ≤ 16) (h : ∀ z ∈ zs, 1 ≤ z ∧ z ≤ n) : (typL zs n).Perm zs := by
  rw [List.perm_iff_count]
  intro v
  rw [typL, typK_count (Nat.le_refl _), Nat.sub_self]
  by_cases hv : 0 < v ∧ v ≤ n
  · rw [if_pos hv, cntT_nl (Nat.le_refl _) (by omega), List.take_length]
  · rw [if_neg hv, List.count_eq_zero.2 fun hm => hv (by have := h v hm; omega)]
theorem typK_le {zs : List Nat} {n k : Nat} (hn : n ≤ 16) (hk : k ≤ n) (h : ∀ z ∈ zs, 1 ≤ z ∧ z ≤ n) : (typK (cntT zs zs.length) n k).length ≤ zs.length := by
  have hp := (typL_perm hn h).length_eq
  have : ∀ j, j ≤ n → (typK (cntT zs zs.length) n j).length ≤ (typK (cntT zs zs.length) n n).length := by
    intro j hj
    obtain ⟨d, rfl⟩ : ∃ d, n = j + d := ⟨n - j, by omega⟩
    have : ∀ m d, (typK (cntT zs zs.length) m j).length ≤ (typK (cntT zs zs.length) m (j + d)).length := by
      intro m d
      induction d with
      | zero => exact Nat.le_refl _
      | succ d ih =>
        rw [show j + (d + 1) = (j + d) + 1 by omega, typK, List.length_append]
        omega
    exact this _ d
  have := this k hk
  rw [typL] at hp
  omega
/-- The lengths of the cycles in descending order. -/
def lens (p : List Nat) (n : Nat) : List Nat := (cyc p n).map List.length
def typ (p : List Nat) (n : Nat) : List Nat := typL (lens p n) n
section
variable {p : List Nat} {n : Nat}
theorem lens_ok (hp : Perm p n) : ∀ z ∈ lens p n, 1 ≤ z ∧ z ≤ n := fun z hz => by
  obtain ⟨c, hc, rfl⟩ := List.mem_map.1 hz
  exact cyc_len hp hc
theorem lens_len (hp : Perm p n) : (lens p n).length ≤ 16 := by
  rw [lens, List.length_map]
  have := cyc_num hp
  have := hp.1
  omega
theorem typ_perm (hp : Perm p n) : (typ p n).Perm (lens p n) := typL_perm (by have := hp.1; omega) (lens_ok hp)
theorem typ_len (hp : Perm p n) : (typ p n).length = (cyc p n).length := by rw [(typ_perm hp).length_eq, lens, List.length_map]
theorem typ_clean (hp : Perm p n) : (∀ z ∈ typ p n, z = 2) ↔ ∀ x, x < n → nl p x ≠ x ∧ nl p (nl p x) = x := by
  rw [← cyc_clean hp]
  constructor
  · intro h c hc
    exact h _ ((typ_perm hp).mem_iff.2 (List.mem_map.2 ⟨c, hc, rfl⟩))
  · intro h z hz
    obtain ⟨c, hc, rfl⟩ := List.mem_map.1 ((typ_perm hp).mem_iff.1 hz)
    exact h c hc
end
end Go.Bm
