/- Degrees of flags, the program's. -/
import Derived.Test.YtbbgifoamnjhoaaDpQ
import Derived.Test.YtbbgifoamnjhoaaDpI
set_option linter.unusedVariables false
set_option linter.unusedSimpArgs false
namespace Go.Bm
open Go Go.Am

/-- The halves in descending order are the reference's list. -/
theorem degK_le {cn : List Nat} : ∀ {k : Nat}, k ≤ 32 → ∀ z ∈ degK cn k, (33 - k) / 2 ≤ z
  | 0, _, z, hz => by simp [degK] at hz
  | k + 1, hk, z, hz => by
    simp only [degK, List.mem_append, List.mem_replicate] at hz
    rcases hz with hz | ⟨_, rfl⟩
    · have := degK_le (k := k) (by omega) z hz
      omega
    · omega
theorem degK_dsc {cn : List Nat} : ∀ {k : Nat}, k ≤ 32 → ∀ i j, i ≤ j → j < (degK cn k).length → nl (degK cn k) j ≤ nl (degK cn k) i
  | 0, _, i, j, _, h => by simp [degK] at h
  | k + 1, hk, i, j, h1, h2 => by
    have ih := degK_dsc (cn := cn) (k := k) (by omega)
    simp only [degK, List.length_append, List.length_replicate] at h2 ⊢
    simp only [nl_append]
    by_cases hj : j < (degK cn k).length
    · rw [if_pos hj, if_pos (by omega)]
      exact ih i j h1 hj
    · rw [if_neg hj, nl_rep, if_pos (by omega)]
      by_cases hi : i < (degK cn k).length
      · rw [if_pos hi]
        have : nl (degK cn k) i ∈ degK cn k := by simp [nl, List.getD, hi]
        have := degK_le (by omega) _ this
        omega
      · rw [if_neg hi, nl_rep, if_pos (by omega)]
        exact Nat.le_refl _
theorem degL_dsc {zs : List Nat} : Dsc (ofN (degL zs)) := fun i j h1 h2 => by
  rw [ofN_len] at h2
  rw [el_ofN, el_ofN]
  exact Int.ofNat_le.2 (degK_dsc (Nat.le_refl _) i j h1 h2)
/-- How often a half comes. -/
theorem degK_count {zs : List Nat} (v : Nat) : ∀ {k : Nat}, k ≤ 32 → (degK (cntK zs zs.length) k).count v = (zs.filter fun z => decide (32 - k < z ∧ z ≤ 32)).countP fun z => z / 2 == v
  | 0, _ => by
    rw [List.filter_eq_nil_iff.2 (by intro a _; simp)]
    rfl
  | k + 1, hk => by
    have ih := degK_count (zs := zs) v (k := k) (by omega)
    have hcn : nl (cntK zs zs.length) (32 - k) = zs.count (32 - k) := by rw [cntK_nl (Nat.le_refl _) (by omega), List.take_length]
    rw [degK, List.count_append, ih, hcn, List.count_replicate]
    clear ih hcn
    simp only [List.countP_filter, beq_iff_eq]
    induction zs with
    | nil => simp
    | cons z zs ih =>
      simp only [List.countP_cons, List.count_cons, Bool.and_eq_true, beq_iff_eq, decide_eq_true_eq] at ih ⊢
      have e : ∀ A B C D E F : Nat, A + B = C → D + F = E → (A + D) + (B + F) = C + E := by omega
      by_cases hv : (32 - k) / 2 = v
      · simp only [hv, if_true] at ih ⊢
        refine e _ _ _ _ _ _ ih ?_
        by_cases h1 : z = 32 - k
        · rw [if_neg (by omega), if_pos h1, if_pos (by subst h1; exact ⟨hv, by omega⟩)]
        · rw [if_neg h1]
          by_cases h3 : z / 2 = v ∧ 32 - k < z ∧ z ≤ 32
          · rw [if_pos h3, if_pos ⟨h3.1, by omega⟩]
          · rw [if_neg h3, if_neg (fun h => h3 ⟨h.1, by omega⟩)]
      · simp only [hv, if_false, Nat.add_zero] at ih ⊢
        rw [ih]
        congr 1
        by_cases h3 : z / 2 = v ∧ 32 - k < z ∧ z ≤ 32
        · rw [if_pos h3, if_pos ⟨h3.1, by omega⟩]
        · rw [if_neg h3, if_neg (fun h => h3 ⟨h.1, by
            have : z ≠ 32 - k := fun e => hv (e ▸ h.1)
            omega⟩)]
theorem degL_perm {zs : List Nat} (h : ∀ z ∈ zs, 1 ≤ z ∧ z ≤ 32) : (ofN (degL zs)).Perm (ofN (zs.map fun z => z / 2)) := by
  refine List.Perm.map _ ?_
  rw [List.perm_iff_count]
  intro v
  rw [degL, degK_count v (Nat.le_refl _)]
  rw [List.filter_eq_self.2 (by intro a ha; have := h a ha; simp; omega)]
  rw [List.count_eq_countP, List.countP_map]
  rfl
end Go.Bm
