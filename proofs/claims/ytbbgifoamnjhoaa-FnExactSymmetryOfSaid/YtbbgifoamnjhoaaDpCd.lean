/- Mirror images are dessins: the plain law. -/
import Derived.Test.YtbbgifoamnjhoaaDpCc
import Derived.Test.YtbbgifoamnjhoaaDp4
set_option linter.unusedVariables false
set_option linter.unusedSimpArgs false
namespace Go.Bm
open Go Go.Am

/-! ### Mirror images are dessins -/
section
variable {p b w : List Nat} {n : Nat}
theorem Perm.surj (hp : Perm p n) {y : Nat} (hy : y < n) : ∃ x, x < n ∧ nl p x = y := by
  obtain ⟨c, hc, hyc⟩ := cyc_at hp hy
  have hi := cyc_is hp hc
  obtain ⟨j, hj, rfl⟩ := mem_nl hyc
  by_cases e : j = 0
  · subst e
    exact ⟨_, hi.lt _ (nl_mem (by omega)), hi.last⟩
  · have := hi.step (j - 1) (by omega)
    rw [show j - 1 + 1 = j by omega] at this
    exact ⟨_, hi.lt _ (nl_mem (by omega)), this⟩
theorem back_at (hp : Perm p n) : ∀ {k i : Nat}, k ≤ n → i < k → nl (backK p k) (nl p i) = i
  | 0, _, _, h => by omega
  | k + 1, i, hk, hi => by
    have hn := hp.1
    rw [backK, nl_set, backK_len]
    by_cases e : i = k
    · subst e
      rw [if_pos ⟨rfl, by have := hp.lt (show i < n by omega); omega⟩]
    · rw [if_neg (fun h => e (hp.inj (by omega) (by omega) h.1)), back_at hp (by omega) (by omega)]
theorem back_out (hp : Perm p n) {i : Nat} (hi : n ≤ i) : ∀ {k : Nat}, k ≤ n → nl (backK p k) i = 0
  | 0, _ => by simp only [backK, nl_rep]; split <;> rfl
  | k + 1, hk => by
    have := hp.lt (show k < n by omega)
    rw [backK, nl_set, if_neg (by omega), back_out hp hi (by omega)]
theorem Perm.back (hp : Perm p n) : Perm (backK p n) n := by
  refine ⟨hp.1, fun i _ => ⟨fun h => back_out hp (by omega) (Nat.le_refl _), fun h => ?_⟩⟩
  obtain ⟨x, hx, rfl⟩ := hp.surj (show i < n by omega)
  rw [back_at hp (Nat.le_refl _) hx]
  refine ⟨by omega, fun j hj => ?_⟩
  obtain ⟨y, hy, rfl⟩ := hp.surj (show j < n by omega)
  rw [back_at hp (Nat.le_refl _) hy]
  intro e
  subst e
  omega
theorem back_back (hp : Perm p n) {x : Nat} (hx : x < n) : nl p (nl (backK p n) x) = x := by
  obtain ⟨y, hy, rfl⟩ := hp.surj hx
  rw [back_at hp (Nat.le_refl _) hy]
theorem Des.mirr (h : Des n b w) : Des n (mirr b n) (mirr w n) := by
  obtain ⟨hb, hw, hr⟩ := id h
  have hn := hb.1
  refine ⟨hb.back, hw.back, ?_⟩
  have h0 := ord_bf hb.back hw.back (x := 0) (by omega)
  have hcl := ord_cl hb.back hw.back (x := 0) (by omega)
  have hin : 0 ∈ ord (backK b n) (backK w n) 0 := by
    obtain ⟨r, hr⟩ := h0.pre
    rw [ord, hr]
    simp
  have hall := h.ind (fun z => z ∈ ord (backK b n) (backK w n) 0)
    (fun z hz hS => closed_bwd hb.back (S := fun z => z ∈ ord (backK b n) (backK w n) 0) (fun y _ hy => (hcl y hy).1) (hb.lt hz) (by rw [back_at hb (Nat.le_refl _) hz]; exact hS))
    (fun z hz hS => closed_bwd hw.back (S := fun z => z ∈ ord (backK b n) (backK w n) 0) (fun y _ hy => (hcl y hy).2) (hw.lt hz) (by rw [back_at hw (Nat.le_refl _) hz]; exact hS)) hin
  have h1 := nodup_le h0.nod h0.lt
  have h2 := List.Nodup.length_le_of_subset (List.nodup_range (n := n)) (l₂ := ord (backK b n) (backK w n) 0) fun y hy => hall y (List.mem_range.1 hy)
  rw [List.length_range] at h2
  have e : (Bm.reach (backK b n) (backK w n)).2.length = n := Nat.le_antisymm h1 h2
  show ((Bm.reach (backK b n) (backK w n)).2.length : Int) = n
  omega
end
end Go.Bm
