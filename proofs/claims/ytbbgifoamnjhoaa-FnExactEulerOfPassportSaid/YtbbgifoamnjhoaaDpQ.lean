/- Lists in descending order. -/
import Derived.Test.YtbbgifoamnjhoaaDpP
import Derived.Test.YtbbgifoamnjhoaaDp7a
set_option linter.unusedVariables false
set_option linter.unusedSimpArgs false
namespace Go.Bm
open Go Go.Am

def ofN (xs : List Nat) : List Int := xs.map fun n : Nat => (n : Int)
theorem map_N64 {xs : List Nat} : xs.map N64 = (ofN xs).map I := by simp [ofN, Function.comp_def]
theorem ofN_len {xs : List Nat} : (ofN xs).length = xs.length := by simp [ofN]
theorem el_ofN {xs : List Nat} {i : Nat} : el (ofN xs) i = (nl xs i : Int) := by
  simp only [el, ofN, nl, List.getD, List.getElem?_map]
  cases xs[i]? <;> rfl
/-- In descending order. -/
def Dsc (p : List Int) : Prop := ∀ i j, i ≤ j → j < p.length → el p j ≤ el p i
theorem Dsc.tail {a : Int} {p : List Int} (h : Dsc (a :: p)) : Dsc p := fun i j h1 h2 => by
  have := h (i + 1) (j + 1) (by omega) (by simp; omega)
  simpa [el, List.getD] using this
theorem Dsc.head {a : Int} {p : List Int} (h : Dsc (a :: p)) : ∀ x ∈ p, x ≤ a := fun x hx => by
  obtain ⟨i, hi, rfl⟩ := List.mem_iff_getElem.1 hx
  have := h 0 (i + 1) (by omega) (by simpa using hi)
  simpa [el, List.getD, hi] using this
/-- There is but one. -/
theorem Dsc.uniq : ∀ {p q : List Int}, Dsc p → Dsc q → p.Perm q → p = q
  | [], q, _, _, h => (List.nil_perm.1 h).symm
  | a :: p, [], _, _, h => by simp at h
  | a :: p, b :: q, hp, hq, h => by
    have hab : a = b := by
      have h1 : a ∈ b :: q := h.subset (by simp)
      have h2 : b ∈ a :: p := h.symm.subset (by simp)
      have h3 : a ≤ b := by
        rcases List.mem_cons.1 h1 with e | e
        · omega
        · exact hq.head a e
      have h4 : b ≤ a := by
        rcases List.mem_cons.1 h2 with e | e
        · omega
        · exact hp.head b e
      omega
    subst hab
    rw [Dsc.uniq hp.tail hq.tail (List.Perm.cons_inv h)]
theorem el_reverse {p : List Int} {i : Nat} (hi : i < p.length) : el p.reverse i = el p (p.length - 1 - i) := by
  simp only [el, List.getD]
  rw [List.getElem?_reverse (by omega)]
theorem descending_spec {p r : List Int} {K : Value → BH → Prop} (hpl : p.length ≤ 16) (hr : Dsc r) (hp : r.Perm p) (hK : K (S 0 0 p.length 1) [some (r.map I)]) :
    CallX false F_impl_descending [S 0 0 p.length 1] [some (p.map I)] K := by
  refine CallX_body Γ_impl_descending ?_
  simp only [A_impl_descending, T_aiff]
  refine T_rseq fun Kr hKr => ?_
  simp (disch := omega) only [RA, ↓reduceIte, Nat.reduceEqDiff, RD]
  refine hKr _ _ ?_
  clear hKr Kr
  try simp only [RN, reduceIte]
  try refine T_e rfl ?_
  refine T_rseq fun Kr hKr => ?_
  simp (disch := omega) only [RA, ↓reduceIte, Nat.reduceEqDiff, RD]
  refine Sort_spec hpl ?_
  intro q hq hs
  have hql : q.length = p.length := hq.length_eq
  simp (disch := omega) only [RA, ↓reduceIte, Nat.reduceEqDiff, RD]
  refine hKr _ _ ?_
  clear hKr Kr
  try simp only [blkQ, thenQ, loopQ]
  try simp only [RN, reduceIte]
  try refine T_e rfl ?_
  refine T_rseq fun Kr hKr => ?_
  simp (disch := omega) only [RA, ↓reduceIte, Nat.reduceEqDiff, RD]
  rw [← hql]
  refine Reverse_spec (by omega) ?_
  have e : q.reverse = r := by
    refine Dsc.uniq (fun i j h1 h2 => ?_) hr ((List.reverse_perm q).trans (hq.trans hp.symm))
    simp only [List.length_reverse] at h2
    rw [el_reverse h2, el_reverse (by omega)]
    exact hs _ _ (Nat.zero_le _) (by omega) (by omega)
  rw [e]
  simp (disch := omega) only [RA, ↓reduceIte, Nat.reduceEqDiff, RD]
  refine hKr _ _ ?_
  clear hKr Kr
  try simp only [blkQ, thenQ, loopQ]
  try simp only [RN, reduceIte]
  try refine T_e rfl ?_
  refine T_rseq fun Kr hKr => ?_
  simp (disch := omega) only [RA, ↓reduceIte, Nat.reduceEqDiff, RD]
  refine hKr _ _ ?_
  clear hKr Kr
  try simp only [RN, reduceIte]
  try refine T_e rfl ?_
  refine bodyQ_ret (by simp (disch := omega) only [RA, ↓reduceIte, Nat.reduceEqDiff, RD, resAll, resOf]; rfl) GhV.refl ?_
  simp only [tup]
  rw [hql]
  exact hK
end Go.Bm
