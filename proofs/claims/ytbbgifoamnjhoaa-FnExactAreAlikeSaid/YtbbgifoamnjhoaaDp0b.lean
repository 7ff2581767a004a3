/- Lists of bytes compared. -/
import Derived.Test.YtbbgifoamnjhoaaDp0
set_option linter.unusedVariables false
set_option linter.unusedSimpArgs false
namespace Go.Bm
open Go Go.Am

theorem eqCells_N : ∀ {p q : List Nat}, p.length = q.length → eqCells (p.map N8) (q.map N8) = some (decide (p = q))
  | [], [], _ => rfl
  | [], _ :: _, h => by simp at h
  | _ :: _, [], h => by simp at h
  | a :: p, b :: q, h => by
    have ih := eqCells_N (p := p) (q := q) (by simpa using h)
    simp only [List.map_cons, eqCells, eqCell, if_true, ih, Option.map_some, Option.some.injEq]
    by_cases e : a = b
    · subst e; simp
    · have : ¬ ((a : Int) = (b : Int)) := by omega
      simp [e, this]
theorem eqaV_PL {neg : Bool} {m : Nat} {p q : List Nat} (hp : p.length = m) (hq : q.length = m) : eqaV neg m (PL p) (PL q) = some (.bool (if neg then !decide (p = q) else decide (p = q))) := by
  have : aEqa m (PL p) (PL q) = some (decide (p = q)) := by
    simp only [aEqa]
    rw [if_pos (by simpa using hp)]
    exact eqCells_N (by omega)
  simp only [eqaV, this, Option.map_some]
end Go.Bm
