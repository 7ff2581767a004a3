/- Lists of numbers as cells. -/
import Derived.Test.YtbbgifoamnjhoaaDp0
set_option linter.unusedVariables false
set_option linter.unusedSimpArgs false
namespace Go.Bm
open Go Go.Am

abbrev N64 (n : Nat) : Value := .int .i64 (n : Int)
theorem getN_64 {p : List Nat} {k : Nat} (h : k < p.length) : getN none (p.map N64) k = some (N64 (nl p k)) := by
  simp [getN, h, nl, List.getD]
theorem app1_64 {H : BH} {b bytes cn : Nat} {xs : List Nat} {y : Nat} (h : (xs.length + 1) * bytes ≤ 140737488355328) : app1 (some [.int .i64 (y : Int)]) (some (xs.map N64)) H b xs.length bytes cn = some (S H.length 0 (xs.length + 1) 1, (H.set b none) ++ [some ((xs ++ [y]).map N64)]) := app1_g (g := N64) rfl h
theorem NNL_F8 {l : List Nat} : NNL (l.map N8) := NNL.map fun _ => .int
end Go.Bm
