/- DpNe -/
import Derived.Test.YteklchkdgpoedaaDpG4
/- The trees of words of at most seven pairs (by computation). -/
set_option linter.unusedVariables false
set_option linter.unusedSimpArgs false
namespace Go.Bm
open Go Go.Am

def treeB (s : List UInt8) : Bool := decide (Des (s.length / 2 : Nat) (madeB s) (madeW s)) && decide (Tree (s.length / 2) (madeB s) (madeW s))
def rootB (s : List UInt8) : Bool := decide (wd (madeB s) (madeW s) 0 = s)
theorem tree_7 : [1, 2, 3, 4, 5, 6, 7].all (fun n => (wl n).all treeB) = true := by decide +kernel
end Go.Bm

