/- DpNh -/
import Derived.Test.YteklchkdgpoedaaDpG10
/- The types of the least words' trees (by computation). -/
set_option linter.unusedVariables false
set_option linter.unusedSimpArgs false
namespace Go.Bm
open Go Go.Am
def leastL (n : Nat) : List (List UInt8) := (wl n).filter fun s => (lits n).contains (bitsOf s)
theorem tys_all : [1, 2, 3, 4, 5, 6, 7, 8].all (fun n => decide ((leastL n).map (fun s => (typ (madeB s) n, typ (madeW s) n)) = tys n)) = true := by decide +kernel
end Go.Bm

