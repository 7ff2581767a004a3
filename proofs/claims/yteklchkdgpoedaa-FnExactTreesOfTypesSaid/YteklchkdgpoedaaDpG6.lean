/- DpNe0 -/
import Derived.Test.YteklchkdgpoedaaDpG5
/- The trees of words of eight pairs (by computation), part 0. -/
set_option linter.unusedVariables false
set_option linter.unusedSimpArgs false
namespace Go.Bm
open Go Go.Am
theorem tree_80 : (((wl 8).drop 0).take 358).all treeB = true := by decide +kernel
end Go.Bm

