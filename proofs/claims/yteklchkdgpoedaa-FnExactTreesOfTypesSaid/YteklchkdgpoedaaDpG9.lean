/- DpNe3 -/
import Derived.Test.YteklchkdgpoedaaDpG5
/- The trees of words of eight pairs (by computation), part 3. -/
set_option linter.unusedVariables false
set_option linter.unusedSimpArgs false
namespace Go.Bm
open Go Go.Am
theorem tree_83 : (((wl 8).drop 1074).take 358).all treeB = true := by decide +kernel
end Go.Bm

