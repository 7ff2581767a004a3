/- DpNf2 -/
import Derived.Test.YteklchkdgpoedaaDpG10
/- The least words of trees of eight pairs (by computation), part 2. -/
set_option linter.unusedVariables false
set_option linter.unusedSimpArgs false
namespace Go.Bm
open Go Go.Am
theorem can_82 : (((wl 8).drop 716).take 358).all canP = true := by decide +kernel
end Go.Bm

