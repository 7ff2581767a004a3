/- DpNe3 -/
import Derived.Test.YtkapkmjofpoebaaGreatDpG5
set_option linter.unusedVariables false
set_option linter.unusedSimpArgs false
namespace Go.Bm
open Go Go.Am
theorem aph:(((wl 8).drop 1074).take 358).all Bv=true:=by decide+kernel
end Go.Bm
