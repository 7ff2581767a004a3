/- DpNe1 -/
import Derived.Test.YtkapkmjofpoebaaGreatDpG5
set_option linter.unusedVariables false
set_option linter.unusedSimpArgs false
namespace Go.Bm
open Go Go.Am
theorem apf:(((wl 8).drop 358).take 358).all Bv=true:=by decide+kernel
end Go.Bm
