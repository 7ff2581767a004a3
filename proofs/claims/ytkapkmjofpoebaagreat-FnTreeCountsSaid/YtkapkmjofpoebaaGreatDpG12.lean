/- DpNf1 -/
import Derived.Test.YtkapkmjofpoebaaGreatDpG10
set_option linter.unusedVariables false
set_option linter.unusedSimpArgs false
namespace Go.Bm
open Go Go.Am
theorem apm:(((wl 8).drop 358).take 358).all Bz=true:=by decide+kernel
end Go.Bm
