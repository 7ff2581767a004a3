/- DpNf3 -/
import Derived.Test.YtkapkmjofpoebaaGreatDpG10
set_option linter.unusedVariables false
set_option linter.unusedSimpArgs false
namespace Go.Bm
open Go Go.Am
theorem apo:(((wl 8).drop 1074).take 358).all Bz=true:=by decide+kernel
end Go.Bm
