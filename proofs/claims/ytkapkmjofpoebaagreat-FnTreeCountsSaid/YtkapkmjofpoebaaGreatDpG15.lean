/- DpNh -/
import Derived.Test.YtkapkmjofpoebaaGreatDpG10
set_option linter.unusedVariables false
set_option linter.unusedSimpArgs false
namespace Go.Bm
open Go Go.Am
def DL (n:Nat):List (List UInt8):=(wl n).filter fun s=>(lits n).contains (bitsOf s)
theorem aaA:[1,2,3,4,5,6,7,8].all (fun n=>decide ((DL n).map (fun s=>(typ (dY s) n,typ (eX s) n))=tys n))=true:=by decide+kernel
end Go.Bm
