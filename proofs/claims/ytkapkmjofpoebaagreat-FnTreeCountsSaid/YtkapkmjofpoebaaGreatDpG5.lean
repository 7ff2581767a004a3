/- DpNe -/
import Derived.Test.YtkapkmjofpoebaaGreatDpG4
set_option linter.unusedVariables false
set_option linter.unusedSimpArgs false
namespace Go.Bm
open Go Go.Am
def Bv (s:List UInt8):Bool:=decide (bC (s.length/2:Nat) (dY s) (eX s))&&decide (Tree (s.length/2) (dY s) (eX s))
def adG (s:List UInt8):Bool:=decide (wd (dY s) (eX s) 0=s)
theorem apd:[1,2,3,4,5,6,7].all (fun n=>(wl n).all Bv)=true:=by decide+kernel
end Go.Bm
