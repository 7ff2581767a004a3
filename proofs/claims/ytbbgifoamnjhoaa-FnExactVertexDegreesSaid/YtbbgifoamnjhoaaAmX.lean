/- Nothing is taken from outside: each function that is called is walked. -/
import Derived.Test.YtbbgifoamnjhoaaAmTab
namespace Go.Am
open Go
def X : Outer := fun _ _ _ _ _ => False
end Go.Am
