/- What is taken from outside is so in the program: bytes.Compare. -/
import Derived.Test.YtkapkmjofpoebaaGreatAmChk
import Derived.Test.YtkapkmjofpoebaaGreatAmX
import Derived.WalkKit
import Derived.ProofKit
import Derived.Lib.Walk
import Derived.Lib.Bytealg
import Derived.Laws.Externs
set_option linter.unusedVariables false
set_option linter.unusedSimpArgs false
namespace Go.Am
open Go Go.Proofs
theorem Xok: ∀g args H v H',X g args H v H'→zY Tryz.prog φ g args H v H':=by
 rintro g args H v H' ⟨rfl,rfl,a,b,xs,ys,rfl,ha,hb,rfl⟩
 refine ⟨Nat.le_refl _,id,fun q hq=>?_⟩
 have akU:φ TR=none:=by kernel_rfl
 rw [akU] at hq
 cases hq
end Go.Am
