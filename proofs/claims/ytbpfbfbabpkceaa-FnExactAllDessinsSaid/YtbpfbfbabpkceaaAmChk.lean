/- The program's functions are those of the table: by the translation, checked by reckoning. -/
import Derived.Test.YtbpfbfbabpkceaaProg
import Derived.KernelRfl
import Derived.Test.YtbpfbfbabpkceaaAmTab
import Derived.Test.YtbpfbfbabpkceaaAmSound
set_option linter.unusedVariables false
set_option maxRecDepth 100000
namespace Go.Am
open Go
def μs:List (Nat×Nat):=[(3,404),(4,405),(5,406),(6,407),(7,408),(8,409),(9,58),(10,413),(11,414),(12,142),(13,352),(14,416),(15,363),(16,364),(17,351),(18,366),(19,368),(20,420),(21,369),(22,198),(23,421),(24,189),(25,111),(26,184),(27,391),(28,359),(29,377),(30,210),(31,216),(32,215),(33,217),(34,422),(35,206),(36,207),(37,375),(38,357),(39,358),(40,221),(41,222),(42,423),(43,227),(44,389),(45,226),(46,424),(47,425),(48,426),(49,427),(50,428),(51,429),(52,430),(53,431),(54,244),(55,245),(56,238),(57,432),(58,240),(59,241),(60,433),(61,434),(62,435)]
def μ:Fun:=fun q=>(μs.find? fun p=>p.1==q).map (·.2)
def φ:Fun:=fun g=>(μs.find? fun p=>p.2==g).map (·.1)
theorem PW:trFunc Go.Proofs.Try.prog μ φ 3=some aX:=by kernel_rfl
theorem PX:trFunc Go.Proofs.Try.prog μ φ 4=some iy:=by kernel_rfl
theorem PY:trFunc Go.Proofs.Try.prog μ φ 5=some iC:=by kernel_rfl
theorem PZ:trFunc Go.Proofs.Try.prog μ φ 6=some dQ:=by kernel_rfl
theorem P5:trFunc Go.Proofs.Try.prog μ φ 7=some bf:=by kernel_rfl
theorem P6:trFunc Go.Proofs.Try.prog μ φ 8=some aT:=by kernel_rfl
theorem P7:trFunc Go.Proofs.Try.prog μ φ 9=some kC:=by kernel_rfl
theorem P8:trFunc Go.Proofs.Try.prog μ φ 10=some fC:=by kernel_rfl
theorem P9:trFunc Go.Proofs.Try.prog μ φ 11=some dS:=by kernel_rfl
theorem Qa:trFunc Go.Proofs.Try.prog μ φ 12=some fK:=by kernel_rfl
theorem Qb:trFunc Go.Proofs.Try.prog μ φ 13=some dR:=by kernel_rfl
theorem Qc:trFunc Go.Proofs.Try.prog μ φ 14=some bT:=by kernel_rfl
theorem Qd:trFunc Go.Proofs.Try.prog μ φ 15=some dw:=by kernel_rfl
theorem Qe:trFunc Go.Proofs.Try.prog μ φ 16=some fD:=by kernel_rfl
theorem Qg:trFunc Go.Proofs.Try.prog μ φ 17=some bM:=by kernel_rfl
theorem Qh:trFunc Go.Proofs.Try.prog μ φ 18=some bU:=by kernel_rfl
theorem Qi:trFunc Go.Proofs.Try.prog μ φ 19=some gJ:=by kernel_rfl
theorem Qj:trFunc Go.Proofs.Try.prog μ φ 20=some iJ:=by kernel_rfl
theorem Qk:trFunc Go.Proofs.Try.prog μ φ 24=some fE:=by kernel_rfl
theorem Ql:trFunc Go.Proofs.Try.prog μ φ 25=some kD:=by kernel_rfl
theorem Qm:trFunc Go.Proofs.Try.prog μ φ 26=some kE:=by kernel_rfl
theorem Qn:trFunc Go.Proofs.Try.prog μ φ 27=some dD:=by kernel_rfl
theorem Qo:trFunc Go.Proofs.Try.prog μ φ 28=some dX:=by kernel_rfl
theorem Qp:trFunc Go.Proofs.Try.prog μ φ 29=some dF:=by kernel_rfl
theorem Qq:trFunc Go.Proofs.Try.prog μ φ 21=some kF:=by kernel_rfl
theorem Qr:trFunc Go.Proofs.Try.prog μ φ 22=some dY:=by kernel_rfl
theorem Qs:trFunc Go.Proofs.Try.prog μ φ 33=some gW:=by kernel_rfl
theorem Qu:trFunc Go.Proofs.Try.prog μ φ 35=some bV:=by kernel_rfl
theorem Qv:trFunc Go.Proofs.Try.prog μ φ 36=some bP:=by kernel_rfl
theorem Qw:trFunc Go.Proofs.Try.prog μ φ 37=some iK:=by kernel_rfl
theorem Qx:trFunc Go.Proofs.Try.prog μ φ 38=some eP:=by kernel_rfl
theorem Qy:trFunc Go.Proofs.Try.prog μ φ 39=some aY:=by kernel_rfl
theorem Qz:trFunc Go.Proofs.Try.prog μ φ 30=some bJ:=by kernel_rfl
theorem QA:trFunc Go.Proofs.Try.prog μ φ 31=some dZ:=by kernel_rfl
theorem QB:trFunc Go.Proofs.Try.prog μ φ 32=some eU:=by kernel_rfl
theorem QC:trFunc Go.Proofs.Try.prog μ φ 41=some jM:=by kernel_rfl
theorem QD:trFunc Go.Proofs.Try.prog μ φ 44=some fF:=by kernel_rfl
theorem QE:trFunc Go.Proofs.Try.prog μ φ 40=some bK:=by kernel_rfl
set_option maxHeartbeats 2000000 in
theorem hΓ: ∀g fn q,Γ g=some fn→φ g=some q→trFunc Go.Proofs.Try.prog μ φ q=some fn:=by
 intro g fn q h1 h2
 match g,h1,h2 with
 |404,h1,h2=>
  cases h1
  have h:φ 404=some 3:=by kernel_rfl
  rw [h] at h2
  cases h2
  exact PW
 |405,h1,h2=>
  cases h1
  have h:φ 405=some 4:=by kernel_rfl
  rw [h] at h2
  cases h2
  exact PX
 |406,h1,h2=>
  cases h1
  have h:φ 406=some 5:=by kernel_rfl
  rw [h] at h2
  cases h2
  exact PY
 |407,h1,h2=>
  cases h1
  have h:φ 407=some 6:=by kernel_rfl
  rw [h] at h2
  cases h2
  exact PZ
 |408,h1,h2=>
  cases h1
  have h:φ 408=some 7:=by kernel_rfl
  rw [h] at h2
  cases h2
  exact P5
 |409,h1,h2=>
  cases h1
  have h:φ 409=some 8:=by kernel_rfl
  rw [h] at h2
  cases h2
  exact P6
 |58,h1,h2=>
  cases h1
  have h:φ 58=some 9:=by kernel_rfl
  rw [h] at h2
  cases h2
  exact P7
 |413,h1,h2=>
  cases h1
  have h:φ 413=some 10:=by kernel_rfl
  rw [h] at h2
  cases h2
  exact P8
 |414,h1,h2=>
  cases h1
  have h:φ 414=some 11:=by kernel_rfl
  rw [h] at h2
  cases h2
  exact P9
 |142,h1,h2=>
  cases h1
  have h:φ 142=some 12:=by kernel_rfl
  rw [h] at h2
  cases h2
  exact Qa
 |352,h1,h2=>
  cases h1
  have h:φ 352=some 13:=by kernel_rfl
  rw [h] at h2
  cases h2
  exact Qb
 |416,h1,h2=>
  cases h1
  have h:φ 416=some 14:=by kernel_rfl
  rw [h] at h2
  cases h2
  exact Qc
 |363,h1,h2=>
  cases h1
  have h:φ 363=some 15:=by kernel_rfl
  rw [h] at h2
  cases h2
  exact Qd
 |364,h1,h2=>
  cases h1
  have h:φ 364=some 16:=by kernel_rfl
  rw [h] at h2
  cases h2
  exact Qe
 |351,h1,h2=>
  cases h1
  have h:φ 351=some 17:=by kernel_rfl
  rw [h] at h2
  cases h2
  exact Qg
 |366,h1,h2=>
  cases h1
  have h:φ 366=some 18:=by kernel_rfl
  rw [h] at h2
  cases h2
  exact Qh
 |368,h1,h2=>
  cases h1
  have h:φ 368=some 19:=by kernel_rfl
  rw [h] at h2
  cases h2
  exact Qi
 |420,h1,h2=>
  cases h1
  have h:φ 420=some 20:=by kernel_rfl
  rw [h] at h2
  cases h2
  exact Qj
 |189,h1,h2=>
  cases h1
  have h:φ 189=some 24:=by kernel_rfl
  rw [h] at h2
  cases h2
  exact Qk
 |111,h1,h2=>
  cases h1
  have h:φ 111=some 25:=by kernel_rfl
  rw [h] at h2
  cases h2
  exact Ql
 |184,h1,h2=>
  cases h1
  have h:φ 184=some 26:=by kernel_rfl
  rw [h] at h2
  cases h2
  exact Qm
 |391,h1,h2=>
  cases h1
  have h:φ 391=some 27:=by kernel_rfl
  rw [h] at h2
  cases h2
  exact Qn
 |359,h1,h2=>
  cases h1
  have h:φ 359=some 28:=by kernel_rfl
  rw [h] at h2
  cases h2
  exact Qo
 |377,h1,h2=>
  cases h1
  have h:φ 377=some 29:=by kernel_rfl
  rw [h] at h2
  cases h2
  exact Qp
 |369,h1,h2=>
  cases h1
  have h:φ 369=some 21:=by kernel_rfl
  rw [h] at h2
  cases h2
  exact Qq
 |198,h1,h2=>
  cases h1
  have h:φ 198=some 22:=by kernel_rfl
  rw [h] at h2
  cases h2
  exact Qr
 |217,h1,h2=>
  cases h1
  have h:φ 217=some 33:=by kernel_rfl
  rw [h] at h2
  cases h2
  exact Qs
 |206,h1,h2=>
  cases h1
  have h:φ 206=some 35:=by kernel_rfl
  rw [h] at h2
  cases h2
  exact Qu
 |207,h1,h2=>
  cases h1
  have h:φ 207=some 36:=by kernel_rfl
  rw [h] at h2
  cases h2
  exact Qv
 |375,h1,h2=>
  cases h1
  have h:φ 375=some 37:=by kernel_rfl
  rw [h] at h2
  cases h2
  exact Qw
 |357,h1,h2=>
  cases h1
  have h:φ 357=some 38:=by kernel_rfl
  rw [h] at h2
  cases h2
  exact Qx
 |358,h1,h2=>
  cases h1
  have h:φ 358=some 39:=by kernel_rfl
  rw [h] at h2
  cases h2
  exact Qy
 |210,h1,h2=>
  cases h1
  have h:φ 210=some 30:=by kernel_rfl
  rw [h] at h2
  cases h2
  exact Qz
 |216,h1,h2=>
  cases h1
  have h:φ 216=some 31:=by kernel_rfl
  rw [h] at h2
  cases h2
  exact QA
 |215,h1,h2=>
  cases h1
  have h:φ 215=some 32:=by kernel_rfl
  rw [h] at h2
  cases h2
  exact QB
 |222,h1,h2=>
  cases h1
  have h:φ 222=some 41:=by kernel_rfl
  rw [h] at h2
  cases h2
  exact QC
 |389,h1,h2=>
  cases h1
  have h:φ 389=some 44:=by kernel_rfl
  rw [h] at h2
  cases h2
  exact QD
 |221,h1,h2=>
  cases h1
  have h:φ 221=some 40:=by kernel_rfl
  rw [h] at h2
  cases h2
  exact QE
end Go.Am
