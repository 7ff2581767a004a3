/- The program's functions are those of the table: by the translation, checked by reckoning. -/
import Derived.Test.YtkapkmjofpoebaaProg
import Derived.KernelRfl
import Derived.Test.YtkapkmjofpoebaaAmTab
import Derived.Test.YtkapkmjofpoebaaAmSound
set_option linter.unusedVariables false
set_option maxRecDepth 100000
namespace Go.Am
open Go
def μs:List (Nat×Nat):=[(3,398),(4,404),(5,41),(6,399),(7,330),(8,400),(9,401),(10,47),(11,48),(12,158),(13,328),(14,402),(15,151),(16,43),(17,403),(18,145),(19,179),(20,137),(21,405),(22,406),(23,407),(24,408),(25,409),(26,374),(27,97),(28,187),(29,280),(30,184),(31,279),(32,198),(33,410),(34,411),(35,193),(36,412),(37,200),(38,134),(39,182),(40,58),(41,413),(42,414),(43,142),(44,372),(45,102),(46,98),(47,364),(48,209),(49,210),(50,218),(51,206),(52,207),(53,284),(54,192),(55,216),(56,215),(57,217),(58,415),(59,211),(60,213),(61,81),(62,352),(63,416),(64,363),(65,351),(66,366),(67,368),(68,420),(69,369),(70,421),(71,189),(72,387),(73,388),(74,356),(75,220),(76,223),(77,219),(78,285),(79,208),(80,212),(81,221),(82,222),(83,417),(84,418),(85,419),(86,111),(87,391),(88,359),(89,377),(90,422),(91,396),(92,224),(93,225),(94,226),(95,375),(96,357),(97,358),(98,423),(99,227),(100,228),(101,238),(102,389),(103,424),(104,425),(105,426),(106,427),(107,428),(108,429),(109,430),(110,431),(111,244),(112,245),(113,229),(114,230),(115,231),(116,232),(117,233),(118,234),(119,235),(120,236),(121,237),(122,432),(123,240),(124,241),(125,433),(126,434),(127,239),(128,242),(129,243),(130,247),(131,435),(132,246)]
def μ:fU:=fun q=>(μs.find? fun p=>p.1==q).map (·.2)
def φ:fU:=fun g=>(μs.find? fun p=>p.2==g).map (·.1)
theorem abf:bC Go.Proofs.Try.prog μ φ 3=some aT:=by kernel_rfl
theorem abg:bC Go.Proofs.Try.prog μ φ 5=some tC:=by kernel_rfl
theorem abh:bC Go.Proofs.Try.prog μ φ 6=some tH:=by kernel_rfl
theorem abj:bC Go.Proofs.Try.prog μ φ 7=some oz:=by kernel_rfl
theorem abk:bC Go.Proofs.Try.prog μ φ 8=some oC:=by kernel_rfl
theorem abl:bC Go.Proofs.Try.prog μ φ 9=some iY:=by kernel_rfl
theorem abm:bC Go.Proofs.Try.prog μ φ 10=some jK:=by kernel_rfl
theorem abn:bC Go.Proofs.Try.prog μ φ 11=some jm:=by kernel_rfl
theorem abo:bC Go.Proofs.Try.prog μ φ 12=some oD:=by kernel_rfl
theorem abp:bC Go.Proofs.Try.prog μ φ 13=some oG:=by kernel_rfl
theorem abq:bC Go.Proofs.Try.prog μ φ 14=some oH:=by kernel_rfl
theorem abr:bC Go.Proofs.Try.prog μ φ 15=some jV:=by kernel_rfl
theorem abt:bC Go.Proofs.Try.prog μ φ 16=some iZ:=by kernel_rfl
theorem abu:bC Go.Proofs.Try.prog μ φ 17=some oI:=by kernel_rfl
theorem abv:bC Go.Proofs.Try.prog μ φ 18=some fF:=by kernel_rfl
theorem abw:bC Go.Proofs.Try.prog μ φ 19=some dO:=by kernel_rfl
theorem abx:bC Go.Proofs.Try.prog μ φ 20=some mV:=by kernel_rfl
theorem aby:bC Go.Proofs.Try.prog μ φ 26=some iC:=by kernel_rfl
theorem abz:bC Go.Proofs.Try.prog μ φ 27=some jL:=by kernel_rfl
theorem abA:bC Go.Proofs.Try.prog μ φ 28=some qF:=by kernel_rfl
theorem abB:bC Go.Proofs.Try.prog μ φ 29=some tJ:=by kernel_rfl
theorem abC:bC Go.Proofs.Try.prog μ φ 30=some tK:=by kernel_rfl
theorem abD:bC Go.Proofs.Try.prog μ φ 31=some tN:=by kernel_rfl
theorem abE:bC Go.Proofs.Try.prog μ φ 32=some jc:=by kernel_rfl
theorem abG:bC Go.Proofs.Try.prog μ φ 33=some tV:=by kernel_rfl
theorem abH:bC Go.Proofs.Try.prog μ φ 34=some eP:=by kernel_rfl
theorem abI:bC Go.Proofs.Try.prog μ φ 35=some tX:=by kernel_rfl
theorem abJ:bC Go.Proofs.Try.prog μ φ 36=some tY:=by kernel_rfl
theorem abK:bC Go.Proofs.Try.prog μ φ 37=some jo:=by kernel_rfl
theorem abL:bC Go.Proofs.Try.prog μ φ 38=some cZ:=by kernel_rfl
theorem abM:bC Go.Proofs.Try.prog μ φ 39=some dh:=by kernel_rfl
theorem abN:bC Go.Proofs.Try.prog μ φ 40=some tZ:=by kernel_rfl
theorem abO:bC Go.Proofs.Try.prog μ φ 44=some iD:=by kernel_rfl
theorem abP:bC Go.Proofs.Try.prog μ φ 45=some jq:=by kernel_rfl
theorem abQ:bC Go.Proofs.Try.prog μ φ 46=some uf:=by kernel_rfl
theorem abR:bC Go.Proofs.Try.prog μ φ 47=some jM:=by kernel_rfl
theorem abS:bC Go.Proofs.Try.prog μ φ 48=some fK:=by kernel_rfl
theorem abT:bC Go.Proofs.Try.prog μ φ 49=some eU:=by kernel_rfl
theorem abU:bC Go.Proofs.Try.prog μ φ 50=some jr:=by kernel_rfl
theorem abV:bC Go.Proofs.Try.prog μ φ 51=some fZ:=by kernel_rfl
theorem abW:bC Go.Proofs.Try.prog μ φ 52=some fG:=by kernel_rfl
theorem abX:bC Go.Proofs.Try.prog μ φ 53=some eX:=by kernel_rfl
theorem abY:bC Go.Proofs.Try.prog μ φ 54=some ug:=by kernel_rfl
theorem abZ:bC Go.Proofs.Try.prog μ φ 55=some jd:=by kernel_rfl
theorem ab1:bC Go.Proofs.Try.prog μ φ 56=some jv:=by kernel_rfl
theorem ab2:bC Go.Proofs.Try.prog μ φ 57=some mW:=by kernel_rfl
theorem ab3:bC Go.Proofs.Try.prog μ φ 58=some dB:=by kernel_rfl
theorem ab4:bC Go.Proofs.Try.prog μ φ 59=some jw:=by kernel_rfl
theorem ab5:bC Go.Proofs.Try.prog μ φ 60=some jy:=by kernel_rfl
theorem ab6:bC Go.Proofs.Try.prog μ φ 61=some uh:=by kernel_rfl
theorem ab7:bC Go.Proofs.Try.prog μ φ 72=some gK:=by kernel_rfl
theorem ab8:bC Go.Proofs.Try.prog μ φ 73=some uj:=by kernel_rfl
theorem ab9:bC Go.Proofs.Try.prog μ φ 74=some gY:=by kernel_rfl
theorem acd:bC Go.Proofs.Try.prog μ φ 75=some um:=by kernel_rfl
theorem ace:bC Go.Proofs.Try.prog μ φ 76=some dX:=by kernel_rfl
theorem acf:bC Go.Proofs.Try.prog μ φ 77=some oJ:=by kernel_rfl
theorem acg:bC Go.Proofs.Try.prog μ φ 78=some eG:=by kernel_rfl
theorem ach:bC Go.Proofs.Try.prog μ φ 79=some jO:=by kernel_rfl
theorem aci:bC Go.Proofs.Try.prog μ φ 80=some jP:=by kernel_rfl
theorem acj:bC Go.Proofs.Try.prog μ φ 81=some eY:=by kernel_rfl
theorem acn:bC Go.Proofs.Try.prog μ φ 82=some uo:=by kernel_rfl
theorem aco:bC Go.Proofs.Try.prog μ φ 83=some jA:=by kernel_rfl
theorem acp:bC Go.Proofs.Try.prog μ φ 84=some oK:=by kernel_rfl
theorem acr:bC Go.Proofs.Try.prog μ φ 85=some iy:=by kernel_rfl
theorem acs:bC Go.Proofs.Try.prog μ φ 91=some jQ:=by kernel_rfl
theorem acu:bC Go.Proofs.Try.prog μ φ 92=some uq:=by kernel_rfl
theorem acv:bC Go.Proofs.Try.prog μ φ 93=some lX:=by kernel_rfl
theorem acw:bC Go.Proofs.Try.prog μ φ 99=some qG:=by kernel_rfl
theorem acy:bC Go.Proofs.Try.prog μ φ 100=some bM:=by kernel_rfl
theorem acz:bC Go.Proofs.Try.prog μ φ 112=some iV:=by kernel_rfl
theorem acA:bC Go.Proofs.Try.prog μ φ 113=some je:=by kernel_rfl
theorem acB:bC Go.Proofs.Try.prog μ φ 115=some gZ:=by kernel_rfl
theorem acC:bC Go.Proofs.Try.prog μ φ 116=some fB:=by kernel_rfl
theorem acD:bC Go.Proofs.Try.prog μ φ 117=some kF:=by kernel_rfl
theorem acE:bC Go.Proofs.Try.prog μ φ 118=some bZ:=by kernel_rfl
theorem acF:bC Go.Proofs.Try.prog μ φ 119=some uw:=by kernel_rfl
theorem acG:bC Go.Proofs.Try.prog μ φ 120=some fP:=by kernel_rfl
theorem acH:bC Go.Proofs.Try.prog μ φ 121=some bV:=by kernel_rfl
theorem acI:bC Go.Proofs.Try.prog μ φ 123=some uy:=by kernel_rfl
theorem acJ:bC Go.Proofs.Try.prog μ φ 124=some mX:=by kernel_rfl
theorem acK:bC Go.Proofs.Try.prog μ φ 129=some mY:=by kernel_rfl
theorem acL:bC Go.Proofs.Try.prog μ φ 130=some uz:=by kernel_rfl
theorem acM:bC Go.Proofs.Try.prog μ φ 132=some mZ:=by kernel_rfl
theorem Gn: ∀g fn q,Γ g=some fn→φ g=some q→bC Go.Proofs.Try.prog μ φ q=some fn:=by
 intro g fn q h1 h2
 match g,h1,h2 with
 |398,h1,h2=>
  cases h1
  have h:φ 398=some 3:=by kernel_rfl
  rw [h] at h2
  cases h2
  exact abf
 |41,h1,h2=>
  cases h1
  have h:φ 41=some 5:=by kernel_rfl
  rw [h] at h2
  cases h2
  exact abg
 |399,h1,h2=>
  cases h1
  have h:φ 399=some 6:=by kernel_rfl
  rw [h] at h2
  cases h2
  exact abh
 |330,h1,h2=>
  cases h1
  have h:φ 330=some 7:=by kernel_rfl
  rw [h] at h2
  cases h2
  exact abj
 |400,h1,h2=>
  cases h1
  have h:φ 400=some 8:=by kernel_rfl
  rw [h] at h2
  cases h2
  exact abk
 |401,h1,h2=>
  cases h1
  have h:φ 401=some 9:=by kernel_rfl
  rw [h] at h2
  cases h2
  exact abl
 |47,h1,h2=>
  cases h1
  have h:φ 47=some 10:=by kernel_rfl
  rw [h] at h2
  cases h2
  exact abm
 |48,h1,h2=>
  cases h1
  have h:φ 48=some 11:=by kernel_rfl
  rw [h] at h2
  cases h2
  exact abn
 |158,h1,h2=>
  cases h1
  have h:φ 158=some 12:=by kernel_rfl
  rw [h] at h2
  cases h2
  exact abo
 |328,h1,h2=>
  cases h1
  have h:φ 328=some 13:=by kernel_rfl
  rw [h] at h2
  cases h2
  exact abp
 |402,h1,h2=>
  cases h1
  have h:φ 402=some 14:=by kernel_rfl
  rw [h] at h2
  cases h2
  exact abq
 |151,h1,h2=>
  cases h1
  have h:φ 151=some 15:=by kernel_rfl
  rw [h] at h2
  cases h2
  exact abr
 |43,h1,h2=>
  cases h1
  have h:φ 43=some 16:=by kernel_rfl
  rw [h] at h2
  cases h2
  exact abt
 |403,h1,h2=>
  cases h1
  have h:φ 403=some 17:=by kernel_rfl
  rw [h] at h2
  cases h2
  exact abu
 |145,h1,h2=>
  cases h1
  have h:φ 145=some 18:=by kernel_rfl
  rw [h] at h2
  cases h2
  exact abv
 |179,h1,h2=>
  cases h1
  have h:φ 179=some 19:=by kernel_rfl
  rw [h] at h2
  cases h2
  exact abw
 |137,h1,h2=>
  cases h1
  have h:φ 137=some 20:=by kernel_rfl
  rw [h] at h2
  cases h2
  exact abx
 |374,h1,h2=>
  cases h1
  have h:φ 374=some 26:=by kernel_rfl
  rw [h] at h2
  cases h2
  exact aby
 |97,h1,h2=>
  cases h1
  have h:φ 97=some 27:=by kernel_rfl
  rw [h] at h2
  cases h2
  exact abz
 |187,h1,h2=>
  cases h1
  have h:φ 187=some 28:=by kernel_rfl
  rw [h] at h2
  cases h2
  exact abA
 |280,h1,h2=>
  cases h1
  have h:φ 280=some 29:=by kernel_rfl
  rw [h] at h2
  cases h2
  exact abB
 |184,h1,h2=>
  cases h1
  have h:φ 184=some 30:=by kernel_rfl
  rw [h] at h2
  cases h2
  exact abC
 |279,h1,h2=>
  cases h1
  have h:φ 279=some 31:=by kernel_rfl
  rw [h] at h2
  cases h2
  exact abD
 |198,h1,h2=>
  cases h1
  have h:φ 198=some 32:=by kernel_rfl
  rw [h] at h2
  cases h2
  exact abE
 |410,h1,h2=>
  cases h1
  have h:φ 410=some 33:=by kernel_rfl
  rw [h] at h2
  cases h2
  exact abG
 |411,h1,h2=>
  cases h1
  have h:φ 411=some 34:=by kernel_rfl
  rw [h] at h2
  cases h2
  exact abH
 |193,h1,h2=>
  cases h1
  have h:φ 193=some 35:=by kernel_rfl
  rw [h] at h2
  cases h2
  exact abI
 |412,h1,h2=>
  cases h1
  have h:φ 412=some 36:=by kernel_rfl
  rw [h] at h2
  cases h2
  exact abJ
 |200,h1,h2=>
  cases h1
  have h:φ 200=some 37:=by kernel_rfl
  rw [h] at h2
  cases h2
  exact abK
 |134,h1,h2=>
  cases h1
  have h:φ 134=some 38:=by kernel_rfl
  rw [h] at h2
  cases h2
  exact abL
 |182,h1,h2=>
  cases h1
  have h:φ 182=some 39:=by kernel_rfl
  rw [h] at h2
  cases h2
  exact abM
 |58,h1,h2=>
  cases h1
  have h:φ 58=some 40:=by kernel_rfl
  rw [h] at h2
  cases h2
  exact abN
 |372,h1,h2=>
  cases h1
  have h:φ 372=some 44:=by kernel_rfl
  rw [h] at h2
  cases h2
  exact abO
 |102,h1,h2=>
  cases h1
  have h:φ 102=some 45:=by kernel_rfl
  rw [h] at h2
  cases h2
  exact abP
 |98,h1,h2=>
  cases h1
  have h:φ 98=some 46:=by kernel_rfl
  rw [h] at h2
  cases h2
  exact abQ
 |364,h1,h2=>
  cases h1
  have h:φ 364=some 47:=by kernel_rfl
  rw [h] at h2
  cases h2
  exact abR
 |209,h1,h2=>
  cases h1
  have h:φ 209=some 48:=by kernel_rfl
  rw [h] at h2
  cases h2
  exact abS
 |210,h1,h2=>
  cases h1
  have h:φ 210=some 49:=by kernel_rfl
  rw [h] at h2
  cases h2
  exact abT
 |218,h1,h2=>
  cases h1
  have h:φ 218=some 50:=by kernel_rfl
  rw [h] at h2
  cases h2
  exact abU
 |206,h1,h2=>
  cases h1
  have h:φ 206=some 51:=by kernel_rfl
  rw [h] at h2
  cases h2
  exact abV
 |207,h1,h2=>
  cases h1
  have h:φ 207=some 52:=by kernel_rfl
  rw [h] at h2
  cases h2
  exact abW
 |284,h1,h2=>
  cases h1
  have h:φ 284=some 53:=by kernel_rfl
  rw [h] at h2
  cases h2
  exact abX
 |192,h1,h2=>
  cases h1
  have h:φ 192=some 54:=by kernel_rfl
  rw [h] at h2
  cases h2
  exact abY
 |216,h1,h2=>
  cases h1
  have h:φ 216=some 55:=by kernel_rfl
  rw [h] at h2
  cases h2
  exact abZ
 |215,h1,h2=>
  cases h1
  have h:φ 215=some 56:=by kernel_rfl
  rw [h] at h2
  cases h2
  exact ab1
 |217,h1,h2=>
  cases h1
  have h:φ 217=some 57:=by kernel_rfl
  rw [h] at h2
  cases h2
  exact ab2
 |415,h1,h2=>
  cases h1
  have h:φ 415=some 58:=by kernel_rfl
  rw [h] at h2
  cases h2
  exact ab3
 |211,h1,h2=>
  cases h1
  have h:φ 211=some 59:=by kernel_rfl
  rw [h] at h2
  cases h2
  exact ab4
 |213,h1,h2=>
  cases h1
  have h:φ 213=some 60:=by kernel_rfl
  rw [h] at h2
  cases h2
  exact ab5
 |81,h1,h2=>
  cases h1
  have h:φ 81=some 61:=by kernel_rfl
  rw [h] at h2
  cases h2
  exact ab6
 |387,h1,h2=>
  cases h1
  have h:φ 387=some 72:=by kernel_rfl
  rw [h] at h2
  cases h2
  exact ab7
 |388,h1,h2=>
  cases h1
  have h:φ 388=some 73:=by kernel_rfl
  rw [h] at h2
  cases h2
  exact ab8
 |356,h1,h2=>
  cases h1
  have h:φ 356=some 74:=by kernel_rfl
  rw [h] at h2
  cases h2
  exact ab9
 |220,h1,h2=>
  cases h1
  have h:φ 220=some 75:=by kernel_rfl
  rw [h] at h2
  cases h2
  exact acd
 |223,h1,h2=>
  cases h1
  have h:φ 223=some 76:=by kernel_rfl
  rw [h] at h2
  cases h2
  exact ace
 |219,h1,h2=>
  cases h1
  have h:φ 219=some 77:=by kernel_rfl
  rw [h] at h2
  cases h2
  exact acf
 |285,h1,h2=>
  cases h1
  have h:φ 285=some 78:=by kernel_rfl
  rw [h] at h2
  cases h2
  exact acg
 |208,h1,h2=>
  cases h1
  have h:φ 208=some 79:=by kernel_rfl
  rw [h] at h2
  cases h2
  exact ach
 |212,h1,h2=>
  cases h1
  have h:φ 212=some 80:=by kernel_rfl
  rw [h] at h2
  cases h2
  exact aci
 |221,h1,h2=>
  cases h1
  have h:φ 221=some 81:=by kernel_rfl
  rw [h] at h2
  cases h2
  exact acj
 |222,h1,h2=>
  cases h1
  have h:φ 222=some 82:=by kernel_rfl
  rw [h] at h2
  cases h2
  exact acn
 |417,h1,h2=>
  cases h1
  have h:φ 417=some 83:=by kernel_rfl
  rw [h] at h2
  cases h2
  exact aco
 |418,h1,h2=>
  cases h1
  have h:φ 418=some 84:=by kernel_rfl
  rw [h] at h2
  cases h2
  exact acp
 |419,h1,h2=>
  cases h1
  have h:φ 419=some 85:=by kernel_rfl
  rw [h] at h2
  cases h2
  exact acr
 |396,h1,h2=>
  cases h1
  have h:φ 396=some 91:=by kernel_rfl
  rw [h] at h2
  cases h2
  exact acs
 |224,h1,h2=>
  cases h1
  have h:φ 224=some 92:=by kernel_rfl
  rw [h] at h2
  cases h2
  exact acu
 |225,h1,h2=>
  cases h1
  have h:φ 225=some 93:=by kernel_rfl
  rw [h] at h2
  cases h2
  exact acv
 |227,h1,h2=>
  cases h1
  have h:φ 227=some 99:=by kernel_rfl
  rw [h] at h2
  cases h2
  exact acw
 |228,h1,h2=>
  cases h1
  have h:φ 228=some 100:=by kernel_rfl
  rw [h] at h2
  cases h2
  exact acy
 |245,h1,h2=>
  cases h1
  have h:φ 245=some 112:=by kernel_rfl
  rw [h] at h2
  cases h2
  exact acz
 |229,h1,h2=>
  cases h1
  have h:φ 229=some 113:=by kernel_rfl
  rw [h] at h2
  cases h2
  exact acA
 |231,h1,h2=>
  cases h1
  have h:φ 231=some 115:=by kernel_rfl
  rw [h] at h2
  cases h2
  exact acB
 |232,h1,h2=>
  cases h1
  have h:φ 232=some 116:=by kernel_rfl
  rw [h] at h2
  cases h2
  exact acC
 |233,h1,h2=>
  cases h1
  have h:φ 233=some 117:=by kernel_rfl
  rw [h] at h2
  cases h2
  exact acD
 |234,h1,h2=>
  cases h1
  have h:φ 234=some 118:=by kernel_rfl
  rw [h] at h2
  cases h2
  exact acE
 |235,h1,h2=>
  cases h1
  have h:φ 235=some 119:=by kernel_rfl
  rw [h] at h2
  cases h2
  exact acF
 |236,h1,h2=>
  cases h1
  have h:φ 236=some 120:=by kernel_rfl
  rw [h] at h2
  cases h2
  exact acG
 |237,h1,h2=>
  cases h1
  have h:φ 237=some 121:=by kernel_rfl
  rw [h] at h2
  cases h2
  exact acH
 |240,h1,h2=>
  cases h1
  have h:φ 240=some 123:=by kernel_rfl
  rw [h] at h2
  cases h2
  exact acI
 |241,h1,h2=>
  cases h1
  have h:φ 241=some 124:=by kernel_rfl
  rw [h] at h2
  cases h2
  exact acJ
 |243,h1,h2=>
  cases h1
  have h:φ 243=some 129:=by kernel_rfl
  rw [h] at h2
  cases h2
  exact acK
 |247,h1,h2=>
  cases h1
  have h:φ 247=some 130:=by kernel_rfl
  rw [h] at h2
  cases h2
  exact acL
 |246,h1,h2=>
  cases h1
  have h:φ 246=some 132:=by kernel_rfl
  rw [h] at h2
  cases h2
  exact acM
end Go.Am
