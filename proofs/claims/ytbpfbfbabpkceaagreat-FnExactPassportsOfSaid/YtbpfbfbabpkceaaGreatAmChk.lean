/- The program's functions are those of the table: by the translation, checked by reckoning. -/
import Derived.Test.YtbpfbfbabpkceaaGreatProg
import Derived.KernelRfl
import Derived.Test.YtbpfbfbabpkceaaGreatAmTab
import Derived.Test.YtbpfbfbabpkceaaGreatAmSound
set_option linter.unusedVariables false
set_option maxRecDepth 100000
namespace Go.Am
open Go
def μs:List (Nat×Nat):=[(3,449),(4,455),(5,458),(6,450),(7,451),(8,452),(9,453),(10,454),(11,20),(12,456),(13,21),(14,457),(15,407),(16,24),(17,39),(18,408),(19,409),(20,41),(21,459),(22,297),(23,296),(24,460),(25,461),(26,462),(27,300),(28,299),(29,51),(30,55),(31,330),(32,463),(33,328),(34,319),(35,23),(36,303),(37,58),(38,413),(39,464),(40,284),(41,192),(42,465),(43,414),(44,412),(45,280),(46,466),(47,467),(48,468),(49,469),(50,40),(51,77),(52,335),(53,336),(54,0),(55,339),(56,341),(57,470),(58,369),(59,198),(60,421),(61,142),(62,3),(63,6),(64,353),(65,97),(66,340),(67,79),(68,337),(69,338),(70,342),(71,43),(72,187),(73,471),(74,80),(75,81),(76,67),(77,345),(78,68),(79,269),(80,277),(81,346),(82,347),(83,348),(84,352),(85,416),(86,363),(87,364),(88,472),(89,285),(90,208),(91,212),(92,473),(93,351),(94,366),(95,368),(96,420),(97,218),(98,193),(99,474),(100,227),(101,475),(102,476),(103,7),(104,78),(105,365),(106,367),(107,69),(108,354),(109,210),(110,216),(111,215),(112,217),(113,422),(114,189),(115,98),(116,372),(117,102),(118,350),(119,209),(120,477),(121,278),(122,274),(123,371),(124,111),(125,184),(126,391),(127,359),(128,279),(129,377),(130,223),(131,219),(132,211),(133,213),(134,478),(135,479),(136,480),(137,481),(138,482),(139,483),(140,484),(141,485),(142,244),(143,245),(144,486),(145,106),(146,376),(147,70),(148,221),(149,222),(150,423),(151,387),(152,388),(153,356),(154,220),(155,487),(156,283),(157,378),(158,379),(159,380),(160,381),(161,382),(162,383),(163,384),(164,385),(165,386),(166,206),(167,207),(168,375),(169,357),(170,358),(171,224),(172,225),(173,488),(174,240),(175,241),(176,489),(177,490),(178,247),(179,390),(180,226),(181,424),(182,425),(183,426),(184,427),(185,428),(186,429),(187,430),(188,431),(189,396),(190,491),(191,392),(192,393),(193,394),(194,395),(195,389),(196,228),(197,492),(198,238),(199,432),(200,433),(201,434),(202,493),(203,397),(204,229),(205,230),(206,231),(207,232),(208,233),(209,234),(210,235),(211,236),(212,237),(213,435),(214,494),(215,239),(216,242),(217,243),(218,495),(219,496),(220,246)]
def μ:Fun:=fun q=>(μs.find? fun p=>p.1==q).map (·.2)
def φ:Fun:=fun g=>(μs.find? fun p=>p.2==g).map (·.1)
theorem ZK:trFunc Go.Proofs.Tryz.prog μ φ 3=some bT:=by kernel_rfl
theorem ZL:trFunc Go.Proofs.Tryz.prog μ φ 6=some bY:=by kernel_rfl
theorem ZM:trFunc Go.Proofs.Tryz.prog μ φ 7=some fK:=by kernel_rfl
theorem ZN:trFunc Go.Proofs.Tryz.prog μ φ 8=some gZ:=by kernel_rfl
theorem ZO:trFunc Go.Proofs.Tryz.prog μ φ 9=some jD:=by kernel_rfl
theorem ZP:trFunc Go.Proofs.Tryz.prog μ φ 10=some iJ:=by kernel_rfl
theorem ZQ:trFunc Go.Proofs.Tryz.prog μ φ 16=some iK:=by kernel_rfl
theorem ZR:trFunc Go.Proofs.Tryz.prog μ φ 17=some jZ:=by kernel_rfl
theorem ZT:trFunc Go.Proofs.Tryz.prog μ φ 37=some qI:=by kernel_rfl
theorem ZU:trFunc Go.Proofs.Tryz.prog μ φ 38=some jE:=by kernel_rfl
theorem ZV:trFunc Go.Proofs.Tryz.prog μ φ 39=some qJ:=by kernel_rfl
theorem ZW:trFunc Go.Proofs.Tryz.prog μ φ 40=some dO:=by kernel_rfl
theorem ZX:trFunc Go.Proofs.Tryz.prog μ φ 41=some qK:=by kernel_rfl
theorem ZY:trFunc Go.Proofs.Tryz.prog μ φ 42=some iL:=by kernel_rfl
theorem Z4:trFunc Go.Proofs.Tryz.prog μ φ 43=some iF:=by kernel_rfl
theorem Z5:trFunc Go.Proofs.Tryz.prog μ φ 44=some qL:=by kernel_rfl
theorem Z7:trFunc Go.Proofs.Tryz.prog μ φ 45=some pR:=by kernel_rfl
theorem Z8:trFunc Go.Proofs.Tryz.prog μ φ 46=some qM:=by kernel_rfl
theorem Z9:trFunc Go.Proofs.Tryz.prog μ φ 47=some pU:=by kernel_rfl
theorem aac:trFunc Go.Proofs.Tryz.prog μ φ 48=some cO:=by kernel_rfl
theorem aad:trFunc Go.Proofs.Tryz.prog μ φ 49=some qN:=by kernel_rfl
theorem aae:trFunc Go.Proofs.Tryz.prog μ φ 50=some je:=by kernel_rfl
theorem aaf:trFunc Go.Proofs.Tryz.prog μ φ 62=some iM:=by kernel_rfl
theorem aag:trFunc Go.Proofs.Tryz.prog μ φ 63=some jF:=by kernel_rfl
theorem aah:trFunc Go.Proofs.Tryz.prog μ φ 59=some iO:=by kernel_rfl
theorem aai:trFunc Go.Proofs.Tryz.prog μ φ 75=some qO:=by kernel_rfl
theorem aaj:trFunc Go.Proofs.Tryz.prog μ φ 84=some ig:=by kernel_rfl
theorem aak:trFunc Go.Proofs.Tryz.prog μ φ 85=some fB:=by kernel_rfl
theorem aal:trFunc Go.Proofs.Tryz.prog μ φ 86=some gq:=by kernel_rfl
theorem aam:trFunc Go.Proofs.Tryz.prog μ φ 87=some jG:=by kernel_rfl
theorem aan:trFunc Go.Proofs.Tryz.prog μ φ 88=some oO:=by kernel_rfl
theorem aao:trFunc Go.Proofs.Tryz.prog μ φ 89=some dL:=by kernel_rfl
theorem aap:trFunc Go.Proofs.Tryz.prog μ φ 90=some jH:=by kernel_rfl
theorem aaq:trFunc Go.Proofs.Tryz.prog μ φ 91=some jI:=by kernel_rfl
theorem aar:trFunc Go.Proofs.Tryz.prog μ φ 92=some jJ:=by kernel_rfl
theorem aas:trFunc Go.Proofs.Tryz.prog μ φ 93=some dZ:=by kernel_rfl
theorem aat:trFunc Go.Proofs.Tryz.prog μ φ 94=some fC:=by kernel_rfl
theorem aau:trFunc Go.Proofs.Tryz.prog μ φ 95=some kS:=by kernel_rfl
theorem aav:trFunc Go.Proofs.Tryz.prog μ φ 96=some mX:=by kernel_rfl
theorem aaw:trFunc Go.Proofs.Tryz.prog μ φ 97=some jf:=by kernel_rfl
theorem aax:trFunc Go.Proofs.Tryz.prog μ φ 98=some qP:=by kernel_rfl
theorem aay:trFunc Go.Proofs.Tryz.prog μ φ 99=some bf:=by kernel_rfl
theorem aaz:trFunc Go.Proofs.Tryz.prog μ φ 100=some oQ:=by kernel_rfl
theorem aaA:trFunc Go.Proofs.Tryz.prog μ φ 101=some fD:=by kernel_rfl
theorem aaB:trFunc Go.Proofs.Tryz.prog μ φ 102=some fE:=by kernel_rfl
theorem aaC:trFunc Go.Proofs.Tryz.prog μ φ 103=some jg:=by kernel_rfl
theorem aaD:trFunc Go.Proofs.Tryz.prog μ φ 58=some qQ:=by kernel_rfl
theorem aaE:trFunc Go.Proofs.Tryz.prog μ φ 112=some lC:=by kernel_rfl
theorem aaF:trFunc Go.Proofs.Tryz.prog μ φ 109=some dP:=by kernel_rfl
theorem aaG:trFunc Go.Proofs.Tryz.prog μ φ 110=some iP:=by kernel_rfl
theorem aaH:trFunc Go.Proofs.Tryz.prog μ φ 111=some jh:=by kernel_rfl
theorem aaI:trFunc Go.Proofs.Tryz.prog μ φ 124=some qR:=by kernel_rfl
theorem aaJ:trFunc Go.Proofs.Tryz.prog μ φ 125=some qU:=by kernel_rfl
theorem aaK:trFunc Go.Proofs.Tryz.prog μ φ 126=some gu:=by kernel_rfl
theorem aaL:trFunc Go.Proofs.Tryz.prog μ φ 127=some iQ:=by kernel_rfl
theorem aaM:trFunc Go.Proofs.Tryz.prog μ φ 128=some qV:=by kernel_rfl
theorem aaN:trFunc Go.Proofs.Tryz.prog μ φ 129=some gy:=by kernel_rfl
theorem aaO:trFunc Go.Proofs.Tryz.prog μ φ 130=some dI:=by kernel_rfl
theorem aaP:trFunc Go.Proofs.Tryz.prog μ φ 131=some mY:=by kernel_rfl
theorem aaQ:trFunc Go.Proofs.Tryz.prog μ φ 132=some ji:=by kernel_rfl
theorem aaR:trFunc Go.Proofs.Tryz.prog μ φ 133=some jk:=by kernel_rfl
theorem aaS:trFunc Go.Proofs.Tryz.prog μ φ 134=some jl:=by kernel_rfl
theorem aaT:trFunc Go.Proofs.Tryz.prog μ φ 143=some iG:=by kernel_rfl
theorem aaU:trFunc Go.Proofs.Tryz.prog μ φ 144=some fP:=by kernel_rfl
theorem aaV:trFunc Go.Proofs.Tryz.prog μ φ 149=some pV:=by kernel_rfl
theorem aaW:trFunc Go.Proofs.Tryz.prog μ φ 148=some dQ:=by kernel_rfl
theorem aaX:trFunc Go.Proofs.Tryz.prog μ φ 166=some fF:=by kernel_rfl
theorem aaY:trFunc Go.Proofs.Tryz.prog μ φ 167=some eu:=by kernel_rfl
theorem aaZ:trFunc Go.Proofs.Tryz.prog μ φ 168=some mZ:=by kernel_rfl
theorem aa0:trFunc Go.Proofs.Tryz.prog μ φ 169=some jm:=by kernel_rfl
theorem aa1:trFunc Go.Proofs.Tryz.prog μ φ 170=some bU:=by kernel_rfl
theorem aa2:trFunc Go.Proofs.Tryz.prog μ φ 171=some qW:=by kernel_rfl
theorem aa3:trFunc Go.Proofs.Tryz.prog μ φ 172=some lF:=by kernel_rfl
theorem aa4:trFunc Go.Proofs.Tryz.prog μ φ 174=some qX:=by kernel_rfl
theorem aa5:trFunc Go.Proofs.Tryz.prog μ φ 175=some lQ:=by kernel_rfl
theorem aa6:trFunc Go.Proofs.Tryz.prog μ φ 178=some oU:=by kernel_rfl
theorem aa7:trFunc Go.Proofs.Tryz.prog μ φ 195=some jK:=by kernel_rfl
theorem aa8:trFunc Go.Proofs.Tryz.prog μ φ 196=some aZ:=by kernel_rfl
theorem aa9:trFunc Go.Proofs.Tryz.prog μ φ 204=some iR:=by kernel_rfl
theorem abb:trFunc Go.Proofs.Tryz.prog μ φ 206=some gB:=by kernel_rfl
theorem abd:trFunc Go.Proofs.Tryz.prog μ φ 207=some dU:=by kernel_rfl
theorem abe:trFunc Go.Proofs.Tryz.prog μ φ 208=some ku:=by kernel_rfl
theorem abf:trFunc Go.Proofs.Tryz.prog μ φ 209=some bC:=by kernel_rfl
theorem abg:trFunc Go.Proofs.Tryz.prog μ φ 210=some qY:=by kernel_rfl
theorem abh:trFunc Go.Proofs.Tryz.prog μ φ 211=some eX:=by kernel_rfl
theorem abj:trFunc Go.Proofs.Tryz.prog μ φ 212=some bg:=by kernel_rfl
theorem abk:trFunc Go.Proofs.Tryz.prog μ φ 217=some lS:=by kernel_rfl
theorem abl:trFunc Go.Proofs.Tryz.prog μ φ 220=some lU:=by kernel_rfl
set_option maxHeartbeats 2000000 in
theorem hΓ: ∀g fn q,Γ g=some fn→φ g=some q→trFunc Go.Proofs.Tryz.prog μ φ q=some fn:=by
 intro g fn q h1 h2
 match g,h1,h2 with
 |449,h1,h2=>
  cases h1
  have h:φ 449=some 3:=by kernel_rfl
  rw [h] at h2
  cases h2
  exact ZK
 |450,h1,h2=>
  cases h1
  have h:φ 450=some 6:=by kernel_rfl
  rw [h] at h2
  cases h2
  exact ZL
 |451,h1,h2=>
  cases h1
  have h:φ 451=some 7:=by kernel_rfl
  rw [h] at h2
  cases h2
  exact ZM
 |452,h1,h2=>
  cases h1
  have h:φ 452=some 8:=by kernel_rfl
  rw [h] at h2
  cases h2
  exact ZN
 |453,h1,h2=>
  cases h1
  have h:φ 453=some 9:=by kernel_rfl
  rw [h] at h2
  cases h2
  exact ZO
 |454,h1,h2=>
  cases h1
  have h:φ 454=some 10:=by kernel_rfl
  rw [h] at h2
  cases h2
  exact ZP
 |24,h1,h2=>
  cases h1
  have h:φ 24=some 16:=by kernel_rfl
  rw [h] at h2
  cases h2
  exact ZQ
 |39,h1,h2=>
  cases h1
  have h:φ 39=some 17:=by kernel_rfl
  rw [h] at h2
  cases h2
  exact ZR
 |58,h1,h2=>
  cases h1
  have h:φ 58=some 37:=by kernel_rfl
  rw [h] at h2
  cases h2
  exact ZT
 |413,h1,h2=>
  cases h1
  have h:φ 413=some 38:=by kernel_rfl
  rw [h] at h2
  cases h2
  exact ZU
 |464,h1,h2=>
  cases h1
  have h:φ 464=some 39:=by kernel_rfl
  rw [h] at h2
  cases h2
  exact ZV
 |284,h1,h2=>
  cases h1
  have h:φ 284=some 40:=by kernel_rfl
  rw [h] at h2
  cases h2
  exact ZW
 |192,h1,h2=>
  cases h1
  have h:φ 192=some 41:=by kernel_rfl
  rw [h] at h2
  cases h2
  exact ZX
 |465,h1,h2=>
  cases h1
  have h:φ 465=some 42:=by kernel_rfl
  rw [h] at h2
  cases h2
  exact ZY
 |414,h1,h2=>
  cases h1
  have h:φ 414=some 43:=by kernel_rfl
  rw [h] at h2
  cases h2
  exact Z4
 |412,h1,h2=>
  cases h1
  have h:φ 412=some 44:=by kernel_rfl
  rw [h] at h2
  cases h2
  exact Z5
 |280,h1,h2=>
  cases h1
  have h:φ 280=some 45:=by kernel_rfl
  rw [h] at h2
  cases h2
  exact Z7
 |466,h1,h2=>
  cases h1
  have h:φ 466=some 46:=by kernel_rfl
  rw [h] at h2
  cases h2
  exact Z8
 |467,h1,h2=>
  cases h1
  have h:φ 467=some 47:=by kernel_rfl
  rw [h] at h2
  cases h2
  exact Z9
 |468,h1,h2=>
  cases h1
  have h:φ 468=some 48:=by kernel_rfl
  rw [h] at h2
  cases h2
  exact aac
 |469,h1,h2=>
  cases h1
  have h:φ 469=some 49:=by kernel_rfl
  rw [h] at h2
  cases h2
  exact aad
 |40,h1,h2=>
  cases h1
  have h:φ 40=some 50:=by kernel_rfl
  rw [h] at h2
  cases h2
  exact aae
 |3,h1,h2=>
  cases h1
  have h:φ 3=some 62:=by kernel_rfl
  rw [h] at h2
  cases h2
  exact aaf
 |6,h1,h2=>
  cases h1
  have h:φ 6=some 63:=by kernel_rfl
  rw [h] at h2
  cases h2
  exact aag
 |198,h1,h2=>
  cases h1
  have h:φ 198=some 59:=by kernel_rfl
  rw [h] at h2
  cases h2
  exact aah
 |81,h1,h2=>
  cases h1
  have h:φ 81=some 75:=by kernel_rfl
  rw [h] at h2
  cases h2
  exact aai
 |352,h1,h2=>
  cases h1
  have h:φ 352=some 84:=by kernel_rfl
  rw [h] at h2
  cases h2
  exact aaj
 |416,h1,h2=>
  cases h1
  have h:φ 416=some 85:=by kernel_rfl
  rw [h] at h2
  cases h2
  exact aak
 |363,h1,h2=>
  cases h1
  have h:φ 363=some 86:=by kernel_rfl
  rw [h] at h2
  cases h2
  exact aal
 |364,h1,h2=>
  cases h1
  have h:φ 364=some 87:=by kernel_rfl
  rw [h] at h2
  cases h2
  exact aam
 |472,h1,h2=>
  cases h1
  have h:φ 472=some 88:=by kernel_rfl
  rw [h] at h2
  cases h2
  exact aan
 |285,h1,h2=>
  cases h1
  have h:φ 285=some 89:=by kernel_rfl
  rw [h] at h2
  cases h2
  exact aao
 |208,h1,h2=>
  cases h1
  have h:φ 208=some 90:=by kernel_rfl
  rw [h] at h2
  cases h2
  exact aap
 |212,h1,h2=>
  cases h1
  have h:φ 212=some 91:=by kernel_rfl
  rw [h] at h2
  cases h2
  exact aaq
 |473,h1,h2=>
  cases h1
  have h:φ 473=some 92:=by kernel_rfl
  rw [h] at h2
  cases h2
  exact aar
 |351,h1,h2=>
  cases h1
  have h:φ 351=some 93:=by kernel_rfl
  rw [h] at h2
  cases h2
  exact aas
 |366,h1,h2=>
  cases h1
  have h:φ 366=some 94:=by kernel_rfl
  rw [h] at h2
  cases h2
  exact aat
 |368,h1,h2=>
  cases h1
  have h:φ 368=some 95:=by kernel_rfl
  rw [h] at h2
  cases h2
  exact aau
 |420,h1,h2=>
  cases h1
  have h:φ 420=some 96:=by kernel_rfl
  rw [h] at h2
  cases h2
  exact aav
 |218,h1,h2=>
  cases h1
  have h:φ 218=some 97:=by kernel_rfl
  rw [h] at h2
  cases h2
  exact aaw
 |193,h1,h2=>
  cases h1
  have h:φ 193=some 98:=by kernel_rfl
  rw [h] at h2
  cases h2
  exact aax
 |474,h1,h2=>
  cases h1
  have h:φ 474=some 99:=by kernel_rfl
  rw [h] at h2
  cases h2
  exact aay
 |227,h1,h2=>
  cases h1
  have h:φ 227=some 100:=by kernel_rfl
  rw [h] at h2
  cases h2
  exact aaz
 |475,h1,h2=>
  cases h1
  have h:φ 475=some 101:=by kernel_rfl
  rw [h] at h2
  cases h2
  exact aaA
 |476,h1,h2=>
  cases h1
  have h:φ 476=some 102:=by kernel_rfl
  rw [h] at h2
  cases h2
  exact aaB
 |7,h1,h2=>
  cases h1
  have h:φ 7=some 103:=by kernel_rfl
  rw [h] at h2
  cases h2
  exact aaC
 |369,h1,h2=>
  cases h1
  have h:φ 369=some 58:=by kernel_rfl
  rw [h] at h2
  cases h2
  exact aaD
 |217,h1,h2=>
  cases h1
  have h:φ 217=some 112:=by kernel_rfl
  rw [h] at h2
  cases h2
  exact aaE
 |210,h1,h2=>
  cases h1
  have h:φ 210=some 109:=by kernel_rfl
  rw [h] at h2
  cases h2
  exact aaF
 |216,h1,h2=>
  cases h1
  have h:φ 216=some 110:=by kernel_rfl
  rw [h] at h2
  cases h2
  exact aaG
 |215,h1,h2=>
  cases h1
  have h:φ 215=some 111:=by kernel_rfl
  rw [h] at h2
  cases h2
  exact aaH
 |111,h1,h2=>
  cases h1
  have h:φ 111=some 124:=by kernel_rfl
  rw [h] at h2
  cases h2
  exact aaI
 |184,h1,h2=>
  cases h1
  have h:φ 184=some 125:=by kernel_rfl
  rw [h] at h2
  cases h2
  exact aaJ
 |391,h1,h2=>
  cases h1
  have h:φ 391=some 126:=by kernel_rfl
  rw [h] at h2
  cases h2
  exact aaK
 |359,h1,h2=>
  cases h1
  have h:φ 359=some 127:=by kernel_rfl
  rw [h] at h2
  cases h2
  exact aaL
 |279,h1,h2=>
  cases h1
  have h:φ 279=some 128:=by kernel_rfl
  rw [h] at h2
  cases h2
  exact aaM
 |377,h1,h2=>
  cases h1
  have h:φ 377=some 129:=by kernel_rfl
  rw [h] at h2
  cases h2
  exact aaN
 |223,h1,h2=>
  cases h1
  have h:φ 223=some 130:=by kernel_rfl
  rw [h] at h2
  cases h2
  exact aaO
 |219,h1,h2=>
  cases h1
  have h:φ 219=some 131:=by kernel_rfl
  rw [h] at h2
  cases h2
  exact aaP
 |211,h1,h2=>
  cases h1
  have h:φ 211=some 132:=by kernel_rfl
  rw [h] at h2
  cases h2
  exact aaQ
 |213,h1,h2=>
  cases h1
  have h:φ 213=some 133:=by kernel_rfl
  rw [h] at h2
  cases h2
  exact aaR
 |478,h1,h2=>
  cases h1
  have h:φ 478=some 134:=by kernel_rfl
  rw [h] at h2
  cases h2
  exact aaS
 |245,h1,h2=>
  cases h1
  have h:φ 245=some 143:=by kernel_rfl
  rw [h] at h2
  cases h2
  exact aaT
 |486,h1,h2=>
  cases h1
  have h:φ 486=some 144:=by kernel_rfl
  rw [h] at h2
  cases h2
  exact aaU
 |222,h1,h2=>
  cases h1
  have h:φ 222=some 149:=by kernel_rfl
  rw [h] at h2
  cases h2
  exact aaV
 |221,h1,h2=>
  cases h1
  have h:φ 221=some 148:=by kernel_rfl
  rw [h] at h2
  cases h2
  exact aaW
 |206,h1,h2=>
  cases h1
  have h:φ 206=some 166:=by kernel_rfl
  rw [h] at h2
  cases h2
  exact aaX
 |207,h1,h2=>
  cases h1
  have h:φ 207=some 167:=by kernel_rfl
  rw [h] at h2
  cases h2
  exact aaY
 |375,h1,h2=>
  cases h1
  have h:φ 375=some 168:=by kernel_rfl
  rw [h] at h2
  cases h2
  exact aaZ
 |357,h1,h2=>
  cases h1
  have h:φ 357=some 169:=by kernel_rfl
  rw [h] at h2
  cases h2
  exact aa0
 |358,h1,h2=>
  cases h1
  have h:φ 358=some 170:=by kernel_rfl
  rw [h] at h2
  cases h2
  exact aa1
 |224,h1,h2=>
  cases h1
  have h:φ 224=some 171:=by kernel_rfl
  rw [h] at h2
  cases h2
  exact aa2
 |225,h1,h2=>
  cases h1
  have h:φ 225=some 172:=by kernel_rfl
  rw [h] at h2
  cases h2
  exact aa3
 |240,h1,h2=>
  cases h1
  have h:φ 240=some 174:=by kernel_rfl
  rw [h] at h2
  cases h2
  exact aa4
 |241,h1,h2=>
  cases h1
  have h:φ 241=some 175:=by kernel_rfl
  rw [h] at h2
  cases h2
  exact aa5
 |247,h1,h2=>
  cases h1
  have h:φ 247=some 178:=by kernel_rfl
  rw [h] at h2
  cases h2
  exact aa6
 |389,h1,h2=>
  cases h1
  have h:φ 389=some 195:=by kernel_rfl
  rw [h] at h2
  cases h2
  exact aa7
 |228,h1,h2=>
  cases h1
  have h:φ 228=some 196:=by kernel_rfl
  rw [h] at h2
  cases h2
  exact aa8
 |229,h1,h2=>
  cases h1
  have h:φ 229=some 204:=by kernel_rfl
  rw [h] at h2
  cases h2
  exact aa9
 |231,h1,h2=>
  cases h1
  have h:φ 231=some 206:=by kernel_rfl
  rw [h] at h2
  cases h2
  exact abb
 |232,h1,h2=>
  cases h1
  have h:φ 232=some 207:=by kernel_rfl
  rw [h] at h2
  cases h2
  exact abd
 |233,h1,h2=>
  cases h1
  have h:φ 233=some 208:=by kernel_rfl
  rw [h] at h2
  cases h2
  exact abe
 |234,h1,h2=>
  cases h1
  have h:φ 234=some 209:=by kernel_rfl
  rw [h] at h2
  cases h2
  exact abf
 |235,h1,h2=>
  cases h1
  have h:φ 235=some 210:=by kernel_rfl
  rw [h] at h2
  cases h2
  exact abg
 |236,h1,h2=>
  cases h1
  have h:φ 236=some 211:=by kernel_rfl
  rw [h] at h2
  cases h2
  exact abh
 |237,h1,h2=>
  cases h1
  have h:φ 237=some 212:=by kernel_rfl
  rw [h] at h2
  cases h2
  exact abj
 |243,h1,h2=>
  cases h1
  have h:φ 243=some 217:=by kernel_rfl
  rw [h] at h2
  cases h2
  exact abk
 |246,h1,h2=>
  cases h1
  have h:φ 246=some 220:=by kernel_rfl
  rw [h] at h2
  cases h2
  exact abl
end Go.Am
