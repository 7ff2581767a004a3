/- The program's functions are those of the table: by the translation, checked by reckoning. -/
import Derived.Test.YtbpfbfbabpkceaaGreatProg
import Derived.KernelRfl
import Derived.Test.YtbpfbfbabpkceaaGreatAmTab
import Derived.Test.YtbpfbfbabpkceaaGreatAmSound
set_option linter.unusedVariables false
set_option maxRecDepth 100000
namespace Go.Am
open Go
def μs:List (Nat×Nat):=[(3,449),(4,455),(5,458),(6,450),(7,451),(8,452),(9,453),(10,454),(11,20),(12,456),(13,21),(14,457),(15,407),(16,24),(17,39),(18,408),(19,409),(20,41),(21,459),(22,297),(23,296),(24,460),(25,461),(26,462),(27,300),(28,299),(29,51),(30,55),(31,330),(32,463),(33,328),(34,319),(35,23),(36,303),(37,58),(38,413),(39,464),(40,284),(41,192),(42,465),(43,414),(44,412),(45,280),(46,466),(47,467),(48,468),(49,469),(50,40),(51,77),(52,335),(53,336),(54,0),(55,339),(56,341),(57,470),(58,369),(59,198),(60,421),(61,142),(62,3),(63,6),(64,353),(65,97),(66,340),(67,79),(68,337),(69,338),(70,342),(71,43),(72,187),(73,471),(74,80),(75,81),(76,67),(77,345),(78,68),(79,269),(80,277),(81,346),(82,347),(83,348),(84,352),(85,416),(86,363),(87,364),(88,472),(89,285),(90,208),(91,212),(92,473),(93,351),(94,366),(95,368),(96,420),(97,218),(98,193),(99,474),(100,227),(101,475),(102,476),(103,7),(104,78),(105,365),(106,367),(107,69),(108,354),(109,210),(110,216),(111,215),(112,217),(113,422),(114,189),(115,98),(116,372),(117,102),(118,350),(119,209),(120,477),(121,278),(122,274),(123,371),(124,111),(125,184),(126,391),(127,359),(128,279),(129,377),(130,223),(131,219),(132,211),(133,213),(134,478),(135,479),(136,480),(137,481),(138,482),(139,483),(140,484),(141,485),(142,244),(143,245),(144,486),(145,106),(146,376),(147,70),(148,221),(149,222),(150,423),(151,387),(152,388),(153,356),(154,220),(155,487),(156,283),(157,378),(158,379),(159,380),(160,381),(161,382),(162,383),(163,384),(164,385),(165,386),(166,206),(167,207),(168,375),(169,357),(170,358),(171,224),(172,225),(173,488),(174,240),(175,241),(176,489),(177,490),(178,247),(179,390),(180,226),(181,424),(182,425),(183,426),(184,427),(185,428),(186,429),(187,430),(188,431),(189,396),(190,491),(191,392),(192,393),(193,394),(194,395),(195,389),(196,228),(197,492),(198,238),(199,432),(200,433),(201,434),(202,493),(203,397),(204,229),(205,230),(206,231),(207,232),(208,233),(209,234),(210,235),(211,236),(212,237),(213,435),(214,494),(215,239),(216,242),(217,243),(218,495),(219,496),(220,246)]
def μ:Fun:=fun q=>(μs.find? fun p=>p.1==q).map (·.2)
def φ:Fun:=fun g=>(μs.find? fun p=>p.2==g).map (·.1)
theorem XO:trFunc Go.Proofs.Tryz.prog μ φ 4=some aV:=by kernel_rfl
theorem XP:trFunc Go.Proofs.Tryz.prog μ φ 11=some fG:=by kernel_rfl
theorem XQ:trFunc Go.Proofs.Tryz.prog μ φ 12=some iV:=by kernel_rfl
theorem XR:trFunc Go.Proofs.Tryz.prog μ φ 13=some iI:=by kernel_rfl
theorem XT:trFunc Go.Proofs.Tryz.prog μ φ 14=some iQ:=by kernel_rfl
theorem XU:trFunc Go.Proofs.Tryz.prog μ φ 15=some fV:=by kernel_rfl
theorem XV:trFunc Go.Proofs.Tryz.prog μ φ 16=some gW:=by kernel_rfl
theorem XW:trFunc Go.Proofs.Tryz.prog μ φ 17=some jy:=by kernel_rfl
theorem XY:trFunc Go.Proofs.Tryz.prog μ φ 18=some bT:=by kernel_rfl
theorem XZ:trFunc Go.Proofs.Tryz.prog μ φ 19=some bG:=by kernel_rfl
theorem X0:trFunc Go.Proofs.Tryz.prog μ φ 37=some pY:=by kernel_rfl
theorem X3:trFunc Go.Proofs.Tryz.prog μ φ 40=some dB:=by kernel_rfl
theorem X4:trFunc Go.Proofs.Tryz.prog μ φ 41=some qc:=by kernel_rfl
theorem X5:trFunc Go.Proofs.Tryz.prog μ φ 51=some kU:=by kernel_rfl
theorem X6:trFunc Go.Proofs.Tryz.prog μ φ 52=some jY:=by kernel_rfl
theorem X7:trFunc Go.Proofs.Tryz.prog μ φ 53=some nR:=by kernel_rfl
theorem X8:trFunc Go.Proofs.Tryz.prog μ φ 54=some iW:=by kernel_rfl
theorem X9:trFunc Go.Proofs.Tryz.prog μ φ 55=some jJ:=by kernel_rfl
theorem Ya:trFunc Go.Proofs.Tryz.prog μ φ 56=some kV:=by kernel_rfl
theorem Yb:trFunc Go.Proofs.Tryz.prog μ φ 57=some nS:=by kernel_rfl
theorem Yc:trFunc Go.Proofs.Tryz.prog μ φ 61=some jm:=by kernel_rfl
theorem Yd:trFunc Go.Proofs.Tryz.prog μ φ 62=some gX:=by kernel_rfl
theorem Ye:trFunc Go.Proofs.Tryz.prog μ φ 63=some iY:=by kernel_rfl
theorem Yf:trFunc Go.Proofs.Tryz.prog μ φ 67=some iZ:=by kernel_rfl
theorem Yg:trFunc Go.Proofs.Tryz.prog μ φ 59=some gY:=by kernel_rfl
theorem Yh:trFunc Go.Proofs.Tryz.prog μ φ 74=some jK:=by kernel_rfl
theorem Yi:trFunc Go.Proofs.Tryz.prog μ φ 78=some dO:=by kernel_rfl
theorem Yj:trFunc Go.Proofs.Tryz.prog μ φ 81=some fZ:=by kernel_rfl
theorem Yk:trFunc Go.Proofs.Tryz.prog μ φ 86=some eF:=by kernel_rfl
theorem Yl:trFunc Go.Proofs.Tryz.prog μ φ 87=some jc:=by kernel_rfl
theorem Ym:trFunc Go.Proofs.Tryz.prog μ φ 89=some dA:=by kernel_rfl
theorem Yn:trFunc Go.Proofs.Tryz.prog μ φ 90=some jd:=by kernel_rfl
theorem Yo:trFunc Go.Proofs.Tryz.prog μ φ 91=some je:=by kernel_rfl
theorem Yp:trFunc Go.Proofs.Tryz.prog μ φ 94=some dP:=by kernel_rfl
theorem Yq:trFunc Go.Proofs.Tryz.prog μ φ 95=some jS:=by kernel_rfl
theorem Yr:trFunc Go.Proofs.Tryz.prog μ φ 97=some iJ:=by kernel_rfl
theorem Yt:trFunc Go.Proofs.Tryz.prog μ φ 98=some qg:=by kernel_rfl
theorem Yu:trFunc Go.Proofs.Tryz.prog μ φ 100=some nU:=by kernel_rfl
theorem Yv:trFunc Go.Proofs.Tryz.prog μ φ 104=some gB:=by kernel_rfl
theorem Yw:trFunc Go.Proofs.Tryz.prog μ φ 105=some fC:=by kernel_rfl
theorem Yx:trFunc Go.Proofs.Tryz.prog μ φ 106=some lN:=by kernel_rfl
theorem Yy:trFunc Go.Proofs.Tryz.prog μ φ 107=some jf:=by kernel_rfl
theorem Yz:trFunc Go.Proofs.Tryz.prog μ φ 108=some iK:=by kernel_rfl
theorem YA:trFunc Go.Proofs.Tryz.prog μ φ 58=some qj:=by kernel_rfl
theorem YB:trFunc Go.Proofs.Tryz.prog μ φ 112=some kK:=by kernel_rfl
theorem YC:trFunc Go.Proofs.Tryz.prog μ φ 114=some jg:=by kernel_rfl
theorem YD:trFunc Go.Proofs.Tryz.prog μ φ 109=some dD:=by kernel_rfl
theorem YE:trFunc Go.Proofs.Tryz.prog μ φ 110=some gZ:=by kernel_rfl
theorem YF:trFunc Go.Proofs.Tryz.prog μ φ 111=some iL:=by kernel_rfl
theorem YG:trFunc Go.Proofs.Tryz.prog μ φ 125=some qm:=by kernel_rfl
theorem YH:trFunc Go.Proofs.Tryz.prog μ φ 126=some eP:=by kernel_rfl
theorem YI:trFunc Go.Proofs.Tryz.prog μ φ 127=some ig:=by kernel_rfl
theorem YJ:trFunc Go.Proofs.Tryz.prog μ φ 129=some dS:=by kernel_rfl
theorem YK:trFunc Go.Proofs.Tryz.prog μ φ 130=some bZ:=by kernel_rfl
theorem YL:trFunc Go.Proofs.Tryz.prog μ φ 131=some lQ:=by kernel_rfl
theorem YM:trFunc Go.Proofs.Tryz.prog μ φ 132=some iM:=by kernel_rfl
theorem YN:trFunc Go.Proofs.Tryz.prog μ φ 133=some iO:=by kernel_rfl
theorem YO:trFunc Go.Proofs.Tryz.prog μ φ 143=some gG:=by kernel_rfl
theorem YP:trFunc Go.Proofs.Tryz.prog μ φ 145=some gq:=by kernel_rfl
theorem YQ:trFunc Go.Proofs.Tryz.prog μ φ 146=some fD:=by kernel_rfl
theorem YR:trFunc Go.Proofs.Tryz.prog μ φ 147=some eU:=by kernel_rfl
theorem YS:trFunc Go.Proofs.Tryz.prog μ φ 149=some oO:=by kernel_rfl
theorem YT:trFunc Go.Proofs.Tryz.prog μ φ 148=some dF:=by kernel_rfl
theorem YU:trFunc Go.Proofs.Tryz.prog μ φ 166=some dQ:=by kernel_rfl
theorem YV:trFunc Go.Proofs.Tryz.prog μ φ 167=some dK:=by kernel_rfl
theorem YW:trFunc Go.Proofs.Tryz.prog μ φ 168=some lS:=by kernel_rfl
theorem YX:trFunc Go.Proofs.Tryz.prog μ φ 169=some iP:=by kernel_rfl
theorem YZ:trFunc Go.Proofs.Tryz.prog μ φ 170=some bM:=by kernel_rfl
theorem Y0:trFunc Go.Proofs.Tryz.prog μ φ 171=some qo:=by kernel_rfl
theorem Y1:trFunc Go.Proofs.Tryz.prog μ φ 172=some kL:=by kernel_rfl
theorem Y2:trFunc Go.Proofs.Tryz.prog μ φ 174=some qp:=by kernel_rfl
theorem Y3:trFunc Go.Proofs.Tryz.prog μ φ 175=some kW:=by kernel_rfl
theorem Y4:trFunc Go.Proofs.Tryz.prog μ φ 178=some qw:=by kernel_rfl
theorem Y5:trFunc Go.Proofs.Tryz.prog μ φ 179=some iq:=by kernel_rfl
theorem Y6:trFunc Go.Proofs.Tryz.prog μ φ 195=some jh:=by kernel_rfl
theorem Y7:trFunc Go.Proofs.Tryz.prog μ φ 196=some aW:=by kernel_rfl
theorem Y8:trFunc Go.Proofs.Tryz.prog μ φ 204=some iw:=by kernel_rfl
theorem Y9:trFunc Go.Proofs.Tryz.prog μ φ 206=some eX:=by kernel_rfl
theorem Za:trFunc Go.Proofs.Tryz.prog μ φ 207=some dH:=by kernel_rfl
theorem Zb:trFunc Go.Proofs.Tryz.prog μ φ 208=some jA:=by kernel_rfl
theorem Zc:trFunc Go.Proofs.Tryz.prog μ φ 209=some aZ:=by kernel_rfl
theorem Zd:trFunc Go.Proofs.Tryz.prog μ φ 210=some qx:=by kernel_rfl
theorem Ze:trFunc Go.Proofs.Tryz.prog μ φ 211=some dN:=by kernel_rfl
theorem Zg:trFunc Go.Proofs.Tryz.prog μ φ 212=some aY:=by kernel_rfl
theorem Zh:trFunc Go.Proofs.Tryz.prog μ φ 217=some kX:=by kernel_rfl
theorem Zi:trFunc Go.Proofs.Tryz.prog μ φ 220=some kY:=by kernel_rfl
set_option maxHeartbeats 2000000 in
theorem hΓ: ∀g fn q,Γ g=some fn→φ g=some q→trFunc Go.Proofs.Tryz.prog μ φ q=some fn:=by
 intro g fn q h1 h2
 match g,h1,h2 with
 |455,h1,h2=>
  cases h1
  have h:φ 455=some 4:=by kernel_rfl
  rw [h] at h2
  cases h2
  exact XO
 |20,h1,h2=>
  cases h1
  have h:φ 20=some 11:=by kernel_rfl
  rw [h] at h2
  cases h2
  exact XP
 |456,h1,h2=>
  cases h1
  have h:φ 456=some 12:=by kernel_rfl
  rw [h] at h2
  cases h2
  exact XQ
 |21,h1,h2=>
  cases h1
  have h:φ 21=some 13:=by kernel_rfl
  rw [h] at h2
  cases h2
  exact XR
 |457,h1,h2=>
  cases h1
  have h:φ 457=some 14:=by kernel_rfl
  rw [h] at h2
  cases h2
  exact XT
 |407,h1,h2=>
  cases h1
  have h:φ 407=some 15:=by kernel_rfl
  rw [h] at h2
  cases h2
  exact XU
 |24,h1,h2=>
  cases h1
  have h:φ 24=some 16:=by kernel_rfl
  rw [h] at h2
  cases h2
  exact XV
 |39,h1,h2=>
  cases h1
  have h:φ 39=some 17:=by kernel_rfl
  rw [h] at h2
  cases h2
  exact XW
 |408,h1,h2=>
  cases h1
  have h:φ 408=some 18:=by kernel_rfl
  rw [h] at h2
  cases h2
  exact XY
 |409,h1,h2=>
  cases h1
  have h:φ 409=some 19:=by kernel_rfl
  rw [h] at h2
  cases h2
  exact XZ
 |58,h1,h2=>
  cases h1
  have h:φ 58=some 37:=by kernel_rfl
  rw [h] at h2
  cases h2
  exact X0
 |284,h1,h2=>
  cases h1
  have h:φ 284=some 40:=by kernel_rfl
  rw [h] at h2
  cases h2
  exact X3
 |192,h1,h2=>
  cases h1
  have h:φ 192=some 41:=by kernel_rfl
  rw [h] at h2
  cases h2
  exact X4
 |77,h1,h2=>
  cases h1
  have h:φ 77=some 51:=by kernel_rfl
  rw [h] at h2
  cases h2
  exact X5
 |335,h1,h2=>
  cases h1
  have h:φ 335=some 52:=by kernel_rfl
  rw [h] at h2
  cases h2
  exact X6
 |336,h1,h2=>
  cases h1
  have h:φ 336=some 53:=by kernel_rfl
  rw [h] at h2
  cases h2
  exact X7
 |0,h1,h2=>
  cases h1
  have h:φ 0=some 54:=by kernel_rfl
  rw [h] at h2
  cases h2
  exact X8
 |339,h1,h2=>
  cases h1
  have h:φ 339=some 55:=by kernel_rfl
  rw [h] at h2
  cases h2
  exact X9
 |341,h1,h2=>
  cases h1
  have h:φ 341=some 56:=by kernel_rfl
  rw [h] at h2
  cases h2
  exact Ya
 |470,h1,h2=>
  cases h1
  have h:φ 470=some 57:=by kernel_rfl
  rw [h] at h2
  cases h2
  exact Yb
 |142,h1,h2=>
  cases h1
  have h:φ 142=some 61:=by kernel_rfl
  rw [h] at h2
  cases h2
  exact Yc
 |3,h1,h2=>
  cases h1
  have h:φ 3=some 62:=by kernel_rfl
  rw [h] at h2
  cases h2
  exact Yd
 |6,h1,h2=>
  cases h1
  have h:φ 6=some 63:=by kernel_rfl
  rw [h] at h2
  cases h2
  exact Ye
 |79,h1,h2=>
  cases h1
  have h:φ 79=some 67:=by kernel_rfl
  rw [h] at h2
  cases h2
  exact Yf
 |198,h1,h2=>
  cases h1
  have h:φ 198=some 59:=by kernel_rfl
  rw [h] at h2
  cases h2
  exact Yg
 |80,h1,h2=>
  cases h1
  have h:φ 80=some 74:=by kernel_rfl
  rw [h] at h2
  cases h2
  exact Yh
 |68,h1,h2=>
  cases h1
  have h:φ 68=some 78:=by kernel_rfl
  rw [h] at h2
  cases h2
  exact Yi
 |346,h1,h2=>
  cases h1
  have h:φ 346=some 81:=by kernel_rfl
  rw [h] at h2
  cases h2
  exact Yj
 |363,h1,h2=>
  cases h1
  have h:φ 363=some 86:=by kernel_rfl
  rw [h] at h2
  cases h2
  exact Yk
 |364,h1,h2=>
  cases h1
  have h:φ 364=some 87:=by kernel_rfl
  rw [h] at h2
  cases h2
  exact Yl
 |285,h1,h2=>
  cases h1
  have h:φ 285=some 89:=by kernel_rfl
  rw [h] at h2
  cases h2
  exact Ym
 |208,h1,h2=>
  cases h1
  have h:φ 208=some 90:=by kernel_rfl
  rw [h] at h2
  cases h2
  exact Yn
 |212,h1,h2=>
  cases h1
  have h:φ 212=some 91:=by kernel_rfl
  rw [h] at h2
  cases h2
  exact Yo
 |366,h1,h2=>
  cases h1
  have h:φ 366=some 94:=by kernel_rfl
  rw [h] at h2
  cases h2
  exact Yp
 |368,h1,h2=>
  cases h1
  have h:φ 368=some 95:=by kernel_rfl
  rw [h] at h2
  cases h2
  exact Yq
 |218,h1,h2=>
  cases h1
  have h:φ 218=some 97:=by kernel_rfl
  rw [h] at h2
  cases h2
  exact Yr
 |193,h1,h2=>
  cases h1
  have h:φ 193=some 98:=by kernel_rfl
  rw [h] at h2
  cases h2
  exact Yt
 |227,h1,h2=>
  cases h1
  have h:φ 227=some 100:=by kernel_rfl
  rw [h] at h2
  cases h2
  exact Yu
 |78,h1,h2=>
  cases h1
  have h:φ 78=some 104:=by kernel_rfl
  rw [h] at h2
  cases h2
  exact Yv
 |365,h1,h2=>
  cases h1
  have h:φ 365=some 105:=by kernel_rfl
  rw [h] at h2
  cases h2
  exact Yw
 |367,h1,h2=>
  cases h1
  have h:φ 367=some 106:=by kernel_rfl
  rw [h] at h2
  cases h2
  exact Yx
 |69,h1,h2=>
  cases h1
  have h:φ 69=some 107:=by kernel_rfl
  rw [h] at h2
  cases h2
  exact Yy
 |354,h1,h2=>
  cases h1
  have h:φ 354=some 108:=by kernel_rfl
  rw [h] at h2
  cases h2
  exact Yz
 |369,h1,h2=>
  cases h1
  have h:φ 369=some 58:=by kernel_rfl
  rw [h] at h2
  cases h2
  exact YA
 |217,h1,h2=>
  cases h1
  have h:φ 217=some 112:=by kernel_rfl
  rw [h] at h2
  cases h2
  exact YB
 |189,h1,h2=>
  cases h1
  have h:φ 189=some 114:=by kernel_rfl
  rw [h] at h2
  cases h2
  exact YC
 |210,h1,h2=>
  cases h1
  have h:φ 210=some 109:=by kernel_rfl
  rw [h] at h2
  cases h2
  exact YD
 |216,h1,h2=>
  cases h1
  have h:φ 216=some 110:=by kernel_rfl
  rw [h] at h2
  cases h2
  exact YE
 |215,h1,h2=>
  cases h1
  have h:φ 215=some 111:=by kernel_rfl
  rw [h] at h2
  cases h2
  exact YF
 |184,h1,h2=>
  cases h1
  have h:φ 184=some 125:=by kernel_rfl
  rw [h] at h2
  cases h2
  exact YG
 |391,h1,h2=>
  cases h1
  have h:φ 391=some 126:=by kernel_rfl
  rw [h] at h2
  cases h2
  exact YH
 |359,h1,h2=>
  cases h1
  have h:φ 359=some 127:=by kernel_rfl
  rw [h] at h2
  cases h2
  exact YI
 |377,h1,h2=>
  cases h1
  have h:φ 377=some 129:=by kernel_rfl
  rw [h] at h2
  cases h2
  exact YJ
 |223,h1,h2=>
  cases h1
  have h:φ 223=some 130:=by kernel_rfl
  rw [h] at h2
  cases h2
  exact YK
 |219,h1,h2=>
  cases h1
  have h:φ 219=some 131:=by kernel_rfl
  rw [h] at h2
  cases h2
  exact YL
 |211,h1,h2=>
  cases h1
  have h:φ 211=some 132:=by kernel_rfl
  rw [h] at h2
  cases h2
  exact YM
 |213,h1,h2=>
  cases h1
  have h:φ 213=some 133:=by kernel_rfl
  rw [h] at h2
  cases h2
  exact YN
 |245,h1,h2=>
  cases h1
  have h:φ 245=some 143:=by kernel_rfl
  rw [h] at h2
  cases h2
  exact YO
 |106,h1,h2=>
  cases h1
  have h:φ 106=some 145:=by kernel_rfl
  rw [h] at h2
  cases h2
  exact YP
 |376,h1,h2=>
  cases h1
  have h:φ 376=some 146:=by kernel_rfl
  rw [h] at h2
  cases h2
  exact YQ
 |70,h1,h2=>
  cases h1
  have h:φ 70=some 147:=by kernel_rfl
  rw [h] at h2
  cases h2
  exact YR
 |222,h1,h2=>
  cases h1
  have h:φ 222=some 149:=by kernel_rfl
  rw [h] at h2
  cases h2
  exact YS
 |221,h1,h2=>
  cases h1
  have h:φ 221=some 148:=by kernel_rfl
  rw [h] at h2
  cases h2
  exact YT
 |206,h1,h2=>
  cases h1
  have h:φ 206=some 166:=by kernel_rfl
  rw [h] at h2
  cases h2
  exact YU
 |207,h1,h2=>
  cases h1
  have h:φ 207=some 167:=by kernel_rfl
  rw [h] at h2
  cases h2
  exact YV
 |375,h1,h2=>
  cases h1
  have h:φ 375=some 168:=by kernel_rfl
  rw [h] at h2
  cases h2
  exact YW
 |357,h1,h2=>
  cases h1
  have h:φ 357=some 169:=by kernel_rfl
  rw [h] at h2
  cases h2
  exact YX
 |358,h1,h2=>
  cases h1
  have h:φ 358=some 170:=by kernel_rfl
  rw [h] at h2
  cases h2
  exact YZ
 |224,h1,h2=>
  cases h1
  have h:φ 224=some 171:=by kernel_rfl
  rw [h] at h2
  cases h2
  exact Y0
 |225,h1,h2=>
  cases h1
  have h:φ 225=some 172:=by kernel_rfl
  rw [h] at h2
  cases h2
  exact Y1
 |240,h1,h2=>
  cases h1
  have h:φ 240=some 174:=by kernel_rfl
  rw [h] at h2
  cases h2
  exact Y2
 |241,h1,h2=>
  cases h1
  have h:φ 241=some 175:=by kernel_rfl
  rw [h] at h2
  cases h2
  exact Y3
 |247,h1,h2=>
  cases h1
  have h:φ 247=some 178:=by kernel_rfl
  rw [h] at h2
  cases h2
  exact Y4
 |390,h1,h2=>
  cases h1
  have h:φ 390=some 179:=by kernel_rfl
  rw [h] at h2
  cases h2
  exact Y5
 |389,h1,h2=>
  cases h1
  have h:φ 389=some 195:=by kernel_rfl
  rw [h] at h2
  cases h2
  exact Y6
 |228,h1,h2=>
  cases h1
  have h:φ 228=some 196:=by kernel_rfl
  rw [h] at h2
  cases h2
  exact Y7
 |229,h1,h2=>
  cases h1
  have h:φ 229=some 204:=by kernel_rfl
  rw [h] at h2
  cases h2
  exact Y8
 |231,h1,h2=>
  cases h1
  have h:φ 231=some 206:=by kernel_rfl
  rw [h] at h2
  cases h2
  exact Y9
 |232,h1,h2=>
  cases h1
  have h:φ 232=some 207:=by kernel_rfl
  rw [h] at h2
  cases h2
  exact Za
 |233,h1,h2=>
  cases h1
  have h:φ 233=some 208:=by kernel_rfl
  rw [h] at h2
  cases h2
  exact Zb
 |234,h1,h2=>
  cases h1
  have h:φ 234=some 209:=by kernel_rfl
  rw [h] at h2
  cases h2
  exact Zc
 |235,h1,h2=>
  cases h1
  have h:φ 235=some 210:=by kernel_rfl
  rw [h] at h2
  cases h2
  exact Zd
 |236,h1,h2=>
  cases h1
  have h:φ 236=some 211:=by kernel_rfl
  rw [h] at h2
  cases h2
  exact Ze
 |237,h1,h2=>
  cases h1
  have h:φ 237=some 212:=by kernel_rfl
  rw [h] at h2
  cases h2
  exact Zg
 |243,h1,h2=>
  cases h1
  have h:φ 243=some 217:=by kernel_rfl
  rw [h] at h2
  cases h2
  exact Zh
 |246,h1,h2=>
  cases h1
  have h:φ 246=some 220:=by kernel_rfl
  rw [h] at h2
  cases h2
  exact Zi
end Go.Am
