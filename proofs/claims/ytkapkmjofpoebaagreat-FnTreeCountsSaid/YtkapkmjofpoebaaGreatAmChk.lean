/- The program's functions are those of the table: by the translation, checked by reckoning. -/
import Derived.Test.YtkapkmjofpoebaaGreatProg
import Derived.KernelRfl
import Derived.Test.YtkapkmjofpoebaaGreatAmTab
import Derived.Test.YtkapkmjofpoebaaGreatAmSound
set_option linter.unusedVariables false
set_option maxRecDepth 100000
namespace Go.Am
open Go
def μs:List (Nat×Nat):=[(3,436),(4,41),(5,437),(6,303),(7,302),(8,438),(9,13),(10,250),(11,265),(12,439),(13,12),(14,440),(15,294),(16,293),(17,43),(18,441),(19,55),(20,442),(21,291),(22,290),(23,288),(24,287),(25,443),(26,259),(27,258),(28,97),(29,444),(30,98),(31,67),(32,345),(33,68),(34,269),(35,280),(36,277),(37,346),(38,347),(39,348),(40,64),(41,343),(42,267),(43,344),(44,284),(45,276),(46,69),(47,70),(48,268),(49,273),(50,65),(51,66),(52,445),(53,184),(54,102),(55,285),(56,187),(57,223),(58,112),(59,271),(60,333),(61,334),(62,270),(63,111),(64,209),(65,332),(66,275),(67,331),(68,446),(69,387),(70,278),(71,218),(72,193),(73,274),(74,371),(75,227),(76,58),(77,370),(78,272),(79,282),(80,374),(81,447),(82,388),(83,206),(84,207),(85,210),(86,362),(87,279),(88,220),(89,361),(90,360),(91,356),(92,364),(93,219),(94,211),(95,213),(96,283),(97,378),(98,379),(99,380),(100,381),(101,382),(102,383),(103,384),(104,385),(105,386),(106,244),(107,245),(108,281),(109,372),(110,448),(111,396),(112,192),(113,224),(114,225),(115,392),(116,240),(117,241),(118,393),(119,394),(120,395),(121,208),(122,212),(123,228),(124,397),(125,229),(126,230),(127,231),(128,232),(129,233),(130,234),(131,235),(132,236),(133,237),(134,239),(135,242),(136,243),(137,247),(138,246)]
def μ:iO:=fun q=>(μs.find? fun p=>p.1==q).map (·.2)
def φ:iO:=fun g=>(μs.find? fun p=>p.2==g).map (·.1)
theorem ahv:bg Go.Proofs.Tryz.prog μ φ 3=some aQ:=by kernel_rfl
theorem ahw:bg Go.Proofs.Tryz.prog μ φ 4=some xZ:=by kernel_rfl
theorem ahx:bg Go.Proofs.Tryz.prog μ φ 5=some sQ:=by kernel_rfl
theorem ahy:bg Go.Proofs.Tryz.prog μ φ 6=some gZ:=by kernel_rfl
theorem ahz:bg Go.Proofs.Tryz.prog μ φ 7=some iC:=by kernel_rfl
theorem ahA:bg Go.Proofs.Tryz.prog μ φ 8=some kW:=by kernel_rfl
theorem ahB:bg Go.Proofs.Tryz.prog μ φ 9=some oz:=by kernel_rfl
theorem ahC:bg Go.Proofs.Tryz.prog μ φ 10=some sS:=by kernel_rfl
theorem ahD:bg Go.Proofs.Tryz.prog μ φ 11=some pK:=by kernel_rfl
theorem ahE:bg Go.Proofs.Tryz.prog μ φ 12=some vC:=by kernel_rfl
theorem ahF:bg Go.Proofs.Tryz.prog μ φ 13=some ny:=by kernel_rfl
theorem ahG:bg Go.Proofs.Tryz.prog μ φ 14=some bF:=by kernel_rfl
theorem ahH:bg Go.Proofs.Tryz.prog μ φ 15=some bH:=by kernel_rfl
theorem ahI:bg Go.Proofs.Tryz.prog μ φ 16=some bJ:=by kernel_rfl
theorem ahJ:bg Go.Proofs.Tryz.prog μ φ 17=some kX:=by kernel_rfl
theorem ahK:bg Go.Proofs.Tryz.prog μ φ 18=some sU:=by kernel_rfl
theorem ahL:bg Go.Proofs.Tryz.prog μ φ 19=some mJ:=by kernel_rfl
theorem ahM:bg Go.Proofs.Tryz.prog μ φ 20=some yc:=by kernel_rfl
theorem ahN:bg Go.Proofs.Tryz.prog μ φ 21=some jC:=by kernel_rfl
theorem ahO:bg Go.Proofs.Tryz.prog μ φ 22=some fD:=by kernel_rfl
theorem ahP:bg Go.Proofs.Tryz.prog μ φ 23=some pO:=by kernel_rfl
theorem ahQ:bg Go.Proofs.Tryz.prog μ φ 24=some pR:=by kernel_rfl
theorem ahR:bg Go.Proofs.Tryz.prog μ φ 25=some yg:=by kernel_rfl
theorem ahS:bg Go.Proofs.Tryz.prog μ φ 26=some jd:=by kernel_rfl
theorem ahT:bg Go.Proofs.Tryz.prog μ φ 27=some jD:=by kernel_rfl
theorem ahU:bg Go.Proofs.Tryz.prog μ φ 28=some mM:=by kernel_rfl
theorem ahV:bg Go.Proofs.Tryz.prog μ φ 29=some kC:=by kernel_rfl
theorem ahW:bg Go.Proofs.Tryz.prog μ φ 30=some yh:=by kernel_rfl
theorem ahX:bg Go.Proofs.Tryz.prog μ φ 31=some uF:=by kernel_rfl
theorem ahY:bg Go.Proofs.Tryz.prog μ φ 32=some dP:=by kernel_rfl
theorem ahZ:bg Go.Proofs.Tryz.prog μ φ 33=some fO:=by kernel_rfl
theorem ah0:bg Go.Proofs.Tryz.prog μ φ 34=some fH:=by kernel_rfl
theorem ah1:bg Go.Proofs.Tryz.prog μ φ 35=some yj:=by kernel_rfl
theorem ah2:bg Go.Proofs.Tryz.prog μ φ 36=some jr:=by kernel_rfl
theorem ah3:bg Go.Proofs.Tryz.prog μ φ 37=some kK:=by kernel_rfl
theorem ah4:bg Go.Proofs.Tryz.prog μ φ 38=some yu:=by kernel_rfl
theorem ah5:bg Go.Proofs.Tryz.prog μ φ 39=some fP:=by kernel_rfl
theorem ah6:bg Go.Proofs.Tryz.prog μ φ 40=some gQ:=by kernel_rfl
theorem ah7:bg Go.Proofs.Tryz.prog μ φ 41=some iI:=by kernel_rfl
theorem ah8:bg Go.Proofs.Tryz.prog μ φ 42=some bU:=by kernel_rfl
theorem ah9:bg Go.Proofs.Tryz.prog μ φ 43=some yw:=by kernel_rfl
theorem aia:bg Go.Proofs.Tryz.prog μ φ 44=some gU:=by kernel_rfl
theorem aib:bg Go.Proofs.Tryz.prog μ φ 45=some jv:=by kernel_rfl
theorem aic:bg Go.Proofs.Tryz.prog μ φ 46=some mO:=by kernel_rfl
theorem aie:bg Go.Proofs.Tryz.prog μ φ 47=some jE:=by kernel_rfl
theorem aif:bg Go.Proofs.Tryz.prog μ φ 48=some fJ:=by kernel_rfl
theorem aii:bg Go.Proofs.Tryz.prog μ φ 49=some nC:=by kernel_rfl
theorem aij:bg Go.Proofs.Tryz.prog μ φ 50=some nK:=by kernel_rfl
theorem aik:bg Go.Proofs.Tryz.prog μ φ 51=some jK:=by kernel_rfl
theorem ail:bg Go.Proofs.Tryz.prog μ φ 52=some oC:=by kernel_rfl
theorem ain:bg Go.Proofs.Tryz.prog μ φ 53=some yx:=by kernel_rfl
theorem aio:bg Go.Proofs.Tryz.prog μ φ 54=some lM:=by kernel_rfl
theorem aip:bg Go.Proofs.Tryz.prog μ φ 55=some gy:=by kernel_rfl
theorem aiq:bg Go.Proofs.Tryz.prog μ φ 56=some vF:=by kernel_rfl
theorem air:bg Go.Proofs.Tryz.prog μ φ 57=some fK:=by kernel_rfl
theorem ais:bg Go.Proofs.Tryz.prog μ φ 58=some sV:=by kernel_rfl
theorem ait:bg Go.Proofs.Tryz.prog μ φ 59=some vG:=by kernel_rfl
theorem aiu:bg Go.Proofs.Tryz.prog μ φ 60=some gB:=by kernel_rfl
theorem aiv:bg Go.Proofs.Tryz.prog μ φ 61=some mP:=by kernel_rfl
theorem aiw:bg Go.Proofs.Tryz.prog μ φ 62=some vH:=by kernel_rfl
theorem aix:bg Go.Proofs.Tryz.prog μ φ 63=some yA:=by kernel_rfl
theorem aiy:bg Go.Proofs.Tryz.prog μ φ 64=some iD:=by kernel_rfl
theorem aiz:bg Go.Proofs.Tryz.prog μ φ 65=some sW:=by kernel_rfl
theorem aiA:bg Go.Proofs.Tryz.prog μ φ 66=some pU:=by kernel_rfl
theorem aiB:bg Go.Proofs.Tryz.prog μ φ 67=some qX:=by kernel_rfl
theorem aiC:bg Go.Proofs.Tryz.prog μ φ 68=some jw:=by kernel_rfl
theorem aiD:bg Go.Proofs.Tryz.prog μ φ 69=some jy:=by kernel_rfl
theorem aiE:bg Go.Proofs.Tryz.prog μ φ 70=some je:=by kernel_rfl
theorem aiF:bg Go.Proofs.Tryz.prog μ φ 71=some lN:=by kernel_rfl
theorem aiG:bg Go.Proofs.Tryz.prog μ φ 72=some yB:=by kernel_rfl
theorem aiH:bg Go.Proofs.Tryz.prog μ φ 73=some yC:=by kernel_rfl
theorem aiI:bg Go.Proofs.Tryz.prog μ φ 74=some dD:=by kernel_rfl
theorem aiJ:bg Go.Proofs.Tryz.prog μ φ 75=some vI:=by kernel_rfl
theorem aiK:bg Go.Proofs.Tryz.prog μ φ 76=some wM:=by kernel_rfl
theorem aiL:bg Go.Proofs.Tryz.prog μ φ 77=some jf:=by kernel_rfl
theorem aiM:bg Go.Proofs.Tryz.prog μ φ 78=some mQ:=by kernel_rfl
theorem aiN:bg Go.Proofs.Tryz.prog μ φ 79=some lQ:=by kernel_rfl
theorem aiO:bg Go.Proofs.Tryz.prog μ φ 80=some jS:=by kernel_rfl
theorem aiP:bg Go.Proofs.Tryz.prog μ φ 81=some gW:=by kernel_rfl
theorem aiQ:bg Go.Proofs.Tryz.prog μ φ 82=some yD:=by kernel_rfl
theorem aiR:bg Go.Proofs.Tryz.prog μ φ 83=some iR:=by kernel_rfl
theorem aiS:bg Go.Proofs.Tryz.prog μ φ 84=some iy:=by kernel_rfl
theorem aiT:bg Go.Proofs.Tryz.prog μ φ 85=some gX:=by kernel_rfl
theorem aiU:bg Go.Proofs.Tryz.prog μ φ 86=some sZ:=by kernel_rfl
theorem aiV:bg Go.Proofs.Tryz.prog μ φ 87=some yE:=by kernel_rfl
theorem aiW:bg Go.Proofs.Tryz.prog μ φ 88=some yF:=by kernel_rfl
theorem aiX:bg Go.Proofs.Tryz.prog μ φ 89=some jA:=by kernel_rfl
theorem aiY:bg Go.Proofs.Tryz.prog μ φ 90=some dU:=by kernel_rfl
theorem aiZ:bg Go.Proofs.Tryz.prog μ φ 91=some jF:=by kernel_rfl
theorem ai0:bg Go.Proofs.Tryz.prog μ φ 92=some mV:=by kernel_rfl
theorem ai1:bg Go.Proofs.Tryz.prog μ φ 93=some tq:=by kernel_rfl
theorem ai2:bg Go.Proofs.Tryz.prog μ φ 94=some lS:=by kernel_rfl
theorem ai3:bg Go.Proofs.Tryz.prog μ φ 95=some lT:=by kernel_rfl
theorem ai4:bg Go.Proofs.Tryz.prog μ φ 96=some iJ:=by kernel_rfl
theorem ai5:bg Go.Proofs.Tryz.prog μ φ 97=some lu:=by kernel_rfl
theorem ai6:bg Go.Proofs.Tryz.prog μ φ 103=some yG:=by kernel_rfl
theorem ai7:bg Go.Proofs.Tryz.prog μ φ 107=some kR:=by kernel_rfl
theorem ai8:bg Go.Proofs.Tryz.prog μ φ 108=some jL:=by kernel_rfl
theorem ai9:bg Go.Proofs.Tryz.prog μ φ 109=some jT:=by kernel_rfl
theorem aja:bg Go.Proofs.Tryz.prog μ φ 110=some lU:=by kernel_rfl
theorem ajb:bg Go.Proofs.Tryz.prog μ φ 111=some mW:=by kernel_rfl
theorem ajc:bg Go.Proofs.Tryz.prog μ φ 112=some yH:=by kernel_rfl
theorem ajd:bg Go.Proofs.Tryz.prog μ φ 113=some yI:=by kernel_rfl
theorem aje:bg Go.Proofs.Tryz.prog μ φ 114=some qF:=by kernel_rfl
theorem ajf:bg Go.Proofs.Tryz.prog μ φ 116=some yJ:=by kernel_rfl
theorem ajg:bg Go.Proofs.Tryz.prog μ φ 117=some qY:=by kernel_rfl
theorem ajh:bg Go.Proofs.Tryz.prog μ φ 120=some yK:=by kernel_rfl
theorem aji:bg Go.Proofs.Tryz.prog μ φ 121=some mX:=by kernel_rfl
theorem ajj:bg Go.Proofs.Tryz.prog μ φ 122=some mY:=by kernel_rfl
theorem ajk:bg Go.Proofs.Tryz.prog μ φ 123=some dA:=by kernel_rfl
theorem ajl:bg Go.Proofs.Tryz.prog μ φ 125=some kY:=by kernel_rfl
theorem ajm:bg Go.Proofs.Tryz.prog μ φ 127=some jG:=by kernel_rfl
theorem ajn:bg Go.Proofs.Tryz.prog μ φ 128=some ig:=by kernel_rfl
theorem ajo:bg Go.Proofs.Tryz.prog μ φ 129=some nM:=by kernel_rfl
theorem ajp:bg Go.Proofs.Tryz.prog μ φ 130=some dJ:=by kernel_rfl
theorem ajq:bg Go.Proofs.Tryz.prog μ φ 131=some yL:=by kernel_rfl
theorem ajr:bg Go.Proofs.Tryz.prog μ φ 132=some iK:=by kernel_rfl
theorem ajs:bg Go.Proofs.Tryz.prog μ φ 133=some dH:=by kernel_rfl
theorem ajt:bg Go.Proofs.Tryz.prog μ φ 136=some qZ:=by kernel_rfl
theorem aju:bg Go.Proofs.Tryz.prog μ φ 137=some yM:=by kernel_rfl
theorem ajv:bg Go.Proofs.Tryz.prog μ φ 138=some ru:=by kernel_rfl
set_option maxHeartbeats 2000000 in
theorem MX: ∀g fn q,Γ g=some fn→φ g=some q→bg Go.Proofs.Tryz.prog μ φ q=some fn:=by
 intro g fn q h1 h2
 match g,h1,h2 with
 |436,h1,h2=>
  cases h1
  have h:φ 436=some 3:=by kernel_rfl
  rw [h] at h2
  cases h2
  exact ahv
 |41,h1,h2=>
  cases h1
  have h:φ 41=some 4:=by kernel_rfl
  rw [h] at h2
  cases h2
  exact ahw
 |437,h1,h2=>
  cases h1
  have h:φ 437=some 5:=by kernel_rfl
  rw [h] at h2
  cases h2
  exact ahx
 |303,h1,h2=>
  cases h1
  have h:φ 303=some 6:=by kernel_rfl
  rw [h] at h2
  cases h2
  exact ahy
 |302,h1,h2=>
  cases h1
  have h:φ 302=some 7:=by kernel_rfl
  rw [h] at h2
  cases h2
  exact ahz
 |438,h1,h2=>
  cases h1
  have h:φ 438=some 8:=by kernel_rfl
  rw [h] at h2
  cases h2
  exact ahA
 |13,h1,h2=>
  cases h1
  have h:φ 13=some 9:=by kernel_rfl
  rw [h] at h2
  cases h2
  exact ahB
 |250,h1,h2=>
  cases h1
  have h:φ 250=some 10:=by kernel_rfl
  rw [h] at h2
  cases h2
  exact ahC
 |265,h1,h2=>
  cases h1
  have h:φ 265=some 11:=by kernel_rfl
  rw [h] at h2
  cases h2
  exact ahD
 |439,h1,h2=>
  cases h1
  have h:φ 439=some 12:=by kernel_rfl
  rw [h] at h2
  cases h2
  exact ahE
 |12,h1,h2=>
  cases h1
  have h:φ 12=some 13:=by kernel_rfl
  rw [h] at h2
  cases h2
  exact ahF
 |440,h1,h2=>
  cases h1
  have h:φ 440=some 14:=by kernel_rfl
  rw [h] at h2
  cases h2
  exact ahG
 |294,h1,h2=>
  cases h1
  have h:φ 294=some 15:=by kernel_rfl
  rw [h] at h2
  cases h2
  exact ahH
 |293,h1,h2=>
  cases h1
  have h:φ 293=some 16:=by kernel_rfl
  rw [h] at h2
  cases h2
  exact ahI
 |43,h1,h2=>
  cases h1
  have h:φ 43=some 17:=by kernel_rfl
  rw [h] at h2
  cases h2
  exact ahJ
 |441,h1,h2=>
  cases h1
  have h:φ 441=some 18:=by kernel_rfl
  rw [h] at h2
  cases h2
  exact ahK
 |55,h1,h2=>
  cases h1
  have h:φ 55=some 19:=by kernel_rfl
  rw [h] at h2
  cases h2
  exact ahL
 |442,h1,h2=>
  cases h1
  have h:φ 442=some 20:=by kernel_rfl
  rw [h] at h2
  cases h2
  exact ahM
 |291,h1,h2=>
  cases h1
  have h:φ 291=some 21:=by kernel_rfl
  rw [h] at h2
  cases h2
  exact ahN
 |290,h1,h2=>
  cases h1
  have h:φ 290=some 22:=by kernel_rfl
  rw [h] at h2
  cases h2
  exact ahO
 |288,h1,h2=>
  cases h1
  have h:φ 288=some 23:=by kernel_rfl
  rw [h] at h2
  cases h2
  exact ahP
 |287,h1,h2=>
  cases h1
  have h:φ 287=some 24:=by kernel_rfl
  rw [h] at h2
  cases h2
  exact ahQ
 |443,h1,h2=>
  cases h1
  have h:φ 443=some 25:=by kernel_rfl
  rw [h] at h2
  cases h2
  exact ahR
 |259,h1,h2=>
  cases h1
  have h:φ 259=some 26:=by kernel_rfl
  rw [h] at h2
  cases h2
  exact ahS
 |258,h1,h2=>
  cases h1
  have h:φ 258=some 27:=by kernel_rfl
  rw [h] at h2
  cases h2
  exact ahT
 |97,h1,h2=>
  cases h1
  have h:φ 97=some 28:=by kernel_rfl
  rw [h] at h2
  cases h2
  exact ahU
 |444,h1,h2=>
  cases h1
  have h:φ 444=some 29:=by kernel_rfl
  rw [h] at h2
  cases h2
  exact ahV
 |98,h1,h2=>
  cases h1
  have h:φ 98=some 30:=by kernel_rfl
  rw [h] at h2
  cases h2
  exact ahW
 |67,h1,h2=>
  cases h1
  have h:φ 67=some 31:=by kernel_rfl
  rw [h] at h2
  cases h2
  exact ahX
 |345,h1,h2=>
  cases h1
  have h:φ 345=some 32:=by kernel_rfl
  rw [h] at h2
  cases h2
  exact ahY
 |68,h1,h2=>
  cases h1
  have h:φ 68=some 33:=by kernel_rfl
  rw [h] at h2
  cases h2
  exact ahZ
 |269,h1,h2=>
  cases h1
  have h:φ 269=some 34:=by kernel_rfl
  rw [h] at h2
  cases h2
  exact ah0
 |280,h1,h2=>
  cases h1
  have h:φ 280=some 35:=by kernel_rfl
  rw [h] at h2
  cases h2
  exact ah1
 |277,h1,h2=>
  cases h1
  have h:φ 277=some 36:=by kernel_rfl
  rw [h] at h2
  cases h2
  exact ah2
 |346,h1,h2=>
  cases h1
  have h:φ 346=some 37:=by kernel_rfl
  rw [h] at h2
  cases h2
  exact ah3
 |347,h1,h2=>
  cases h1
  have h:φ 347=some 38:=by kernel_rfl
  rw [h] at h2
  cases h2
  exact ah4
 |348,h1,h2=>
  cases h1
  have h:φ 348=some 39:=by kernel_rfl
  rw [h] at h2
  cases h2
  exact ah5
 |64,h1,h2=>
  cases h1
  have h:φ 64=some 40:=by kernel_rfl
  rw [h] at h2
  cases h2
  exact ah6
 |343,h1,h2=>
  cases h1
  have h:φ 343=some 41:=by kernel_rfl
  rw [h] at h2
  cases h2
  exact ah7
 |267,h1,h2=>
  cases h1
  have h:φ 267=some 42:=by kernel_rfl
  rw [h] at h2
  cases h2
  exact ah8
 |344,h1,h2=>
  cases h1
  have h:φ 344=some 43:=by kernel_rfl
  rw [h] at h2
  cases h2
  exact ah9
 |284,h1,h2=>
  cases h1
  have h:φ 284=some 44:=by kernel_rfl
  rw [h] at h2
  cases h2
  exact aia
 |276,h1,h2=>
  cases h1
  have h:φ 276=some 45:=by kernel_rfl
  rw [h] at h2
  cases h2
  exact aib
 |69,h1,h2=>
  cases h1
  have h:φ 69=some 46:=by kernel_rfl
  rw [h] at h2
  cases h2
  exact aic
 |70,h1,h2=>
  cases h1
  have h:φ 70=some 47:=by kernel_rfl
  rw [h] at h2
  cases h2
  exact aie
 |268,h1,h2=>
  cases h1
  have h:φ 268=some 48:=by kernel_rfl
  rw [h] at h2
  cases h2
  exact aif
 |273,h1,h2=>
  cases h1
  have h:φ 273=some 49:=by kernel_rfl
  rw [h] at h2
  cases h2
  exact aii
 |65,h1,h2=>
  cases h1
  have h:φ 65=some 50:=by kernel_rfl
  rw [h] at h2
  cases h2
  exact aij
 |66,h1,h2=>
  cases h1
  have h:φ 66=some 51:=by kernel_rfl
  rw [h] at h2
  cases h2
  exact aik
 |445,h1,h2=>
  cases h1
  have h:φ 445=some 52:=by kernel_rfl
  rw [h] at h2
  cases h2
  exact ail
 |184,h1,h2=>
  cases h1
  have h:φ 184=some 53:=by kernel_rfl
  rw [h] at h2
  cases h2
  exact ain
 |102,h1,h2=>
  cases h1
  have h:φ 102=some 54:=by kernel_rfl
  rw [h] at h2
  cases h2
  exact aio
 |285,h1,h2=>
  cases h1
  have h:φ 285=some 55:=by kernel_rfl
  rw [h] at h2
  cases h2
  exact aip
 |187,h1,h2=>
  cases h1
  have h:φ 187=some 56:=by kernel_rfl
  rw [h] at h2
  cases h2
  exact aiq
 |223,h1,h2=>
  cases h1
  have h:φ 223=some 57:=by kernel_rfl
  rw [h] at h2
  cases h2
  exact air
 |112,h1,h2=>
  cases h1
  have h:φ 112=some 58:=by kernel_rfl
  rw [h] at h2
  cases h2
  exact ais
 |271,h1,h2=>
  cases h1
  have h:φ 271=some 59:=by kernel_rfl
  rw [h] at h2
  cases h2
  exact ait
 |333,h1,h2=>
  cases h1
  have h:φ 333=some 60:=by kernel_rfl
  rw [h] at h2
  cases h2
  exact aiu
 |334,h1,h2=>
  cases h1
  have h:φ 334=some 61:=by kernel_rfl
  rw [h] at h2
  cases h2
  exact aiv
 |270,h1,h2=>
  cases h1
  have h:φ 270=some 62:=by kernel_rfl
  rw [h] at h2
  cases h2
  exact aiw
 |111,h1,h2=>
  cases h1
  have h:φ 111=some 63:=by kernel_rfl
  rw [h] at h2
  cases h2
  exact aix
 |209,h1,h2=>
  cases h1
  have h:φ 209=some 64:=by kernel_rfl
  rw [h] at h2
  cases h2
  exact aiy
 |332,h1,h2=>
  cases h1
  have h:φ 332=some 65:=by kernel_rfl
  rw [h] at h2
  cases h2
  exact aiz
 |275,h1,h2=>
  cases h1
  have h:φ 275=some 66:=by kernel_rfl
  rw [h] at h2
  cases h2
  exact aiA
 |331,h1,h2=>
  cases h1
  have h:φ 331=some 67:=by kernel_rfl
  rw [h] at h2
  cases h2
  exact aiB
 |446,h1,h2=>
  cases h1
  have h:φ 446=some 68:=by kernel_rfl
  rw [h] at h2
  cases h2
  exact aiC
 |387,h1,h2=>
  cases h1
  have h:φ 387=some 69:=by kernel_rfl
  rw [h] at h2
  cases h2
  exact aiD
 |278,h1,h2=>
  cases h1
  have h:φ 278=some 70:=by kernel_rfl
  rw [h] at h2
  cases h2
  exact aiE
 |218,h1,h2=>
  cases h1
  have h:φ 218=some 71:=by kernel_rfl
  rw [h] at h2
  cases h2
  exact aiF
 |193,h1,h2=>
  cases h1
  have h:φ 193=some 72:=by kernel_rfl
  rw [h] at h2
  cases h2
  exact aiG
 |274,h1,h2=>
  cases h1
  have h:φ 274=some 73:=by kernel_rfl
  rw [h] at h2
  cases h2
  exact aiH
 |371,h1,h2=>
  cases h1
  have h:φ 371=some 74:=by kernel_rfl
  rw [h] at h2
  cases h2
  exact aiI
 |227,h1,h2=>
  cases h1
  have h:φ 227=some 75:=by kernel_rfl
  rw [h] at h2
  cases h2
  exact aiJ
 |58,h1,h2=>
  cases h1
  have h:φ 58=some 76:=by kernel_rfl
  rw [h] at h2
  cases h2
  exact aiK
 |370,h1,h2=>
  cases h1
  have h:φ 370=some 77:=by kernel_rfl
  rw [h] at h2
  cases h2
  exact aiL
 |272,h1,h2=>
  cases h1
  have h:φ 272=some 78:=by kernel_rfl
  rw [h] at h2
  cases h2
  exact aiM
 |282,h1,h2=>
  cases h1
  have h:φ 282=some 79:=by kernel_rfl
  rw [h] at h2
  cases h2
  exact aiN
 |374,h1,h2=>
  cases h1
  have h:φ 374=some 80:=by kernel_rfl
  rw [h] at h2
  cases h2
  exact aiO
 |447,h1,h2=>
  cases h1
  have h:φ 447=some 81:=by kernel_rfl
  rw [h] at h2
  cases h2
  exact aiP
 |388,h1,h2=>
  cases h1
  have h:φ 388=some 82:=by kernel_rfl
  rw [h] at h2
  cases h2
  exact aiQ
 |206,h1,h2=>
  cases h1
  have h:φ 206=some 83:=by kernel_rfl
  rw [h] at h2
  cases h2
  exact aiR
 |207,h1,h2=>
  cases h1
  have h:φ 207=some 84:=by kernel_rfl
  rw [h] at h2
  cases h2
  exact aiS
 |210,h1,h2=>
  cases h1
  have h:φ 210=some 85:=by kernel_rfl
  rw [h] at h2
  cases h2
  exact aiT
 |362,h1,h2=>
  cases h1
  have h:φ 362=some 86:=by kernel_rfl
  rw [h] at h2
  cases h2
  exact aiU
 |279,h1,h2=>
  cases h1
  have h:φ 279=some 87:=by kernel_rfl
  rw [h] at h2
  cases h2
  exact aiV
 |220,h1,h2=>
  cases h1
  have h:φ 220=some 88:=by kernel_rfl
  rw [h] at h2
  cases h2
  exact aiW
 |361,h1,h2=>
  cases h1
  have h:φ 361=some 89:=by kernel_rfl
  rw [h] at h2
  cases h2
  exact aiX
 |360,h1,h2=>
  cases h1
  have h:φ 360=some 90:=by kernel_rfl
  rw [h] at h2
  cases h2
  exact aiY
 |356,h1,h2=>
  cases h1
  have h:φ 356=some 91:=by kernel_rfl
  rw [h] at h2
  cases h2
  exact aiZ
 |364,h1,h2=>
  cases h1
  have h:φ 364=some 92:=by kernel_rfl
  rw [h] at h2
  cases h2
  exact ai0
 |219,h1,h2=>
  cases h1
  have h:φ 219=some 93:=by kernel_rfl
  rw [h] at h2
  cases h2
  exact ai1
 |211,h1,h2=>
  cases h1
  have h:φ 211=some 94:=by kernel_rfl
  rw [h] at h2
  cases h2
  exact ai2
 |213,h1,h2=>
  cases h1
  have h:φ 213=some 95:=by kernel_rfl
  rw [h] at h2
  cases h2
  exact ai3
 |283,h1,h2=>
  cases h1
  have h:φ 283=some 96:=by kernel_rfl
  rw [h] at h2
  cases h2
  exact ai4
 |378,h1,h2=>
  cases h1
  have h:φ 378=some 97:=by kernel_rfl
  rw [h] at h2
  cases h2
  exact ai5
 |384,h1,h2=>
  cases h1
  have h:φ 384=some 103:=by kernel_rfl
  rw [h] at h2
  cases h2
  exact ai6
 |245,h1,h2=>
  cases h1
  have h:φ 245=some 107:=by kernel_rfl
  rw [h] at h2
  cases h2
  exact ai7
 |281,h1,h2=>
  cases h1
  have h:φ 281=some 108:=by kernel_rfl
  rw [h] at h2
  cases h2
  exact ai8
 |372,h1,h2=>
  cases h1
  have h:φ 372=some 109:=by kernel_rfl
  rw [h] at h2
  cases h2
  exact ai9
 |448,h1,h2=>
  cases h1
  have h:φ 448=some 110:=by kernel_rfl
  rw [h] at h2
  cases h2
  exact aja
 |396,h1,h2=>
  cases h1
  have h:φ 396=some 111:=by kernel_rfl
  rw [h] at h2
  cases h2
  exact ajb
 |192,h1,h2=>
  cases h1
  have h:φ 192=some 112:=by kernel_rfl
  rw [h] at h2
  cases h2
  exact ajc
 |224,h1,h2=>
  cases h1
  have h:φ 224=some 113:=by kernel_rfl
  rw [h] at h2
  cases h2
  exact ajd
 |225,h1,h2=>
  cases h1
  have h:φ 225=some 114:=by kernel_rfl
  rw [h] at h2
  cases h2
  exact aje
 |240,h1,h2=>
  cases h1
  have h:φ 240=some 116:=by kernel_rfl
  rw [h] at h2
  cases h2
  exact ajf
 |241,h1,h2=>
  cases h1
  have h:φ 241=some 117:=by kernel_rfl
  rw [h] at h2
  cases h2
  exact ajg
 |395,h1,h2=>
  cases h1
  have h:φ 395=some 120:=by kernel_rfl
  rw [h] at h2
  cases h2
  exact ajh
 |208,h1,h2=>
  cases h1
  have h:φ 208=some 121:=by kernel_rfl
  rw [h] at h2
  cases h2
  exact aji
 |212,h1,h2=>
  cases h1
  have h:φ 212=some 122:=by kernel_rfl
  rw [h] at h2
  cases h2
  exact ajj
 |228,h1,h2=>
  cases h1
  have h:φ 228=some 123:=by kernel_rfl
  rw [h] at h2
  cases h2
  exact ajk
 |229,h1,h2=>
  cases h1
  have h:φ 229=some 125:=by kernel_rfl
  rw [h] at h2
  cases h2
  exact ajl
 |231,h1,h2=>
  cases h1
  have h:φ 231=some 127:=by kernel_rfl
  rw [h] at h2
  cases h2
  exact ajm
 |232,h1,h2=>
  cases h1
  have h:φ 232=some 128:=by kernel_rfl
  rw [h] at h2
  cases h2
  exact ajn
 |233,h1,h2=>
  cases h1
  have h:φ 233=some 129:=by kernel_rfl
  rw [h] at h2
  cases h2
  exact ajo
 |234,h1,h2=>
  cases h1
  have h:φ 234=some 130:=by kernel_rfl
  rw [h] at h2
  cases h2
  exact ajp
 |235,h1,h2=>
  cases h1
  have h:φ 235=some 131:=by kernel_rfl
  rw [h] at h2
  cases h2
  exact ajq
 |236,h1,h2=>
  cases h1
  have h:φ 236=some 132:=by kernel_rfl
  rw [h] at h2
  cases h2
  exact ajr
 |237,h1,h2=>
  cases h1
  have h:φ 237=some 133:=by kernel_rfl
  rw [h] at h2
  cases h2
  exact ajs
 |243,h1,h2=>
  cases h1
  have h:φ 243=some 136:=by kernel_rfl
  rw [h] at h2
  cases h2
  exact ajt
 |247,h1,h2=>
  cases h1
  have h:φ 247=some 137:=by kernel_rfl
  rw [h] at h2
  cases h2
  exact aju
 |246,h1,h2=>
  cases h1
  have h:φ 246=some 138:=by kernel_rfl
  rw [h] at h2
  cases h2
  exact ajv
end Go.Am
