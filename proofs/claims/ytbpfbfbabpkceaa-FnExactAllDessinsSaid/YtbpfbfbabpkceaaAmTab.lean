/- The table of functions. -/
import Derived.Test.YtbpfbfbabpkceaaAmCode0
set_option linter.unusedVariables false
namespace Go.Am
open Go
def wX:Nat:=404
def CQ:Nat:=405
def CS:Nat:=406
def CU:Nat:=407
def CV:Nat:=408
def CW:Nat:=409
def Ot:Nat:=58
def Ou:Nat:=413
def CX:Nat:=414
def Ov:Nat:=142
def uF:Nat:=352
def Ox:Nat:=416
def Oy:Nat:=363
def Oz:Nat:=364
def CY:Nat:=351
def OA:Nat:=366
def OB:Nat:=368
def uG:Nat:=420
def OC:Nat:=189
def OD:Nat:=111
def OE:Nat:=184
def CZ:Nat:=391
def OG:Nat:=359
def C9:Nat:=377
def OH:Nat:=369
def OI:Nat:=198
def pV:Nat:=217
def OJ:Nat:=206
def OL:Nat:=207
def OM:Nat:=375
def OO:Nat:=357
def OQ:Nat:=358
def OT:Nat:=210
def OU:Nat:=216
def OV:Nat:=215
def xG:Nat:=222
def OW:Nat:=389
def Dc:Nat:=221
def Γ:Env:=fun g=>
 match g with
 |404=>some aX
 |405=>some iy
 |406=>some iC
 |407=>some dQ
 |408=>some bf
 |409=>some aT
 |58=>some kC
 |413=>some fC
 |414=>some dS
 |142=>some fK
 |352=>some dR
 |416=>some bT
 |363=>some dw
 |364=>some fD
 |351=>some bM
 |366=>some bU
 |368=>some gJ
 |420=>some iJ
 |189=>some fE
 |111=>some kD
 |184=>some kE
 |391=>some dD
 |359=>some dX
 |377=>some dF
 |369=>some kF
 |198=>some dY
 |217=>some gW
 |206=>some bV
 |207=>some bP
 |375=>some iK
 |357=>some eP
 |358=>some aY
 |210=>some bJ
 |216=>some dZ
 |215=>some eU
 |222=>some jM
 |389=>some fF
 |221=>some bK
 | _=>none
theorem Df:Γ 404=some aX:=rfl
theorem Dh:Γ 405=some iy:=rfl
theorem Di:Γ 406=some iC:=rfl
theorem Dj:Γ 407=some dQ:=rfl
theorem Dk:Γ 408=some bf:=rfl
theorem Dl:Γ 409=some aT:=rfl
theorem OX:Γ 58=some kC:=rfl
theorem OY:Γ 413=some fC:=rfl
theorem OZ:Γ 414=some dS:=rfl
theorem O1:Γ 142=some fK:=rfl
theorem uH:Γ 352=some dR:=rfl
theorem Dn:Γ 416=some bT:=rfl
theorem O4:Γ 363=some dw:=rfl
theorem O5:Γ 364=some fD:=rfl
theorem xH:Γ 351=some bM:=rfl
theorem O6:Γ 366=some bU:=rfl
theorem O7:Γ 368=some gJ:=rfl
theorem O8:Γ 420=some iJ:=rfl
theorem O9:Γ 189=some fE:=rfl
theorem Pg:Γ 111=some kD:=rfl
theorem Ph:Γ 184=some kE:=rfl
theorem Pj:Γ 391=some dD:=rfl
theorem Pm:Γ 359=some dX:=rfl
theorem Dp:Γ 377=some dF:=rfl
theorem Pn:Γ 369=some kF:=rfl
theorem Po:Γ 198=some dY:=rfl
theorem Pq:Γ 217=some gW:=rfl
theorem Pv:Γ 206=some bV:=rfl
theorem Px:Γ 207=some bP:=rfl
theorem Py:Γ 375=some iK:=rfl
theorem Pz:Γ 357=some eP:=rfl
theorem PD:Γ 358=some aY:=rfl
theorem PE:Γ 210=some bJ:=rfl
theorem PG:Γ 216=some dZ:=rfl
theorem PK:Γ 215=some eU:=rfl
theorem PN:Γ 222=some jM:=rfl
theorem PO:Γ 389=some fF:=rfl
theorem PS:Γ 221=some bK:=rfl
end Go.Am
