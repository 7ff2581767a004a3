/- The table of functions. -/
import Derived.Test.YtbpfbfbabpkceaaAmCode0
set_option linter.unusedVariables false
namespace Go.Am
open Go
def AQ:Nat:=404
def BZ:Nat:=405
def Cb:Nat:=406
def Cc:Nat:=407
def Ce:Nat:=408
def Ci:Nat:=409
def NT:Nat:=58
def NU:Nat:=413
def Cj:Nat:=414
def NV:Nat:=142
def um:Nat:=352
def NW:Nat:=416
def NY:Nat:=363
def NZ:Nat:=364
def Cm:Nat:=351
def N7:Nat:=366
def N9:Nat:=368
def uo:Nat:=420
def Oa:Nat:=189
def Ob:Nat:=111
def Oc:Nat:=184
def CB:Nat:=391
def Oe:Nat:=359
def CG:Nat:=377
def Og:Nat:=369
def Oh:Nat:=198
def Oi:Nat:=217
def Oj:Nat:=206
def Ol:Nat:=207
def Om:Nat:=375
def Oo:Nat:=357
def Oq:Nat:=358
def Ot:Nat:=210
def Ou:Nat:=216
def Ov:Nat:=215
def Ox:Nat:=222
def Oy:Nat:=389
def CJ:Nat:=221
def Γ:Env:=fun g=>
 match g with
 |404=>some aX
 |405=>some iw
 |406=>some iy
 |407=>some dQ
 |408=>some bf
 |409=>some aT
 |58=>some jX
 |413=>some fC
 |414=>some dS
 |142=>some fJ
 |352=>some dR
 |416=>some bT
 |363=>some dw
 |364=>some fD
 |351=>some bM
 |366=>some bU
 |368=>some gI
 |420=>some iI
 |189=>some fE
 |111=>some jY
 |184=>some jZ
 |391=>some dD
 |359=>some dX
 |377=>some dF
 |369=>some ku
 |198=>some dY
 |217=>some gZ
 |206=>some bV
 |207=>some bP
 |375=>some iJ
 |357=>some eP
 |358=>some aY
 |210=>some bJ
 |216=>some dZ
 |215=>some eU
 |222=>some kC
 |389=>some fF
 |221=>some bK
 | _=>none
theorem CO:Γ 404=some aX:=rfl
theorem CP:Γ 405=some iw:=rfl
theorem CQ:Γ 406=some iy:=rfl
theorem CS:Γ 407=some dQ:=rfl
theorem CU:Γ 408=some bf:=rfl
theorem CV:Γ 409=some aT:=rfl
theorem Oz:Γ 58=some jX:=rfl
theorem OA:Γ 413=some fC:=rfl
theorem OB:Γ 414=some dS:=rfl
theorem OC:Γ 142=some fJ:=rfl
theorem uq:Γ 352=some dR:=rfl
theorem CW:Γ 416=some bT:=rfl
theorem OD:Γ 363=some dw:=rfl
theorem OE:Γ 364=some fD:=rfl
theorem wX:Γ 351=some bM:=rfl
theorem OG:Γ 366=some bU:=rfl
theorem OH:Γ 368=some gI:=rfl
theorem OI:Γ 420=some iI:=rfl
theorem OJ:Γ 189=some fE:=rfl
theorem OL:Γ 111=some jY:=rfl
theorem OM:Γ 184=some jZ:=rfl
theorem OO:Γ 391=some dD:=rfl
theorem OQ:Γ 359=some dX:=rfl
theorem CX:Γ 377=some dF:=rfl
theorem OT:Γ 369=some ku:=rfl
theorem OU:Γ 198=some dY:=rfl
theorem OV:Γ 217=some gZ:=rfl
theorem OW:Γ 206=some bV:=rfl
theorem OX:Γ 207=some bP:=rfl
theorem OY:Γ 375=some iJ:=rfl
theorem OZ:Γ 357=some eP:=rfl
theorem O1:Γ 358=some aY:=rfl
theorem O4:Γ 210=some bJ:=rfl
theorem O5:Γ 216=some dZ:=rfl
theorem O6:Γ 215=some eU:=rfl
theorem O7:Γ 222=some kC:=rfl
theorem O8:Γ 389=some fF:=rfl
theorem O9:Γ 221=some bK:=rfl
end Go.Am
