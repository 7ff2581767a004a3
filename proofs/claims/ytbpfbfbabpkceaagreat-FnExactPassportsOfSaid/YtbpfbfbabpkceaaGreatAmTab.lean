/- The table of functions. -/
import Derived.Test.YtbpfbfbabpkceaaGreatAmCode0
set_option linter.unusedVariables false
namespace Go.Am
open Go
def Es:Nat:=449
def Kq:Nat:=450
def EK:Nat:=451
def Kt:Nat:=452
def EL:Nat:=453
def EN:Nat:=454
def Xh:Nat:=24
def Xi:Nat:=39
def Xj:Nat:=58
def Xk:Nat:=413
def Xl:Nat:=464
def Ku:Nat:=284
def Xm:Nat:=192
def Kv:Nat:=465
def Xn:Nat:=414
def Xo:Nat:=412
def Kw:Nat:=280
def Xp:Nat:=466
def EO:Nat:=467
def Xq:Nat:=468
def uP:Nat:=469
def Xr:Nat:=40
def Xt:Nat:=3
def Ky:Nat:=6
def Xu:Nat:=198
def Xv:Nat:=81
def BG:Nat:=352
def Xw:Nat:=416
def Xx:Nat:=363
def Xy:Nat:=364
def Xz:Nat:=472
def Kz:Nat:=285
def XA:Nat:=208
def XC:Nat:=212
def XD:Nat:=473
def KA:Nat:=351
def XE:Nat:=366
def XF:Nat:=368
def BI:Nat:=420
def KC:Nat:=218
def XG:Nat:=193
def XH:Nat:=474
def XI:Nat:=227
def BJ:Nat:=475
def sH:Nat:=476
def XJ:Nat:=7
def XK:Nat:=369
def yx:Nat:=217
def XL:Nat:=210
def XO:Nat:=216
def XQ:Nat:=215
def XR:Nat:=111
def XT:Nat:=184
def KE:Nat:=391
def XU:Nat:=359
def XV:Nat:=279
def KF:Nat:=377
def KG:Nat:=223
def XW:Nat:=219
def XY:Nat:=211
def XZ:Nat:=213
def X0:Nat:=478
def X3:Nat:=245
def EP:Nat:=486
def ER:Nat:=222
def KH:Nat:=221
def X4:Nat:=206
def X5:Nat:=207
def X6:Nat:=375
def X7:Nat:=357
def X8:Nat:=358
def X9:Nat:=224
def Ya:Nat:=225
def Yb:Nat:=240
def Yc:Nat:=241
def BK:Nat:=247
def Yd:Nat:=389
def Ye:Nat:=228
def Yf:Nat:=229
def Yg:Nat:=231
def Yh:Nat:=232
def Yi:Nat:=233
def Yj:Nat:=234
def Yk:Nat:=235
def Yl:Nat:=236
def Ym:Nat:=237
def Yn:Nat:=243
def Yo:Nat:=246
def Γ:Env:=fun g=>
 match g with
 |449=>some bT
 |450=>some bY
 |451=>some fK
 |452=>some gZ
 |453=>some jD
 |454=>some iJ
 |24=>some iK
 |39=>some jZ
 |58=>some qI
 |413=>some jE
 |464=>some qJ
 |284=>some dO
 |192=>some qK
 |465=>some iL
 |414=>some iF
 |412=>some qL
 |280=>some pR
 |466=>some qM
 |467=>some pU
 |468=>some cO
 |469=>some qN
 |40=>some je
 |3=>some iM
 |6=>some jF
 |198=>some iO
 |81=>some qO
 |352=>some ig
 |416=>some fB
 |363=>some gq
 |364=>some jG
 |472=>some oO
 |285=>some dL
 |208=>some jH
 |212=>some jI
 |473=>some jJ
 |351=>some dZ
 |366=>some fC
 |368=>some kS
 |420=>some mX
 |218=>some jf
 |193=>some qP
 |474=>some bf
 |227=>some oQ
 |475=>some fD
 |476=>some fE
 |7=>some jg
 |369=>some qQ
 |217=>some lC
 |210=>some dP
 |216=>some iP
 |215=>some jh
 |111=>some qR
 |184=>some qU
 |391=>some gu
 |359=>some iQ
 |279=>some qV
 |377=>some gy
 |223=>some dI
 |219=>some mY
 |211=>some ji
 |213=>some jk
 |478=>some jl
 |245=>some iG
 |486=>some fP
 |222=>some pV
 |221=>some dQ
 |206=>some fF
 |207=>some eu
 |375=>some mZ
 |357=>some jm
 |358=>some bU
 |224=>some qW
 |225=>some lF
 |240=>some qX
 |241=>some lQ
 |247=>some oU
 |389=>some jK
 |228=>some aZ
 |229=>some iR
 |231=>some gB
 |232=>some dU
 |233=>some ku
 |234=>some bC
 |235=>some qY
 |236=>some eX
 |237=>some bg
 |243=>some lS
 |246=>some lU
 | _=>none
theorem KI:Γ 449=some bT:=rfl
theorem KJ:Γ 450=some bY:=rfl
theorem KL:Γ 451=some fK:=rfl
theorem KN:Γ 452=some gZ:=rfl
theorem KO:Γ 453=some jD:=rfl
theorem KP:Γ 454=some iJ:=rfl
theorem Yp:Γ 24=some iK:=rfl
theorem Yq:Γ 39=some jZ:=rfl
theorem Yr:Γ 58=some qI:=rfl
theorem Yt:Γ 413=some jE:=rfl
theorem Yu:Γ 464=some qJ:=rfl
theorem Yv:Γ 284=some dO:=rfl
theorem Yw:Γ 192=some qK:=rfl
theorem Yx:Γ 465=some iL:=rfl
theorem Yy:Γ 414=some iF:=rfl
theorem Yz:Γ 412=some qL:=rfl
theorem KQ:Γ 280=some pR:=rfl
theorem YA:Γ 466=some qM:=rfl
theorem YB:Γ 467=some pU:=rfl
theorem YC:Γ 468=some cO:=rfl
theorem YD:Γ 469=some qN:=rfl
theorem YE:Γ 40=some je:=rfl
theorem YF:Γ 3=some iM:=rfl
theorem YG:Γ 6=some jF:=rfl
theorem YH:Γ 198=some iO:=rfl
theorem YI:Γ 81=some qO:=rfl
theorem BL:Γ 352=some ig:=rfl
theorem KR:Γ 416=some fB:=rfl
theorem YJ:Γ 363=some gq:=rfl
theorem YK:Γ 364=some jG:=rfl
theorem YL:Γ 472=some oO:=rfl
theorem YM:Γ 285=some dL:=rfl
theorem YN:Γ 208=some jH:=rfl
theorem YO:Γ 212=some jI:=rfl
theorem YP:Γ 473=some jJ:=rfl
theorem ES:Γ 351=some dZ:=rfl
theorem YQ:Γ 366=some fC:=rfl
theorem YR:Γ 368=some kS:=rfl
theorem YS:Γ 420=some mX:=rfl
theorem YT:Γ 218=some jf:=rfl
theorem YU:Γ 193=some qP:=rfl
theorem YV:Γ 474=some bf:=rfl
theorem YW:Γ 227=some oQ:=rfl
theorem YX:Γ 475=some fD:=rfl
theorem YZ:Γ 476=some fE:=rfl
theorem Y0:Γ 7=some jg:=rfl
theorem Y1:Γ 369=some qQ:=rfl
theorem Y2:Γ 217=some lC:=rfl
theorem Y3:Γ 210=some dP:=rfl
theorem Y4:Γ 216=some iP:=rfl
theorem Y5:Γ 215=some jh:=rfl
theorem Y6:Γ 111=some qR:=rfl
theorem Y7:Γ 184=some qU:=rfl
theorem Y8:Γ 391=some gu:=rfl
theorem Y9:Γ 359=some iQ:=rfl
theorem Za:Γ 279=some qV:=rfl
theorem KT:Γ 377=some gy:=rfl
theorem Zb:Γ 223=some dI:=rfl
theorem Zc:Γ 219=some mY:=rfl
theorem Zd:Γ 211=some ji:=rfl
theorem Ze:Γ 213=some jk:=rfl
theorem Zg:Γ 478=some jl:=rfl
theorem Zh:Γ 245=some iG:=rfl
theorem Zi:Γ 486=some fP:=rfl
theorem Zj:Γ 222=some pV:=rfl
theorem Zk:Γ 221=some dQ:=rfl
theorem Zl:Γ 206=some fF:=rfl
theorem Zm:Γ 207=some eu:=rfl
theorem Zn:Γ 375=some mZ:=rfl
theorem Zp:Γ 357=some jm:=rfl
theorem Zq:Γ 358=some bU:=rfl
theorem Zt:Γ 224=some qW:=rfl
theorem Zu:Γ 225=some lF:=rfl
theorem Zv:Γ 240=some qX:=rfl
theorem Zw:Γ 241=some lQ:=rfl
theorem KU:Γ 247=some oU:=rfl
theorem Zx:Γ 389=some jK:=rfl
theorem Zy:Γ 228=some aZ:=rfl
theorem Zz:Γ 229=some iR:=rfl
theorem ZA:Γ 231=some gB:=rfl
theorem ZB:Γ 232=some dU:=rfl
theorem ZC:Γ 233=some ku:=rfl
theorem ZE:Γ 234=some bC:=rfl
theorem ZF:Γ 235=some qY:=rfl
theorem ZG:Γ 236=some eX:=rfl
theorem ZH:Γ 237=some bg:=rfl
theorem ZI:Γ 243=some lS:=rfl
theorem ZJ:Γ 246=some lU:=rfl
end Go.Am
