/- The table of functions. -/
import Derived.Test.YtbpfbfbabpkceaaGreatAmCode0
set_option linter.unusedVariables false
namespace Go.Am
open Go
def Gs:Nat:=455
def UA:Nat:=20
def Cm:Nat:=456
def Hw:Nat:=21
def CB:Nat:=457
def Hy:Nat:=407
def UC:Nat:=24
def UD:Nat:=39
def Hz:Nat:=408
def HY:Nat:=409
def UE:Nat:=58
def H6:Nat:=284
def UF:Nat:=192
def UG:Nat:=77
def UH:Nat:=335
def UJ:Nat:=336
def H7:Nat:=0
def UK:Nat:=339
def UL:Nat:=341
def qQ:Nat:=470
def UM:Nat:=142
def UN:Nat:=3
def H8:Nat:=6
def UO:Nat:=79
def UQ:Nat:=198
def UR:Nat:=80
def UU:Nat:=68
def UW:Nat:=346
def UY:Nat:=363
def UZ:Nat:=364
def H9:Nat:=285
def U0:Nat:=208
def U1:Nat:=212
def U2:Nat:=366
def Ia:Nat:=368
def Ib:Nat:=218
def U3:Nat:=193
def U4:Nat:=227
def U5:Nat:=78
def U6:Nat:=365
def zL:Nat:=367
def U7:Nat:=69
def U8:Nat:=354
def U9:Nat:=369
def wI:Nat:=217
def Va:Nat:=189
def Vb:Nat:=210
def Vd:Nat:=216
def Ve:Nat:=215
def Vf:Nat:=184
def CG:Nat:=391
def Vg:Nat:=359
def zM:Nat:=377
def Ic:Nat:=223
def Vh:Nat:=219
def Vj:Nat:=211
def Vk:Nat:=213
def Vl:Nat:=245
def Vm:Nat:=106
def Vo:Nat:=376
def Vp:Nat:=70
def CJ:Nat:=222
def Ie:Nat:=221
def Vq:Nat:=206
def Vr:Nat:=207
def Vs:Nat:=375
def Vt:Nat:=357
def Vu:Nat:=358
def Vw:Nat:=224
def Vx:Nat:=225
def Vy:Nat:=240
def Vz:Nat:=241
def VA:Nat:=247
def VB:Nat:=390
def VD:Nat:=389
def VE:Nat:=228
def VF:Nat:=229
def VG:Nat:=231
def VH:Nat:=232
def VI:Nat:=233
def VJ:Nat:=234
def VK:Nat:=235
def VN:Nat:=236
def VO:Nat:=237
def VP:Nat:=243
def VQ:Nat:=246
def Γ:Env:=fun g=>
 match g with
 |455=>some aV
 |20=>some fG
 |456=>some iV
 |21=>some iI
 |457=>some iQ
 |407=>some fV
 |24=>some gW
 |39=>some jy
 |408=>some bT
 |409=>some bG
 |58=>some pY
 |284=>some dB
 |192=>some qc
 |77=>some kU
 |335=>some jY
 |336=>some nR
 |0=>some iW
 |339=>some jJ
 |341=>some kV
 |470=>some nS
 |142=>some jm
 |3=>some gX
 |6=>some iY
 |79=>some iZ
 |198=>some gY
 |80=>some jK
 |68=>some dO
 |346=>some fZ
 |363=>some eF
 |364=>some jc
 |285=>some dA
 |208=>some jd
 |212=>some je
 |366=>some dP
 |368=>some jS
 |218=>some iJ
 |193=>some qg
 |227=>some nU
 |78=>some gB
 |365=>some fC
 |367=>some lN
 |69=>some jf
 |354=>some iK
 |369=>some qj
 |217=>some kK
 |189=>some jg
 |210=>some dD
 |216=>some gZ
 |215=>some iL
 |184=>some qm
 |391=>some eP
 |359=>some ig
 |377=>some dS
 |223=>some bZ
 |219=>some lQ
 |211=>some iM
 |213=>some iO
 |245=>some gG
 |106=>some gq
 |376=>some fD
 |70=>some eU
 |222=>some oO
 |221=>some dF
 |206=>some dQ
 |207=>some dK
 |375=>some lS
 |357=>some iP
 |358=>some bM
 |224=>some qo
 |225=>some kL
 |240=>some qp
 |241=>some kW
 |247=>some qw
 |390=>some iq
 |389=>some jh
 |228=>some aW
 |229=>some iw
 |231=>some eX
 |232=>some dH
 |233=>some jA
 |234=>some aZ
 |235=>some qx
 |236=>some dN
 |237=>some aY
 |243=>some kX
 |246=>some kY
 | _=>none
theorem VT:Γ 455=some aV:=rfl
theorem VU:Γ 20=some fG:=rfl
theorem Ig:Γ 456=some iV:=rfl
theorem Ih:Γ 21=some iI:=rfl
theorem VW:Γ 457=some iQ:=rfl
theorem Ii:Γ 407=some fV:=rfl
theorem VX:Γ 24=some gW:=rfl
theorem VY:Γ 39=some jy:=rfl
theorem Ij:Γ 408=some bT:=rfl
theorem Ik:Γ 409=some bG:=rfl
theorem V3:Γ 58=some pY:=rfl
theorem V4:Γ 284=some dB:=rfl
theorem V5:Γ 192=some qc:=rfl
theorem V6:Γ 77=some kU:=rfl
theorem V7:Γ 335=some jY:=rfl
theorem V8:Γ 336=some nR:=rfl
theorem V9:Γ 0=some iW:=rfl
theorem Wh:Γ 339=some jJ:=rfl
theorem Wi:Γ 341=some kV:=rfl
theorem Wj:Γ 470=some nS:=rfl
theorem Wn:Γ 142=some jm:=rfl
theorem Wp:Γ 3=some gX:=rfl
theorem Wq:Γ 6=some iY:=rfl
theorem Ws:Γ 79=some iZ:=rfl
theorem Wu:Γ 198=some gY:=rfl
theorem Wv:Γ 80=some jK:=rfl
theorem Wx:Γ 68=some dO:=rfl
theorem Wy:Γ 346=some fZ:=rfl
theorem WA:Γ 363=some eF:=rfl
theorem WB:Γ 364=some jc:=rfl
theorem WC:Γ 285=some dA:=rfl
theorem WE:Γ 208=some jd:=rfl
theorem WG:Γ 212=some je:=rfl
theorem WH:Γ 366=some dP:=rfl
theorem Il:Γ 368=some jS:=rfl
theorem WI:Γ 218=some iJ:=rfl
theorem WJ:Γ 193=some qg:=rfl
theorem WL:Γ 227=some nU:=rfl
theorem WM:Γ 78=some gB:=rfl
theorem Io:Γ 365=some fC:=rfl
theorem WO:Γ 367=some lN:=rfl
theorem WQ:Γ 69=some jf:=rfl
theorem WR:Γ 354=some iK:=rfl
theorem WT:Γ 369=some qj:=rfl
theorem WU:Γ 217=some kK:=rfl
theorem WV:Γ 189=some jg:=rfl
theorem WW:Γ 210=some dD:=rfl
theorem WX:Γ 216=some gZ:=rfl
theorem WY:Γ 215=some iL:=rfl
theorem WZ:Γ 184=some qm:=rfl
theorem W9:Γ 391=some eP:=rfl
theorem Xa:Γ 359=some ig:=rfl
theorem zN:Γ 377=some dS:=rfl
theorem Xb:Γ 223=some bZ:=rfl
theorem Xc:Γ 219=some lQ:=rfl
theorem Xd:Γ 211=some iM:=rfl
theorem Xe:Γ 213=some iO:=rfl
theorem Xf:Γ 245=some gG:=rfl
theorem Xg:Γ 106=some gq:=rfl
theorem Xh:Γ 376=some fD:=rfl
theorem Xi:Γ 70=some eU:=rfl
theorem Xj:Γ 222=some oO:=rfl
theorem Xk:Γ 221=some dF:=rfl
theorem Xl:Γ 206=some dQ:=rfl
theorem Xm:Γ 207=some dK:=rfl
theorem Xn:Γ 375=some lS:=rfl
theorem Xo:Γ 357=some iP:=rfl
theorem Xp:Γ 358=some bM:=rfl
theorem Xq:Γ 224=some qo:=rfl
theorem Xr:Γ 225=some kL:=rfl
theorem Xt:Γ 240=some qp:=rfl
theorem Xu:Γ 241=some kW:=rfl
theorem Xv:Γ 247=some qw:=rfl
theorem Xw:Γ 390=some iq:=rfl
theorem Xx:Γ 389=some jh:=rfl
theorem Xy:Γ 228=some aW:=rfl
theorem Xz:Γ 229=some iw:=rfl
theorem XA:Γ 231=some eX:=rfl
theorem XC:Γ 232=some dH:=rfl
theorem XD:Γ 233=some jA:=rfl
theorem XE:Γ 234=some aZ:=rfl
theorem XF:Γ 235=some qx:=rfl
theorem XG:Γ 236=some dN:=rfl
theorem XH:Γ 237=some aY:=rfl
theorem XI:Γ 243=some kX:=rfl
theorem XJ:Γ 246=some kY:=rfl
end Go.Am
