/- The table of functions. -/
import Derived.Test.YtkapkmjofpoebaaAmCode0
set_option linter.unusedVariables false
namespace Go.Am
open Go
def KO:Nat:=398
def YD:Nat:=41
def YE:Nat:=399
def YF:Nat:=330
def YG:Nat:=400
def LX:Nat:=401
def LY:Nat:=47
def LZ:Nat:=48
def YH:Nat:=158
def YI:Nat:=328
def YJ:Nat:=402
def YK:Nat:=151
def L6:Nat:=43
def YL:Nat:=403
def YM:Nat:=145
def YN:Nat:=179
def YO:Nat:=137
def L8:Nat:=374
def L9:Nat:=97
def YP:Nat:=187
def YQ:Nat:=280
def YR:Nat:=184
def YS:Nat:=279
def YT:Nat:=198
def Mc:Nat:=410
def Md:Nat:=411
def YU:Nat:=193
def YV:Nat:=412
def YW:Nat:=200
def YX:Nat:=134
def Me:Nat:=182
def YZ:Nat:=58
def MB:Nat:=372
def MC:Nat:=102
def Y0:Nat:=98
def Y1:Nat:=364
def Y2:Nat:=209
def Y3:Nat:=210
def MF:Nat:=218
def Y4:Nat:=206
def Y5:Nat:=207
def MG:Nat:=284
def Y6:Nat:=192
def Y7:Nat:=216
def Y8:Nat:=215
def Y9:Nat:=217
def MH:Nat:=415
def Za:Nat:=211
def Zb:Nat:=213
def Zc:Nat:=81
def MI:Nat:=387
def Zd:Nat:=388
def MJ:Nat:=356
def Ze:Nat:=220
def MK:Nat:=223
def Zg:Nat:=219
def ML:Nat:=285
def Zh:Nat:=208
def Zi:Nat:=212
def MN:Nat:=221
def Zj:Nat:=222
def Zk:Nat:=417
def Zl:Nat:=418
def MO:Nat:=419
def Zm:Nat:=396
def Zn:Nat:=224
def Zp:Nat:=225
def Zq:Nat:=227
def Zr:Nat:=228
def Zt:Nat:=245
def Zu:Nat:=229
def Zv:Nat:=231
def Zw:Nat:=232
def Zx:Nat:=233
def Zy:Nat:=234
def Zz:Nat:=235
def ZA:Nat:=236
def ZB:Nat:=237
def ZC:Nat:=240
def ZE:Nat:=241
def ZF:Nat:=243
def ZG:Nat:=247
def ZH:Nat:=246
def Γ:Env:=fun g=>
 match g with
 |398=>some aT
 |41=>some tC
 |399=>some tH
 |330=>some oz
 |400=>some oC
 |401=>some iY
 |47=>some jK
 |48=>some jm
 |158=>some oD
 |328=>some oG
 |402=>some oH
 |151=>some jV
 |43=>some iZ
 |403=>some oI
 |145=>some fF
 |179=>some dO
 |137=>some mV
 |374=>some iC
 |97=>some jL
 |187=>some qF
 |280=>some tJ
 |184=>some tK
 |279=>some tN
 |198=>some jc
 |410=>some tV
 |411=>some eP
 |193=>some tX
 |412=>some tY
 |200=>some jo
 |134=>some cZ
 |182=>some dh
 |58=>some tZ
 |372=>some iD
 |102=>some jq
 |98=>some uf
 |364=>some jM
 |209=>some fK
 |210=>some eU
 |218=>some jr
 |206=>some fZ
 |207=>some fG
 |284=>some eX
 |192=>some ug
 |216=>some jd
 |215=>some jv
 |217=>some mW
 |415=>some dB
 |211=>some jw
 |213=>some jy
 |81=>some uh
 |387=>some gK
 |388=>some uj
 |356=>some gY
 |220=>some um
 |223=>some dX
 |219=>some oJ
 |285=>some eG
 |208=>some jO
 |212=>some jP
 |221=>some eY
 |222=>some uo
 |417=>some jA
 |418=>some oK
 |419=>some iy
 |396=>some jQ
 |224=>some uq
 |225=>some lX
 |227=>some qG
 |228=>some bM
 |245=>some iV
 |229=>some je
 |231=>some gZ
 |232=>some fB
 |233=>some kF
 |234=>some bZ
 |235=>some uw
 |236=>some fP
 |237=>some bV
 |240=>some uy
 |241=>some mX
 |243=>some mY
 |247=>some uz
 |246=>some mZ
 | _=>none
theorem ZI:Γ 398=some aT:=rfl
theorem ZJ:Γ 41=some tC:=rfl
theorem ZK:Γ 399=some tH:=rfl
theorem ZL:Γ 330=some oz:=rfl
theorem ZM:Γ 400=some oC:=rfl
theorem ZN:Γ 401=some iY:=rfl
theorem ZO:Γ 47=some jK:=rfl
theorem ZP:Γ 48=some jm:=rfl
theorem ZQ:Γ 158=some oD:=rfl
theorem ZR:Γ 328=some oG:=rfl
theorem ZT:Γ 402=some oH:=rfl
theorem ZU:Γ 151=some jV:=rfl
theorem ZV:Γ 43=some iZ:=rfl
theorem ZW:Γ 403=some oI:=rfl
theorem ZX:Γ 145=some fF:=rfl
theorem ZY:Γ 179=some dO:=rfl
theorem Z5:Γ 137=some mV:=rfl
theorem Z7:Γ 374=some iC:=rfl
theorem Z8:Γ 97=some jL:=rfl
theorem Z9:Γ 187=some qF:=rfl
theorem aac:Γ 280=some tJ:=rfl
theorem aad:Γ 184=some tK:=rfl
theorem aae:Γ 279=some tN:=rfl
theorem aaf:Γ 198=some jc:=rfl
theorem aag:Γ 410=some tV:=rfl
theorem aah:Γ 411=some eP:=rfl
theorem aai:Γ 193=some tX:=rfl
theorem aaj:Γ 412=some tY:=rfl
theorem aak:Γ 200=some jo:=rfl
theorem aal:Γ 134=some cZ:=rfl
theorem aam:Γ 182=some dh:=rfl
theorem aan:Γ 58=some tZ:=rfl
theorem aao:Γ 372=some iD:=rfl
theorem aap:Γ 102=some jq:=rfl
theorem aaq:Γ 98=some uf:=rfl
theorem aar:Γ 364=some jM:=rfl
theorem aas:Γ 209=some fK:=rfl
theorem aat:Γ 210=some eU:=rfl
theorem aau:Γ 218=some jr:=rfl
theorem aav:Γ 206=some fZ:=rfl
theorem aaw:Γ 207=some fG:=rfl
theorem aax:Γ 284=some eX:=rfl
theorem aay:Γ 192=some ug:=rfl
theorem aaz:Γ 216=some jd:=rfl
theorem aaA:Γ 215=some jv:=rfl
theorem aaB:Γ 217=some mW:=rfl
theorem aaC:Γ 415=some dB:=rfl
theorem aaD:Γ 211=some jw:=rfl
theorem aaE:Γ 213=some jy:=rfl
theorem aaF:Γ 81=some uh:=rfl
theorem aaG:Γ 387=some gK:=rfl
theorem aaH:Γ 388=some uj:=rfl
theorem aaI:Γ 356=some gY:=rfl
theorem aaJ:Γ 220=some um:=rfl
theorem aaK:Γ 223=some dX:=rfl
theorem aaL:Γ 219=some oJ:=rfl
theorem aaM:Γ 285=some eG:=rfl
theorem aaN:Γ 208=some jO:=rfl
theorem aaO:Γ 212=some jP:=rfl
theorem aaP:Γ 221=some eY:=rfl
theorem aaQ:Γ 222=some uo:=rfl
theorem aaR:Γ 417=some jA:=rfl
theorem aaS:Γ 418=some oK:=rfl
theorem aaT:Γ 419=some iy:=rfl
theorem aaU:Γ 396=some jQ:=rfl
theorem aaV:Γ 224=some uq:=rfl
theorem aaW:Γ 225=some lX:=rfl
theorem aaX:Γ 227=some qG:=rfl
theorem aaY:Γ 228=some bM:=rfl
theorem aaZ:Γ 245=some iV:=rfl
theorem aa0:Γ 229=some je:=rfl
theorem aa1:Γ 231=some gZ:=rfl
theorem aa2:Γ 232=some fB:=rfl
theorem aa3:Γ 233=some kF:=rfl
theorem aa4:Γ 234=some bZ:=rfl
theorem aa5:Γ 235=some uw:=rfl
theorem aa6:Γ 236=some fP:=rfl
theorem aa7:Γ 237=some bV:=rfl
theorem aa8:Γ 240=some uy:=rfl
theorem aa9:Γ 241=some mX:=rfl
theorem abb:Γ 243=some mY:=rfl
theorem abd:Γ 247=some uz:=rfl
theorem abe:Γ 246=some mZ:=rfl
end Go.Am
