/- The table of functions. -/
import Derived.Test.YtkapkmjofpoebaaGreatAmCode1
set_option linter.unusedVariables false
namespace Go.Am
open Go
def SI:Nat:=436
def ad9:Nat:=41
def aea:Nat:=437
def aeb:Nat:=303
def aec:Nat:=302
def aed:Nat:=438
def TS:Nat:=13
def aee:Nat:=250
def aef:Nat:=265
def aeg:Nat:=439
def TT:Nat:=12
def aeh:Nat:=440
def aei:Nat:=294
def aej:Nat:=293
def aek:Nat:=43
def ael:Nat:=441
def aem:Nat:=55
def aen:Nat:=442
def Nr:Nat:=291
def Ns:Nat:=290
def aeo:Nat:=288
def aep:Nat:=287
def aer:Nat:=443
def Nu:Nat:=259
def Nv:Nat:=258
def TU:Nat:=97
def TV:Nat:=444
def aes:Nat:=98
def TW:Nat:=67
def aeu:Nat:=345
def TY:Nat:=68
def aev:Nat:=269
def aew:Nat:=280
def aex:Nat:=277
def aey:Nat:=346
def Ua:Nat:=347
def aez:Nat:=348
def Ub:Nat:=64
def Nw:Nat:=343
def aeA:Nat:=267
def aeB:Nat:=344
def ER:Nat:=284
def aeC:Nat:=276
def aeD:Nat:=69
def aeE:Nat:=70
def aeF:Nat:=268
def aeG:Nat:=273
def aeH:Nat:=65
def aeI:Nat:=66
def Uc:Nat:=445
def aeJ:Nat:=184
def Ud:Nat:=102
def Ue:Nat:=285
def aeK:Nat:=187
def Uf:Nat:=223
def aeL:Nat:=112
def aeM:Nat:=271
def aeN:Nat:=333
def aeO:Nat:=334
def aeP:Nat:=270
def aeQ:Nat:=111
def aeR:Nat:=209
def aeS:Nat:=332
def aeT:Nat:=275
def aeU:Nat:=331
def Ug:Nat:=446
def Uh:Nat:=387
def BG:Nat:=278
def Ui:Nat:=218
def aeV:Nat:=193
def aeW:Nat:=274
def aeX:Nat:=371
def aeY:Nat:=227
def Uj:Nat:=58
def aeZ:Nat:=370
def ae0:Nat:=272
def ae1:Nat:=282
def Uk:Nat:=374
def Ul:Nat:=447
def ae2:Nat:=388
def ae3:Nat:=206
def ae4:Nat:=207
def ae5:Nat:=210
def ae6:Nat:=362
def ae7:Nat:=279
def ae8:Nat:=220
def Jj:Nat:=361
def Jk:Nat:=360
def Um:Nat:=356
def ae9:Nat:=364
def afa:Nat:=219
def afb:Nat:=211
def afc:Nat:=213
def Un:Nat:=283
def afd:Nat:=378
def afe:Nat:=384
def aff:Nat:=245
def afg:Nat:=281
def Uo:Nat:=372
def afh:Nat:=448
def afi:Nat:=396
def afj:Nat:=192
def afk:Nat:=224
def afl:Nat:=225
def afm:Nat:=240
def afn:Nat:=241
def afo:Nat:=395
def afp:Nat:=208
def afq:Nat:=212
def afr:Nat:=228
def afs:Nat:=229
def aft:Nat:=231
def afu:Nat:=232
def afv:Nat:=233
def afw:Nat:=234
def afx:Nat:=235
def afy:Nat:=236
def afz:Nat:=237
def afA:Nat:=243
def afB:Nat:=247
def afC:Nat:=246
def Γ:Env:=fun g=>
 match g with
 |436=>some aQ
 |41=>some xZ
 |437=>some sQ
 |303=>some gZ
 |302=>some iC
 |438=>some kW
 |13=>some oz
 |250=>some sS
 |265=>some pK
 |439=>some vC
 |12=>some ny
 |440=>some bF
 |294=>some bH
 |293=>some bJ
 |43=>some kX
 |441=>some sU
 |55=>some mJ
 |442=>some yc
 |291=>some jC
 |290=>some fD
 |288=>some pO
 |287=>some pR
 |443=>some yg
 |259=>some jd
 |258=>some jD
 |97=>some mM
 |444=>some kC
 |98=>some yh
 |67=>some uF
 |345=>some dP
 |68=>some fO
 |269=>some fH
 |280=>some yj
 |277=>some jr
 |346=>some kK
 |347=>some yu
 |348=>some fP
 |64=>some gQ
 |343=>some iI
 |267=>some bU
 |344=>some yw
 |284=>some gU
 |276=>some jv
 |69=>some mO
 |70=>some jE
 |268=>some fJ
 |273=>some nC
 |65=>some nK
 |66=>some jK
 |445=>some oC
 |184=>some yx
 |102=>some lM
 |285=>some gy
 |187=>some vF
 |223=>some fK
 |112=>some sV
 |271=>some vG
 |333=>some gB
 |334=>some mP
 |270=>some vH
 |111=>some yA
 |209=>some iD
 |332=>some sW
 |275=>some pU
 |331=>some qX
 |446=>some jw
 |387=>some jy
 |278=>some je
 |218=>some lN
 |193=>some yB
 |274=>some yC
 |371=>some dD
 |227=>some vI
 |58=>some wM
 |370=>some jf
 |272=>some mQ
 |282=>some lQ
 |374=>some jS
 |447=>some gW
 |388=>some yD
 |206=>some iR
 |207=>some iy
 |210=>some gX
 |362=>some sZ
 |279=>some yE
 |220=>some yF
 |361=>some jA
 |360=>some dU
 |356=>some jF
 |364=>some mV
 |219=>some tq
 |211=>some lS
 |213=>some lT
 |283=>some iJ
 |378=>some lu
 |384=>some yG
 |245=>some kR
 |281=>some jL
 |372=>some jT
 |448=>some lU
 |396=>some mW
 |192=>some yH
 |224=>some yI
 |225=>some qF
 |240=>some yJ
 |241=>some qY
 |395=>some yK
 |208=>some mX
 |212=>some mY
 |228=>some dA
 |229=>some kY
 |231=>some jG
 |232=>some ig
 |233=>some nM
 |234=>some dJ
 |235=>some yL
 |236=>some iK
 |237=>some dH
 |243=>some qZ
 |247=>some yM
 |246=>some ru
 | _=>none
theorem afD:Γ 436=some aQ:=rfl
theorem afE:Γ 41=some xZ:=rfl
theorem afF:Γ 437=some sQ:=rfl
theorem Ur:Γ 303=some gZ:=rfl
theorem Us:Γ 302=some iC:=rfl
theorem afG:Γ 438=some kW:=rfl
theorem afH:Γ 13=some oz:=rfl
theorem afI:Γ 250=some sS:=rfl
theorem afJ:Γ 265=some pK:=rfl
theorem afK:Γ 439=some vC:=rfl
theorem afL:Γ 12=some ny:=rfl
theorem afM:Γ 440=some bF:=rfl
theorem afN:Γ 294=some bH:=rfl
theorem afO:Γ 293=some bJ:=rfl
theorem afP:Γ 43=some kX:=rfl
theorem afQ:Γ 441=some sU:=rfl
theorem afR:Γ 55=some mJ:=rfl
theorem afS:Γ 442=some yc:=rfl
theorem Ut:Γ 291=some jC:=rfl
theorem Uu:Γ 290=some fD:=rfl
theorem afT:Γ 288=some pO:=rfl
theorem afU:Γ 287=some pR:=rfl
theorem afV:Γ 443=some yg:=rfl
theorem Uw:Γ 259=some jd:=rfl
theorem Ux:Γ 258=some jD:=rfl
theorem afW:Γ 97=some mM:=rfl
theorem afX:Γ 444=some kC:=rfl
theorem afY:Γ 98=some yh:=rfl
theorem Uy:Γ 67=some uF:=rfl
theorem Uz:Γ 345=some dP:=rfl
theorem UA:Γ 68=some fO:=rfl
theorem afZ:Γ 269=some fH:=rfl
theorem af0:Γ 280=some yj:=rfl
theorem af2:Γ 277=some jr:=rfl
theorem af4:Γ 346=some kK:=rfl
theorem af5:Γ 347=some yu:=rfl
theorem af6:Γ 348=some fP:=rfl
theorem af7:Γ 64=some gQ:=rfl
theorem Jl:Γ 343=some iI:=rfl
theorem af8:Γ 267=some bU:=rfl
theorem af9:Γ 344=some yw:=rfl
theorem aga:Γ 284=some gU:=rfl
theorem agb:Γ 276=some jv:=rfl
theorem agc:Γ 69=some mO:=rfl
theorem agd:Γ 70=some jE:=rfl
theorem agf:Γ 268=some fJ:=rfl
theorem agh:Γ 273=some nC:=rfl
theorem agi:Γ 65=some nK:=rfl
theorem agj:Γ 66=some jK:=rfl
theorem agk:Γ 445=some oC:=rfl
theorem agl:Γ 184=some yx:=rfl
theorem agm:Γ 102=some lM:=rfl
theorem agn:Γ 285=some gy:=rfl
theorem agp:Γ 187=some vF:=rfl
theorem agq:Γ 223=some fK:=rfl
theorem agr:Γ 112=some sV:=rfl
theorem ags:Γ 271=some vG:=rfl
theorem agt:Γ 333=some gB:=rfl
theorem agu:Γ 334=some mP:=rfl
theorem agv:Γ 270=some vH:=rfl
theorem agw:Γ 111=some yA:=rfl
theorem agx:Γ 209=some iD:=rfl
theorem agy:Γ 332=some sW:=rfl
theorem agz:Γ 275=some pU:=rfl
theorem agA:Γ 331=some qX:=rfl
theorem agB:Γ 446=some jw:=rfl
theorem agC:Γ 387=some jy:=rfl
theorem agD:Γ 278=some je:=rfl
theorem agE:Γ 218=some lN:=rfl
theorem agF:Γ 193=some yB:=rfl
theorem agG:Γ 274=some yC:=rfl
theorem agH:Γ 371=some dD:=rfl
theorem agI:Γ 227=some vI:=rfl
theorem UC:Γ 58=some wM:=rfl
theorem agJ:Γ 370=some jf:=rfl
theorem agK:Γ 272=some mQ:=rfl
theorem agL:Γ 282=some lQ:=rfl
theorem agM:Γ 374=some jS:=rfl
theorem agN:Γ 447=some gW:=rfl
theorem agO:Γ 388=some yD:=rfl
theorem agP:Γ 206=some iR:=rfl
theorem agQ:Γ 207=some iy:=rfl
theorem agR:Γ 210=some gX:=rfl
theorem agS:Γ 362=some sZ:=rfl
theorem agT:Γ 279=some yE:=rfl
theorem agU:Γ 220=some yF:=rfl
theorem agV:Γ 361=some jA:=rfl
theorem agW:Γ 360=some dU:=rfl
theorem agX:Γ 356=some jF:=rfl
theorem agY:Γ 364=some mV:=rfl
theorem agZ:Γ 219=some tq:=rfl
theorem ag0:Γ 211=some lS:=rfl
theorem ag1:Γ 213=some lT:=rfl
theorem UD:Γ 283=some iJ:=rfl
theorem ag3:Γ 378=some lu:=rfl
theorem ag4:Γ 384=some yG:=rfl
theorem ag5:Γ 245=some kR:=rfl
theorem ag6:Γ 281=some jL:=rfl
theorem ag7:Γ 372=some jT:=rfl
theorem ag8:Γ 448=some lU:=rfl
theorem ag9:Γ 396=some mW:=rfl
theorem aha:Γ 192=some yH:=rfl
theorem ahb:Γ 224=some yI:=rfl
theorem ahc:Γ 225=some qF:=rfl
theorem ahd:Γ 240=some yJ:=rfl
theorem ahe:Γ 241=some qY:=rfl
theorem ahf:Γ 395=some yK:=rfl
theorem ahg:Γ 208=some mX:=rfl
theorem ahh:Γ 212=some mY:=rfl
theorem ahj:Γ 228=some dA:=rfl
theorem ahk:Γ 229=some kY:=rfl
theorem ahl:Γ 231=some jG:=rfl
theorem ahm:Γ 232=some ig:=rfl
theorem ahn:Γ 233=some nM:=rfl
theorem aho:Γ 234=some dJ:=rfl
theorem ahp:Γ 235=some yL:=rfl
theorem ahq:Γ 236=some iK:=rfl
theorem ahr:Γ 237=some dH:=rfl
theorem ahs:Γ 243=some qZ:=rfl
theorem aht:Γ 247=some yM:=rfl
theorem ahu:Γ 246=some ru:=rfl
end Go.Am
