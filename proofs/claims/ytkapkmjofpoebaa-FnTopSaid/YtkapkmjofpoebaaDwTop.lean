/- FnTop, in the second machine. -/
import Derived.Test.YtkapkmjofpoebaaDpG8
import Derived.Test.YtkapkmjofpoebaaDpG6
import Derived.Test.YtkapkmjofpoebaaDpG4
import Derived.Test.YtkapkmjofpoebaaDpG3
set_option linter.unusedVariables false
set_option linter.unusedSimpArgs false
set_option linter.unusedSectionVars false
namespace Go.Bm
open Go Go.Am
theorem UY {n:Int} {b w:List Nat}:(kX n b w).length≤3∧ ∀xs∈kX n b w,xs.length≤100:=by
 by_cases hd:aZ n b w
 ·obtain ⟨m,rfl,hm1,hm2⟩:=hd.n0
  rw [kX,if_pos hd,Int.toNat_natCast]
  refine ⟨by simp [pass],fun xs hx=>?_⟩
  simp only [pass,List.mem_cons,List.not_mem_nil,or_false] at hx
  rcases hx with rfl|rfl|rfl
  ·exact sD hd.1
  ·exact sD hd.2.1
  ·exact sD (qX hd.1 hd.2.1)
 ·rw [kX,if_neg hd]
  simp
theorem UZ {x:Bool} {H:BH} {K:Value→BH→Prop} {xs:List (List Nat)} (h1:xs.length≤3) (h2: ∀y∈xs,y.length≤100) (hK:K (.bool true) H):aQ x LX [mF xs,mF xs] H K:=by
 rw [show mF xs=vU (xs.map sF) from aeY]
 have hm: ∀ys∈xs.map sF,ys.length<4611686018427387904:=fun ys hy=>by
  obtain ⟨u,hu,rfl⟩:=List.mem_map.1 hy
  rw [EL]
  have:=h2 u hu
  omega
 refine aeZ (by simp;omega) (by simp;omega) hm hm ?_
 rw [decide_eq_true rfl]
 exact hK
theorem I7 {x:Bool} {H:BH} {K:Value→BH→Prop} {xs:List Nat} (h2:xs.length≤100) (hK:K (.bool true) H):aQ x L6 [FN xs,FN xs] H K:=by
 rw [U0]
 refine U1 (by rw [EL];omega) (by rw [EL];omega) ?_
 rw [decide_eq_true rfl]
 exact hK
theorem ae0 {n:Nat} {b w p:List Nat} (hd:aZ n b w) (hb:PN n b) (hw:PN n w) (hp:PN n p) {f:Fr} (g3:f 3=P 0 0) (g14:f 14=P 1 0) (g4:f 4=mF (pass b w n)):
  T 0 (.seq aT.DW (.seq aT.DX (.seq aT.MP (.seq aT.r32 (.seq aT.MQ (.seq aT.MR (.seq (.seq aT.MS (.cond (.t 203) (.seq aT.MV .ret) .skip)) (.seq aT.MW (.seq aT.MX (.seq (.seq aT.MZ (.cond (.t 254) (.seq aT.Na .ret) .skip)) (.seq aT.Nb (.seq (.seq aT.Nc (.cond (.t 261) (.seq aT.Nh .ret) .skip)) (.seq (.seq aT.Nj (.cond (.t 264) (.seq aT.Nk .ret) .skip)) (.seq aT.Nl (.seq aT.Np (.seq aT.Nq (.seq aT.Nr .ret))))))))))))))))) (pU 0 [.tmp 2] fun v _=>v= .bool true) f [some (DC n b w),some (DC n (dJ b p n) (dJ w p n))]:=by
 have hz:=ji
 have hn:=hb.n16
 have hlb:=hb.len
 have dI:=hw.len
 have hd':=EM hd hp.perm
 have hb':PN n (dJ b p n):=⟨hd'.1,o8⟩
 have hw':PN n (dJ w p n):=⟨hd'.2.1,o8⟩
 have ae1:=ae2 hd hp.perm
 have hcan:=ae3 hd hp.perm
 have hord:=fun N M=> @ae4 n b w p N M hb hw hp
 have I8:=hb'.len
 have I9:=hw'.len
 generalize dJ b p n=b' at*
 generalize dJ w p n=w' at*
 have hpl:= @UY n b w
 rw [kX,if_pos hd,Int.toNat_natCast] at hpl
 have r1:kX n b' w'=pass b w n:=by rw [kX,if_pos hd',Int.toNat_natCast,ae1]
 have r2:qY n b' w'=0:=if_pos hd'
 have r3:wF n b w n b' w'=(true,0):=by
  rw [wF,if_pos ⟨hd,hd'⟩,Int.toNat_natCast,U2 hd hd',hcan]
  simp
 have r4:lJ n b' w'=lJ n b w:=by rw [lJ,if_pos hd',lJ,if_pos hd,Int.toNat_natCast,hcan]
 have r5:(lJ n b w).2=0:=by rw [lJ,if_pos hd]
 have hcb:=ae5 (n:=n) hb.by hw.by
 refine au fun Kr hKr=>?_;simp (disch:=omega) only [RA,↓reduceIte,Nat.reduceEqDiff,RD,g14,aF,aU]
 refine Ja hb'.by hw'.by ?_
 rw [r1,r2]
 simp (disch:=omega) only [RA,↓reduceIte,Nat.reduceEqDiff,RD]
 refine hKr _ _ ?_;clear hKr Kr;(try simp only [aK,aP,aN]);(try simp only [RN,reduceIte]);try refine ah rfl ?_
 refine au fun Kr hKr=>?_;simp (disch:=omega) only [RA,↓reduceIte,Nat.reduceEqDiff,RD,g3,g14,aF,aU]
 refine ae6 hb.by hw.by hb'.by hw'.by ?_
 rw [r3]
 simp (disch:=omega) only [RA,↓reduceIte,Nat.reduceEqDiff,RD]
 refine hKr _ _ ?_;clear hKr Kr;(try simp only [aK,aP,aN]);(try simp only [RN,reduceIte]);try refine ah rfl ?_
 obtain ⟨c,hc⟩: ∃c,lJ n b w=c:=⟨_,rfl⟩
 rw [hc] at hcb r4 r5
 have lc1:=hcb.1.len
 have lc2:=hcb.2.len
 refine au fun Kr hKr=>?_;simp (disch:=omega) only [RA,↓reduceIte,Nat.reduceEqDiff,RD,g3,aF,aU]
 refine U3 hb.by hw.by ?_
 rw [hc]
 simp (disch:=omega) only [RA,↓reduceIte,Nat.reduceEqDiff,Nat.reduceAdd,RD,aF,aU]
 refine hKr _ _ ?_;clear hKr Kr;(try simp only [aK,aP,aN]);(try simp only [RN,reduceIte]);try refine ah rfl ?_
 refine au fun Kr hKr=>?_;simp (disch:=omega) only [RA,↓reduceIte,Nat.reduceEqDiff,RD,g14,aF,aU]
 refine U3 hb'.by hw'.by ?_
 rw [r4]
 simp (disch:=omega) only [RA,↓reduceIte,Nat.reduceEqDiff,Nat.reduceAdd,RD,aF,aU]
 refine hKr _ _ ?_;clear hKr Kr;(try simp only [aK,aP,aN]);(try simp only [RN,reduceIte]);try refine ah rfl ?_
 refine au fun Kr hKr=>?_;simp (disch:=omega) only [RA,↓reduceIte,Nat.reduceEqDiff,RD,g3,aF,aU]
 refine U4 hd hlb dI fun N hN1 gB=>?_
 simp (disch:=omega) only [RA,↓reduceIte,Nat.reduceEqDiff,RD]
 refine hKr _ _ ?_;clear hKr Kr;(try simp only [aK,aP,aN]);(try simp only [RN,reduceIte]);try refine ah rfl ?_
 refine au fun Kr hKr=>?_;simp (disch:=omega) only [RA,↓reduceIte,Nat.reduceEqDiff,RD,g14,aF,aU]
 refine U4 hd' I8 I9 fun M hM1 hM2=>?_
 obtain rfl:=hord N M hN1 hM1
 simp (disch:=omega) only [RA,↓reduceIte,Nat.reduceEqDiff,RD]
 refine hKr _ _ ?_;clear hKr Kr;(try simp only [aK,aP,aN]);(try simp only [RN,reduceIte]);try refine ah rfl ?_
 refine au fun Kr hKr=>?_;simp (disch:=omega) only [RA,↓reduceIte,Nat.reduceEqDiff,RD,g4,r5,aF,aU,Jb]
 refine UZ hpl.1 hpl.2 ?_
 simp (disch:=omega) only [RA,↓reduceIte,Nat.reduceEqDiff,RD,g4,r5,aF,aU,Jb]
 refine hKr _ _ ?_;clear hKr Kr;(try simp only [aK,aP,aN]);(try simp only [RN,reduceIte]);try refine ah rfl ?_
 refine dG (t:=false) (by simp (disch:=omega) only [RA,↓reduceIte,Nat.reduceEqDiff,RD]) ?_;(try simp only [RN,reduceIte]);try refine ah rfl ?_
 have hfd:=ae7 hd hb hw
 have hfp:PN n (eH b w n):=⟨hfd.2.1,(hb.mul hw).inv.len⟩
 have hfl:=hfp.len
 have hexp:=ae8 hb hw
 have e2:qZ n b w 2=(((n:Int),w,eH b w n),(0:Int)):=by
  rw [qZ,if_neg (by simpa using hd),if_neg (by omega),Int.toNat_natCast]
  rfl
 have e3:kX n w (eH b w n)=[typ w n,typ (eH b w n) n,typ b n]:=by rw [kX,if_pos hfd,Int.toNat_natCast,hexp]
 have e4:qY n w (eH b w n)=0:=if_pos hfd
 refine au fun Kr hKr=>?_;simp (disch:=omega) only [RA,↓reduceIte,Nat.reduceEqDiff,RD,g3,aF,aU]
 refine ae9 hb.by hw.by ?_
 rw [e2]
 simp (disch:=omega) only [RA,↓reduceIte,Nat.reduceEqDiff,Nat.reduceAdd,RD,aF,aU]
 refine hKr _ _ ?_;clear hKr Kr;(try simp only [aK,aP,aN]);(try simp only [RN,reduceIte]);try refine ah rfl ?_
 refine au fun Kr hKr=>?_;simp (disch:=omega) only [RA,↓reduceIte,Nat.reduceEqDiff,RD,aF,aU]
 refine Ja hw.by hfp.by ?_
 rw [e3,e4]
 simp (disch:=omega) only [RA,↓reduceIte,Nat.reduceEqDiff,RD]
 refine hKr _ _ ?_;clear hKr Kr;(try simp only [aK,aP,aN]);(try simp only [RN,reduceIte]);try refine ah rfl ?_
 have t0:=sD hd.1
 have t1:=sD hd.2.1
 have t2:=sD (qX hd.1 hd.2.1)
 have m0:aY none [FN (typ w n),FN (typ (eH b w n) n),FN (typ b n)] 0=some (FN (typ w n)):=rfl
 have m1:aY none [FN (typ w n),FN (typ (eH b w n) n),FN (typ b n)] 1=some (FN (typ (eH b w n) n)):=rfl
 have m2:aY none [FN (typ w n),FN (typ (eH b w n) n),FN (typ b n)] 2=some (FN (typ b n)):=rfl
 have p0:aY none ((pass b w n).map FN) 0=some (FN (typ b n)):=rfl
 have p1:aY none ((pass b w n).map FN) 1=some (FN (typ w n)):=rfl
 have p2:aY none ((pass b w n).map FN) 2=some (FN (typ (eH b w n) n)):=rfl
 have l3:(pass b w n).length=3:=rfl
 have l3':[typ w n,typ (eH b w n) n,typ b n].length=3:=rfl
 simp only [l3,mF] at g4
 generalize ((pass b w n).map FN)=ps at p0 p1 p2 g4
 refine au fun Kr hKr=>?_;simp (disch:=omega) only [RA,↓reduceIte,Nat.reduceEqDiff,Nat.reduceSub,Nat.reduceAdd,Nat.reduceLT,Int.reduceToNat,RD,g4,m0,m1,m2,p0,p1,p2]
 refine I7 t1 ?_
 simp (disch:=omega) only [RA,↓reduceIte,Nat.reduceEqDiff,Int.reduceToNat,RD,g4,m0,m1,m2,p0,p1,p2]
 refine I7 t2 ?_
 simp (disch:=omega) only [RA,↓reduceIte,Nat.reduceEqDiff,Int.reduceToNat,RD,g4,m0,m1,m2,p0,p1,p2]
 refine I7 t0 ?_
 simp (disch:=omega) only [RA,↓reduceIte,Nat.reduceEqDiff,RD]
 refine hKr _ _ ?_;clear hKr Kr;(try simp only [aK,aP,aN]);(try simp only [RN,reduceIte]);try refine ah rfl ?_
 refine dG (t:=false) (by simp (disch:=omega) only [RA,↓reduceIte,Nat.reduceEqDiff,RD]) ?_;(try simp only [RN,reduceIte]);try refine ah rfl ?_
 refine au fun Kr hKr=>?_;simp (disch:=omega) only [RA,↓reduceIte,Nat.reduceEqDiff,RD,g3,aF,aU]
 refine afa hb.by hw.by hd ?_
 obtain ⟨q1,q2,q3,q4⟩:=afb hd hb hw (e:=lK b w n) rfl
 have hq: -16≤(lK b w n).tdiv 2∧(lK b w n).tdiv 2≤48:=by omega
 generalize lK b w n=e at*
 generalize e.tdiv 2=eh at*
 simp (disch:=omega) only [RA,↓reduceIte,Nat.reduceEqDiff,RD]
 refine hKr _ _ ?_;clear hKr Kr;(try simp only [aK,aP,aN]);(try simp only [RN,reduceIte]);try refine ah rfl ?_
 refine au fun Kr hKr=>?_;simp (disch:=omega) only [RA,↓reduceIte,Nat.reduceEqDiff,RD];refine hKr _ _ ?_;clear hKr Kr;(try simp only [RN,reduceIte]);try refine ah rfl ?_
 refine dG (t:=false) (by simp (disch:=omega) only [RA,↓reduceIte,Nat.reduceEqDiff,RD]) ?_;(try simp only [RN,reduceIte]);try refine ah rfl ?_
 refine au fun Kr hKr=>?_;simp (disch:=omega) only [RA,↓reduceIte,Nat.reduceEqDiff,RD,g3,aF];refine hKr _ _ ?_;clear hKr Kr;(try simp only [RN,reduceIte]);try refine ah rfl ?_
 refine aX (p:=8<n) (by simp only [RA,↓reduceIte,Nat.reduceEqDiff]<;>rfl) (by (try simp only [RB])<;>first|done|exact Iff.rfl|omega|simp) (fun hc=>?_) (fun hc=>?_)<;>(try simp only [RN,reduceIte])<;>(try refine ah rfl ?_)
 ·refine au fun Kr hKr=>?_;simp (disch:=omega) only [RA,↓reduceIte,Nat.reduceEqDiff,RD];refine hKr _ _ ?_;clear hKr Kr;(try simp only [RN,reduceIte]);try refine ah rfl ?_
  refine aS (by simp (disch:=omega) only [RA,↓reduceIte,Nat.reduceEqDiff,RD,aG,aO];rfl) aC.refl ?_;simp only [aH]
 have Jc:n≤8:=by omega
 have u1:vg n b w=(((2*(n:Int)),iF b w n n,iT n n),(0:Int)):=by
  rw [vg,if_neg (by simpa using hd),if_neg (by omega),Int.toNat_natCast]
 have hsd:=U5 hd Jc
 have hsl:= @Jd b w n n
 have hsl2:= @Je n n
 have hsb:PN (2*n) (iF b w n n):=⟨hsd.1,hsl⟩
 have hsw:PN (2*n) (iT n n):=⟨hsd.2.1,hsl2⟩
 have u2:nX ((2*n:Nat):Int) (iF b w n n) (iT n n)=((((2*(2*n):Nat):Int),dV (iF b w n n) (iT n n) (2*n)),(0:Int)):=by
  rw [nX,if_neg (by simpa using hsd),if_neg (fun h=>h (by rw [Int.toNat_natCast];exact U6 Jc)),Int.toNat_natCast]
  congr 2
 have u3:=afc hd hlb dI Jc
 have u4:= @vk (iF b w n n) (iT n n) (2*n)
 have u5:=afd (n:=((2*n:Nat):Int)) hsb.by hsw.by
 rw [u2] at u5
 simp only at u5
 have hcast:2*(n:Int)=((2*n:Nat):Int):=by omega
 rw [hcast] at u1
 refine au fun Kr hKr=>?_;simp (disch:=omega) only [RA,↓reduceIte,Nat.reduceEqDiff,RD,g3,aF,aU]
 refine afe hb.by hw.by ?_
 rw [u1]
 simp (disch:=omega) only [RA,↓reduceIte,Nat.reduceEqDiff,Nat.reduceAdd,RD,aF,aU]
 refine hKr _ _ ?_;clear hKr Kr;(try simp only [aK,aP,aN]);(try simp only [RN,reduceIte]);try refine ah rfl ?_
 refine au fun Kr hKr=>?_;simp (disch:=omega) only [RA,↓reduceIte,Nat.reduceEqDiff,RD,aF,aU]
 refine aff hsb.by hsw.by ?_
 rw [u2]
 generalize dV (iF b w n n) (iT n n) (2*n)=fl at*
 obtain ⟨v1,v2,v3⟩:=u4
 have hz32:=EN
 simp (disch:=omega) only [RA,↓reduceIte,Nat.reduceEqDiff,Nat.reduceAdd,RD,gJ,jT]
 refine hKr _ _ ?_;clear hKr Kr;(try simp only [aK,aP,aN]);(try simp only [RN,reduceIte]);try refine ah rfl ?_
 refine au fun Kr hKr=>?_;simp (disch:=omega) only [RA,↓reduceIte,Nat.reduceEqDiff,RD,gJ,jT]
 refine afg u5.1 u5.2.1 u5.2.2 ?_
 rw [u3,q1]
 simp (disch:=omega) only [RA,↓reduceIte,Nat.reduceEqDiff,RD]
 refine hKr _ _ ?_;clear hKr Kr;(try simp only [aK,aP,aN]);(try simp only [RN,reduceIte]);try refine ah rfl ?_
 have u6:(2:Int)-2*(1-eh)=e:=q2
 refine au fun Kr hKr=>?_;simp (disch:=omega) only [RA,↓reduceIte,Nat.reduceEqDiff,RD,u6];refine hKr _ _ ?_;clear hKr Kr;(try simp only [RN,reduceIte]);try refine ah rfl ?_
 refine aS (by simp (disch:=omega) only [RA,↓reduceIte,Nat.reduceEqDiff,RD,aG,aO];rfl) aC.refl ?_;simp only [aH]
theorem Yf {code:List Nat} (hcd: ∀i,nl code i<256):
  aQ false KO [FB code] [] fun v _=>v= .bool true:=by
 have hz:=ji
 refine bF ZI ?_;simp only [aT,aI]
 refine au fun Kr hKr=>?_;simp (disch:=omega) only [RA,↓reduceIte,Nat.reduceEqDiff,RD];refine hKr _ _ ?_;clear hKr Kr;(try simp only [RN,reduceIte]);try refine ah rfl ?_
 refine au fun Kr hKr=>?_;simp (disch:=omega) only [RA,↓reduceIte,Nat.reduceEqDiff,RD]
 refine afh ?_
 simp (disch:=omega) only [RA,↓reduceIte,Nat.reduceEqDiff,RD]
 refine hKr _ _ ?_;clear hKr Kr;(try simp only [aK,aP,aN]);(try simp only [RN,reduceIte]);try refine ah rfl ?_
 refine aX (p:=4096<code.length) (by simp only [RA,↓reduceIte,Nat.reduceEqDiff]<;>rfl) (by (try simp only [RB])<;>first|done|exact Iff.rfl|omega|simp) (fun hc=>?_) (fun hc=>?_)<;>(try simp only [RN,reduceIte])<;>(try refine ah rfl ?_)
 ·refine au fun Kr hKr=>?_;simp (disch:=omega) only [RA,↓reduceIte,Nat.reduceEqDiff,RD];refine hKr _ _ ?_;clear hKr Kr;(try simp only [RN,reduceIte]);try refine ah rfl ?_
  refine aS (by simp (disch:=omega) only [RA,↓reduceIte,Nat.reduceEqDiff,RD,aG,aO];rfl) aC.refl ?_;simp only [aH]
 have hl:code.length≤1048576:=by omega
 refine au fun Kr hKr=>?_;simp (disch:=omega) only [RA,↓reduceIte,Nat.reduceEqDiff,RD,aF]
 refine afi hl hcd fun n b w hb hw hn=>?_
 have hlb:=hb.len
 have dI:=hw.len
 have hpl:= @UY n b w
 simp (disch:=omega) only [RA,↓reduceIte,Nat.reduceEqDiff,RD,aF,aU]
 refine hKr _ _ ?_;clear hKr Kr;(try simp only [aK,aP,aN]);(try simp only [RN,reduceIte]);try refine ah rfl ?_
 refine au fun Kr hKr=>?_;simp (disch:=omega) only [RA,↓reduceIte,Nat.reduceEqDiff,RD,aF,aU]
 refine Ja hb hw ?_
 simp (disch:=omega) only [RA,↓reduceIte,Nat.reduceEqDiff,RD,aF,aU]
 refine hKr _ _ ?_;clear hKr Kr;(try simp only [aK,aP,aN]);(try simp only [RN,reduceIte]);try refine ah rfl ?_
 refine au fun Kr hKr=>?_;simp (disch:=omega) only [RA,↓reduceIte,Nat.reduceEqDiff,RD,aF,aU]
 refine afj hb hw ?_
 simp (disch:=omega) only [RA,↓reduceIte,Nat.reduceEqDiff,RD,aF,aU]
 refine hKr _ _ ?_;clear hKr Kr;(try simp only [aK,aP,aN]);(try simp only [RN,reduceIte]);try refine ah rfl ?_
 refine au fun Kr hKr=>?_;simp (disch:=omega) only [RA,↓reduceIte,Nat.reduceEqDiff,RD]
 refine UZ hpl.1 hpl.2 ?_
 simp (disch:=omega) only [RA,↓reduceIte,Nat.reduceEqDiff,RD]
 refine hKr _ _ ?_;clear hKr Kr;(try simp only [aK,aP,aN]);(try simp only [RN,reduceIte]);try refine ah rfl ?_
 refine dG (t:=false) (by simp (disch:=omega) only [RA,↓reduceIte,Nat.reduceEqDiff,RD]) ?_;(try simp only [RN,reduceIte]);try refine ah rfl ?_
 by_cases hnd: ¬aZ n b w
 ·have hpc:qY n b w=1:=if_neg hnd
  refine au fun Kr hKr=>?_;simp (disch:=omega) only [RA,↓reduceIte,Nat.reduceEqDiff,RD,hpc];refine hKr _ _ ?_;clear hKr Kr;(try simp only [RN,reduceIte]);try refine ah rfl ?_
  refine dG (t:=true) (by simp (disch:=omega) only [RA,↓reduceIte,Nat.reduceEqDiff,RD]) ?_;(try simp only [RN,reduceIte]);try refine ah rfl ?_
  refine au fun Kr hKr=>?_;simp (disch:=omega) only [RA,↓reduceIte,Nat.reduceEqDiff,RD];refine hKr _ _ ?_;clear hKr Kr;(try simp only [RN,reduceIte]);try refine ah rfl ?_
  refine aS (by simp (disch:=omega) only [RA,↓reduceIte,Nat.reduceEqDiff,RD,aG,aO];rfl) aC.refl ?_;simp only [aH]
 have hd:=Decidable.not_not.1 hnd
 clear hnd
 have hpc:qY n b w=0:=if_pos hd
 obtain ⟨m,rfl,hm1,hm2⟩:=hd.n0
 have hpr:kX m b w=pass b w m:=by rw [kX,if_pos hd,Int.toNat_natCast]
 refine au fun Kr hKr=>?_;simp (disch:=omega) only [RA,↓reduceIte,Nat.reduceEqDiff,RD,hpc];refine hKr _ _ ?_;clear hKr Kr;(try simp only [RN,reduceIte]);try refine ah rfl ?_
 refine dG (t:=false) (by simp (disch:=omega) only [RA,↓reduceIte,Nat.reduceEqDiff,RD]) ?_;(try simp only [RN,reduceIte]);try refine ah rfl ?_
 clear hpl
 refine au fun Kr hKr=>?_;simp (disch:=omega) only [RA,↓reduceIte,Nat.reduceEqDiff,RD]
 refine afk hl hcd fun h=>?_
 simp (disch:=omega) only [RA,↓reduceIte,Nat.reduceEqDiff,RD]
 refine hKr _ _ ?_;clear hKr Kr;(try simp only [aK,aP,aN]);(try simp only [RN,reduceIte]);try refine ah rfl ?_
 refine au fun Kr hKr=>?_;simp (disch:=omega) only [RA,↓reduceIte,Nat.reduceEqDiff,RD,ji,aF];refine hKr _ _ ?_;clear hKr Kr;(try simp only [RN,reduceIte]);try refine ah rfl ?_
 refine au fun Kr hKr=>?_;simp (disch:=omega) only [RA,↓reduceIte,Nat.reduceEqDiff,RD];refine hKr _ _ ?_;clear hKr Kr;(try simp only [RN,reduceIte]);try refine ah rfl ?_
 rw [hpr]
 refine bU (fun k f H'=> ∃i:Nat,i≤m∧k=m-i∧f 3=P 0 0∧f 4=mF (pass b w m)∧f 8=P 1 0∧f 9=P 2 0∧f 10=I i∧H'=[some (DC m b w),some (SC code 0 h),some ((dQ i).map N8)]) (m) ?_ ?_
 ·refine ⟨_,_,Gh.refl,0,by omega,by omega,?_,?_,?_,?_,?_,rfl⟩
  any_goals (simp (disch:=omega) only [RA,↓reduceIte,Nat.reduceEqDiff,RD,RE, *]<;>rfl)
 ·rintro k f H' R ⟨i,hi,rfl,g3,g4,g8,g9,g10,rfl⟩ hN hX hR hE
  simp only [aT.l0,aI]
  have hlk:= @mG i
  refine au fun Kr hKr=>?_;simp (disch:=omega) only [RA,↓reduceIte,Nat.reduceEqDiff,RD,g3,g10,aF];refine hKr _ _ ?_;clear hKr Kr;(try simp only [RN,reduceIte]);try refine ah rfl ?_
  refine aX (p:=i<m) (by simp only [RA,↓reduceIte,Nat.reduceEqDiff]<;>rfl) (by (try simp only [RB])<;>first|done|exact Iff.rfl|omega|simp) (fun hc=>?_) (fun hc=>?_)<;>(try simp only [RN,reduceIte])<;>(try refine ah rfl ?_)
  ·have hil:i<m:=by assumption
   (first|refine bP rfl ?_|refine bQ rfl ?_);(try simp only [RN,reduceIte]);try refine ah rfl ?_
   refine au fun Kr hKr=>?_;simp (disch:=omega) only [RA,↓reduceIte,Nat.reduceEqDiff,RD,g9,g10,hlk];refine hKr _ _ ?_;clear hKr Kr;(try simp only [RN,reduceIte]);try refine ah rfl ?_
   refine bH fun Kr hKr=>?_;simp (disch:=omega) only [RA,↓reduceIte,Nat.reduceEqDiff,RD,g10];refine hKr _ _ ?_;clear hKr Kr
   refine hN (m-(i+1)) _ _ _ _ (by omega) Gh.refl ⟨i+1,by omega,rfl,?_,?_,?_,?_,?_,rfl⟩
   any_goals (simp (disch:=omega) only [RA,↓reduceIte,Nat.reduceEqDiff,RD,RE, *]<;>rfl)
  ·refine hX _ _ ?_
   (try simp only [RN,reduceIte]);try refine ah rfl ?_
   obtain rfl:i=m:=by omega
   refine au fun Kr hKr=>?_;simp (disch:=omega) only [RA,↓reduceIte,Nat.reduceEqDiff,RD,g3,aF];refine hKr _ _ ?_;clear hKr Kr;(try simp only [RN,reduceIte]);try refine ah rfl ?_
   have e1:(i:Int)-1=((i-1:Nat):Int):=by omega
   refine bU (fun k f H'=> ∃(j:Nat) (p:List Nat) (a:Nat) (h:Int),j<i∧k=j∧PN i p∧a≤code.length∧f 3=P 0 0∧f 4=mF (pass b w i)∧f 8=P 1 0∧f 9=P 2 0∧f 11=I j∧H'=[some (DC i b w),some (SC code a h),some (p.map N8)]) (i-1) ?_ ?_
   ·refine ⟨_,_,Gh.refl,i-1,dQ i,0,h,by omega,by omega, .one ⟨by omega,by omega⟩,by omega,?_,?_,?_,?_,by simp (disch:=omega) only [RA,↓reduceIte,Nat.reduceEqDiff,RD,RE,e1, *]<;>rfl,rfl⟩
    any_goals (simp (disch:=omega) only [RA,↓reduceIte,Nat.reduceEqDiff,RD,RE, *]<;>rfl)
   ·clear g3 g4 g8 g9 g10
    rintro k f H' R2 ⟨j,p,a,h,hj,rfl,hp,ha,g3,g4,g8,g9,g11,rfl⟩ gB hX2 hR2 hE2
    simp only [aT.l1,aI]
    have hlp:=hp.len
    refine au fun Kr hKr=>?_;simp (disch:=omega) only [RA,↓reduceIte,Nat.reduceEqDiff,RD,g11];refine hKr _ _ ?_;clear hKr Kr;(try simp only [RN,reduceIte]);try refine ah rfl ?_
    refine aX (p:=0<k) (by simp only [RA,↓reduceIte,Nat.reduceEqDiff]<;>rfl) (by (try simp only [RB])<;>first|done|exact Iff.rfl|omega|simp) (fun hc=>?_) (fun hc=>?_)<;>(try simp only [RN,reduceIte])<;>(try refine ah rfl ?_)
    ·have hk0:0<k:=by assumption
     (first|refine bP rfl ?_|refine bQ rfl ?_);(try simp only [RN,reduceIte]);try refine ah rfl ?_
     refine au fun Kr hKr=>?_;simp (disch:=omega) only [RA,↓reduceIte,Nat.reduceEqDiff,RD,g8,g11]
     refine afl (i:=1) rfl ha hl hcd (by omega) fun v a h ha k2 k3 k4 k5=>?_
     have hv:=k4 (by omega)
     obtain ⟨u,rfl⟩: ∃u:Nat,v=u:=⟨v.toNat,by omega⟩
     simp (disch:=omega) only [RA,↓reduceIte,Nat.reduceEqDiff,RD]
     refine hKr _ _ ?_;clear hKr Kr;(try simp only [aK,aP,aN]);(try simp only [RN,reduceIte]);try refine ah rfl ?_
     have hl2:(p.set k (nl p u)).length=16:=by simp [hlp]
     refine au fun Kr hKr=>?_;simp (disch:=omega) only [RA,↓reduceIte,Nat.reduceEqDiff,RD,g9,g11,hlp];refine hKr _ _ ?_;clear hKr Kr;(try simp only [RN,reduceIte]);try refine ah rfl ?_
     refine au fun Kr hKr=>?_;simp (disch:=omega) only [RA,↓reduceIte,Nat.reduceEqDiff,RD,g9,g11,hlp];refine hKr _ _ ?_;clear hKr Kr;(try simp only [RN,reduceIte]);try refine ah rfl ?_
     refine au fun Kr hKr=>?_;simp (disch:=omega) only [RA,↓reduceIte,Nat.reduceEqDiff,RD,g9,g11,hl2];refine hKr _ _ ?_;clear hKr Kr;(try simp only [RN,reduceIte]);try refine ah rfl ?_
     have e2:(k:Int)-1=((k-1:Nat):Int):=by omega
     refine bH fun Kr hKr=>?_;simp (disch:=omega) only [RA,↓reduceIte,Nat.reduceEqDiff,RD,g11,e2];refine hKr _ _ ?_;clear hKr Kr
     refine gB (k-1) _ _ _ _ (by omega) Gh.refl ⟨k-1,(p.set k (nl p u)).set u (nl p k),a,h,by omega,rfl,⟨hp.perm.swap hlp (by omega) (by omega),by simp [hlp]⟩,ha,?_,?_,?_,?_,?_,rfl⟩
     any_goals (simp (disch:=omega) only [RA,↓reduceIte,Nat.reduceEqDiff,RD,RE, *]<;>rfl)
    ·refine hX2 _ _ ?_
     (try simp only [RN,reduceIte]);try refine ah rfl ?_
     have aiZ: ∀z,nl p z<256:=fun z=>by have:=hp.perm.kN hlp z;omega
     refine au fun Kr hKr=>?_;simp (disch:=omega) only [RA,↓reduceIte,Nat.reduceEqDiff,RD,g3,aF];refine hKr _ _ ?_;clear hKr Kr;(try simp only [RN,reduceIte]);try refine ah rfl ?_
     refine au fun Kr hKr=>?_;simp (disch:=omega) only [RA,↓reduceIte,Nat.reduceEqDiff,RD];refine hKr _ _ ?_;clear hKr Kr;(try simp only [RN,reduceIte]);try refine ah rfl ?_
     refine bU (fun k f H'=> ∃x:Nat,x≤i∧k=i-x∧f 3=P 0 0∧f 4=mF (pass b w i)∧f 9=P 2 0∧f 14=P 3 0∧f 15=I x∧H'=[some (DC i b w),some (SC code a h),some (p.map N8),some (DC i (dJ b p x) (dJ w p x))]) (i) ?_ ?_
     ·refine ⟨_,_,Gh.refl,0,by omega,by omega,?_,?_,?_,?_,?_,rfl⟩
      any_goals (simp (disch:=omega) only [RA,↓reduceIte,Nat.reduceEqDiff,RD,RE, *]<;>rfl)
     ·clear g3 g4 g8 g9 g11
      rintro k f H' R3 ⟨x,hx,rfl,g3,g4,g9,g14,g15,rfl⟩ hN3 Jf xU hE3
      simp only [aT.l2,aI]
      have l1:= @o8 b p x
      have l2:= @o8 w p x
      refine au fun Kr hKr=>?_;simp (disch:=omega) only [RA,↓reduceIte,Nat.reduceEqDiff,RD,g3,g15,aF];refine hKr _ _ ?_;clear hKr Kr;(try simp only [RN,reduceIte]);try refine ah rfl ?_
      refine aX (p:=x<i) (by simp only [RA,↓reduceIte,Nat.reduceEqDiff]<;>rfl) (by (try simp only [RB])<;>first|done|exact Iff.rfl|omega|simp) (fun hc=>?_) (fun hc=>?_)<;>(try simp only [RN,reduceIte])<;>(try refine ah rfl ?_)
      ·have hxi:x<i:=by assumption
       have q1:=hd.1.lt hxi
       have q2:=hd.2.1.lt hxi
       have q3:=hp.perm.lt hxi
       have l3:((dJ b p x).set (nl p x) (nl p (nl b x))).length=16:=by simp [l1]
       (first|refine bP rfl ?_|refine bQ rfl ?_);(try simp only [RN,reduceIte]);try refine ah rfl ?_
       refine au fun Kr hKr=>?_;simp (disch:=omega) only [RA,↓reduceIte,Nat.reduceEqDiff,RD,g3,g9,g14,g15,hlp,aF,aU];refine hKr _ _ ?_;clear hKr Kr;(try simp only [RN,reduceIte]);try refine ah rfl ?_
       refine au fun Kr hKr=>?_;simp (disch:=omega) only [RA,↓reduceIte,Nat.reduceEqDiff,RD,g3,g9,g14,g15,hlp,aF,aU];refine hKr _ _ ?_;clear hKr Kr;(try simp only [RN,reduceIte]);try refine ah rfl ?_
       refine bH fun Kr hKr=>?_;simp (disch:=omega) only [RA,↓reduceIte,Nat.reduceEqDiff,RD,g15];refine hKr _ _ ?_;clear hKr Kr
       refine hN3 (i-(x+1)) _ _ _ _ (by omega) Gh.refl ⟨x+1,by omega,rfl,?_,?_,?_,?_,?_,rfl⟩
       any_goals (simp (disch:=omega) only [RA,↓reduceIte,Nat.reduceEqDiff,RD,RE, *]<;>rfl)
      ·refine Jf _ _ ?_
       (try simp only [RN,reduceIte]);try refine ah rfl ?_
       obtain rfl:x=i:=by omega
       refine lI (Gh.nrm [0,3] rfl rfl (by simp only [RH,o7,ru])) ?_
       refine ae0 hd ⟨hd.1,hlb⟩ ⟨hd.2.1,dI⟩ hp ?_ ?_ ?_
       any_goals (simp (disch:=omega) only [RA,↓reduceIte,Nat.reduceEqDiff,RD,RE, *]<;>rfl)
end Go.Bm
