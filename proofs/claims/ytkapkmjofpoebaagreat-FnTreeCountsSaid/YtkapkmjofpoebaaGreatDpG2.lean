/- DpO, DpP, Dp7a, DpQ, DpCb, DpV, DpVa, DpS, DpW, DpTb, DpTh -/
import Derived.Test.YtkapkmjofpoebaaGreatDpG0
import Derived.Test.YtkapkmjofpoebaaGreatDpG1
set_option linter.unusedVariables false
set_option linter.unusedSimpArgs false
namespace Go.Bm
open Go Go.Am
set_option maxRecDepth 10000
def len8:ByteArray:=⟨#[0,1,2,2,3,3,3,3,4,4,4,4,4,4,4,4,5,5,5,5,5,5,5,5,5,5,5,5,5,5,5,5,6,6,6,6,6,6,6,6,6,6,6,6,6,6,6,6,6,6,6,6,6,6,6,6,6,6,6,6,6,6,6,6,7,7,7,7,7,7,7,7,7,7,7,7,7,7,7,7,7,7,7,7,7,7,7,7,7,7,7,7,7,7,7,7,7,7,7,7,7,7,7,7,7,7,7,7,7,7,7,7,7,7,7,7,7,7,7,7,7,7,7,7,7,7,7,7,8,8,8,8,8,8,8,8,8,8,8,8,8,8,8,8,8,8,8,8,8,8,8,8,8,8,8,8,8,8,8,8,8,8,8,8,8,8,8,8,8,8,8,8,8,8,8,8,8,8,8,8,8,8,8,8,8,8,8,8,8,8,8,8,8,8,8,8,8,8,8,8,8,8,8,8,8,8,8,8,8,8,8,8,8,8,8,8,8,8,8,8,8,8,8,8,8,8,8,8,8,8,8,8,8,8,8,8,8,8,8,8,8,8,8,8,8,8,8,8,8,8,8,8,8,8,8,8]⟩
def lenOf (x:Nat):Nat:=match len8[x]? with|some b=>b.toNat|none=>0
theorem am6:(⟨#[0,1,2,2,3,3,3,3,4,4,4,4,4,4,4,4,5,5,5,5,5,5,5,5,5,5,5,5,5,5,5,5,6,6,6,6,6,6,6,6,6,6,6,6,6,6,6,6,6,6,6,6,6,6,6,6,6,6,6,6,6,6,6,6,7,7,7,7,7,7,7,7,7,7,7,7,7,7,7,7,7,7,7,7,7,7,7,7,7,7,7,7,7,7,7,7,7,7,7,7,7,7,7,7,7,7,7,7,7,7,7,7,7,7,7,7,7,7,7,7,7,7,7,7,7,7,7,7,8,8,8,8,8,8,8,8,8,8,8,8,8,8,8,8,8,8,8,8,8,8,8,8,8,8,8,8,8,8,8,8,8,8,8,8,8,8,8,8,8,8,8,8,8,8,8,8,8,8,8,8,8,8,8,8,8,8,8,8,8,8,8,8,8,8,8,8,8,8,8,8,8,8,8,8,8,8,8,8,8,8,8,8,8,8,8,8,8,8,8,8,8,8,8,8,8,8,8,8,8,8,8,8,8,8,8,8,8,8,8,8,8,8,8,8,8,8,8,8,8,8,8,8,8,8,8,8]⟩:ByteArray)=len8:=rfl
theorem abC:len8.size=256:=by decide+kernel
theorem am7 {x:Nat} (h:x<256):FD (.string len8) (.int .u8 (x:Int))=some (.int .u8 (lenOf x:Int)):=by
 have hb:len8[x]? =some (len8[x]'(by rw [abC];exact h)):=getElem?_pos len8 x (by rw [abC];exact h)
 simp only [FD,lenOf,Int.natCast_nonneg,if_true,Int.toNat_natCast,hb,Option.map_some]
theorem abD {x:Nat}:lenOf x<256:=by
 unfold lenOf
 split
 ·exact UInt8.toNat_lt _
 ·omega
theorem abE: ∀x,x<17→x≤lenOf x+12∧(8≤x→lenOf x=if x<16 then 4 else 5):=by decide+kernel
theorem am8 {x:Bool} {n:Nat} {H:BH} {K:Value→BH→Prop} (hn:n<256) (hK:K (I (lenOf n)) H):aJ x aff [.int .u64 (n:Int)] H K:=by
 have hl:= @abD n
 refine dw (by simp only [RH]) ?_
 refine bf ag5 ?_;simp only [kR,aG]
 refine aB ?_
 refine aB ?_
 refine bY ?_
 refine aB ?_
 refine bY ?_
 refine aB ?_
 refine bY ?_
 refine aY (aX @am6 @am7 @Int.zero_add) fun Kr hKr=>?_
 refine aI hKr ?_
 refine aU ?_
 exact ⟨NN.int,hK⟩
theorem QC {x:Bool} {n:Nat} {H:BH} {K:Value→BH→Prop} (hn:n<256) (hK:K (I (lenOf n)) H):aJ x aeY [.int .u64 (n:Int)] H K:=by
 refine dw (by simp only [RH]) ?_
 refine bf agI ?_;simp only [vI,aG]
 refine aB ?_
 refine bY ?_
 refine dB fun Kr hKr=>?_
 refine am8 hn ?_
 refine aO ?_
 refine aI hKr ?_
 refine aU ?_
 exact ⟨NN.int,hK⟩
theorem wu64 {n:Int} (h0:0≤n) (h1:n<18446744073709551616):IntKind.u64.wrap n=n:=by
 have hb:(2:Int)^(64:Nat)=18446744073709551616:=by decide
 simp only [IntKind.wrap,IntKind.bits,IntKind.signed,hb]
 simp
 omega
theorem am9 {x:Bool} {n:Nat} {H:BH} {K:Value→BH→Prop} (h8:8≤n) (hn:n≤16) (hK:K (.int .u64 (if n<16 then 16 else 32)) H):aJ x afm [I n] H K:=by
 have hl:=(abE n (by omega)).2 h8
 refine dw (by simp only [RH]) ?_
 refine bf ahd ?_;simp only [yJ,aG]
 refine aB ?_
 refine aY @wu64 fun Kr hKr=>?_
 refine QC (by omega) ?_
 rw [hl]
 by_cases h:n<16
 ·rw [if_pos h] at hK⊢
  refine aO ?_
  refine aI hKr ?_
  refine aU ?_
  exact ⟨NN.int,hK⟩
 ·rw [if_neg h] at hK⊢
  refine aO ?_
  refine aI hKr ?_
  refine aU ?_
  exact ⟨NN.int,hK⟩
theorem LU {H:BH} {b:Nat} {v:Value} {k:IntKind} {n:Int}:fQ (some [v]) H b 0 1 (.int k n)=some (undef,H.set b (some [.int k n])):=rfl
theorem ana {v:Int} {K:Value→BH→Prop} (hK: ∀v':Int,K (.int .u64 v') [some [.int .u64 v']]):aJ false afn [P 0 0] [some [.int .u64 v]] K:=by
 refine bf ahe ?_;simp only [qY,aG]
 refine aB ?_
 refine au (aC @Dy @LU) ?_
 generalize IntKind.u64.wrap _=v1
 refine au (aC @Dy @LU) ?_
 generalize IntKind.u64.wrap _=v2
 refine au (aC @Dy @LU) ?_
 generalize IntKind.u64.wrap _=v3
 refine au @Dy ?_
 refine aU ?_
 exact hK _
theorem anb {a:Int} {m:Nat} (hm:m=16∨m=32): ∃o:Nat,IntKind.i64.wrap (IntKind.u64.wrap ((BitVec.ofInt IntKind.u64.bits a&&&BitVec.ofInt IntKind.u64.bits (IntKind.u64.wrap ((m:Int)-1))).toNat:Int))=o∧o<m:=by
 have h1:(BitVec.ofInt IntKind.u64.bits a&&&BitVec.ofInt IntKind.u64.bits (IntKind.u64.wrap ((m:Int)-1))).toNat≤m-1:=by
  rw [BitVec.toNat_and]
  refine Nat.le_trans Nat.and_le_right ?_
  rcases hm with rfl|rfl<;>decide
 refine ⟨(BitVec.ofInt IntKind.u64.bits a&&&BitVec.ofInt IntKind.u64.bits (IntKind.u64.wrap ((m:Int)-1))).toNat,?_,by omega⟩
 generalize (BitVec.ofInt IntKind.u64.bits a&&&BitVec.ofInt IntKind.u64.bits (IntKind.u64.wrap ((m:Int)-1))).toNat=x at h1
 rw [wu64 (by omega) (by omega),BA (by omega) (by omega)]
theorem anc {p:List Int} {a b:Nat} {K:Value→BH→Prop} (hpl:p.length≤1000) (hb:b≤p.length) (h8:a+8≤b) (h16:b≤a+16) (hK: ∀q,Sg a b p q→K (.tuple ⟨[]⟩) [some (q.map I)]):
  aJ false aft [S 0 0 p.length 1,I a,I b] [some (p.map I)] K:=by
 obtain ⟨l,hl⟩: ∃l,l=b-a:=⟨_,rfl⟩
 have hbl:(b:Int)-(a:Int)=(l:Int):=by omega
 have hd:(l:Int).tdiv 4=((l/4:Nat):Int):=(Int.ofNat_tdiv l 4).symm
 obtain ⟨t,ht⟩: ∃t,t=l/4:=⟨_,rfl⟩
 rw [←ht] at hd
 have e2:(a:Int)+(t:Int)*2=((a+t*2:Nat):Int):=by omega
 have e3:((a+t*2:Nat):Int)-1=((a+t*2-1:Nat):Int):=by omega
 have e4:((a+t*2:Nat):Int)+1=((a+t*2+1:Nat):Int):=by omega
 obtain ⟨m,hm,hml⟩: ∃m:Nat,(if l<16 then (16:Int) else 32)=m∧(m=16∧l<16∨m=32∧l=16):=by
  by_cases h:l<16
  ·exact ⟨16,by rw [if_pos h];rfl, .inl ⟨rfl,h⟩⟩
  ·exact ⟨32,by rw [if_neg h];rfl, .inr ⟨rfl,by omega⟩⟩
 refine bf ahl ?_;simp only [jG,aG]
 refine au @hbl ?_
 refine aB ?_
 refine pJ (t:=true) (by simp (disch:=omega) only [RA,↓reduceIte,Nat.reduceEqDiff,RD]) ?_;(try simp only [RN,reduceIte]);try refine eG rfl ?_
 refine au (aC @wu64 @LU) ?_
 refine dB fun Kr hKr=>?_
 refine am9 (by omega) (by omega) ?_
 rw [hm]
 refine aO ?_
 refine aI hKr ?_
 refine bD fun Kr hKr=>?_;simp (disch:=omega) only [RA,↓reduceIte,Nat.reduceEqDiff,Int.reduceEq,RD,hd,e2,e3];refine hKr _ _ ?_;clear hKr Kr;(try simp only [RN,reduceIte]);try refine eG rfl ?_
 refine A8 ?_
 refine bM (fun n f H'=> ∃(q:List Int) (i:Nat) (v:Int),Sg a b p q∧a+t*2-1≤i∧i≤a+t*2+2∧n=a+t*2+2-i∧f 0=S 0 0 p.length 1∧f 1=I a∧f 6=I l∧f 7=P 1 0∧f 8= .int .u64 (m:Int)∧f 9=I i∧H'=[some (q.map I),some [.int .u64 v]]) (a+t*2+2-(a+t*2-1)) ?_ ?_
 ·refine ⟨_,_,Gh.refl,p,a+t*2-1,l, .refl,by omega,by omega,rfl,?_,?_,?_,?_,?_,?_,rfl⟩
  any_goals (simp (disch:=omega) only [RA,↓reduceIte,Nat.reduceEqDiff,reduceCtorEq,RD,RE, *]<;>rfl)
 ·rintro n f H' R ⟨q,i,v,hq,hi1,hi2,rfl,g0,g1,g6,g7,g8,g9,rfl⟩ hN hX hR hE
  simp only [jG.l0,aG]
  have dM:=hq.len
  refine au (jM @g1 @g6 @g9 @hd @e2 @e4) ?_
  refine aV (i≤a+t*2+1) (fun hc=>?_) fun hc=>?_
  ·have hnext: ∀f' (v':Int) (o:Nat),f' 0=S 0 0 p.length 1→f' 1=I a→f' 6=I l→f' 7=P 1 0→f' 8= .int .u64 (m:Int)→f' 9=I i→f' 10=I o→o<l→
     T 1 (.seq jG.r10 jG.r6) R f' [some (q.map I),some [.int .u64 v']]:=by
    intro f' v' o g0 g1 g6 g7 g8 g9 g10 ho
    have e5:(a:Int)+(o:Int)=((a+o:Nat):Int):=by omega
    have qw:(q.set i (el q (a+o))).length=p.length:=by simp [dM]
    have hsw:(q.set i (el q (a+o))).set (a+o) (el q i)=swp q i (a+o):=rfl
    refine au (bG (bG @g0 @g1 @g9 @g10) @e5 @dM @qw) ?_
    rw [hsw]
    refine bI @g9 ?_
    exact hN (a+t*2+2-(i+1)) _ _ _ _ (by omega) Gh.refl ⟨swp q i (a+o),i+1,v',hq.trans (.swp (by omega) (by omega) (by omega) (by omega) (by omega)),by omega,by omega,rfl,ah,ah,ah,ah,ah,ah,rfl⟩
   refine bK ?_
   refine aY @g7 fun Kr hKr=>?_
   refine uf (i:=1) (cs:=[.int .u64 v]) rfl (by (simp only [RH])) ?_
   refine ana ?_
   intro v'
   refine ⟨.int, .cons (by (simp only [RH])) .nil,?_⟩
   obtain ⟨o,ho1,ho2⟩:= @anb v' m (by omega)
   refine bP (aC @g8 @ho1) ?_
   refine aI hKr ?_
   refine au @g6 ?_
   refine aV (l≤o) (fun hc=>?_) fun hc=>?_
   ·have e6:(o:Int)-(l:Int)=((o-l:Nat):Int):=by omega
    refine au (aC @g6 @e6) ?_
    exact hnext _ v' (o-l) ah ah ah ah ah ah ah (by omega)
   ·refine iE ?_
    exact hnext _ v' o ah ah ah ah ah ah ah (by omega)
  ·refine hX _ _ ?_
   refine wL ?_
   refine ji (by simp (disch:=omega) only [RA,↓reduceIte,Nat.reduceEqDiff,RD,dS,gJ];rfl) (dK.nrm [0] rfl rfl (by simp only [RH]) (by simp only [aF,RH])) ?_;simp only [aF]
   exact hK q hq
end Go.Bm
namespace Go.Bm
open Go Go.Am
section
variable {k:Nat} {Q:Ex→Fr→BH→Prop} {f:Fr} {H:BH}
theorem GN {a rest:aj} (P:Fr→BH→Prop) (h1: ∀R:Ex→Fr→BH→Prop,(∀f' H',P f' H'→R .normal f' H')→(∀f' H',Q .ret f' H'→R .ret f' H')→(∀i f' H',Q (.exit i) f' H'→R (.exit i) f' H')→T k a R f H) (h2: ∀f' H',P f' H'→T k rest Q f' H'):T k (.seq a rest) Q f H:=
 uZ (h1 (iH k rest Q) (fun _ _ h=>h2 _ _ h) (fun _ _ h=>h) (fun _ _ _ h=>h))
end
def Od (a b a' b':Nat) (q:List Int):Prop:= ∀x y,a≤x→x<y→y<b→ ¬(a'≤x∧y<b')→el q x≤el q y
def Pre (a b:Nat) (q:List Int):Prop:=0<a→ ∀x,a≤x→x<b→el q (a-1)≤el q x
section
variable {a b a' b' m:Nat} {q r:List Int}
theorem Od.sg (h:Od a b a' b' q) (ha:a≤a') (hb:b'≤b) (k:Sg a' b' q r):Od a b a' b' r:=by
 intro x y h1 h2 h3 h4
 by_cases hx:a'≤x∧x<b'
 ·obtain ⟨x',x1,x2,x3⟩:=k.src x hx.1 hx.2
  rw [x3,k.out y (by omega)]
  exact h x' y (by omega) (by omega) h3 (by omega)
 ·rw [k.out x (by omega)]
  by_cases hy:a'≤y∧y<b'
  ·obtain ⟨y',y1,y2,y3⟩:=k.src y hy.1 hy.2
   rw [y3]
   exact h x y' h1 (by omega) (by omega) (by omega)
  ·rw [k.out y (by omega)]
   exact h x y h1 h2 h3 h4
theorem Pre.sg (h:Pre a' b' q) (k:Sg a' b' q r):Pre a' b' r:=fun h0 x h1 h2=>by
 obtain ⟨x',x1,x2,x3⟩:=k.src x h1 h2
 rw [x3,k.out (a'-1) (by omega)]
 exact h h0 x' x1 x2
theorem Od.left (h:Od a b a' b' q) (ha:a≤a') (hb:b'≤b) (h1:a'≤m) (h2:m<b') (hl: ∀x,a'≤x→x<m→el q x≤el q m) (hr: ∀x,m<x→x<b'→el q m≤el q x) (k:Sg a' m q r) (hs:rO a' m r):Od a b (m+1) b' r:=by
 intro x y k1 k2 k3 k4
 by_cases hb2:a'≤x∧y<b'
 ·have em:el r m=el q m:=k.out m (by omega)
  have hlow: ∀z,a'≤z→z<m→el r z≤el q m:=fun z z1 z2=>by
   obtain ⟨z',w1,w2,w3⟩:=k.src z z1 z2
   rw [w3]
   exact hl z' w1 w2
  have hup: ∀z,m<z→z<b'→el q m≤el r z:=fun z z1 z2=>by
   rw [k.out z (by omega)]
   exact hr z z1 z2
  rcases Nat.lt_trichotomy y m with hy|hy|hy
  ·exact hs x y hb2.1 (by omega) hy
  ·subst hy
   rw [em]
   exact hlow x hb2.1 k2
  ·have h9:=hup y hy hb2.2
   rcases Nat.lt_or_ge x m with hx|hx
   ·exact Int.le_trans (hlow x hb2.1 hx) h9
   ·obtain rfl:x=m:=by omega
    rw [em]
    exact h9
 ·exact h.sg ha hb (k.mono (by omega) (by omega)) x y k1 k2 k3 hb2
theorem Od.right (h:Od a b a' b' q) (ha:a≤a') (hb:b'≤b) (h1:a'≤m) (h2:m<b') (hl: ∀x,a'≤x→x<m→el q x≤el q m) (hr: ∀x,m<x→x<b'→el q m≤el q x) (k:Sg (m+1) b' q r) (hs:rO (m+1) b' r):Od a b a' m r:=by
 intro x y k1 k2 k3 k4
 by_cases hb2:a'≤x∧y<b'
 ·have em:el r m=el q m:=k.out m (by omega)
  have hlow: ∀z,a'≤z→z<m→el r z≤el q m:=fun z z1 z2=>by
   rw [k.out z (by omega)]
   exact hl z z1 z2
  have hup: ∀z,m<z→z<b'→el q m≤el r z:=fun z z1 z2=>by
   obtain ⟨z',w1,w2,w3⟩:=k.src z (by omega) z2
   rw [w3]
   exact hr z' (by omega) w2
  rcases Nat.lt_trichotomy x m with hx|hx|hx
  ·have h9:=hlow x hb2.1 hx
   rcases Nat.lt_or_ge m y with hy|hy
   ·exact Int.le_trans h9 (hup y hy hb2.2)
   ·obtain rfl:y=m:=by omega
    rw [em]
    exact h9
  ·subst hx
   rw [em]
   exact hup y k2 hb2.2
  ·exact hs x y (by omega) (by omega) hb2.2
 ·exact h.sg ha hb (k.mono (by omega) (by omega)) x y k1 k2 k3 hb2
theorem Od.done (h:Od a b a' b' q) (ha:a≤a') (hb:b'≤b) (hs:rO a' b' q):rO a b q:=fun x y h1 h2 h3=>by
 rcases Nat.lt_or_ge x y with hx|hx
 ·by_cases hc:a'≤x∧y<b'
  ·exact hs x y hc.1 h2 hc.2
  ·exact h x y h1 hx h3 hc
 ·obtain rfl:x=y:=by omega
  exact Int.le_refl _
end
set_option maxRecDepth 20000 in
theorem abG: ∀(N:Nat) {p:List Int} {a b lim:Nat} {K:Value→BH→Prop},p.length≤1000→b≤p.length→a≤b→b-a<N→b≤a+16→b-a≤lim+12→lim≤1000→Pre a b p→(∀q,Sg a b p q→rO a b q→K (.tuple ⟨[]⟩) [some (q.map I)])→
  aJ false afr [S 0 0 p.length 1,I a,I b,I lim] [some (p.map I)] K
 |0,_,_,_,_,_,_,_,_,h,_,_,_,_,_=>by omega
 |N+1,p,a,b,lim,K,hpl,hb,hab,hN0,h16,hlim,hlm,hpre,hK=>by
  have ih:=fun {p:List Int} {a b lim:Nat} {K:Value→BH→Prop}=> @abG N p a b lim K
  refine bf ahj ?_;simp only [dA,aG]
  refine aB ?_
  refine aB ?_
  refine A8 ?_
  refine bM (fun m f H'=> ∃(q:List Int) (a' b' lim:Nat) (wb wp:Bool),Sg a b p q∧a≤a'∧a'≤b'∧b'≤b∧Od a b a' b' q∧Pre a' b' q∧b'-a'≤lim+12∧lim≤1000∧m=b'-a'∧f 0=S 0 0 p.length 1∧f 1=I a'∧f 2=I b'∧f 3=I lim∧f 8= .bool wb∧f 9= .bool wp∧H'=[some (q.map I)]) (b-a) ?_ ?_
  ·exact ⟨_,_,Gh.refl,p,a,b,lim,true,true, .refl,by omega,by omega,by omega,fun x y h1 h2 h3 h4=>absurd ⟨h1,h3⟩ h4,hpre,hlim,hlm,rfl,ah,ah,ah,ah,ah,ah,rfl⟩
  ·clear hlim hlm hpre
   rintro m f H' R ⟨q,a',b',lim,wb,wp,hq,h1,h2,h3,hod,hpre,hlim,hlm,rfl,g0,g1,g2,g3,g8,g9,rfl⟩ hN hX hR hE
   simp only [dA.l0,aG]
   refine zU ?_
   refine iE ?_
   obtain ⟨l,hl⟩: ∃l,l=b'-a':=⟨_,rfl⟩
   have hbl:(b':Int)-(a':Int)=(l:Int):=by omega
   have dM:=hq.len
   refine au (aX @g1 @g2 @hbl) ?_
   refine aB ?_
   refine aV (l≤12) (fun hc=>?_) fun hc=>?_
   ·refine aY (aX @g0 @g1 @g2) fun Kr hKr=>?_
    rw [←dM]
    refine ane (by omega) (by omega) h2 ?_
    intro r hr hs
    refine aO ?_
    refine aI hKr ?_
    refine lq ?_
    refine hR _ _ ?_
    refine aU ?_
    exact hK r (hq.trans (hr.mono h1 h3)) ((hod.sg h1 h3 hr).done h1 h3 hs)
   refine au @g3 ?_
   refine bY ?_
   refine au @g8 ?_
   refine GN (fun f H'=> ∃(q:List Int) (lim':Nat),Sg a b p q∧Od a b a' b' q∧Pre a' b' q∧l≤lim'+13∧lim'≤1000∧f 0=S 0 0 p.length 1∧f 1=I a'∧f 2=I b'∧f 3=I lim'∧f 8= .bool wb∧f 9= .bool wp∧f 10=I l∧H'=[some (q.map I)]) ?_ ?_
   ·intro R1 hR1 hR2 GR
    cases wb
    ·refine pJ (t:=true) (by simp (disch:=omega) only [RA,↓reduceIte,Nat.reduceEqDiff,RD]) ?_;(try simp only [RN,reduceIte]);try refine eG rfl ?_
     refine aY (aX @g0 @g1 @g2) fun Kr hKr=>?_
     rw [←dM]
     refine anc (by omega) (by omega) (by omega) (by omega) ?_
     intro r hr
     refine aO ?_
     refine aI hKr ?_
     have hl1:(lim:Int)-1=((lim-1:Nat):Int):=by omega
     have hrl:=hr.len
     refine bI (aC @g3 @hl1) ?_
     exact hR1 _ _ ⟨r,lim-1,hq.trans (hr.mono h1 h3),hod.sg h1 h3 hr,hpre.sg hr,by omega,by omega,ah,ah,ah,ah,ah,ah,ah,rfl⟩
    ·refine pJ (t:=false) (by simp (disch:=omega) only [RA,↓reduceIte,Nat.reduceEqDiff,RD]) ?_;(try simp only [RN,reduceIte]);try refine eG rfl ?_
     exact hR1 _ _ ⟨q,lim,hq,hod,hpre,by omega,by omega,ah,ah,ah,ah,ah,ah,ah,rfl⟩
   clear hq dM hod hpre g0 g1 g2 g3 g8 g9 hlim hlm lim q
   rintro f H' ⟨q,lim,hq,hod,hpre,hlim,hlm,g0,g1,g2,g3,g8,g9,g10,rfl⟩
   have dM:=hq.len
   refine iE ?_
   refine aY (aX @g0 @g1 @g2) fun Kr hKr=>?_
   rw [←dM]
   refine anf (by omega) (by omega) (by omega) (by omega) ?_
   intro piv h hp1 hp2
   refine aO ?_
   refine aI hKr ?_
   refine aB ?_
   refine GN (fun f H'=> ∃(q:List Int) (piv:Nat) (h:Int),a'≤piv∧piv<b'∧Sg a b p q∧Od a b a' b' q∧Pre a' b' q∧f 0=S 0 0 p.length 1∧f 1=I a'∧f 2=I b'∧f 3=I lim∧f 8= .bool wb∧f 9= .bool wp∧f 10=I l∧f 11=I piv∧f 12=I h∧H'=[some (q.map I)]) ?_ ?_
   ·intro R1 hR1 hR2 GR
    refine xg (h=2) (fun hc=>?_) fun hc=>?_
    ·refine aY (aX @g0 @g1 @g2) fun Kr hKr=>?_
     rw [←dM]
     refine ang (by omega) (by omega) (by omega) ?_
     intro r hr
     refine aO ?_
     refine aI hKr ?_
     have hpv:(b':Int)-1-((piv:Int)-(a':Int))=((b'-1-(piv-a'):Nat):Int):=by omega
     have hrl:=hr.len
     refine au (aX @g1 @g2 @hpv) ?_
     refine FP ?_
     exact hR1 _ _ ⟨r,b'-1-(piv-a'),1,by omega,by omega,hq.trans (hr.mono h1 h3),hod.sg h1 h3 hr,hpre.sg hr,ah,ah,ah,ah,ah,ah,ah,ah,ah,rfl⟩
    ·exact hR1 _ _ ⟨q,piv,h,hp1,hp2,hq,hod,hpre,ah,ah,ah,ah,ah,ah,ah,ah,ah,rfl⟩
   clear hq dM hod hpre g0 g1 g2 g3 g8 g9 g10 hp1 hp2 piv h q
   rintro f H' ⟨q,piv,h,hp1,hp2,hq,hod,hpre,g0,g1,g2,g3,g8,g9,g10,g11,g12,rfl⟩
   have dM:=hq.len
   refine iE ?_
   have hpart: ∀f',f' 0=S 0 0 p.length 1→f' 1=I a'→f' 2=I b'→f' 3=I lim→f' 9= .bool wp→f' 10=I l→f' 11=I piv→f' 8= .bool wb→
     ∀R1:Ex→Fr→BH→Prop,(∀f' H',(f' 0=S 0 0 p.length 1∧f' 1=I a'∧f' 2=I b'∧f' 3=I lim∧f' 8= .bool wb∧f' 9= .bool wp∧f' 10=I l∧f' 11=I piv∧H'=[some (q.map I)])→R1 .normal f' H')→(∀f' H',jq 1 [] K .ret f' H'→R1 .ret f' H')→
     T 1 (.seq dA.r16 (.cond (.t 72) .ret .skip)) R1 f' [some (q.map I)]:=by
    intro f' g0 g1 g2 g3 g9 g10 g11 g8 R1 hR1 hR2
    refine aY (aX @g0 @g1 @g2) fun Kr hKr=>?_
    rw [←dM]
    refine anh (by omega) (by omega) (by omega) (by omega) ?_
    intro r hr
    refine aO ?_
    refine aI hKr ?_
    cases r
    ·refine pJ (t:=false) (by simp (disch:=omega) only [RA,↓reduceIte,Nat.reduceEqDiff,RD]) ?_;(try simp only [RN,reduceIte]);try refine eG rfl ?_
     exact hR1 _ _ ⟨ah,ah,ah,ah,ah,ah,ah,ah,rfl⟩
    ·refine pJ (t:=true) (by simp (disch:=omega) only [RA,↓reduceIte,Nat.reduceEqDiff,RD]) ?_;(try simp only [RN,reduceIte]);try refine eG rfl ?_
     refine hR2 _ _ ?_
     refine aU ?_
     exact hK q hq (hod.done h1 h3 (hr rfl))
   have abH: ∀f' (t:Bool),f' 0=S 0 0 p.length 1→f' 1=I a'→f' 2=I b'→f' 3=I lim→f' 9= .bool wp→f' 10=I l→f' 11=I piv→f' 8= .bool wb→f' 68= .bool t→
     ∀R1:Ex→Fr→BH→Prop,(∀f' H',(f' 0=S 0 0 p.length 1∧f' 1=I a'∧f' 2=I b'∧f' 3=I lim∧f' 8= .bool wb∧f' 9= .bool wp∧f' 10=I l∧f' 11=I piv∧H'=[some (q.map I)])→R1 .normal f' H')→(∀f' H',jq 1 [] K .ret f' H'→R1 .ret f' H')→
     T 1 (.cond (.t 68) (.seq dA.r16 (.cond (.t 72) .ret .skip)) .skip) R1 f' [some (q.map I)]:=by
    intro f' t g0 g1 g2 g3 g9 g10 g11 g8 GU R1 hR1 hR2
    cases t
    ·refine pJ (t:=false) (by simp (disch:=omega) only [RA,↓reduceIte,Nat.reduceEqDiff,RD,GU]) ?_;(try simp only [RN,reduceIte]);try refine eG rfl ?_
     exact hR1 _ _ ⟨g0,g1,g2,g3,g8,g9,g10,g11,rfl⟩
    ·refine pJ (t:=true) GU ?_
     exact hpart _ g0 g1 g2 g3 g9 g10 g11 g8 R1 hR1 hR2
   refine GN (fun f H'=> ∃t:Bool,f 0=S 0 0 p.length 1∧f 1=I a'∧f 2=I b'∧f 3=I lim∧f 8= .bool wb∧f 9= .bool wp∧f 10=I l∧f 11=I piv∧f 68= .bool t∧H'=[some (q.map I)]) ?_ ?_
   ·intro R1 hR1 hR2 GR
    cases wb
    ·refine bI @g8 ?_
     exact hR1 _ _ ⟨false,ah,ah,ah,ah,ah,ah,ah,ah,ah,rfl⟩
    ·cases wp
     ·refine bI (aC @g8 @g9) ?_
      exact hR1 _ _ ⟨false,ah,ah,ah,ah,ah,ah,ah,ah,ah,rfl⟩
     ·refine bI (aX @g8 @g9 @g12) ?_
      exact hR1 _ _ ⟨decide (h=1),ah,ah,ah,ah,ah,ah,ah,ah,ah,rfl⟩
   clear g0 g1 g2 g3 g8 g9 g10 g11 g12
   rintro f H' ⟨t,g0,g1,g2,g3,g8,g9,g10,g11,GU,rfl⟩
   refine GN (fun f H'=>f 0=S 0 0 p.length 1∧f 1=I a'∧f 2=I b'∧f 3=I lim∧f 8= .bool wb∧f 9= .bool wp∧f 10=I l∧f 11=I piv∧H'=[some (q.map I)]) ?_ ?_
   ·intro R1 hR1 hR2 GR
    exact abH f t g0 g1 g2 g3 g9 g10 g11 g8 GU R1 hR1 (fun f' H' h=>hR2 _ _ (hR _ _ h))
   clear hpart abH g0 g1 g2 g3 g8 g9 g10 g11 GU
   rintro f H' ⟨g0,g1,g2,g3,g8,g9,g10,g11,rfl⟩
   refine iE ?_
   refine GN (fun f H'=> ∃t:Bool,(t=true→0<a'∧el q piv≤el q (a'-1))∧f 0=S 0 0 p.length 1∧f 1=I a'∧f 2=I b'∧f 3=I lim∧f 8= .bool wb∧f 9= .bool wp∧f 10=I l∧f 11=I piv∧f 87= .bool t∧H'=[some (q.map I)]) ?_ ?_
   ·intro R1 hR1 hR2 GR
    by_cases ha0:0<a'
    ·have hai:(a':Int)-1=((a'-1:Nat):Int):=by omega
     refine oQ fun Kr hKr=>?_;simp (disch:=omega) only [RA,↓reduceIte,Nat.reduceEqDiff,RD,g0,g1,g11,ha0,hai,dM]
     refine wE ?_
     refine aO ?_
     refine hKr _ _ ?_
     exact hR1 _ _ ⟨!decide (el q (a'-1)<el q piv),fun h=>⟨ha0,by simpa using h⟩,ah,ah,ah,ah,ah,ah,ah,ah,ah,rfl⟩
    ·refine bI (aC @g1 @ha0) ?_
     exact hR1 _ _ ⟨false,fun h=>(by cases h),ah,ah,ah,ah,ah,ah,ah,ah,ah,rfl⟩
   clear g0 g1 g2 g3 g8 g9 g10 g11
   rintro f H' ⟨t,ht,g0,g1,g2,g3,g8,g9,g10,g11,g87,rfl⟩
   by_cases htt:t=true
   ·subst htt
    obtain ⟨ha0,hle⟩:=ht rfl
    refine qL @g87 ?_
    refine aY (bG @g0 @g1 @g2 @g11) fun Kr hKr=>?_
    rw [←dM]
    refine ani (by omega) (by omega) hp1 hp2 (fun x x1 x2=>Int.le_trans hle (hpre ha0 x x1 x2)) ?_
    intro r mid hr hm1 hm2 GV hm4
    have hrl:=hr.len
    refine aO ?_
    refine aI hKr ?_
    refine aB ?_
    refine hN (b'-mid) _ _ _ _ (by omega) Gh.refl ⟨r,mid,b',lim,wb,wp,hq.trans (hr.mono h1 h3),by omega,by omega,h3,?_,fun _ x x1 x2=>(by rw [GV (mid-1) (by omega) (by omega)];exact hm4 x (by omega) x2),by omega,hlm,rfl,ah,ah,ah,ah,ah,ah,rfl⟩
    ·intro x y k1 k2 k3 k4
     by_cases hb2:a'≤x∧y<b'
     ·rw [GV x hb2.1 (by omega)]
      exact hm4 y (by omega) hb2.2
     ·exact hod.sg h1 h3 hr x y k1 k2 k3 hb2
   ·have:t=false:=by simpa using htt
    subst this
    refine oZ @g87 ?_
    refine aY (bG @g0 @g1 @g2 @g11) fun Kr hKr=>?_
    rw [←dM]
    refine anj (by omega) (by omega) hp1 hp2 ?_
    intro r mid al hr hm1 hm2 GV hm4
    have hrl:=hr.len
    have abI:=hod.sg h1 h3 hr
    have hpre':=hpre.sg hr
    have e1:(mid:Int)-(a':Int)=((mid-a':Nat):Int):=by omega
    have e2:(b':Int)-(mid:Int)=((b'-mid:Nat):Int):=by omega
    have e3:(l:Int).tdiv 8=((l/8:Nat):Int):=(Int.ofNat_tdiv l 8).symm
    have e4:(mid:Int)+1=((mid+1:Nat):Int):=by omega
    have hdiv:l/8≤16:=by omega
    refine aO ?_
    refine aI hKr ?_
    refine aB ?_
    refine au (bG @g1 @g2 @e1 @e2) ?_
    refine au (aC @g10 @e3) ?_
    refine aB ?_
    refine xg (mid-a'<b'-mid) (fun hc=>?_) fun hc=>?_
    ·refine aB ?_
     refine aY (aX @g0 @g1 @g3) fun Kr hKr=>?_
     rw [←dM,←hrl]
     refine ih (by omega) (by omega) hm1 (by omega) (by omega) (by omega) hlm (fun h0 x x1 x2=>hpre' h0 x x1 (by omega)) ?_
     intro r2 hr2 hs2
     have ank:=hr2.len
     refine aO ?_
     refine aI hKr ?_
     refine bI @e4 ?_
     refine hN (b'-(mid+1)) _ _ _ _ (by omega) Gh.refl ⟨r2,mid+1,b',lim,decide (l/8≤mid-a'),al,(hq.trans (hr.mono h1 h3)).trans (hr2.mono h1 (by omega)),by omega,by omega,h3,abI.left h1 h3 hm1 hm2 GV hm4 hr2 hs2,fun _ x x1 x2=>?_,by omega,hlm,rfl,ah,ah,ah,ah,ah,ah,rfl⟩
     rw [Nat.add_sub_cancel,hr2.out mid (by omega),hr2.out x (by omega)]
     exact hm4 x (by omega) x2
    ·refine aB ?_
     refine aY (bG @g0 @g2 @g3 @e4) fun Kr hKr=>?_
     rw [←dM,←hrl]
     refine ih (by omega) (by omega) (by omega) (by omega) (by omega) (by omega) hlm (fun _ x x1 x2=>by rw [Nat.add_sub_cancel];exact hm4 x (by omega) x2) ?_
     intro r2 hr2 hs2
     have ank:=hr2.len
     refine aO ?_
     refine aI hKr ?_
     refine FP ?_
     refine hN (mid-a') _ _ _ _ (by omega) Gh.refl ⟨r2,a',mid,lim,decide (l/8≤b'-mid),al,(hq.trans (hr.mono h1 h3)).trans (hr2.mono (by omega) h3),by omega,by omega,by omega,abI.right h1 h3 hm1 hm2 GV hm4 hr2 hs2,fun h0 x x1 x2=>?_,by omega,hlm,rfl,ah,ah,ah,ah,ah,ah,rfl⟩
     rw [hr2.out (a'-1) (by omega),hr2.out x (by omega)]
     exact hpre' h0 x x1 (by omega)
theorem anl {p:List Int} {K:Value→BH→Prop} (hpl:p.length≤16) (hK: ∀q:List Int,q.Perm p→rO 0 p.length q→K (.tuple ⟨[]⟩) [some (q.map I)]):
  aJ false afk [S 0 0 p.length 1] [some (p.map I)] K:=by
 have hle:=(abE p.length (by omega)).1
 have hlt:= @abD p.length
 refine bf ahb ?_;simp only [yI,aG]
 refine aB ?_
 refine oQ fun Kr hKr=>?_;simp (disch:=omega) only [RA,↓reduceIte,Nat.reduceEqDiff,RD,wu64]
 refine QC (by omega) ?_
 refine aO ?_
 refine abG (p.length+1) (a:=0) (b:=p.length) (lim:=lenOf p.length) (by omega) (Nat.le_refl _) (Nat.zero_le _) (by omega) (by omega) (by omega) (by omega) (fun h=>by omega) ?_
 intro q hq hs
 refine aO ?_
 refine hKr _ _ ?_;clear hKr Kr
 refine aU ?_
 exact hK q hq.perm hs
end Go.Bm
namespace Go.Bm
open Go Go.Am
abbrev bT (n:Nat):Value:= .int .i64 (n:Int)
theorem mD {p:List Nat} {k:Nat} (h:k<p.length):bV none (p.map bT) k=some (bT (nl p k)):=by
 simp [bV,h,nl,List.getD]
theorem xI {H:BH} {b bytes cn:Nat} {xs:List Nat} {y:Nat} (h:(xs.length+1)*bytes≤140737488355328):app1 (some [.int .i64 (y:Int)]) (some (xs.map bT)) H b xs.length bytes cn=some (S H.length 0 (xs.length+1) 1,(H.set b none)++[some ((xs++[y]).map bT)]):=CG (g:=bT) rfl h
theorem Dv {l:List Nat}:aT (l.map N8):=aT.map fun _=> .int
end Go.Bm
namespace Go.Bm
open Go Go.Am
def uj (xs:List Nat):List Int:=xs.map fun n:Nat=>(n:Int)
theorem abJ {xs:List Nat}:xs.map bT=(uj xs).map I:=by simp [uj,Function.comp_def]
theorem abK {xs:List Nat}:(uj xs).length=xs.length:=by simp [uj]
theorem abL {xs:List Nat} {i:Nat}:el (uj xs) i=(nl xs i:Int):=by
 simp only [el,uj,nl,List.getD,List.getElem?_map]
 cases xs[i]? <;>rfl
def um (p:List Int):Prop:= ∀i j,i≤j→j<p.length→el p j≤el p i
theorem um.tail {a:Int} {p:List Int} (h:um (a::p)):um p:=fun i j h1 h2=>by
 have:=h (i+1) (j+1) (by omega) (by simp;omega)
 simpa [el,List.getD] using this
theorem um.head {a:Int} {p:List Int} (h:um (a::p)): ∀x∈p,x≤a:=fun x hx=>by
 obtain ⟨i,hi,rfl⟩:=List.mem_iff_getElem.1 hx
 have:=h 0 (i+1) (by omega) (by simpa using hi)
 simpa [el,List.getD,hi] using this
theorem um.uniq: ∀{p q:List Int},um p→um q→p.Perm q→p=q
 |[],q,_,_,h=>(List.nil_perm.1 h).symm
 |a::p,[],_,_,h=>by simp at h
 |a::p,b::q,hp,hq,h=>by
  have hab:a=b:=by
   have h1:a∈b::q:=h.subset (by simp)
   have h2:b∈a::p:=h.symm.subset (by simp)
   have h3:a≤b:=by
    rcases List.mem_cons.1 h1 with e|e
    ·omega
    ·exact hq.head a e
   have h4:b≤a:=by
    rcases List.mem_cons.1 h2 with e|e
    ·omega
    ·exact hp.head b e
   omega
  subst hab
  rw [um.uniq hp.tail hq.tail (List.Perm.cons_inv h)]
theorem abM {p:List Int} {i:Nat} (hi:i<p.length):el p.reverse i=el p (p.length-1-i):=by
 simp only [el,List.getD]
 rw [List.getElem?_reverse (by omega)]
theorem anm {p r:List Int} {K:Value→BH→Prop} (hpl:p.length≤16) (hr:um r) (hp:r.Perm p) (hK:K (S 0 0 p.length 1) [some (r.map I)]):
  aJ false afa [S 0 0 p.length 1] [some (p.map I)] K:=by
 refine bf agZ ?_;simp only [tq,aG]
 refine aB ?_
 refine dB fun Kr hKr=>?_
 refine anl hpl ?_
 intro q hq hs
 have dM:q.length=p.length:=hq.length_eq
 refine aO ?_
 refine aI hKr ?_
 refine dB fun Kr hKr=>?_
 rw [←dM]
 refine ano (by omega) ?_
 have e:q.reverse=r:=by
  refine um.uniq (fun i j h1 h2=>?_) hr ((List.reverse_perm q).trans (hq.trans hp.symm))
  simp only [List.length_reverse] at h2
  rw [abM h2,abM (by omega)]
  exact hs _ _ (Nat.zero_le _) (by omega) (by omega)
 rw [e]
 refine aO ?_
 refine aI hKr ?_
 refine aB ?_
 refine aU ?_
 rw [dM]
 exact hK
end Go.Bm
namespace Go.Bm
open Go Go.Am
def qx (zs:List Nat):Nat→List Nat
 |0=>List.replicate 17 0
 |i+1=>(qx zs i).set (nl zs i) (nl (qx zs i) (nl zs i)+1)
theorem abN {zs:List Nat} {i:Nat}:(qx zs i).length=17:=by
 induction i with
 |zero=>simp [qx]
 |succ i ih=>simp [qx,ih]
theorem AU {zs:List Nat} {i:Nat} (h:i<zs.length):zs.take (i+1)=zs.take i++[nl zs i]:=by
 rw [List.take_add_one]
 simp [nl,List.getD,h]
theorem QD {zs:List Nat} {i v:Nat} (hi:i≤zs.length) (hv:v<17):nl (qx zs i) v=(zs.take i).count v:=by
 induction i with
 |zero=>simp only [qx,xk];split<;>simp
 |succ i ih=>
  rw [AU (by omega),List.count_append,qx,rW,ih (by omega)]
  by_cases h:v=nl zs i
  ·subst h
   rw [if_pos ⟨rfl,by rw [abN];exact hv⟩,ih (by omega)]
   simp
  ·rw [if_neg (fun e=>h e.1)]
   have:([nl zs i]:List Nat).count v=0:=by
    rw [List.count_cons,List.count_nil]
    simp [show (nl zs i==v)=false by simpa using fun e=>h e.symm]
   omega
def jY (cn:List Nat) (n:Nat):Nat→List Nat
 |0=>[]
 |k+1=>jY cn n k++List.replicate (nl cn (n-k)) (n-k)
def GX (zs:List Nat) (n:Nat):List Nat:=jY (qx zs zs.length) n n
theorem abO {cn:List Nat} {n v:Nat}: ∀{k:Nat},k≤n→(jY cn n k).count v=if n-k<v∧v≤n then nl cn v else 0
 |0,_=>by
  rw [if_neg (by omega)]
  rfl
 |k+1,hk=>by
  rw [jY,List.count_append,abO (by omega),List.count_replicate]
  by_cases h:n-k=v
  ·subst h
   rw [if_neg (by omega),if_pos (by simp),if_pos (by omega)]
   omega
  ·have e:((n-k)==v)=false:=by simpa using h
   rw [e]
   simp only [Bool.false_eq_true,if_false,Nat.add_zero]
   by_cases h2:n-k<v∧v≤n
   ·rw [if_pos h2,if_pos (by omega)]
   ·rw [if_neg h2,if_neg (by omega)]
theorem abP {cn:List Nat} {n:Nat}: ∀{k:Nat},k≤n→ ∀z∈jY cn n k,n+1-k≤z
 |0,_,z,hz=>by simp [jY] at hz
 |k+1,hk,z,hz=>by
  simp only [jY,List.mem_append,List.mem_replicate] at hz
  rcases hz with hz|⟨_,rfl⟩
  ·have:=abP (k:=k) (by omega) z hz
   omega
  ·omega
theorem abQ {cn:List Nat} {n:Nat}: ∀{k:Nat},k≤n→ ∀i j,i≤j→j<(jY cn n k).length→nl (jY cn n k) j≤nl (jY cn n k) i
 |0,_,i,j,_,h=>by simp [jY] at h
 |k+1,hk,i,j,h1,h2=>by
  have ih:=abQ (cn:=cn) (n:=n) (k:=k) (by omega)
  simp only [jY,List.length_append,List.length_replicate] at h2⊢
  simp only [xq]
  by_cases hj:j<(jY cn n k).length
  ·rw [if_pos hj,if_pos (by omega)]
   exact ih i j h1 hj
  ·rw [if_neg hj,xk,if_pos (by omega)]
   by_cases hi:i<(jY cn n k).length
   ·rw [if_pos hi]
    have:nl (jY cn n k) i∈jY cn n k:=iM hi
    have:=abP (by omega) _ this
    omega
   ·rw [if_neg hi,xk,if_pos (by omega)]
    exact Nat.le_refl _
theorem anp {zs:List Nat} {n:Nat}:um (uj (GX zs n)):=fun i j h1 h2=>by
 rw [abK] at h2
 rw [abL,abL]
 exact Int.ofNat_le.2 (abQ (Nat.le_refl _) i j h1 h2)
theorem abR {zs:List Nat} {n:Nat} (hn:n≤16) (h: ∀z∈zs,1≤z∧z≤n):(GX zs n).Perm zs:=by
 rw [List.perm_iff_count]
 intro v
 rw [GX,abO (Nat.le_refl _),Nat.sub_self]
 by_cases hv:0<v∧v≤n
 ·rw [if_pos hv,QD (Nat.le_refl _) (by omega),List.take_length]
 ·rw [if_neg hv,List.count_eq_zero.2 fun hm=>hv (by have:=h v hm;omega)]
theorem anq {zs:List Nat} {n k:Nat} (hn:n≤16) (hk:k≤n) (h: ∀z∈zs,1≤z∧z≤n):(jY (qx zs zs.length) n k).length≤zs.length:=by
 have hp:=(abR hn h).length_eq
 have: ∀j,j≤n→(jY (qx zs zs.length) n j).length≤(jY (qx zs zs.length) n n).length:=by
  intro j hj
  obtain ⟨d,rfl⟩: ∃d,n=j+d:=⟨n-j,by omega⟩
  have: ∀m d,(jY (qx zs zs.length) m j).length≤(jY (qx zs zs.length) m (j+d)).length:=by
   intro m d
   induction d with
   |zero=>exact Nat.le_refl _
   |succ d ih=>
    rw [show j+(d+1)=(j+d)+1 by omega,jY,List.length_append]
    omega
  exact this _ d
 have:=this k hk
 rw [GX] at hp
 omega
def lens (p:List Nat) (n:Nat):List Nat:=(aP p n).map List.length
def typ (p:List Nat) (n:Nat):List Nat:=GX (lens p n) n
section
variable {p:List Nat} {n:Nat}
theorem abS (hp:Perm p n): ∀z∈lens p n,1≤z∧z≤n:=fun z hz=>by
 obtain ⟨c,hc,rfl⟩:=List.mem_map.1 hz
 exact Ku hp hc
theorem abT (hp:Perm p n):(lens p n).length≤16:=by
 rw [lens,List.length_map]
 have:=xA hp
 have:=hp.1
 omega
theorem QE (hp:Perm p n):(typ p n).Perm (lens p n):=abR (by have:=hp.1;omega) (abS hp)
theorem Dz (hp:Perm p n):(typ p n).length=(aP p n).length:=by rw [(QE hp).length_eq,lens,List.length_map]
end
end Go.Bm
namespace Go.Bm
open Go Go.Am
abbrev FN (c:List Nat):Value:=Fz c.length 1 (c.map bT)
theorem zL {p:List (List Nat)}:aT (p.map FN):=aT.map fun _=>NN.fz
theorem oh {p:List Nat}:aT (p.map bT):=aT.map fun _=>NN.int
theorem abU {H:BH} {b bytes cn:Nat} {xs:List (List Nat)} {y:List Nat} (h:(xs.length+1)*bytes≤140737488355328):app1 (some [Fz y.length 1 (y.map bT)]) (some (xs.map FN)) H b xs.length bytes cn=some (S H.length 0 (xs.length+1) 1,(H.set b none)++[some ((xs++[y]).map FN)]):=CG (g:=FN) rfl h
theorem qO {xs:List (List Nat)} {k:Nat} (h:k<xs.length):bV none (xs.map FN) k=some (FN (xs.getD k [])):=by
 simp [bV,h,List.getD]
theorem OV {i j o l e:Nat} {cs:List Value} (h:j≠i):fU i cs (S j o l e)=S j o l e:=by
 simp only [fU]
 rw [if_neg (fun k=>h k.1)]
theorem RV:(type_of% @zL)∧(type_of% @oh):=⟨@zL, @oh⟩
theorem anr {p:List Nat} {n:Nat} (hb:By 16 p) (hp:Perm p n):
  aJ false Uf [PL p,I n] [] fun v H1=> ∃j,v=S j 0 (aP p n).length 1∧blk H1 j=some ((aP p n).map FN):=by
 have hlen:=hb.len
 have hn:=hp.1
 obtain ⟨M,hM⟩: ∃M,M=16:=⟨_,rfl⟩
 have GY:aP p n=(mg p M n).2:=by rw [hM];rfl
 rw [GY]
 refine bf agq ?_;simp only [fK,aG]
 refine aB ?_
 refine aB ?_
 refine aB ?_
 refine aB ?_
 refine bM (fun m f H'=> ∃i sc,i≤n∧m=n-i∧sc=mg p M i∧f 2=P 0 0∧f 5=S 1 0 sc.2.length 1∧f 6=P 2 0∧f 12=I n∧f 13=I i∧H'=[some (p.map N8),some (sc.2.map FN),some (sc.1.map B)]) (n) ?_ ?_
 ·exact ⟨_,_,Gh.refl,0,(List.replicate 16 false,[]),by omega,by omega,rfl,ah,ah,ah,ah,ah,by simp⟩
 ·rintro m f H' R ⟨i,sc,hi,rfl,hsc,g2,g5,g6,g12,g13,rfl⟩ hN hX hR hE
  simp only [fK.l1,aG]
  have hok:=rX.all hM hp hi
  rw [←hsc] at hok
  have hsl:=hok.len
  have hnum:=hok.num
  refine au (aC @g12 @g13) ?_
  refine aV (i<n) (fun hc=>?_) fun hc=>?_
  ·have hnext: ∀f' sc',f' 2=P 0 0→f' 5=S 1 0 sc'.2.length 1→f' 6=P 2 0→f' 12=I n→f' 13=I i→sc'=mg p M (i+1)→T 0 fK.eP R f' [some (p.map N8),some (sc'.2.map FN),some (sc'.1.map B)]:=by
    intro f' sc' g2 g5 g6 g12 g13 hs
    refine bI @g13 ?_
    exact hN (n-(i+1)) _ _ _ _ (by omega) Gh.refl ⟨i+1,sc',by omega,rfl,hs,ah,ah,ah,ah,ah,rfl⟩
   refine yY ?_
   refine au @g13 ?_
   refine au (aC @g6 @hsl) ?_
   refine aV (bl sc.1 i=true) (fun hc=>?_) fun hc=>?_
   ·refine lq ?_
    exact hnext _ sc ah ah ah ah ah (by rw [mg,←hsc,if_pos hc])
   ·have h0:bl sc.1 i=false:=by simpa using hc
    have hin:i<n:=by assumption
    have hdone:=qj.done hM hp hsl hin h0 hok.inv
    refine aB ?_
    refine aB ?_
    refine bM (fun m f H'=> ∃j st,j≤M∧m=M-j∧st=wk p (sc.1,[],i) j∧f 2=P 0 0∧f 5=S 1 0 sc.2.length 1∧f 6=P 2 0∧f 12=I n∧f 13=I i∧f 8=S 3 0 st.2.1.length 1∧f 9=I st.2.2∧H'=[some (p.map N8),some (sc.2.map FN),some (st.1.map B),some (st.2.1.map bT)]) (M) ?_ ?_
    ·exact ⟨_,_,Gh.refl,0,(sc.1,[],i),by omega,by omega,rfl,ah,ah,ah,ah,ah,ah,ah,by simp⟩
    ·clear g2 g5 g6 g12 g13
     rintro m f H' R1 ⟨j,st,hj,rfl,hst,g2,g5,g6,g12,g13,g8,g9,rfl⟩ hN1 hX1 hR1 hE1
     simp only [fK.l0,aG]
     have hw:=qj.wk hp hsl hin h0 hok.inv j
     have hstep:wk p (sc.1,[],i) (j+1)=xu p st:=by rw [hst];rfl
     have hstop:bl st.1 st.2.2=true→wk p (sc.1,[],i) M=st:=fun h=>by
      rw [hst] at h⊢
      exact Py h M hj
     have hdj:j=M→bl st.1 st.2.2=true:=fun h=>by
      rw [hst,h]
      exact hdone
     rw [←hst] at hw
     clear hst hdone
     obtain ⟨s,l,k⟩:=st
     simp only at g8 g9 hstop hdj hstep⊢
     have hwl:s.length=16:=hw.len
     have hwk:k<n:=hw.at_
     have hpk:=hp.lt hwk
     have hll:l.length≤16:=by
      have h1:=hw.cnt
      have h2:=List.count_le_length (a:=true) (l:=s)
      simp only at h1
      omega
     refine au (aX @g6 @g9 @hwl) ?_
     refine aV (¬bl s k=true) (fun hc=>?_) fun hc=>?_
     ·rw [xu,if_neg hc] at hstep
      have hjM:j<M:=by
       rcases Nat.lt_or_ge j M with h|h
       ·exact h
       ·exact absurd (hdj (by omega)) hc
      refine bK ?_
      refine au (aX @g6 @g9 @hwl) ?_
      refine au (aX @g8 @g9 @xI) ?_
      refine bI (aC @g2 @g9) ?_
      refine hN1 (M-(j+1)) _ _ _ _ (by omega) (Gh.nrm [0,1,2,5] rfl rfl (by simp only [RH,RV])) ⟨j+1,(s.set k true,l++[k],nl p k),by omega,rfl,hstep.symm,ah,ah,ah,ah,ah,ah,ah,rfl⟩
     ·refine hX1 _ _ ?_
      have hc':bl s k=true:=by simpa using hc
      have hfin:=hstop hc'
      have hfl:l.length*1=(l.map bT).length:=by simp
      have hfz: ∀f2:Fr,f2 2=P 0 0→f2 5=S 1 0 sc.2.length 1→f2 6=P 2 0→f2 8=Fz l.length 1 (l.map bT)→f2 12=I n→f2 13=I i→T 0 fK.r13 (gu 1 (iH 0 fK.eP R)) f2 [some (p.map N8),some (sc.2.map FN),some (s.map B),none]:=by
       clear g2 g5 g6 g12 g13 g8 g9
       intro f2 g2 g5 g6 g8 g12 g13
       refine bI (aX @g5 @g8 @abU) ?_
       refine lq ?_
       refine jO (Gh.nrm [0,5,2] rfl rfl (by simp only [RH,RV])) ?_
       refine hnext _ (s,sc.2++[l]) ah ah ah ah ah ?_
       rw [mg,←hsc,if_neg (by simp [h0]),hfin]
      exact jO (Gh.fz (i:=3) (cs:=l.map bT) rfl oh) (hfz _ tN tN tN tN tN tN)
  ·refine hX _ _ ?_
   obtain rfl:i=n:=by omega
   refine au @g5 ?_
   refine lD @g5 ?_
   rw [hsc]
   exact ⟨1,rfl,rfl⟩
theorem vY {x:Bool} {p:List Nat} {n:Nat} {H:BH} {K:Value→BH→Prop} (hb:By 16 p) (hp:Perm p n) (hK:K (Fz (aP p n).length 1 ((aP p n).map FN)) H):aJ x Uf [PL p,I n] H K:=
 Ar (by (simp only [RH])) zL (by simp) (anr hb hp) hK
theorem ant {p:List Nat} {n:Nat} (hb:By 16 p) (hp:Perm p n):
  aJ false Ue [PL p,I n] [] fun v H1=> ∃j,v=S j 0 (aP p n).length 1∧blk H1 j=some ((aP p n).map FN):=by
 have hlen:=hb.len
 have hn:=hp.1
 obtain ⟨M,hM⟩: ∃M,M=16:=⟨_,rfl⟩
 have GY:aP p n=(mg p M n).2:=by rw [hM];rfl
 rw [GY]
 refine bf agn ?_;simp only [gy,aG]
 refine aB ?_
 refine aB ?_
 refine aB ?_
 refine bM (fun m f H'=> ∃i sc,i≤n∧m=n-i∧sc=mg p M i∧f 1=I n∧f 2=P 0 0∧f 5=S 1 0 sc.2.length 1∧f 6=P 2 0∧f 7=I i∧H'=[some (p.map N8),some (sc.2.map FN),some (sc.1.map B)]) (n) ?_ ?_
 ·exact ⟨_,_,Gh.refl,0,(List.replicate 16 false,[]),by omega,by omega,rfl,ah,ah,ah,ah,ah,by simp⟩
 ·rintro m f H' R ⟨i,sc,hi,rfl,hsc,g1,g2,g5,g6,g7,rfl⟩ hN hX hR hE
  simp only [gy.l1,aG]
  have hok:=rX.all hM hp hi
  rw [←hsc] at hok
  have hsl:=hok.len
  have hnum:=hok.num
  refine au (aC @g1 @g7) ?_
  refine aV (i<n) (fun hc=>?_) fun hc=>?_
  ·have hnext: ∀f' sc',f' 1=I n→f' 2=P 0 0→f' 5=S 1 0 sc'.2.length 1→f' 6=P 2 0→f' 7=I i→sc'=mg p M (i+1)→T 0 gy.r4 R f' [some (p.map N8),some (sc'.2.map FN),some (sc'.1.map B)]:=by
    intro f' sc' g1 g2 g5 g6 g7 hs
    refine bI @g7 ?_
    exact hN (n-(i+1)) _ _ _ _ (by omega) Gh.refl ⟨i+1,sc',by omega,rfl,hs,ah,ah,ah,ah,ah,rfl⟩
   have hin:i<n:=by assumption
   refine bK ?_
   refine aB ?_
   refine au @g7 ?_
   by_cases hm:bl sc.1 i=true
   ·refine bM (fun m f H'=>m=0∧f 1=I n∧f 2=P 0 0∧f 5=S 1 0 sc.2.length 1∧f 6=P 2 0∧f 7=I i∧f 8=S 3 0 0 1∧f 9=I i∧H'=[some (p.map N8),some (sc.2.map FN),some (sc.1.map B),some []]) (0) ?_ ?_
    ·exact ⟨_,_,Gh.refl,rfl,ah,ah,ah,ah,ah,ah,ah,by simp⟩
    ·clear g1 g2 g5 g6 g7
     rintro m f H' R1 ⟨rfl,g1,g2,g5,g6,g7,g8,g9,rfl⟩ hN1 hX1 hR1 hE1
     simp only [gy.l0,aG]
     refine au (aX @g6 @g9 @hsl) ?_
     refine oZ @hm ?_
     refine hX1 _ _ ?_
     refine iE ?_
     refine au @g8 ?_
     refine bY ?_
     refine jO (Gh.nrm [0,1,2] rfl rfl (by simp only [RH,RV])) ?_
     exact hnext _ sc ah ah ah ah ah (by rw [mg,←hsc,if_pos hm])
   ·have h0:bl sc.1 i=false:=by simpa using hm
    have hdone:=qj.done hM hp hsl hin h0 hok.inv
    have abV:=(qj.aP hM hp hsl hin h0 hok.inv hok.upto).1.ne
    refine bM (fun m f H'=> ∃j st,j≤M∧m=M-j∧st=wk p (sc.1,[],i) j∧f 1=I n∧f 2=P 0 0∧f 5=S 1 0 sc.2.length 1∧f 6=P 2 0∧f 7=I i∧f 8=S 3 0 st.2.1.length 1∧f 9=I st.2.2∧H'=[some (p.map N8),some (sc.2.map FN),some (st.1.map B),some (st.2.1.map bT)]) (M) ?_ ?_
    ·exact ⟨_,_,Gh.refl,0,(sc.1,[],i),by omega,by omega,rfl,ah,ah,ah,ah,ah,ah,ah,by simp⟩
    ·clear g1 g2 g5 g6 g7
     rintro m f H' R1 ⟨j,st,hj,rfl,hst,g1,g2,g5,g6,g7,g8,g9,rfl⟩ hN1 hX1 hR1 hE1
     simp only [gy.l0,aG]
     have hw:=qj.wk hp hsl hin h0 hok.inv j
     have hstep:wk p (sc.1,[],i) (j+1)=xu p st:=by rw [hst];rfl
     have hstop:bl st.1 st.2.2=true→wk p (sc.1,[],i) M=st:=fun h=>by
      rw [hst] at h⊢
      exact Py h M hj
     have hdj:j=M→bl st.1 st.2.2=true:=fun h=>by
      rw [hst,h]
      exact hdone
     rw [←hst] at hw
     clear hst hdone
     obtain ⟨s,l,k⟩:=st
     simp only at g8 g9 hstop hdj hstep⊢
     have hwl:s.length=16:=hw.len
     have hwk:k<n:=hw.at_
     have hpk:=hp.lt hwk
     have hll:l.length≤16:=by
      have h1:=hw.cnt
      have h2:=List.count_le_length (a:=true) (l:=s)
      simp only at h1
      omega
     refine au (aX @g6 @g9 @hwl) ?_
     refine aV (¬bl s k=true) (fun hc=>?_) fun hc=>?_
     ·rw [xu,if_neg hc] at hstep
      have hjM:j<M:=by
       rcases Nat.lt_or_ge j M with h|h
       ·exact h
       ·exact absurd (hdj (by omega)) hc
      refine bK ?_
      refine au (aX @g6 @g9 @hwl) ?_
      refine au (aX @g8 @g9 @xI) ?_
      refine bI (aC @g2 @g9) ?_
      refine hN1 (M-(j+1)) _ _ _ _ (by omega) (Gh.nrm [0,1,2,5] rfl rfl (by simp only [RH,RV])) ⟨j+1,(s.set k true,l++[k],nl p k),by omega,rfl,hstep.symm,ah,ah,ah,ah,ah,ah,ah,rfl⟩
     ·refine hX1 _ _ ?_
      have hc':bl s k=true:=by simpa using hc
      have hfin:=hstop hc'
      rw [hfin] at abV
      have hfl:l.length*1=(l.map bT).length:=by simp
      have hl0:0<l.length:=abV
      refine iE ?_
      refine au @g8 ?_
      refine dI ?_
      have hfz: ∀f2:Fr,f2 1=I n→f2 2=P 0 0→f2 5=S 1 0 sc.2.length 1→f2 6=P 2 0→f2 7=I i→f2 8=Fz l.length 1 (l.map bT)→T 0 (.seq gy.r12 gy.r4) R f2 [some (p.map N8),some (sc.2.map FN),some (s.map B),none]:=by
       clear g1 g2 g5 g6 g7 g8 g9
       intro f2 g1 g2 g5 g6 g7 g8
       refine au (aX @g5 @g8 @abU) ?_
       refine jO (Gh.nrm [0,5,2] rfl rfl (by simp only [RH,RV])) ?_
       refine hnext _ (s,sc.2++[l]) ah ah ah ah ah ?_
       rw [mg,←hsc,if_neg (by simp [h0]),hfin]
      exact jO (Gh.fz (i:=3) (cs:=l.map bT) rfl oh) (hfz _ tN tN tN tN tN tN)
  ·refine hX _ _ ?_
   obtain rfl:i=n:=by omega
   refine au @g5 ?_
   refine lD @g5 ?_
   rw [hsc]
   exact ⟨1,rfl,rfl⟩
theorem KN {x:Bool} {p:List Nat} {n:Nat} {H:BH} {K:Value→BH→Prop} (hb:By 16 p) (hp:Perm p n) (hK:K (Fz (aP p n).length 1 ((aP p n).map FN)) H):aJ x Ue [PL p,I n] H K:=
 Ar (by (simp only [RH])) zL (by simp) (ant hb hp) hK
end Go.Bm
namespace Go.Bm
open Go Go.Am
def uY (c:Option (List Value)) (H:BH) (b l m bytes:Nat) (ys:List Value):Option (Value×BH):=
 match c with
 |some cs=>if ys.length=m∧l≤cs.length∧(l+m)*bytes≤140737488355328∧ys.all jV=true then some (S H.length 0 (l+m) 1,(H.set b none)++[some (cs.take l++ys)]) else lY 1 bytes (S b 0 l 1) (Fz m 1 ys) H
 |none=>lY 1 bytes (S b 0 l 1) (Fz m 1 ys) H
theorem vZ {H:BH} {b l m bytes:Nat} {ys:List Value}:lY 1 bytes (S b 0 l 1) (Fz m 1 ys) H=uY (blk H b) H b l m bytes ys:=by
 unfold uY
 split
 ·rename_i cs hb
  split
  ·rename_i h
   obtain ⟨h1,h2,h3,h4⟩:=h
   by_cases hm:m=0
   ·subst hm
    obtain rfl:ys=[]:=List.eq_nil_of_length_eq_zero h1
    simp only [Nat.add_zero] at h3
    simp [lY,newC,Fz,hb,h2,h3]
   ·simp only [lY,newC,Fz,if_neg hm,if_true,hb,Nat.mul_one]
    rw [if_pos ⟨h2,h3,h4⟩]
  ·rfl
 ·rfl
section
variable {H:BH} {b bytes:Nat}
theorem LV {α:Type} {g:α→Value} {xs ys:List α} (ho: ∀a,jV (g a)=true) (h:(xs.length+ys.length)*bytes≤140737488355328):
  uY (some (xs.map g)) H b xs.length ys.length bytes (ys.map g)=some (S H.length 0 (xs.length+ys.length) 1,(H.set b none)++[some ((xs++ys).map g)]):=by
 simp only [uY]
 rw [if_pos ⟨by simp,by simp,h,by simp [ho]⟩]
 simp [List.take_of_length_le]
theorem anu {α:Type} {g:α→Value} {x:α} {ys:List α} (ho: ∀a,jV (g a)=true) (h:(ys.length+1)*bytes≤140737488355328):
  uY (some [g x]) H b 1 ys.length bytes (ys.map g)=some (S H.length 0 (ys.length+1) 1,(H.set b none)++[some ((x::ys).map g)]):=by
 have:=LV (H:=H) (b:=b) (bytes:=bytes) (g:=g) (xs:=[x]) (ys:=ys) ho (by simpa [Nat.add_comm] using h)
 simpa [Nat.add_comm] using this
theorem abW {α:Type} {g:α→Value} {ys:List α} (ho: ∀a,jV (g a)=true) (h:ys.length*bytes≤140737488355328):
  uY (some []) H b 0 ys.length bytes (ys.map g)=some (S H.length 0 ys.length 1,(H.set b none)++[some (ys.map g)]):=by
 have:=LV (H:=H) (b:=b) (bytes:=bytes) (g:=g) (xs:=[]) (ys:=ys) ho (by simpa using h)
 simpa using this
theorem Qv {x:Nat} {ys:List Nat} (h:(ys.length+1)*bytes≤140737488355328):uY (some [.int .i64 (x:Int)]) H b 1 ys.length bytes (ys.map bT)=some (S H.length 0 (ys.length+1) 1,(H.set b none)++[some ((x::ys).map bT)]):=anu (g:=bT) (fun _=>rfl) h
theorem aaU {xs ys:List (List Nat)} (h:(xs.length+ys.length)*bytes≤140737488355328):uY (some (xs.map FN)) H b xs.length ys.length bytes (ys.map FN)=some (S H.length 0 (xs.length+ys.length) 1,(H.set b none)++[some ((xs++ys).map FN)]):=LV (fun _=>rfl) h
theorem aaT {ys:List (List Nat)} (h:ys.length*bytes≤140737488355328):uY (some []) H b 0 ys.length bytes (ys.map FN)=some (S H.length 0 ys.length 1,(H.set b none)++[some (ys.map FN)]):=abW (fun _=>rfl) h
theorem aaF {xs ys:List Int} (h:(xs.length+ys.length)*bytes≤140737488355328):uY (some (xs.map I)) H b xs.length ys.length bytes (ys.map I)=some (S H.length 0 (xs.length+ys.length) 1,(H.set b none)++[some ((xs++ys).map I)]):=LV (fun _=>rfl) h
theorem abX {ys:List Int} (h:ys.length*bytes≤140737488355328):uY (some []) H b 0 ys.length bytes (ys.map I)=some (S H.length 0 ys.length 1,(H.set b none)++[some (ys.map I)]):=abW (fun _=>rfl) h
end
theorem abe {x:Bool} {g:Nat} {args:List Value} {H:BH} {K:Value→BH→Prop} (ha:aT args)
  (h:aJ false g args [] fun v H1=> ∃i j l1 l2 e1 e2 c1 c2,i≠j∧v= .tuple ⟨[S i 0 l1 e1,S j 0 l2 e2]⟩∧blk H1 i=some c1∧blk H1 j=some c2∧aT c1∧aT c2∧l1*e1=c1.length∧l2*e2=c2.length∧K (.tuple ⟨[Fz l1 e1 c1,Fz l2 e2 c2]⟩) H):aJ x g args H K:=
 dw ha (h.gh fun v H1 ⟨i,j,l1,l2,e1,e2,c1,c2,h1,h2,h3,h4,h5,h6,h7,h8,hK⟩=>by
  have hi:=yZ h3
  refine ⟨kL j c2 (kL i c1 v),(H1.set i none).set j none,(dK.fz h3 h5).trans (dK.fz (by rw [jW hi,if_neg (Ne.symm h1)];exact h4) h6),?_⟩
  have a1:fU i c1 (S i 0 l1 e1)=Fz l1 e1 c1:=kS h7
  have a2:fU i c1 (S j 0 l2 e2)=S j 0 l2 e2:=OV (Ne.symm h1)
  have a3:fU j c2 (S j 0 l2 e2)=Fz l2 e2 c2:=kS h8
  have a4:fU j c2 (Fz l1 e1 c1)=Fz l1 e1 c1:=rfl
  have e:kL j c2 (kL i c1 v)= .tuple ⟨[Fz l1 e1 c1,Fz l2 e2 c2]⟩:=by
   rw [h2]
   simp only [kL,List.map_cons,List.map_nil,a1,a2,a3,a4]
  rw [e]
  refine ⟨NN.tuple fun c hc=>?_,hK⟩
  rcases List.mem_cons.1 hc with rfl|hc
  ·exact .fz
  ·rw [List.mem_singleton.1 hc]
   exact .fz)
theorem abY {H:BH} {b o:Nat} {s:List Nat} {c:Nat} (h:o<s.length):fQ (some (s.map bT)) H b o 1 (.int .i64 (c:Int))=some (undef,H.set b (some ((s.set o c).map bT))):=by
 have e:splice (s.map bT) o [.int .i64 (c:Int)]=(s.set o c).map bT:=Cm (g:=bT) h
 rw [Aj (by simpa using h),e]
theorem anv {n:Nat}:fB [.int .i64 0, .int .i64 0] n=(List.replicate (n*2) 0).map bT:=by
 induction n with
 |zero=>rfl
 |succ n ih=>
  have e:fB [.int .i64 0, .int .i64 0] (n+1)=[.int .i64 0, .int .i64 0]++fB [.int .i64 0, .int .i64 0] n:=by simp [fB,List.replicate_succ]
  rw [e,ih,show (n+1)*2=n*2+1+1 by omega,List.replicate_succ,List.replicate_succ]
  rfl
theorem anw {x:Bool} {cs:List (List Nat)} {H:BH} {K:Value→BH→Prop} (h0:0<cs.length) (hl:cs.length≤1000) (hK:K (S H.length 0 cs.length 1) (H++[some (cs.map FN)])):
  aJ x ae6 [Fz cs.length 1 (cs.map FN)] H K:=by
 refine J3 (.cons .fz .nil) zL ?_ hK
 refine bf agS ?_;simp only [sZ,aG]
 refine aB ?_
 refine bD fun Kr hKr=>?_;simp (disch:=omega) only [RA,↓reduceIte,Nat.reduceEqDiff,Nat.reduceBEq,Nat.reduceSub,Nat.reduceAdd,Nat.reduceMul,Nat.reduceLT,Nat.reduceLeDiff,Int.reduceLE,Int.reduceLT,Int.reduceEq,Int.reduceNeg,Int.reduceToNat,Int.reduceMul,Int.reduceAdd,Int.reduceSub,Int.reduceBEq,Int.reduceBNe,reduceCtorEq,RD,WA h0];refine hKr _ _ ?_;clear hKr Kr;(try simp only [RN,reduceIte]);try refine eG rfl ?_
 refine bY ?_
 refine au (aC @vZ @aaT) ?_
 refine aU ?_
 exact ⟨1,rfl,rfl⟩
theorem amr {x:Bool} {xs:List Int} {H:BH} {K:Value→BH→Prop} (h0:0<xs.length) (hl:xs.length≤1000) (hK:K (S H.length 0 xs.length 1) (H++[some (xs.map I)])):
  aJ x aeL [Fz xs.length 1 (xs.map I)] H K:=by
 refine J3 (.cons .fz .nil) JV ?_ hK
 refine bf agr ?_;simp only [sV,aG]
 refine aB ?_
 refine bD fun Kr hKr=>?_;simp (disch:=omega) only [RA,↓reduceIte,Nat.reduceEqDiff,reduceCtorEq,RD,WA h0];refine hKr _ _ ?_;clear hKr Kr;(try simp only [RN,reduceIte]);try refine eG rfl ?_
 refine bY ?_
 refine au (aC @vZ @abX) ?_
 refine aU ?_
 exact ⟨1,rfl,rfl⟩
theorem amA {x:Bool} {xs:List Int} {H:BH} {K:Value→BH→Prop} (hl:xs.length≤1000) (hK:K (S H.length 0 xs.length 1) (H++[some (xs.map I)])):
  aJ x aeQ [Fz xs.length 1 (xs.map I)] H K:=by
 refine J3 (.cons .fz .nil) JV ?_ hK
 refine bf agw ?_;simp only [yA,aG]
 refine aB ?_
 refine au (aC @vZ @abX) ?_
 refine aU ?_
 exact ⟨1,rfl,rfl⟩
end Go.Bm
namespace Go.Bm
open Go Go.Am
def Sl (H:BH) (v:Value) (xs:List Int):Prop:=(v= .slice none 0 0∧xs=[])∨(∃i,v=S i 0 xs.length 1∧blk H i=some (xs.map I))∨v=FI xs
theorem Sl.own {H:BH} {i:Nat} {xs:List Int} (h:blk H i=some (xs.map I)):Sl H (S i 0 xs.length 1) xs:= .inr (.inl ⟨i,rfl,h⟩)
theorem Sl.fz {H:BH} {xs:List Int}:Sl H (FI xs) xs:= .inr (.inr rfl)
theorem Sl.nil {H:BH}:Sl H (.slice none 0 0) []:= .inl ⟨rfl,rfl⟩
theorem Sl.len {H:BH} {v:Value} {xs:List Int} (h:Sl H v xs):Cc v=some (I xs.length):=by
 rcases h with ⟨rfl,rfl⟩|⟨i,rfl,_⟩|rfl<;>rfl
theorem Sl.get {H:BH} {v:Value} {xs:List Int} (h:Sl H v xs) {j:Nat} (hj:j<xs.length): ∃p,wW 1 v (I j)=some p∧Ae none H p=some (I (el xs j)):=by
 rcases h with ⟨rfl,rfl⟩|⟨i,rfl,hb⟩|rfl
 ·simp at hj
 ·refine ⟨_,JD (by omega),?_⟩
  rw [JG,hb,JF,JO (by omega)]
  simp
 ·refine ⟨_,JE (by omega),?_⟩
  rw [JH,JO (by omega)]
  simp
end Go.Bm
namespace Go.Bm
open Go Go.Am
theorem abZ {p:List Nat} {n i:Nat} (h:i<(aP p n).length):nl (lens p n) i=((aP p n).getD i []).length:=by
 simp [nl,lens,List.getD,h]
theorem anx {p:List Nat} {n:Nat} (hb:By 16 p) (hp:Perm p n):
  aJ false Ui [PL p,I n] [] fun v H1=> ∃j,v=S j 0 (typ p n).length 1∧blk H1 j=some ((typ p n).map bT):=by
 have hlen:=hb.len
 have hnum:=xA hp
 have hn:=hp.1
 have hll:(lens p n).length=(aP p n).length:=by rw [lens,List.length_map]
 refine bf agE ?_;simp only [lN,aG]
 refine aB ?_
 refine aB ?_
 refine dB fun Kr hKr=>?_
 refine vY hb hp ?_
 refine aO ?_
 refine aI hKr ?_
 refine bM (fun m f H'=> ∃i out,i≤(aP p n).length∧m=(aP p n).length-i∧out=(lens p n).take i∧f 5=S 1 0 out.length 1∧f 11=Fz (aP p n).length 1 ((aP p n).map FN)∧f 12=I (aP p n).length∧f 13=I i∧H'=[some (p.map N8),some (out.map bT)]) ((aP p n).length) ?_ ?_
 ·exact ⟨_,_,Gh.refl,0,[],by omega,by omega,by simp,ah,ah,ah,ah,by simp⟩
 ·rintro m f H' R ⟨i,out,hi,rfl,hout,g5,g11,g12,g13,rfl⟩ hN hX hR hE
  simp only [lN.l0,aG]
  refine au (aC @g12 @g13) ?_
  refine aV (i<(aP p n).length) (fun hc=>?_) fun hc=>?_
  ·have hol:out.length≤16:=by rw [hout,List.length_take];omega
   have hci:=abZ hc
   refine bK ?_
   refine au (aX @g11 @g13 @qO) ?_
   refine bD fun Kr hKr=>?_;simp (disch:=omega) only [RA,↓reduceIte,Nat.reduceEqDiff,Nat.reduceAdd,Nat.reduceLeDiff,RD,g5,←hci,xI];refine hKr _ _ ?_;clear hKr Kr;(try simp only [RN,reduceIte]);try refine eG rfl ?_
   refine bI @g13 ?_
   exact hN ((aP p n).length-(i+1)) _ _ _ _ (by omega) (Gh.nrm [0,3] rfl rfl (by simp only [RH,RV])) ⟨i+1,out++[nl (lens p n) i],by omega,rfl,by rw [AU (by omega),hout],ah,ah,ah,ah,rfl⟩
  ·refine hX _ _ ?_
   obtain rfl:i=(aP p n).length:=by omega
   have anz:out=lens p n:=by rw [hout,←hll,List.take_length]
   subst anz
   have hpl:(uj (lens p n)).length=(lens p n).length:=abK
   have hpm:(uj (typ p n)).Perm (uj (lens p n)):=(QE hp).map _
   have htl:(typ p n).length=(lens p n).length:=(QE hp).length_eq
   have F5:=abT hp
   refine aY @g5 fun Kr hKr=>?_
   refine alf (i:=1) rfl oh ?_
   have e:([S 1 0 (lens p n).length 1]:List Value).map (ren [1])=[S 0 0 (uj (lens p n)).length 1]:=by rw [hpl];simp [ren,nU,nm]
   rw [e,abJ]
   refine anm (r:=uj (typ p n)) (by omega) anp hpm ?_
   refine ⟨0,_,_,rfl,HN.cons (aT.map fun _=> .int) HN.nil,?_⟩
   rw [hpl]
   refine aO ?_
   refine aI hKr ?_
   refine aU ?_
   exact ⟨1,by rw [htl],by rw [abJ];rfl⟩
theorem QF {x:Bool} {p:List Nat} {n:Nat} {H:BH} {K:Value→BH→Prop} (hb:By 16 p) (hp:Perm p n) (hK:K (FN (typ p n)) H):aJ x Ui [PL p,I n] H K:=
 Ar (by (simp only [RH])) oh (by simp) (anx hb hp) hK
theorem anA {H:BH} {b:Nat}:fQ (some (List.replicate 17 (.int .i64 0))) H b 0 17 (eY (List.replicate 17 (.int .i64 0)))=some (undef,H.set b (some ((List.replicate 17 0).map bT))):=by
 rw [OM];rfl
theorem anB {H:BH} {b o:Nat} {s:List Nat} {c:Nat} (h:o<s.length):fQ (some (s.map bT)) H b o 1 (.int .i64 (c:Int))=some (undef,H.set b (some ((s.set o c).map bT))):=by
 rw [Aj (by simpa using h)]
 rw [Cm (g:=bT) h]
theorem ab1 {p:List Nat} {n:Nat} (hb:By 16 p) (hp:Perm p n):
  aJ false ER [PL p,I n] [] fun v H1=> ∃j,v=S j 0 (typ p n).length 1∧blk H1 j=some ((typ p n).map bT):=by
 have hlen:=hb.len
 have hnum:=xA hp
 have hn:=hp.1
 have hll:(lens p n).length=(aP p n).length:=by rw [lens,List.length_map]
 have hlo:=abS hp
 have F5:=abT hp
 refine bf aga ?_;simp only [gU,aG]
 refine aB ?_
 refine dB fun Kr hKr=>?_
 refine KN hb hp ?_
 refine bP @anA ?_
 refine aI hKr ?_
 refine aB ?_
 refine bM (fun m f H'=> ∃i cn,i≤(aP p n).length∧m=(aP p n).length-i∧cn=qx (lens p n) i∧f 1=I n∧f 5=P 2 0∧f 6=Fz (aP p n).length 1 ((aP p n).map FN)∧f 7=S 1 0 0 1∧f 8=I i∧H'=[some (p.map N8),some (([]:List Nat).map bT),some (cn.map bT)]) ((aP p n).length) ?_ ?_
 ·exact ⟨_,_,Gh.refl,0,List.replicate 17 0,by omega,by omega,rfl,ah,ah,ah,ah,ah,rfl⟩
 ·rintro m f H' R ⟨i,cn,hi,rfl,hcn,g1,g5,g6,g7,g8,rfl⟩ hN hX hR hE
  simp only [gU.l0,aG]
  have hcl:cn.length=17:=by rw [hcn];exact abN
  refine au (aC @g6 @g8) ?_
  refine aV (i<(aP p n).length) (fun hc=>?_) fun hc=>?_
  ·have hci:=abZ hc
   have hz:=hlo _ (iM (show i<(lens p n).length by omega))
   have hle:nl cn (nl (lens p n) i)≤16:=by
    rw [hcn,QD (by omega) (by omega)]
    have:=List.count_le_length (a:=nl (lens p n) i) (l:=(lens p n).take i)
    rw [List.length_take] at this
    omega
   have e1:(nl cn (nl (lens p n) i):Int)+1=((nl cn (nl (lens p n) i)+1:Nat):Int):=by omega
   refine bK ?_
   refine bD fun Kr hKr=>?_;simp (disch:=omega) only [RA,↓reduceIte,Nat.reduceEqDiff,RD,g5,g6,g8,qO,←hci,mD,hcl,e1,anB];refine hKr _ _ ?_;clear hKr Kr;(try simp only [RN,reduceIte]);try refine eG rfl ?_
   refine bI @g8 ?_
   exact hN ((aP p n).length-(i+1)) _ _ _ _ (by omega) Gh.refl ⟨i+1,cn.set (nl (lens p n) i) (nl cn (nl (lens p n) i)+1),by omega,rfl,by rw [qx,hcn],ah,ah,ah,ah,ah,rfl⟩
  ·refine hX _ _ ?_
   obtain rfl:i=(aP p n).length:=by omega
   rw [←hll] at hcn
   have anC: ∀k,k≤n→(jY cn n k).length≤16:=fun k hk=>by
    rw [hcn]
    have:=anq (show n≤16 by omega) hk hlo
    omega
   have hcv: ∀v,v<17→nl cn v≤16:=fun v hv=>by
    rw [hcn,QD (Nat.le_refl _) hv]
    have:=List.count_le_length (a:=v) (l:=(lens p n).take (lens p n).length)
    rw [List.length_take] at this
    omega
   have hdl:typ p n=jY cn n n:=by rw [hcn];rfl
   rw [hdl] at hX
   clear g6 g8 hc hN hX hR hE
   refine iE ?_
   refine au @g1 ?_
   rw [hdl]
   refine bM (fun m f H'=> ∃v out,v≤n∧v=m∧out=jY cn n (n-v)∧f 5=P 1 0∧f 7=S 0 0 out.length 1∧f 9=I v∧H'=[some (out.map bT),some (cn.map bT)]) (n) ?_ ?_
   ·refine ⟨_,_,(Gh.nrm [1,2] rfl rfl (by simp only [RH,RV])),n,[],by omega,by omega,by simp [jY],ah,ah,ah,rfl⟩
   ·clear g1 g5 g7
    rintro m f H' R2 ⟨v,out,hv,rfl,hout,g5,g7,g9,rfl⟩ iG hX2 hR2 hE2
    simp only [gU.l2,aG]
    refine au @g9 ?_
    refine aV (0<v) (fun hc=>?_) fun hc=>?_
    ·have hq:=hcv v (by omega)
     have hstep:jY cn n (n-(v-1))=jY cn n (n-v)++List.replicate (nl cn v) v:=by
      rw [show n-(v-1)=(n-v)+1 by omega,jY,show n-(n-v)=v by omega]
     have hdn:=anC (n-(v-1)) (by omega)
     rw [hstep,←hout,List.length_append,List.length_replicate] at hdn
     rw [←hout] at hstep
     refine bK ?_
     refine au (bG @g5 @g9 @mD @hcl) ?_
     obtain ⟨q,hqe⟩: ∃q,nl cn v=q:=⟨_,rfl⟩
     rw [hqe] at hq hstep hdn
     simp only [hqe]
     refine bM (fun m f H'=> ∃j o,j≤q∧j=m∧o=out++List.replicate (q-j) v∧f 5=P 1 0∧f 7=S 0 0 o.length 1∧f 9=I v∧f 10=I j∧H'=[some (o.map bT),some (cn.map bT)]) (q) ?_ ?_
     ·exact ⟨_,_,Gh.refl,q,out,by omega,by omega,by simp,ah,ah,ah,ah,rfl⟩
     ·clear g5 g7 g9
      rintro m f H' R3 ⟨j,o,hj,rfl,ho,g5,g7,g9,g10,rfl⟩ hN3 hX3 GR hE3
      simp only [gU.l1,aG]
      have hol:o.length≤16:=by rw [ho,List.length_append,List.length_replicate];omega
      refine au @g10 ?_
      refine aV (0<j) (fun hc=>?_) fun hc=>?_
      ·have hj1:(j:Int)-1=((j-1:Nat):Int):=by omega
       refine bK ?_
       refine au (aX @g7 @g9 @xI) ?_
       refine bI (aC @g10 @hj1) ?_
       refine hN3 (j-1) _ _ _ _ (by omega) (Gh.nrm [3,1] rfl rfl (by simp only [RH,RV])) ⟨j-1,o++[v],by omega,rfl,?_,ah,ah,ah,ah,rfl⟩
       rw [ho,List.append_assoc,show q-(j-1)=(q-j)+1 by omega,List.replicate_succ']
      ·refine hX3 _ _ ?_
       obtain rfl:j=0:=by omega
       have hv1:(v:Int)-1=((v-1:Nat):Int):=by omega
       refine bI (aC @g9 @hv1) ?_
       refine iG (v-1) _ _ _ _ (by omega) Gh.refl ⟨v-1,o,by omega,rfl,by rw [hstep,ho];rfl,ah,ah,ah,rfl⟩
    ·refine hX2 _ _ ?_
     obtain rfl:v=0:=by omega
     refine au @g7 ?_
     refine lD @g7 ?_
     rw [hout]
     exact ⟨0,rfl,rfl⟩
theorem DF {x:Bool} {p:List Nat} {n:Nat} {H:BH} {K:Value→BH→Prop} (hb:By 16 p) (hp:Perm p n) (hK:K (FN (typ p n)) H):aJ x ER [PL p,I n] H K:=
 Ar (by (simp only [RH])) oh (by simp) (ab1 hb hp) hK
def Clean (w:List Nat) (n:Nat):Prop:= ∀x,x<n→nl w x≠x∧nl w (nl w x)=x
instance (w:List Nat) (n:Nat):Decidable (Clean w n):=by unfold Clean;infer_instance
end Go.Bm
namespace Go.Bm
open Go Go.Am
theorem ab2 {b w:List Nat} {n:Nat} (hn:n≤16):By 16 (uT b w n):=aly hn
def pass (b w:List Nat) (n:Nat):List (List Nat):=[typ b n,typ w n,typ (uT b w n) n]
abbrev FNN (xs:List (List Nat)):Value:=Fz xs.length 1 (xs.map FN)
theorem ab3 {x:Bool} {n:Nat} {b w:List Nat} {H:BH} {K:Value→BH→Prop} (hb:By 16 b) (hw:By 16 w) (hd:bC n b w)
  (hK:K (FNN (pass b w n)) H):aJ x aew [DV n b w] H K:=by
 have hlb:=hb.len
 have cZ:=hw.len
 have hn:=hd.1.1
 have hb16:=fun i=>hd.1.qM hlb i
 have hw16:=fun i=>hd.2.1.qM cZ i
 refine Ar (l:=3) (e:=1) (cs:=(pass b w n).map FN) (.cons fC .nil) zL (by simp [pass]) ?_ hK
 refine bf af0 ?_;simp only [yj,aG]
 refine au @aH ?_
 refine aY (aC @aH @aK) fun Kr hKr=>?_
 refine QF hb hd.1 ?_
 refine bP (aC @aH @aK) ?_
 refine QF hw hd.2.1 ?_
 refine bP (aC @aH @aK) ?_
 refine alG hb hw (by omega) hb16 hw16 ?_
 refine bP (aC @aH @aK) ?_
 refine QF (ab2 (by omega)) (GZ hd.1 hd.2.1) ?_
 refine aO ?_
 refine aI hKr ?_
 refine aU ?_
 exact ⟨1,rfl,rfl⟩
theorem anD {x:Bool} {n:Nat} {b w:List Nat} {H:BH} {K:Value→BH→Prop} (hb:By 16 b) (hw:By 16 w) (hd:bC n b w)
  (hK:K (FNN (pass b w n)) H):aJ x ae7 [DV n b w] H K:=by
 have hlb:=hb.len
 have cZ:=hw.len
 have hn:=hd.1.1
 have hb16:=fun i=>hd.1.qM hlb i
 have hw16:=fun i=>hd.2.1.qM cZ i
 refine Ar (l:=3) (e:=1) (cs:=(pass b w n).map FN) (.cons fC .nil) zL (by simp [pass]) ?_ hK
 refine bf agT ?_;simp only [yE,aG]
 refine au @aH ?_
 refine aY (aC @aH @aK) fun Kr hKr=>?_
 refine DF hb hd.1 ?_
 refine bP (aC @aH @aK) ?_
 refine DF hw hd.2.1 ?_
 refine bP (aC @aH @aK) ?_
 refine alF hb hw (by omega) hb16 hw16 ?_
 refine bP (aC @aH @aK) ?_
 refine DF (ab2 (by omega)) (GZ hd.1 hd.2.1) ?_
 refine aO ?_
 refine aI hKr ?_
 refine aU ?_
 exact ⟨1,rfl,rfl⟩
theorem ab4 {n:Nat} {b w:List Nat} (hd:bC n b w):Tree n b w↔(typ (uT b w n) n).length=1∧(typ b n).length+(typ w n).length=n+1:=by
 rw [Tree,Dz (GZ hd.1 hd.2.1),Dz hd.1,Dz hd.2.1]
theorem aaG {x:Bool} {n:Nat} {b w:List Nat} {H:BH} {K:Value→BH→Prop} (hb:By 16 b) (hw:By 16 w) (hd:bC n b w)
  (hK:K (.bool (decide (Tree n b w))) H):aJ x aeM [DV n b w] H K:=by
 have hlb:=hb.len
 have cZ:=hw.len
 have hn:=hd.1.1
 have htd:=ab4 hd
 have hz: ∀p:List Nat,Perm p n→(typ p n).length≤16:=fun p hp=>by rw [Dz hp];have:=xA hp;omega
 have hz1:=hz b hd.1
 have hz2:=hz w hd.2.1
 have hz3:=hz _ (GZ hd.1 hd.2.1)
 refine dw (.cons fC .nil) ?_
 refine bf ags ?_;simp only [vG,aG]
 refine au @aH ?_
 refine aY (aC @aH @aK) fun Kr hKr=>?_
 refine ab3 hb hw hd ?_
 have hg0:bV none ((pass b w n).map FN) 0=some (FN (typ b n)):=rfl
 have hg1:bV none ((pass b w n).map FN) 1=some (FN (typ w n)):=rfl
 have hg2:bV none ((pass b w n).map FN) 2=some (FN (typ (uT b w n) n)):=rfl
 have hp3:(pass b w n).length=3:=rfl
 generalize (pass b w n)=ps at hg0 hg1 hg2 hp3⊢
 generalize typ b n=t1 at hg0 htd hz1
 generalize typ w n=t2 at hg1 htd hz2
 generalize typ (uT b w n) n=t3 at hg2 htd hz3
 refine aO ?_
 refine aI hKr ?_
 by_cases h3:t3.length=1
 ·by_cases h12:t1.length+t2.length=n+1
  ·rw [decide_eq_true (htd.2 ⟨h3,h12⟩)] at hK
   refine au (bG @aH @hg0 @hg1 @hg2) ?_
   refine aU ?_
   exact ⟨.bool,hK⟩
  ·rw [decide_eq_false (fun h=>h12 (htd.1 h).2)] at hK
   refine au (bG @aH @hg0 @hg1 @hg2) ?_
   refine aU ?_
   exact ⟨.bool,hK⟩
 ·rw [decide_eq_false (fun h=>h3 (htd.1 h).1)] at hK
  refine au (aC @aH @hg2) ?_
  refine aU ?_
  exact ⟨.bool,hK⟩
theorem aaS {x:Bool} {n:Nat} {b w:List Nat} {H:BH} {K:Value→BH→Prop} (hb:By 16 b) (hw:By 16 w) (hd:bC n b w)
  (hK:K (.bool (decide (Tree n b w))) H):aJ x aeP [DV n b w] H K:=by
 have hlb:=hb.len
 have cZ:=hw.len
 have hn:=hd.1.1
 have htd:=ab4 hd
 have hz: ∀p:List Nat,Perm p n→(typ p n).length≤16:=fun p hp=>by rw [Dz hp];have:=xA hp;omega
 have hz1:=hz b hd.1
 have hz2:=hz w hd.2.1
 have hz3:=hz _ (GZ hd.1 hd.2.1)
 refine dw (.cons fC .nil) ?_
 refine bf agv ?_;simp only [vH,aG]
 refine au @aH ?_
 refine aY (aC @aH @aK) fun Kr hKr=>?_
 refine anD hb hw hd ?_
 have hg0:bV none ((pass b w n).map FN) 0=some (FN (typ b n)):=rfl
 have hg1:bV none ((pass b w n).map FN) 1=some (FN (typ w n)):=rfl
 have hg2:bV none ((pass b w n).map FN) 2=some (FN (typ (uT b w n) n)):=rfl
 have hp3:(pass b w n).length=3:=rfl
 generalize (pass b w n)=ps at hg0 hg1 hg2 hp3⊢
 generalize typ b n=t1 at hg0 htd hz1
 generalize typ w n=t2 at hg1 htd hz2
 generalize typ (uT b w n) n=t3 at hg2 htd hz3
 refine aO ?_
 refine aI hKr ?_
 by_cases h3:t3.length=1
 ·by_cases h12:t1.length+t2.length=n+1
  ·rw [decide_eq_true (htd.2 ⟨h3,h12⟩)] at hK
   refine au (bG @aH @hg0 @hg1 @hg2) ?_
   refine aU ?_
   exact ⟨.bool,hK⟩
  ·rw [decide_eq_false (fun h=>h12 (htd.1 h).2)] at hK
   refine au (bG @aH @hg0 @hg1 @hg2) ?_
   refine aU ?_
   exact ⟨.bool,hK⟩
 ·rw [decide_eq_false (fun h=>h3 (htd.1 h).1)] at hK
  refine au (aC @aH @hg2) ?_
  refine aU ?_
  exact ⟨.bool,hK⟩
theorem anE {x:Bool} {n:Int} {b w:List Nat} {xs:List Int} {H:BH} {K:Value→BH→Prop} (hb:By 16 b) (hw:By 16 w) (hl:xs.length≤1000)
  (hK:K (.bool (decide (∀y∈xs,0≤y∧y<n))) H):aJ x ae1 [DV n b w,FI xs] H K:=by
 have hlb:=hb.len
 have cZ:=hw.len
 refine dw (.cons fC (.cons .fz .nil)) ?_
 refine bf agL ?_;simp only [lQ,aG]
 refine au @aH ?_
 refine aB ?_
 refine bM (fun m f H'=> ∃i,i≤xs.length∧m=xs.length-i∧(∀j,j<i→0≤el xs j∧el xs j<n)∧f 2=P 0 0∧f 7=FI xs∧f 8=I xs.length∧f 9=I i∧H'=[some (DC n b w)]) (xs.length) ?_ ?_
 ·exact ⟨_,_,Gh.refl,0,by omega,by omega,fun j hj=>by omega,ah,ah,ah,ah,rfl⟩
 ·rintro m f H' R ⟨i,hi,rfl,hall,g2,g7,g8,g9,rfl⟩ hN hX hR hE
  simp only [lQ.l0,aG]
  refine au (aC @g8 @g9) ?_
  refine aV (i<xs.length) (fun hc=>?_) fun hc=>?_
  ·have hil:i<xs.length:=by assumption
   have hno: ¬(0≤el xs i∧el xs i<n)→decide (∀y∈xs,0≤y∧y<n)=false:=fun h=>by
    rw [decide_eq_false_iff_not]
    intro h2
    refine h (h2 _ ?_)
    simp [el,List.getD,hil]
   refine bK ?_
   refine au (aC @g7 @g9) ?_
   by_cases h0:el xs i<0
   ·refine aB ?_
    refine dI ?_
    refine aB ?_
    refine hR _ _ ?_
    refine aU ?_
    rw [hno (by omega)] at hK
    exact ⟨.bool,hK⟩
   ·refine au (aC @g2 @aH) ?_
    refine aV (n≤el xs i) (fun hc=>?_) fun hc=>?_
    ·refine aB ?_
     refine hR _ _ ?_
     refine aU ?_
     rw [hno (by omega)] at hK
     exact ⟨.bool,hK⟩
    ·have BQ: ∀j,j<i+1→0≤el xs j∧el xs j<n:=fun j hj=>by
      by_cases e:j=i
      ·rw [e];omega
      ·exact hall j (by omega)
     refine bI @g9 ?_
     exact hN (xs.length-(i+1)) _ _ _ _ (by omega) Gh.refl ⟨i+1,by omega,rfl,BQ,ah,ah,ah,ah,rfl⟩
  ·refine hX _ _ ?_
   refine aB ?_
   refine aU ?_
   rw [show decide (∀y∈xs,0≤y∧y<n)=true by
    rw [decide_eq_true_eq]
    intro y hy
    obtain ⟨j,hj,rfl⟩:=List.mem_iff_getElem.1 hy
    have:=hall j (by omega)
    simpa [el,List.getD,hj] using this] at hK
   exact ⟨.bool,hK⟩
def fV (n:Int) (b w:List Nat) (xs:List Int):Int:=
 if¬bC n b w then 1 else if¬(∀y∈xs,0≤y∧y<n) then 2 else if¬Tree n.toNat b w then 5 else 0
theorem Dc {x:Bool} {n:Int} {b w:List Nat} {xs:List Int} {H:BH} {K:Value→BH→Prop} (hb:By 16 b) (hw:By 16 w) (hl:xs.length≤1000)
  (hK:K (I (fV n b w xs)) H):aJ x aeG [DV n b w,FI xs] H K:=by
 have hlb:=hb.len
 have cZ:=hw.len
 refine dw (.cons fC (.cons .fz .nil)) ?_
 refine bf agh ?_;simp only [nC,aG]
 refine au @aH ?_
 refine yY ?_
 refine aY (aC @aH @aK) fun Kr hKr=>?_
 refine ZY hb hw ?_
 refine aO ?_
 refine aI hKr ?_
 refine xg (¬bC n b w) (fun hc=>?_) fun hc=>?_
 ·refine aB ?_
  refine lq ?_
  refine aU ?_
  rw [fV,if_pos hc] at hK
  exact ⟨.int,hK⟩
 have hd:=Decidable.not_not.1 hc
 rw [fV,if_neg hc] at hK
 clear hc
 refine aY (aC @aH @aK) fun Kr hKr=>?_
 refine anE hb hw hl ?_
 refine aO ?_
 refine aI hKr ?_
 refine xg (¬(∀y∈xs,0≤y∧y<n)) (fun hc=>?_) fun hc=>?_
 ·refine aB ?_
  refine lq ?_
  refine aU ?_
  rw [if_pos hc] at hK
  exact ⟨.int,hK⟩
 rw [if_neg hc] at hK
 clear hc
 obtain ⟨m,rfl,hm1,hm2⟩:=hd.n0
 rw [Int.toNat_natCast] at hK
 refine aY (aC @aH @aK) fun Kr hKr=>?_
 refine aaG hb hw hd ?_
 refine aO ?_
 refine aI hKr ?_
 refine xg (¬Tree m b w) (fun hc=>?_) fun hc=>?_
 ·refine aB ?_
  refine lq ?_
  refine aU ?_
  rw [if_pos hc] at hK
  exact ⟨.int,hK⟩
 rw [if_neg hc] at hK
 refine lq ?_
 refine aB ?_
 refine aU ?_
 exact ⟨.int,hK⟩
theorem Gs {x:Bool} {n:Int} {b w:List Nat} {H:BH} {K:Value→BH→Prop} (hb:By 16 b) (hw:By 16 w)
  (hK:K (I (fV n b w [])) H):aJ x aeT [DV n b w] H K:=by
 have hlb:=hb.len
 have cZ:=hw.len
 refine dw (.cons fC .nil) ?_
 refine bf agz ?_;simp only [pU,aG]
 refine au @aH ?_
 refine yY ?_
 refine aY (aC @aH @aK) fun Kr hKr=>?_
 refine F6 hb hw ?_
 refine aO ?_
 refine aI hKr ?_
 refine xg (¬bC n b w) (fun hc=>?_) fun hc=>?_
 ·refine aB ?_
  refine lq ?_
  refine aU ?_
  rw [fV,if_pos hc] at hK
  exact ⟨.int,hK⟩
 have hd:=Decidable.not_not.1 hc
 rw [fV,if_neg hc,if_neg (by simp)] at hK
 clear hc
 obtain ⟨m,rfl,hm1,hm2⟩:=hd.n0
 rw [Int.toNat_natCast] at hK
 refine aY (aC @aH @aK) fun Kr hKr=>?_
 refine aaS hb hw hd ?_
 refine aO ?_
 refine aI hKr ?_
 refine xg (¬Tree m b w) (fun hc=>?_) fun hc=>?_
 ·refine aB ?_
  refine lq ?_
  refine aU ?_
  rw [if_pos hc] at hK
  exact ⟨.int,hK⟩
 rw [if_neg hc] at hK
 refine lq ?_
 refine aB ?_
 refine aU ?_
 exact ⟨.int,hK⟩
end Go.Bm
namespace Go.Bm
open Go Go.Am
section
variable {n:Nat} {b w:List Nat}
def wB (b w:List Nat) (n:Nat):List Nat:=(List.range (n*2)).map fun k=>ends b w n (k%2==1) (k/2)
theorem KJ:(wB b w n).length=n*2:=by simp [wB]
theorem QG {k:Nat} (h:k<n*2):nl (wB b w n) k=ends b w n (k%2==1) (k/2):=by simp [wB,nl,List.getD,h]
theorem aaL {x:Nat} (h:x<n):nl (wB b w n) (x*2)=ends b w n false x:=by
 rw [QG (by omega),show x*2%2=0 by omega,show x*2/2=x by omega]
 rfl
theorem aaM {x:Nat} (h:x<n):nl (wB b w n) (x*2+1)=ends b w n true x:=by
 rw [QG (by omega),show (x*2+1)%2=1 by omega,show (x*2+1)/2=x by omega]
 rfl
def ct (c:Bool):Nat:=if c then 1 else 0
theorem anF {E:List Nat} (hl:E.length=n*2) (h: ∀c x,x<n→nl E (x*2+ct c)=ends b w n c x):E=wB b w n:=by
 refine List.ext_getElem (by rw [hl,KJ]) fun i h1 h2=>?_
 have e: ∀(l:List Nat) (hk:i<l.length),l[i]=nl l i:=fun l hk=>by simp [nl,List.getD,hk]
 rw [e E h1,e _ h2,QG (by omega)]
 have:=h (i%2==1) (i/2) (by omega)
 rw [←this]
 congr 1
 rcases Nat.mod_two_eq_zero_or_one i with h3|h3<;>simp [ct,h3]<;>omega
def vl (b w:List Nat) (n i:Nat):List Nat:=(aW b w n).getD i []
theorem og {i:Nat} (h:i<(aW b w n).length):vl b w n i=(aW b w n)[i]:=by simp [vl,List.getD,h]
theorem AL (hd:bC n b w):(aW b w n).length≤32∧0<(aP b n).length∧(aP b n).length≤16∧(aP w n).length≤16:=by
 obtain ⟨hb,hw,_⟩:=id hd
 have hn:=hb.1
 have h1:=(rX.all rfl hb (Nat.le_refl n)).num
 have h2:=(rX.all rfl hw (Nat.le_refl n)).num
 have h3:(mg b 16 n).2=aP b n:=rfl
 have h4:(mg w 16 n).2=aP w n:=rfl
 rw [h3] at h1
 rw [h4] at h2
 have h5:=qp hb (show 0<n by omega)
 rw [aW,List.length_append]
 omega
theorem wo (hd:bC n b w) {i:Nat} (h:i<(aW b w n).length):(vl b w n i).length≤n∧(vl b w n i).Nodup∧ ∀x∈vl b w n i,x<n:=by
 rw [og h]
 exact ⟨xB (G5 hd h) fun x hx=>xP hd h hx,G5 hd h,fun x hx=>xP hd h hx⟩
def sN (b w:List Nat) (n i j:Nat) (E:List Nat):Prop:=
 E.length=n*2∧ ∀c x,x<n→(ends b w n c x<i∨(ends b w n c x=i∧x∈(vl b w n i).take j))→nl E (x*2+ct c)=ends b w n c x
theorem sN.zero:sN b w n 0 0 (List.replicate (n*2) 0):=⟨by simp,fun c x hx h=>by simp at h⟩
theorem sN.next {i:Nat} {E:List Nat} (h:sN b w n i (vl b w n i).length E) (hd:bC n b w) (hi:i<(aW b w n).length):sN b w n (i+1) 0 E:=by
 refine ⟨h.1,fun c x hx hh=>h.2 c x hx ?_⟩
 rcases hh with hh|hh
 ·rcases Nat.lt_or_ge (ends b w n c x) i with h1|h1
  ·exact .inl h1
  ·have e:ends b w n c x=i:=by omega
   refine .inr ⟨e,?_⟩
   rw [List.take_length,og hi]
   have:=(AY hd (c:=c) hx hx).2 rfl
   simp only [e] at this
   exact this
 ·simp at hh
theorem sN.step {i j:Nat} {E:List Nat} (h:sN b w n i j E) (hd:bC n b w) (hi:i<(aW b w n).length) (hj:j<(vl b w n i).length):
  sN b w n i (j+1) (E.set (nl (vl b w n i) j*2+ct (decide ((aP b n).length≤i))) i):=by
 have hx0:=(wo hd hi).2.2 _ (iM hj)
 have hct: ∀c:Bool,ct c≤1:=fun c=>by cases c<;>simp [ct]
 refine ⟨by rw [List.length_set];exact h.1,fun c x hx hh=>?_⟩
 rw [rW,h.1]
 by_cases e:x*2+ct c=nl (vl b w n i) j*2+ct (decide ((aP b n).length≤i))
 ·rw [if_pos ⟨e,by have:=hct (decide ((aP b n).length≤i));omega⟩]
  have h1:=hct c
  have h2:=hct (decide ((aP b n).length≤i))
  have e1:x=nl (vl b w n i) j:=by omega
  have hm:x∈(aW b w n)[i]:=by rw [←og hi,e1];exact iM hj
  have e2:c=decide ((aP b n).length≤i):=by
   have:ct c=ct (decide ((aP b n).length≤i)):=by omega
   revert this
   cases c<;>cases (decide ((aP b n).length≤i))<;>simp [ct]
  obtain ⟨c',⟨y,hy,hyv⟩,hall⟩:=abu hd hi
  have h3:=(hall x hx).1 hm
  have:c=c':=by
   rw [e2]
   have hb:=hd.1
   cases c'
   ·simp only [ends,Bool.false_eq_true,if_false] at hyv
    have:=qp hb hy
    simp;omega
   ·simp only [ends,if_true] at hyv
    simp;omega
  rw [this,h3]
 ·rw [if_neg (fun k=>e k.1)]
  refine h.2 c x hx ?_
  rcases hh with hh|⟨h1,h2⟩
  ·exact .inl hh
  ·refine .inr ⟨h1,?_⟩
   rw [AU hj] at h2
   rcases List.mem_append.1 h2 with h3|h3
   ·exact h3
   ·exfalso
    rw [List.mem_singleton] at h3
    refine e ?_
    rw [h3]
    congr 1
    have hb:=hd.1
    cases c
    ·simp only [ends,Bool.false_eq_true,if_false] at h1
     have:=qp hb hx
     simp [ct];omega
    ·simp only [ends,if_true] at h1
     simp [ct];omega
theorem sN.done {E:List Nat} (hd:bC n b w) (h:sN b w n (aW b w n).length 0 E):E=wB b w n:=
 anF h.1 fun c x hx=>h.2 c x hx (.inl (o7 hd hx))
theorem PX {x:Bool} {H:BH} {K:Value→BH→Prop} (hb:By 16 b) (hw:By 16 w) (hd:bC n b w)
  (hK:K (.tuple ⟨[Fz (aW b w n).length 1 ((aW b w n).map FN),Fz n 2 ((wB b w n).map bT)]⟩) H):aJ x aeN [DV n b w] H K:=by
 have hlb:=hb.len
 have cZ:=hw.len
 have hn:=hd.1.1
 obtain ⟨hv1,hv2,hv3,hv4⟩:=AL hd
 have hpb:=hd.1
 have hpw:=hd.2.1
 have hvl:(aP b n).length+(aP w n).length=(aW b w n).length:=by rw [aW,List.length_append]
 refine abe (.cons fC .nil) ?_
 refine bf agt ?_;simp only [gB,aG]
 refine au @aH ?_
 refine aY (aC @aH @aK) fun Kr hKr=>?_
 refine vY hb hpb ?_
 refine aO ?_
 refine aI hKr ?_
 refine aY (aC @aH @aK) fun Kr hKr=>?_
 refine anw hv2 (by omega) ?_
 refine bP (aC @aH @aK) ?_
 refine vY hw hpw ?_
 refine bP (aC @vZ @aaU) ?_
 refine aI hKr ?_
 have happ:((aP b n).length+(aP w n).length)=(aW b w n).length:=hvl
 have anG:aP b n++aP w n=aW b w n:=rfl
 rw [happ,anG]
 refine au (aX @aH @aK @anv) ?_
 refine aB ?_
 refine bM (fun m f H'=> ∃i E,i≤(aW b w n).length∧m=(aW b w n).length-i∧sN b w n i 0 E∧f 4=Fz (aP b n).length 1 ((aP b n).map FN)∧f 5=S 0 0 (aW b w n).length 1∧f 6=S 1 0 n 2∧f 27=S 0 0 (aW b w n).length 1∧f 28=I ((aW b w n).length:Nat)∧f 29=I i∧H'=[some ((aW b w n).map FN),some (E.map bT)]) ((aW b w n).length) ?_ ?_
 ·refine ⟨_,_,(Gh.nrm [2,3] rfl rfl (by simp only [RH,RV])),0,List.replicate (n*2) 0,by omega,by omega,sN.zero,?_,?_,?_,?_,?_,?_,by simp [blk]⟩
  all_goals (simp (disch:=omega) only [RA,↓reduceIte,Nat.reduceEqDiff,Nat.reduceBEq,Nat.reduceSub,Nat.reduceAdd,Nat.reduceMul,Nat.reduceLT,Nat.reduceLeDiff,Int.reduceLE,Int.reduceLT,Int.reduceEq,Int.reduceNeg,Int.reduceToNat,Int.reduceMul,Int.reduceAdd,Int.reduceSub,Int.reduceBEq,Int.reduceBNe,reduceCtorEq,RD,RE, *]<;>rfl)
 ·rintro m f H' R ⟨i,E,hi,rfl,hE0,g4,g5,g6,QH,QI,G6,rfl⟩ hN hX hR hE
  simp only [gB.l1,aG]
  refine au (aC @QI @G6) ?_
  refine aV (i<(aW b w n).length) (fun hc=>?_) fun hc=>?_
  ·have hin:i<(aW b w n).length:=by assumption
   obtain ⟨hl1,hl2,hl3⟩:=wo hd hin
   have rJ:(aW b w n).getD i []=vl b w n i:=rfl
   refine bK ?_
   refine au (bG @QH @G6 @qO @rJ) ?_
   refine aB ?_
   refine bM (fun m f H'=> ∃j E,j≤(vl b w n i).length∧m=(vl b w n i).length-j∧sN b w n i j E∧f 4=Fz (aP b n).length 1 ((aP b n).map FN)∧f 5=S 0 0 (aW b w n).length 1∧f 6=S 1 0 n 2∧f 7=I i∧f 27=S 0 0 (aW b w n).length 1∧f 28=I ((aW b w n).length:Nat)∧f 29=I i∧f 34=FN (vl b w n i)∧f 35=I ((vl b w n i).length:Nat)∧f 36=I j∧H'=[some ((aW b w n).map FN),some (E.map bT)]) ((vl b w n i).length) ?_ ?_
   ·exact ⟨_,_,Gh.refl,0,E,by omega,by omega,hE0,ah,ah,ah,ah,ah,ah,ah,ah,ah,ah,rfl⟩
   ·clear g4 g5 g6 QH QI G6 hE0 E
    rintro m f H' R1 ⟨j,E,hj,rfl,hE0,g4,g5,g6,g7,QH,QI,G6,xG,Gg,zk,rfl⟩ hN1 hX1 hR1 hE1
    simp only [gB.l0,aG]
    refine au (aC @Gg @zk) ?_
    refine aV (j<(vl b w n i).length) (fun hc=>?_) fun hc=>?_
    ·have hxn:=hl3 _ (iM hc)
     have hstep:=hE0.step hd hin hc
     have hEl:E.length=n*2:=hE0.1
     refine bK ?_
     refine au (aX @xG @zk @mD) ?_
     refine au (aC @g4 @g7) ?_
     refine aV (i<(aP b n).length) (fun hc=>?_) fun hc=>?_
     ·rw [show decide ((aP b n).length≤i)=false by simp;omega] at hstep
      refine au (bG @g6 @g7 @abY @hEl) ?_
      refine bI @zk ?_
      refine hN1 ((vl b w n i).length-(j+1)) _ _ _ _ (by omega) Gh.refl ⟨j+1,_,by omega,rfl,hstep,ah,ah,ah,ah,ah,ah,ah,ah,ah,ah,rfl⟩
     ·rw [show decide ((aP b n).length≤i)=true by simp;omega] at hstep
      refine au (bG @g6 @g7 @abY @hEl) ?_
      refine bI @zk ?_
      refine hN1 ((vl b w n i).length-(j+1)) _ _ _ _ (by omega) Gh.refl ⟨j+1,_,by omega,rfl,hstep,ah,ah,ah,ah,ah,ah,ah,ah,ah,ah,rfl⟩
    ·refine hX1 _ _ ?_
     obtain rfl:j=(vl b w n i).length:=by omega
     refine bI @G6 ?_
     refine hN ((aW b w n).length-(i+1)) _ _ _ _ (by omega) Gh.refl ⟨i+1,E,by omega,rfl,hE0.next hd hin,ah,ah,ah,ah,ah,ah,rfl⟩
  ·refine hX _ _ ?_
   obtain rfl:i=(aW b w n).length:=by omega
   obtain rfl:=hE0.done hd
   refine au (aC @g5 @g6) ?_
   refine aU ?_
   exact ⟨0,1,_,_,_,_,_,_,by omega,rfl,rfl,rfl,zL,oh,by simp,by rw [List.length_map,KJ],hK⟩
end
end Go.Bm
