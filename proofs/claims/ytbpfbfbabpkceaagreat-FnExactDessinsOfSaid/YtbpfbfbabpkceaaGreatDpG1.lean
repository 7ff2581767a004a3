/- DpO, DpP, Dp7a, DpQ, DpCb, DpV, DpVa, DpDa, Dp3, Dp4, DpCc, DpCd, DpDg -/
import Derived.Test.YtbpfbfbabpkceaaGreatDpG0
set_option linter.unusedVariables false
set_option linter.unusedSimpArgs false
namespace Go.Bm
open Go Go.Am
set_option maxRecDepth 10000
def len8:ByteArray:=⟨#[0,1,2,2,3,3,3,3,4,4,4,4,4,4,4,4,5,5,5,5,5,5,5,5,5,5,5,5,5,5,5,5,6,6,6,6,6,6,6,6,6,6,6,6,6,6,6,6,6,6,6,6,6,6,6,6,6,6,6,6,6,6,6,6,7,7,7,7,7,7,7,7,7,7,7,7,7,7,7,7,7,7,7,7,7,7,7,7,7,7,7,7,7,7,7,7,7,7,7,7,7,7,7,7,7,7,7,7,7,7,7,7,7,7,7,7,7,7,7,7,7,7,7,7,7,7,7,7,8,8,8,8,8,8,8,8,8,8,8,8,8,8,8,8,8,8,8,8,8,8,8,8,8,8,8,8,8,8,8,8,8,8,8,8,8,8,8,8,8,8,8,8,8,8,8,8,8,8,8,8,8,8,8,8,8,8,8,8,8,8,8,8,8,8,8,8,8,8,8,8,8,8,8,8,8,8,8,8,8,8,8,8,8,8,8,8,8,8,8,8,8,8,8,8,8,8,8,8,8,8,8,8,8,8,8,8,8,8,8,8,8,8,8,8,8,8,8,8,8,8,8,8,8,8,8,8]⟩
def lenOf (x:Nat):Nat:=match len8[x]? with|some b=>b.toNat|none=>0
theorem aaT:(⟨#[0,1,2,2,3,3,3,3,4,4,4,4,4,4,4,4,5,5,5,5,5,5,5,5,5,5,5,5,5,5,5,5,6,6,6,6,6,6,6,6,6,6,6,6,6,6,6,6,6,6,6,6,6,6,6,6,6,6,6,6,6,6,6,6,7,7,7,7,7,7,7,7,7,7,7,7,7,7,7,7,7,7,7,7,7,7,7,7,7,7,7,7,7,7,7,7,7,7,7,7,7,7,7,7,7,7,7,7,7,7,7,7,7,7,7,7,7,7,7,7,7,7,7,7,7,7,7,7,8,8,8,8,8,8,8,8,8,8,8,8,8,8,8,8,8,8,8,8,8,8,8,8,8,8,8,8,8,8,8,8,8,8,8,8,8,8,8,8,8,8,8,8,8,8,8,8,8,8,8,8,8,8,8,8,8,8,8,8,8,8,8,8,8,8,8,8,8,8,8,8,8,8,8,8,8,8,8,8,8,8,8,8,8,8,8,8,8,8,8,8,8,8,8,8,8,8,8,8,8,8,8,8,8,8,8,8,8,8,8,8,8,8,8,8,8,8,8,8,8,8,8,8,8,8,8,8]⟩:ByteArray)=len8:=rfl
theorem KH:len8.size=256:=by decide+kernel
theorem aaU {x:Nat} (h:x<256):AZ (.string len8) (.int .u8 (x:Int))=some (.int .u8 (lenOf x:Int)):=by
 have hb:len8[x]? =some (len8[x]'(by rw [KH];exact h)):=getElem?_pos len8 x (by rw [KH];exact h)
 simp only [AZ,lenOf,Int.natCast_nonneg,if_true,Int.toNat_natCast,hb,Option.map_some]
theorem KI {x:Nat}:lenOf x<256:=by
 unfold lenOf
 split
 ·exact UInt8.toNat_lt _
 ·omega
theorem KJ: ∀x,x<17→x≤lenOf x+12∧(8≤x→lenOf x=if x<16 then 4 else 5):=by decide+kernel
theorem aaV {x:Bool} {n:Nat} {H:BH} {K:Value→BH→Prop} (hn:n<256) (hK:K (I (lenOf n)) H):aB x Vl [.int .u64 (n:Int)] H K:=by
 have hl:= @KI n
 refine bf (by simp only [RH]) ?_
 refine aK Xf ?_;simp only [gG,aA]
 refine aG ?_
 refine aG ?_
 refine jG ?_
 refine aG ?_
 refine jG ?_
 refine aG ?_
 refine jG ?_
 refine iG (cO @aaT @aaU @Int.zero_add) fun Kr hKr=>?_
 refine dJ hKr ?_
 refine dG ?_
 exact ⟨NN.int,hK⟩
theorem KL {x:Bool} {n:Nat} {H:BH} {K:Value→BH→Prop} (hn:n<256) (hK:K (I (lenOf n)) H):aB x U4 [.int .u64 (n:Int)] H K:=by
 refine bf (by simp only [RH]) ?_
 refine aK WL ?_;simp only [nU,aA]
 refine aG ?_
 refine jG ?_
 refine lH fun Kr hKr=>?_
 refine aaV hn ?_
 refine dI ?_
 refine dJ hKr ?_
 refine dG ?_
 exact ⟨NN.int,hK⟩
theorem wu64 {n:Int} (h0:0≤n) (h1:n<18446744073709551616):IntKind.u64.wrap n=n:=by
 have hb:(2:Int)^(64:Nat)=18446744073709551616:=by decide
 simp only [IntKind.wrap,IntKind.bits,IntKind.signed,hb]
 simp
 omega
theorem aaW {x:Bool} {n:Nat} {H:BH} {K:Value→BH→Prop} (h8:8≤n) (hn:n≤16) (hK:K (.int .u64 (if n<16 then 16 else 32)) H):aB x Vy [I n] H K:=by
 have hl:=(KJ n (by omega)).2 h8
 refine bf (by simp only [RH]) ?_
 refine aK Xt ?_;simp only [qp,aA]
 refine aG ?_
 refine iG @wu64 fun Kr hKr=>?_
 refine KL (by omega) ?_
 rw [hl]
 by_cases h:n<16
 ·rw [if_pos h] at hK⊢
  refine dI ?_
  refine dJ hKr ?_
  refine dG ?_
  exact ⟨NN.int,hK⟩
 ·rw [if_neg h] at hK⊢
  refine dI ?_
  refine dJ hKr ?_
  refine dG ?_
  exact ⟨NN.int,hK⟩
theorem A8 {H:BH} {b:Nat} {v:Value} {k:IntKind} {n:Int}:bQ (some [v]) H b 0 1 (.int k n)=some (undef,H.set b (some [.int k n])):=rfl
theorem aaX {v:Int} {K:Value→BH→Prop} (hK: ∀v':Int,K (.int .u64 v') [some [.int .u64 v']]):aB false Vz [P 0 0] [some [.int .u64 v]] K:=by
 refine aK Xu ?_;simp only [kW,aA]
 refine aG ?_
 refine aC (aU @uw @A8) ?_
 generalize IntKind.u64.wrap _=v1
 refine aC (aU @uw @A8) ?_
 generalize IntKind.u64.wrap _=v2
 refine aC (aU @uw @A8) ?_
 generalize IntKind.u64.wrap _=v3
 refine aC @uw ?_
 refine dG ?_
 exact hK _
theorem aaY {a:Int} {m:Nat} (hm:m=16∨m=32): ∃o:Nat,IntKind.i64.wrap (IntKind.u64.wrap ((BitVec.ofInt IntKind.u64.bits a&&&BitVec.ofInt IntKind.u64.bits (IntKind.u64.wrap ((m:Int)-1))).toNat:Int))=o∧o<m:=by
 have h1:(BitVec.ofInt IntKind.u64.bits a&&&BitVec.ofInt IntKind.u64.bits (IntKind.u64.wrap ((m:Int)-1))).toNat≤m-1:=by
  rw [BitVec.toNat_and]
  refine Nat.le_trans Nat.and_le_right ?_
  rcases hm with rfl|rfl<;>decide
 refine ⟨(BitVec.ofInt IntKind.u64.bits a&&&BitVec.ofInt IntKind.u64.bits (IntKind.u64.wrap ((m:Int)-1))).toNat,?_,by omega⟩
 generalize (BitVec.ofInt IntKind.u64.bits a&&&BitVec.ofInt IntKind.u64.bits (IntKind.u64.wrap ((m:Int)-1))).toNat=x at h1
 rw [wu64 (by omega) (by omega),uT (by omega) (by omega)]
theorem aaZ {p:List Int} {a b:Nat} {K:Value→BH→Prop} (hpl:p.length≤1000) (hb:b≤p.length) (h8:a+8≤b) (h16:b≤a+16) (hK: ∀q,Sg a b p q→K (.tuple ⟨[]⟩) [some (q.map I)]):
  aB false VG [S 0 0 p.length 1,I a,I b] [some (p.map I)] K:=by
 obtain ⟨l,hl⟩: ∃l,l=b-a:=⟨_,rfl⟩
 have hbl:(b:Int)-(a:Int)=(l:Int):=by omega
 have hd:(l:Int).tdiv 4=((l/4:Nat):Int):=(Int.ofNat_tdiv l 4).symm
 obtain ⟨t,ht⟩: ∃t,t=l/4:=⟨_,rfl⟩
 rw [←ht] at hd
 have e2:(a:Int)+(t:Int)*2=((a+t*2:Nat):Int):=by omega
 have e3:((a+t*2:Nat):Int)-1=((a+t*2-1:Nat):Int):=by omega
 have e4:((a+t*2:Nat):Int)+1=((a+t*2+1:Nat):Int):=by omega
 obtain ⟨m,hm,hml⟩: ∃m:Nat,(if l<16 then (16:Int) else 32)=m∧(m=16∧l<16∨m=32∧l=16):=by
  by_cases h:l<16
  ·exact ⟨16,by rw [if_pos h];rfl, .inl ⟨rfl,h⟩⟩
  ·exact ⟨32,by rw [if_neg h];rfl, .inr ⟨rfl,by omega⟩⟩
 refine aK XA ?_;simp only [eX,aA]
 refine aC @hbl ?_
 refine aG ?_
 refine jw (t:=true) (by simp (disch:=omega) only [RA,↓reduceIte,Nat.reduceEqDiff,RD]) ?_;(try simp only [RN,reduceIte]);try refine aj rfl ?_
 refine aC (aU @wu64 @A8) ?_
 refine lH fun Kr hKr=>?_
 refine aaW (by omega) (by omega) ?_
 rw [hm]
 refine dI ?_
 refine dJ hKr ?_
 refine au fun Kr hKr=>?_;simp (disch:=omega) only [RA,↓reduceIte,Nat.reduceEqDiff,Int.reduceEq,RD,hd,e2,e3];refine hKr _ _ ?_;clear hKr Kr;(try simp only [RN,reduceIte]);try refine aj rfl ?_
 refine xP ?_
 refine aS (fun n f H'=> ∃(q:List Int) (i:Nat) (v:Int),Sg a b p q∧a+t*2-1≤i∧i≤a+t*2+2∧n=a+t*2+2-i∧f 0=S 0 0 p.length 1∧f 1=I a∧f 6=I l∧f 7=P 1 0∧f 8= .int .u64 (m:Int)∧f 9=I i∧H'=[some (q.map I),some [.int .u64 v]]) (a+t*2+2-(a+t*2-1)) ?_ ?_
 ·refine ⟨_,_,Gh.refl,p,a+t*2-1,l, .refl,by omega,by omega,rfl,?_,?_,?_,?_,?_,?_,rfl⟩
  any_goals (simp (disch:=omega) only [RA,↓reduceIte,Nat.reduceEqDiff,reduceCtorEq,RD,RE, *]<;>rfl)
 ·rintro n f H' R ⟨q,i,v,hq,hi1,hi2,rfl,g0,g1,g6,g7,g8,g9,rfl⟩ hN hX hR hE
  simp only [eX.l0,aA]
  have bC:=hq.len
  refine aC (rV @g1 @g6 @g9 @hd @e2 @e4) ?_
  refine bP (i≤a+t*2+1) (fun hc=>?_) fun hc=>?_
  ·have hnext: ∀f' (v':Int) (o:Nat),f' 0=S 0 0 p.length 1→f' 1=I a→f' 6=I l→f' 7=P 1 0→f' 8= .int .u64 (m:Int)→f' 9=I i→f' 10=I o→o<l→
     T 1 (.seq eX.r10 eX.r6) R f' [some (q.map I),some [.int .u64 v']]:=by
    intro f' v' o g0 g1 g6 g7 g8 g9 g10 ho
    have e5:(a:Int)+(o:Int)=((a+o:Nat):Int):=by omega
    have kD:(q.set i (el q (a+o))).length=p.length:=by simp [bC]
    have hsw:(q.set i (el q (a+o))).set (a+o) (el q i)=swp q i (a+o):=rfl
    refine aC (fQ (fQ @g0 @g1 @g9 @g10) @e5 @bC @kD) ?_
    rw [hsw]
    refine dw @g9 ?_
    exact hN (a+t*2+2-(i+1)) _ _ _ _ (by omega) Gh.refl ⟨swp q i (a+o),i+1,v',hq.trans (.swp (by omega) (by omega) (by omega) (by omega) (by omega)),by omega,by omega,rfl,ah,ah,ah,ah,ah,ah,rfl⟩
   refine dL ?_
   refine iG @g7 fun Kr hKr=>?_
   refine Es (i:=1) (cs:=[.int .u64 v]) rfl (by (simp only [RH])) ?_
   refine aaX ?_
   intro v'
   refine ⟨.int, .cons (by (simp only [RH])) .nil,?_⟩
   obtain ⟨o,ho1,ho2⟩:= @aaY v' m (by omega)
   refine uf (aU @g8 @ho1) ?_
   refine dJ hKr ?_
   refine aC @g6 ?_
   refine bP (l≤o) (fun hc=>?_) fun hc=>?_
   ·have e6:(o:Int)-(l:Int)=((o-l:Nat):Int):=by omega
    refine aC (aU @g6 @e6) ?_
    exact hnext _ v' (o-l) ah ah ah ah ah ah ah (by omega)
   ·refine jQ ?_
    exact hnext _ v' o ah ah ah ah ah ah ah (by omega)
  ·refine hX _ _ ?_
   refine oL ?_
   refine aN (by simp (disch:=omega) only [RA,↓reduceIte,Nat.reduceEqDiff,RD,resAll,resOf];rfl) (aF.nrm [0] rfl rfl (by simp only [RH]) (by simp only [tup,RH])) ?_;simp only [tup]
   exact hK q hq
end Go.Bm
namespace Go.Bm
open Go Go.Am
section
variable {k:Nat} {Q:Ex→Fr→BH→Prop} {f:Fr} {H:BH}
theorem xQ {a rest:ACode} (P:Fr→BH→Prop) (h1: ∀R:Ex→Fr→BH→Prop,(∀f' H',P f' H'→R .normal f' H')→(∀f' H',Q .ret f' H'→R .ret f' H')→(∀i f' H',Q (.exit i) f' H'→R (.exit i) f' H')→T k a R f H) (h2: ∀f' H',P f' H'→T k rest Q f' H'):T k (.seq a rest) Q f H:=
 oJ (h1 (aJ k rest Q) (fun _ _ h=>h2 _ _ h) (fun _ _ h=>h) (fun _ _ _ h=>h))
end
def Od (a b a' b':Nat) (q:List Int):Prop:= ∀x y,a≤x→x<y→y<b→ ¬(a'≤x∧y<b')→el q x≤el q y
def Pre (a b:Nat) (q:List Int):Prop:=0<a→ ∀x,a≤x→x<b→el q (a-1)≤el q x
section
variable {a b a' b' m:Nat} {q r:List Int}
theorem Od.sg (h:Od a b a' b' q) (ha:a≤a') (hb:b'≤b) (k:Sg a' b' q r):Od a b a' b' r:=by
 intro x y h1 h2 h3 h4
 by_cases hx:a'≤x∧x<b'
 ·obtain ⟨x',x1,x2,x3⟩:=k.src x hx.1 hx.2
  rw [x3,k.out y (by omega)]
  exact h x' y (by omega) (by omega) h3 (by omega)
 ·rw [k.out x (by omega)]
  by_cases hy:a'≤y∧y<b'
  ·obtain ⟨y',y1,y2,y3⟩:=k.src y hy.1 hy.2
   rw [y3]
   exact h x y' h1 (by omega) (by omega) (by omega)
  ·rw [k.out y (by omega)]
   exact h x y h1 h2 h3 h4
theorem Pre.sg (h:Pre a' b' q) (k:Sg a' b' q r):Pre a' b' r:=fun h0 x h1 h2=>by
 obtain ⟨x',x1,x2,x3⟩:=k.src x h1 h2
 rw [x3,k.out (a'-1) (by omega)]
 exact h h0 x' x1 x2
theorem Od.left (h:Od a b a' b' q) (ha:a≤a') (hb:b'≤b) (h1:a'≤m) (h2:m<b') (hl: ∀x,a'≤x→x<m→el q x≤el q m) (hr: ∀x,m<x→x<b'→el q m≤el q x) (k:Sg a' m q r) (hs:lu a' m r):Od a b (m+1) b' r:=by
 intro x y k1 k2 k3 k4
 by_cases hb2:a'≤x∧y<b'
 ·have em:el r m=el q m:=k.out m (by omega)
  have hlow: ∀z,a'≤z→z<m→el r z≤el q m:=fun z z1 z2=>by
   obtain ⟨z',w1,w2,w3⟩:=k.src z z1 z2
   rw [w3]
   exact hl z' w1 w2
  have hup: ∀z,m<z→z<b'→el q m≤el r z:=fun z z1 z2=>by
   rw [k.out z (by omega)]
   exact hr z z1 z2
  rcases Nat.lt_trichotomy y m with hy|hy|hy
  ·exact hs x y hb2.1 (by omega) hy
  ·subst hy
   rw [em]
   exact hlow x hb2.1 k2
  ·have h9:=hup y hy hb2.2
   rcases Nat.lt_or_ge x m with hx|hx
   ·exact Int.le_trans (hlow x hb2.1 hx) h9
   ·obtain rfl:x=m:=by omega
    rw [em]
    exact h9
 ·exact h.sg ha hb (k.mono (by omega) (by omega)) x y k1 k2 k3 hb2
theorem Od.right (h:Od a b a' b' q) (ha:a≤a') (hb:b'≤b) (h1:a'≤m) (h2:m<b') (hl: ∀x,a'≤x→x<m→el q x≤el q m) (hr: ∀x,m<x→x<b'→el q m≤el q x) (k:Sg (m+1) b' q r) (hs:lu (m+1) b' r):Od a b a' m r:=by
 intro x y k1 k2 k3 k4
 by_cases hb2:a'≤x∧y<b'
 ·have em:el r m=el q m:=k.out m (by omega)
  have hlow: ∀z,a'≤z→z<m→el r z≤el q m:=fun z z1 z2=>by
   rw [k.out z (by omega)]
   exact hl z z1 z2
  have hup: ∀z,m<z→z<b'→el q m≤el r z:=fun z z1 z2=>by
   obtain ⟨z',w1,w2,w3⟩:=k.src z (by omega) z2
   rw [w3]
   exact hr z' (by omega) w2
  rcases Nat.lt_trichotomy x m with hx|hx|hx
  ·have h9:=hlow x hb2.1 hx
   rcases Nat.lt_or_ge m y with hy|hy
   ·exact Int.le_trans h9 (hup y hy hb2.2)
   ·obtain rfl:y=m:=by omega
    rw [em]
    exact h9
  ·subst hx
   rw [em]
   exact hup y k2 hb2.2
  ·exact hs x y (by omega) (by omega) hb2.2
 ·exact h.sg ha hb (k.mono (by omega) (by omega)) x y k1 k2 k3 hb2
theorem Od.done (h:Od a b a' b' q) (ha:a≤a') (hb:b'≤b) (hs:lu a' b' q):lu a b q:=fun x y h1 h2 h3=>by
 rcases Nat.lt_or_ge x y with hx|hx
 ·by_cases hc:a'≤x∧y<b'
  ·exact hs x y hc.1 h2 hc.2
  ·exact h x y h1 hx h3 hc
 ·obtain rfl:x=y:=by omega
  exact Int.le_refl _
end
set_option maxRecDepth 20000 in
theorem KN: ∀(N:Nat) {p:List Int} {a b lim:Nat} {K:Value→BH→Prop},p.length≤1000→b≤p.length→a≤b→b-a<N→b≤a+16→b-a≤lim+12→lim≤1000→Pre a b p→(∀q,Sg a b p q→lu a b q→K (.tuple ⟨[]⟩) [some (q.map I)])→
  aB false VE [S 0 0 p.length 1,I a,I b,I lim] [some (p.map I)] K
 |0,_,_,_,_,_,_,_,_,h,_,_,_,_,_=>by omega
 |N+1,p,a,b,lim,K,hpl,hb,hab,hN0,h16,hlim,hlm,hpre,hK=>by
  have ih:=fun {p:List Int} {a b lim:Nat} {K:Value→BH→Prop}=> @KN N p a b lim K
  refine aK Xy ?_;simp only [aW,aA]
  refine aG ?_
  refine aG ?_
  refine xP ?_
  refine aS (fun m f H'=> ∃(q:List Int) (a' b' lim:Nat) (wb wp:Bool),Sg a b p q∧a≤a'∧a'≤b'∧b'≤b∧Od a b a' b' q∧Pre a' b' q∧b'-a'≤lim+12∧lim≤1000∧m=b'-a'∧f 0=S 0 0 p.length 1∧f 1=I a'∧f 2=I b'∧f 3=I lim∧f 8= .bool wb∧f 9= .bool wp∧H'=[some (q.map I)]) (b-a) ?_ ?_
  ·exact ⟨_,_,Gh.refl,p,a,b,lim,true,true, .refl,by omega,by omega,by omega,fun x y h1 h2 h3 h4=>absurd ⟨h1,h3⟩ h4,hpre,hlim,hlm,rfl,ah,ah,ah,ah,ah,ah,rfl⟩
  ·clear hlim hlm hpre
   rintro m f H' R ⟨q,a',b',lim,wb,wp,hq,h1,h2,h3,hod,hpre,hlim,hlm,rfl,g0,g1,g2,g3,g8,g9,rfl⟩ hN hX hR hE
   simp only [aW.l0,aA]
   refine uY ?_
   refine jQ ?_
   obtain ⟨l,hl⟩: ∃l,l=b'-a':=⟨_,rfl⟩
   have hbl:(b':Int)-(a':Int)=(l:Int):=by omega
   have bC:=hq.len
   refine aC (cO @g1 @g2 @hbl) ?_
   refine aG ?_
   refine bP (l≤12) (fun hc=>?_) fun hc=>?_
   ·refine iG (cO @g0 @g1 @g2) fun Kr hKr=>?_
    rw [←bC]
    refine aa0 (by omega) (by omega) h2 ?_
    intro r hr hs
    refine dI ?_
    refine dJ hKr ?_
    refine Ew ?_
    refine hR _ _ ?_
    refine dG ?_
    exact hK r (hq.trans (hr.mono h1 h3)) ((hod.sg h1 h3 hr).done h1 h3 hs)
   refine aC @g3 ?_
   refine jG ?_
   refine aC @g8 ?_
   refine xQ (fun f H'=> ∃(q:List Int) (lim':Nat),Sg a b p q∧Od a b a' b' q∧Pre a' b' q∧l≤lim'+13∧lim'≤1000∧f 0=S 0 0 p.length 1∧f 1=I a'∧f 2=I b'∧f 3=I lim'∧f 8= .bool wb∧f 9= .bool wp∧f 10=I l∧H'=[some (q.map I)]) ?_ ?_
   ·intro R1 hR1 hR2 xq
    cases wb
    ·refine jw (t:=true) (by simp (disch:=omega) only [RA,↓reduceIte,Nat.reduceEqDiff,RD]) ?_;(try simp only [RN,reduceIte]);try refine aj rfl ?_
     refine iG (cO @g0 @g1 @g2) fun Kr hKr=>?_
     rw [←bC]
     refine aaZ (by omega) (by omega) (by omega) (by omega) ?_
     intro r hr
     refine dI ?_
     refine dJ hKr ?_
     have hl1:(lim:Int)-1=((lim-1:Nat):Int):=by omega
     have hrl:=hr.len
     refine dw (aU @g3 @hl1) ?_
     exact hR1 _ _ ⟨r,lim-1,hq.trans (hr.mono h1 h3),hod.sg h1 h3 hr,hpre.sg hr,by omega,by omega,ah,ah,ah,ah,ah,ah,ah,rfl⟩
    ·refine jw (t:=false) (by simp (disch:=omega) only [RA,↓reduceIte,Nat.reduceEqDiff,RD]) ?_;(try simp only [RN,reduceIte]);try refine aj rfl ?_
     exact hR1 _ _ ⟨q,lim,hq,hod,hpre,by omega,by omega,ah,ah,ah,ah,ah,ah,ah,rfl⟩
   clear hq bC hod hpre g0 g1 g2 g3 g8 g9 hlim hlm lim q
   rintro f H' ⟨q,lim,hq,hod,hpre,hlim,hlm,g0,g1,g2,g3,g8,g9,g10,rfl⟩
   have bC:=hq.len
   refine jQ ?_
   refine iG (cO @g0 @g1 @g2) fun Kr hKr=>?_
   rw [←bC]
   refine aa1 (by omega) (by omega) (by omega) (by omega) ?_
   intro piv h hp1 hp2
   refine dI ?_
   refine dJ hKr ?_
   refine aG ?_
   refine xQ (fun f H'=> ∃(q:List Int) (piv:Nat) (h:Int),a'≤piv∧piv<b'∧Sg a b p q∧Od a b a' b' q∧Pre a' b' q∧f 0=S 0 0 p.length 1∧f 1=I a'∧f 2=I b'∧f 3=I lim∧f 8= .bool wb∧f 9= .bool wp∧f 10=I l∧f 11=I piv∧f 12=I h∧H'=[some (q.map I)]) ?_ ?_
   ·intro R1 hR1 hR2 xq
    refine Ey (h=2) (fun hc=>?_) fun hc=>?_
    ·refine iG (cO @g0 @g1 @g2) fun Kr hKr=>?_
     rw [←bC]
     refine aa2 (by omega) (by omega) (by omega) ?_
     intro r hr
     refine dI ?_
     refine dJ hKr ?_
     have hpv:(b':Int)-1-((piv:Int)-(a':Int))=((b'-1-(piv-a'):Nat):Int):=by omega
     have hrl:=hr.len
     refine aC (cO @g1 @g2 @hpv) ?_
     refine KO ?_
     exact hR1 _ _ ⟨r,b'-1-(piv-a'),1,by omega,by omega,hq.trans (hr.mono h1 h3),hod.sg h1 h3 hr,hpre.sg hr,ah,ah,ah,ah,ah,ah,ah,ah,ah,rfl⟩
    ·exact hR1 _ _ ⟨q,piv,h,hp1,hp2,hq,hod,hpre,ah,ah,ah,ah,ah,ah,ah,ah,ah,rfl⟩
   clear hq bC hod hpre g0 g1 g2 g3 g8 g9 g10 hp1 hp2 piv h q
   rintro f H' ⟨q,piv,h,hp1,hp2,hq,hod,hpre,g0,g1,g2,g3,g8,g9,g10,g11,g12,rfl⟩
   have bC:=hq.len
   refine jQ ?_
   have hpart: ∀f',f' 0=S 0 0 p.length 1→f' 1=I a'→f' 2=I b'→f' 3=I lim→f' 9= .bool wp→f' 10=I l→f' 11=I piv→f' 8= .bool wb→
     ∀R1:Ex→Fr→BH→Prop,(∀f' H',(f' 0=S 0 0 p.length 1∧f' 1=I a'∧f' 2=I b'∧f' 3=I lim∧f' 8= .bool wb∧f' 9= .bool wp∧f' 10=I l∧f' 11=I piv∧H'=[some (q.map I)])→R1 .normal f' H')→(∀f' H',lC 1 [] K .ret f' H'→R1 .ret f' H')→
     T 1 (.seq aW.r16 (.cond (.t 72) .ret .skip)) R1 f' [some (q.map I)]:=by
    intro f' g0 g1 g2 g3 g9 g10 g11 g8 R1 hR1 hR2
    refine iG (cO @g0 @g1 @g2) fun Kr hKr=>?_
    rw [←bC]
    refine aa3 (by omega) (by omega) (by omega) (by omega) ?_
    intro r hr
    refine dI ?_
    refine dJ hKr ?_
    cases r
    ·refine jw (t:=false) (by simp (disch:=omega) only [RA,↓reduceIte,Nat.reduceEqDiff,RD]) ?_;(try simp only [RN,reduceIte]);try refine aj rfl ?_
     exact hR1 _ _ ⟨ah,ah,ah,ah,ah,ah,ah,ah,rfl⟩
    ·refine jw (t:=true) (by simp (disch:=omega) only [RA,↓reduceIte,Nat.reduceEqDiff,RD]) ?_;(try simp only [RN,reduceIte]);try refine aj rfl ?_
     refine hR2 _ _ ?_
     refine dG ?_
     exact hK q hq (hod.done h1 h3 (hr rfl))
   have KP: ∀f' (t:Bool),f' 0=S 0 0 p.length 1→f' 1=I a'→f' 2=I b'→f' 3=I lim→f' 9= .bool wp→f' 10=I l→f' 11=I piv→f' 8= .bool wb→f' 68= .bool t→
     ∀R1:Ex→Fr→BH→Prop,(∀f' H',(f' 0=S 0 0 p.length 1∧f' 1=I a'∧f' 2=I b'∧f' 3=I lim∧f' 8= .bool wb∧f' 9= .bool wp∧f' 10=I l∧f' 11=I piv∧H'=[some (q.map I)])→R1 .normal f' H')→(∀f' H',lC 1 [] K .ret f' H'→R1 .ret f' H')→
     T 1 (.cond (.t 68) (.seq aW.r16 (.cond (.t 72) .ret .skip)) .skip) R1 f' [some (q.map I)]:=by
    intro f' t g0 g1 g2 g3 g9 g10 g11 g8 xR R1 hR1 hR2
    cases t
    ·refine jw (t:=false) (by simp (disch:=omega) only [RA,↓reduceIte,Nat.reduceEqDiff,RD,xR]) ?_;(try simp only [RN,reduceIte]);try refine aj rfl ?_
     exact hR1 _ _ ⟨g0,g1,g2,g3,g8,g9,g10,g11,rfl⟩
    ·refine jw (t:=true) xR ?_
     exact hpart _ g0 g1 g2 g3 g9 g10 g11 g8 R1 hR1 hR2
   refine xQ (fun f H'=> ∃t:Bool,f 0=S 0 0 p.length 1∧f 1=I a'∧f 2=I b'∧f 3=I lim∧f 8= .bool wb∧f 9= .bool wp∧f 10=I l∧f 11=I piv∧f 68= .bool t∧H'=[some (q.map I)]) ?_ ?_
   ·intro R1 hR1 hR2 xq
    cases wb
    ·refine dw @g8 ?_
     exact hR1 _ _ ⟨false,ah,ah,ah,ah,ah,ah,ah,ah,ah,rfl⟩
    ·cases wp
     ·refine dw (aU @g8 @g9) ?_
      exact hR1 _ _ ⟨false,ah,ah,ah,ah,ah,ah,ah,ah,ah,rfl⟩
     ·refine dw (cO @g8 @g9 @g12) ?_
      exact hR1 _ _ ⟨decide (h=1),ah,ah,ah,ah,ah,ah,ah,ah,ah,rfl⟩
   clear g0 g1 g2 g3 g8 g9 g10 g11 g12
   rintro f H' ⟨t,g0,g1,g2,g3,g8,g9,g10,g11,xR,rfl⟩
   refine xQ (fun f H'=>f 0=S 0 0 p.length 1∧f 1=I a'∧f 2=I b'∧f 3=I lim∧f 8= .bool wb∧f 9= .bool wp∧f 10=I l∧f 11=I piv∧H'=[some (q.map I)]) ?_ ?_
   ·intro R1 hR1 hR2 xq
    exact KP f t g0 g1 g2 g3 g9 g10 g11 g8 xR R1 hR1 (fun f' H' h=>hR2 _ _ (hR _ _ h))
   clear hpart KP g0 g1 g2 g3 g8 g9 g10 g11 xR
   rintro f H' ⟨g0,g1,g2,g3,g8,g9,g10,g11,rfl⟩
   refine jQ ?_
   refine xQ (fun f H'=> ∃t:Bool,(t=true→0<a'∧el q piv≤el q (a'-1))∧f 0=S 0 0 p.length 1∧f 1=I a'∧f 2=I b'∧f 3=I lim∧f 8= .bool wb∧f 9= .bool wp∧f 10=I l∧f 11=I piv∧f 87= .bool t∧H'=[some (q.map I)]) ?_ ?_
   ·intro R1 hR1 hR2 xq
    by_cases ha0:0<a'
    ·have hai:(a':Int)-1=((a'-1:Nat):Int):=by omega
     refine bK fun Kr hKr=>?_;simp (disch:=omega) only [RA,↓reduceIte,Nat.reduceEqDiff,RD,g0,g1,g11,ha0,hai,bC]
     refine oC ?_
     refine dI ?_
     refine hKr _ _ ?_
     exact hR1 _ _ ⟨!decide (el q (a'-1)<el q piv),fun h=>⟨ha0,by simpa using h⟩,ah,ah,ah,ah,ah,ah,ah,ah,ah,rfl⟩
    ·refine dw (aU @g1 @ha0) ?_
     exact hR1 _ _ ⟨false,fun h=>(by cases h),ah,ah,ah,ah,ah,ah,ah,ah,ah,rfl⟩
   clear g0 g1 g2 g3 g8 g9 g10 g11
   rintro f H' ⟨t,ht,g0,g1,g2,g3,g8,g9,g10,g11,KQ,rfl⟩
   by_cases htt:t=true
   ·subst htt
    obtain ⟨ha0,hle⟩:=ht rfl
    refine aa4 @KQ ?_
    refine iG (fQ @g0 @g1 @g2 @g11) fun Kr hKr=>?_
    rw [←bC]
    refine aa5 (by omega) (by omega) hp1 hp2 (fun x x1 x2=>Int.le_trans hle (hpre ha0 x x1 x2)) ?_
    intro r mid hr hm1 hm2 xU hm4
    have hrl:=hr.len
    refine dI ?_
    refine dJ hKr ?_
    refine aG ?_
    refine hN (b'-mid) _ _ _ _ (by omega) Gh.refl ⟨r,mid,b',lim,wb,wp,hq.trans (hr.mono h1 h3),by omega,by omega,h3,?_,fun _ x x1 x2=>(by rw [xU (mid-1) (by omega) (by omega)];exact hm4 x (by omega) x2),by omega,hlm,rfl,ah,ah,ah,ah,ah,ah,rfl⟩
    ·intro x y k1 k2 k3 k4
     by_cases hb2:a'≤x∧y<b'
     ·rw [xU x hb2.1 (by omega)]
      exact hm4 y (by omega) hb2.2
     ·exact hod.sg h1 h3 hr x y k1 k2 k3 hb2
   ·have:t=false:=by simpa using htt
    subst this
    refine KR @KQ ?_
    refine iG (fQ @g0 @g1 @g2 @g11) fun Kr hKr=>?_
    rw [←bC]
    refine aa6 (by omega) (by omega) hp1 hp2 ?_
    intro r mid al hr hm1 hm2 xU hm4
    have hrl:=hr.len
    have KT:=hod.sg h1 h3 hr
    have hpre':=hpre.sg hr
    have e1:(mid:Int)-(a':Int)=((mid-a':Nat):Int):=by omega
    have e2:(b':Int)-(mid:Int)=((b'-mid:Nat):Int):=by omega
    have e3:(l:Int).tdiv 8=((l/8:Nat):Int):=(Int.ofNat_tdiv l 8).symm
    have e4:(mid:Int)+1=((mid+1:Nat):Int):=by omega
    have hdiv:l/8≤16:=by omega
    refine dI ?_
    refine dJ hKr ?_
    refine aG ?_
    refine aC (fQ @g1 @g2 @e1 @e2) ?_
    refine aC (aU @g10 @e3) ?_
    refine aG ?_
    refine Ey (mid-a'<b'-mid) (fun hc=>?_) fun hc=>?_
    ·refine aG ?_
     refine iG (cO @g0 @g1 @g3) fun Kr hKr=>?_
     rw [←bC,←hrl]
     refine ih (by omega) (by omega) hm1 (by omega) (by omega) (by omega) hlm (fun h0 x x1 x2=>hpre' h0 x x1 (by omega)) ?_
     intro r2 hr2 hs2
     have aa7:=hr2.len
     refine dI ?_
     refine dJ hKr ?_
     refine dw @e4 ?_
     refine hN (b'-(mid+1)) _ _ _ _ (by omega) Gh.refl ⟨r2,mid+1,b',lim,decide (l/8≤mid-a'),al,(hq.trans (hr.mono h1 h3)).trans (hr2.mono h1 (by omega)),by omega,by omega,h3,KT.left h1 h3 hm1 hm2 xU hm4 hr2 hs2,fun _ x x1 x2=>?_,by omega,hlm,rfl,ah,ah,ah,ah,ah,ah,rfl⟩
     rw [Nat.add_sub_cancel,hr2.out mid (by omega),hr2.out x (by omega)]
     exact hm4 x (by omega) x2
    ·refine aG ?_
     refine iG (fQ @g0 @g2 @g3 @e4) fun Kr hKr=>?_
     rw [←bC,←hrl]
     refine ih (by omega) (by omega) (by omega) (by omega) (by omega) (by omega) hlm (fun _ x x1 x2=>by rw [Nat.add_sub_cancel];exact hm4 x (by omega) x2) ?_
     intro r2 hr2 hs2
     have aa7:=hr2.len
     refine dI ?_
     refine dJ hKr ?_
     refine KO ?_
     refine hN (mid-a') _ _ _ _ (by omega) Gh.refl ⟨r2,a',mid,lim,decide (l/8≤b'-mid),al,(hq.trans (hr.mono h1 h3)).trans (hr2.mono (by omega) h3),by omega,by omega,by omega,KT.right h1 h3 hm1 hm2 xU hm4 hr2 hs2,fun h0 x x1 x2=>?_,by omega,hlm,rfl,ah,ah,ah,ah,ah,ah,rfl⟩
     rw [hr2.out (a'-1) (by omega),hr2.out x (by omega)]
     exact hpre' h0 x x1 (by omega)
theorem aa8 {p:List Int} {K:Value→BH→Prop} (hpl:p.length≤16) (hK: ∀q:List Int,q.Perm p→lu 0 p.length q→K (.tuple ⟨[]⟩) [some (q.map I)]):
  aB false Vw [S 0 0 p.length 1] [some (p.map I)] K:=by
 have hle:=(KJ p.length (by omega)).1
 have hlt:= @KI p.length
 refine aK Xq ?_;simp only [qo,aA]
 refine aG ?_
 refine bK fun Kr hKr=>?_;simp (disch:=omega) only [RA,↓reduceIte,Nat.reduceEqDiff,RD,wu64]
 refine KL (by omega) ?_
 refine dI ?_
 refine KN (p.length+1) (a:=0) (b:=p.length) (lim:=lenOf p.length) (by omega) (Nat.le_refl _) (Nat.zero_le _) (by omega) (by omega) (by omega) (by omega) (fun h=>by omega) ?_
 intro q hq hs
 refine dI ?_
 refine hKr _ _ ?_;clear hKr Kr
 refine dG ?_
 exact hK q hq.perm hs
end Go.Bm
namespace Go.Bm
open Go Go.Am
abbrev eY (n:Nat):Value:= .int .i64 (n:Int)
theorem JE {p:List Nat} {k:Nat} (h:k<p.length):getN none (p.map eY) k=some (eY (nl p k)):=by
 simp [getN,h,nl,List.getD]
theorem Ap {H:BH} {b bytes cn:Nat} {xs:List Nat} {y:Nat} (h:(xs.length+1)*bytes≤140737488355328):app1 (some [.int .i64 (y:Int)]) (some (xs.map eY)) H b xs.length bytes cn=some (S H.length 0 (xs.length+1) 1,(H.set b none)++[some ((xs++[y]).map eY)]):=xW (g:=eY) rfl h
theorem kP {l:List Nat}:aP (l.map N8):=aP.map fun _=> .int
end Go.Bm
namespace Go.Bm
open Go Go.Am
def lY (xs:List Nat):List Int:=xs.map fun n:Nat=>(n:Int)
theorem JA {xs:List Nat}:xs.map eY=(lY xs).map I:=by simp [lY,Function.comp_def]
theorem Jy {xs:List Nat}:(lY xs).length=xs.length:=by simp [lY]
theorem KU {xs:List Nat} {i:Nat}:el (lY xs) i=(nl xs i:Int):=by
 simp only [el,lY,nl,List.getD,List.getElem?_map]
 cases xs[i]? <;>rfl
def mg (p:List Int):Prop:= ∀i j,i≤j→j<p.length→el p j≤el p i
theorem mg.tail {a:Int} {p:List Int} (h:mg (a::p)):mg p:=fun i j h1 h2=>by
 have:=h (i+1) (j+1) (by omega) (by simp;omega)
 simpa [el,List.getD] using this
theorem mg.head {a:Int} {p:List Int} (h:mg (a::p)): ∀x∈p,x≤a:=fun x hx=>by
 obtain ⟨i,hi,rfl⟩:=List.mem_iff_getElem.1 hx
 have:=h 0 (i+1) (by omega) (by simpa using hi)
 simpa [el,List.getD,hi] using this
theorem mg.uniq: ∀{p q:List Int},mg p→mg q→p.Perm q→p=q
 |[],q,_,_,h=>(List.nil_perm.1 h).symm
 |a::p,[],_,_,h=>by simp at h
 |a::p,b::q,hp,hq,h=>by
  have hab:a=b:=by
   have h1:a∈b::q:=h.subset (by simp)
   have h2:b∈a::p:=h.symm.subset (by simp)
   have h3:a≤b:=by
    rcases List.mem_cons.1 h1 with e|e
    ·omega
    ·exact hq.head a e
   have h4:b≤a:=by
    rcases List.mem_cons.1 h2 with e|e
    ·omega
    ·exact hp.head b e
   omega
  subst hab
  rw [mg.uniq hp.tail hq.tail (List.Perm.cons_inv h)]
theorem KW {p:List Int} {i:Nat} (hi:i<p.length):el p.reverse i=el p (p.length-1-i):=by
 simp only [el,List.getD]
 rw [List.getElem?_reverse (by omega)]
theorem aad {p r:List Int} {K:Value→BH→Prop} (hpl:p.length≤16) (hr:mg r) (hp:r.Perm p) (hK:K (S 0 0 p.length 1) [some (r.map I)]):
  aB false Vh [S 0 0 p.length 1] [some (p.map I)] K:=by
 refine aK Xc ?_;simp only [lQ,aA]
 refine aG ?_
 refine lH fun Kr hKr=>?_
 refine aa8 hpl ?_
 intro q hq hs
 have bC:q.length=p.length:=hq.length_eq
 refine dI ?_
 refine dJ hKr ?_
 refine lH fun Kr hKr=>?_
 rw [←bC]
 refine aa9 (by omega) ?_
 have e:q.reverse=r:=by
  refine mg.uniq (fun i j h1 h2=>?_) hr ((List.reverse_perm q).trans (hq.trans hp.symm))
  simp only [List.length_reverse] at h2
  rw [KW h2,KW (by omega)]
  exact hs _ _ (Nat.zero_le _) (by omega) (by omega)
 rw [e]
 refine dI ?_
 refine dJ hKr ?_
 refine aG ?_
 refine dG ?_
 rw [bC]
 exact hK
end Go.Bm
namespace Go.Bm
open Go Go.Am
def ku (zs:List Nat):Nat→List Nat
 |0=>List.replicate 17 0
 |i+1=>(ku zs i).set (nl zs i) (nl (ku zs i) (nl zs i)+1)
theorem JD {zs:List Nat} {i:Nat}:(ku zs i).length=17:=by
 induction i with
 |zero=>simp [ku]
 |succ i ih=>simp [ku,ih]
theorem Jw {zs:List Nat} {i:Nat} (h:i<zs.length):zs.take (i+1)=zs.take i++[nl zs i]:=by
 rw [List.take_add_one]
 simp [nl,List.getD,h]
theorem DR {zs:List Nat} {i v:Nat} (hi:i≤zs.length) (hv:v<17):nl (ku zs i) v=(zs.take i).count v:=by
 induction i with
 |zero=>simp only [ku,jZ];split<;>simp
 |succ i ih=>
  rw [Jw (by omega),List.count_append,ku,iR,ih (by omega)]
  by_cases h:v=nl zs i
  ·subst h
   rw [if_pos ⟨rfl,by rw [JD];exact hv⟩,ih (by omega)]
   simp
  ·rw [if_neg (fun e=>h e.1)]
   have:([nl zs i]:List Nat).count v=0:=by
    rw [List.count_cons,List.count_nil]
    simp [show (nl zs i==v)=false by simpa using fun e=>h e.symm]
   omega
def fO (cn:List Nat) (n:Nat):Nat→List Nat
 |0=>[]
 |k+1=>fO cn n k++List.replicate (nl cn (n-k)) (n-k)
def xX (zs:List Nat) (n:Nat):List Nat:=fO (ku zs zs.length) n n
theorem KX {cn:List Nat} {n v:Nat}: ∀{k:Nat},k≤n→(fO cn n k).count v=if n-k<v∧v≤n then nl cn v else 0
 |0,_=>by
  rw [if_neg (by omega)]
  rfl
 |k+1,hk=>by
  rw [fO,List.count_append,KX (by omega),List.count_replicate]
  by_cases h:n-k=v
  ·subst h
   rw [if_neg (by omega),if_pos (by simp),if_pos (by omega)]
   omega
  ·have e:((n-k)==v)=false:=by simpa using h
   rw [e]
   simp only [Bool.false_eq_true,if_false,Nat.add_zero]
   by_cases h2:n-k<v∧v≤n
   ·rw [if_pos h2,if_pos (by omega)]
   ·rw [if_neg h2,if_neg (by omega)]
theorem KY {cn:List Nat} {n:Nat}: ∀{k:Nat},k≤n→ ∀z∈fO cn n k,n+1-k≤z
 |0,_,z,hz=>by simp [fO] at hz
 |k+1,hk,z,hz=>by
  simp only [fO,List.mem_append,List.mem_replicate] at hz
  rcases hz with hz|⟨_,rfl⟩
  ·have:=KY (k:=k) (by omega) z hz
   omega
  ·omega
theorem KZ {cn:List Nat} {n:Nat}: ∀{k:Nat},k≤n→ ∀i j,i≤j→j<(fO cn n k).length→nl (fO cn n k) j≤nl (fO cn n k) i
 |0,_,i,j,_,h=>by simp [fO] at h
 |k+1,hk,i,j,h1,h2=>by
  have ih:=KZ (cn:=cn) (n:=n) (k:=k) (by omega)
  simp only [fO,List.length_append,List.length_replicate] at h2⊢
  simp only [nG]
  by_cases hj:j<(fO cn n k).length
  ·rw [if_pos hj,if_pos (by omega)]
   exact ih i j h1 hj
  ·rw [if_neg hj,jZ,if_pos (by omega)]
   by_cases hi:i<(fO cn n k).length
   ·rw [if_pos hi]
    have:nl (fO cn n k) i∈fO cn n k:=iC hi
    have:=KY (by omega) _ this
    omega
   ·rw [if_neg hi,jZ,if_pos (by omega)]
    exact Nat.le_refl _
theorem aae {zs:List Nat} {n:Nat}:mg (lY (xX zs n)):=fun i j h1 h2=>by
 rw [Jy] at h2
 rw [KU,KU]
 exact Int.ofNat_le.2 (KZ (Nat.le_refl _) i j h1 h2)
theorem La {zs:List Nat} {n:Nat} (hn:n≤16) (h: ∀z∈zs,1≤z∧z≤n):(xX zs n).Perm zs:=by
 rw [List.perm_iff_count]
 intro v
 rw [xX,KX (Nat.le_refl _),Nat.sub_self]
 by_cases hv:0<v∧v≤n
 ·rw [if_pos hv,DR (Nat.le_refl _) (by omega),List.take_length]
 ·rw [if_neg hv,List.count_eq_zero.2 fun hm=>hv (by have:=h v hm;omega)]
theorem aak {zs:List Nat} {n k:Nat} (hn:n≤16) (hk:k≤n) (h: ∀z∈zs,1≤z∧z≤n):(fO (ku zs zs.length) n k).length≤zs.length:=by
 have hp:=(La hn h).length_eq
 have: ∀j,j≤n→(fO (ku zs zs.length) n j).length≤(fO (ku zs zs.length) n n).length:=by
  intro j hj
  obtain ⟨d,rfl⟩: ∃d,n=j+d:=⟨n-j,by omega⟩
  have: ∀m d,(fO (ku zs zs.length) m j).length≤(fO (ku zs zs.length) m (j+d)).length:=by
   intro m d
   induction d with
   |zero=>exact Nat.le_refl _
   |succ d ih=>
    rw [show j+(d+1)=(j+d)+1 by omega,fO,List.length_append]
    omega
  exact this _ d
 have:=this k hk
 rw [xX] at hp
 omega
def lens (p:List Nat) (n:Nat):List Nat:=(bg p n).map List.length
def typ (p:List Nat) (n:Nat):List Nat:=xX (lens p n) n
section
variable {p:List Nat} {n:Nat}
theorem JC (hp:Perm p n): ∀z∈lens p n,1≤z∧z≤n:=fun z hz=>by
 obtain ⟨c,hc,rfl⟩:=List.mem_map.1 hz
 exact abb hp hc
theorem Jz (hp:Perm p n):(lens p n).length≤16:=by
 rw [lens,List.length_map]
 have:=Ak hp
 have:=hp.1
 omega
theorem DK (hp:Perm p n):(typ p n).Perm (lens p n):=La (by have:=hp.1;omega) (JC hp)
theorem aan (hp:Perm p n):(typ p n).length=(bg p n).length:=by rw [(DK hp).length_eq,lens,List.length_map]
end
end Go.Bm
namespace Go.Bm
open Go Go.Am
abbrev FN (c:List Nat):Value:=Fz c.length 1 (c.map eY)
theorem Ba {p:List (List Nat)}:aP (p.map FN):=aP.map fun _=>NN.fz
theorem rM {p:List Nat}:aP (p.map eY):=aP.map fun _=>NN.int
theorem Lc {H:BH} {b bytes cn:Nat} {xs:List (List Nat)} {y:List Nat} (h:(xs.length+1)*bytes≤140737488355328):app1 (some [Fz y.length 1 (y.map eY)]) (some (xs.map FN)) H b xs.length bytes cn=some (S H.length 0 (xs.length+1) 1,(H.set b none)++[some ((xs++[y]).map FN)]):=xW (g:=FN) rfl h
theorem Jv {xs:List (List Nat)} {k:Nat} (h:k<xs.length):getN none (xs.map FN) k=some (FN (xs.getD k [])):=by
 simp [getN,h,List.getD]
theorem abd {i j o l e:Nat} {cs:List Value} (h:j≠i):frz i cs (S j o l e)=S j o l e:=by
 simp only [frz]
 rw [if_neg (fun k=>h k.1)]
theorem RV:(type_of% @Ba)∧(type_of% @rM):=⟨@Ba, @rM⟩
theorem abe {p:List Nat} {n:Nat} (hb:By 16 p) (hp:Perm p n):
  aB false Ic [PL p,I n] [] fun v H1=> ∃j,v=S j 0 (bg p n).length 1∧blk H1 j=some ((bg p n).map FN):=by
 have hlen:=hb.len
 have hn:=hp.1
 obtain ⟨M,hM⟩: ∃M,M=16:=⟨_,rfl⟩
 have Ez:bg p n=(jq p M n).2:=by rw [hM];rfl
 rw [Ez]
 refine aK Xb ?_;simp only [bZ,aA]
 refine aG ?_
 refine aG ?_
 refine aG ?_
 refine aG ?_
 refine aS (fun m f H'=> ∃i sc,i≤n∧m=n-i∧sc=jq p M i∧f 2=P 0 0∧f 5=S 1 0 sc.2.length 1∧f 6=P 2 0∧f 12=I n∧f 13=I i∧H'=[some (p.map N8),some (sc.2.map FN),some (sc.1.map B)]) (n) ?_ ?_
 ·exact ⟨_,_,Gh.refl,0,(List.replicate 16 false,[]),by omega,by omega,rfl,ah,ah,ah,ah,ah,by simp⟩
 ·rintro m f H' R ⟨i,sc,hi,rfl,hsc,g2,g5,g6,g12,g13,rfl⟩ hN hX hR hE
  simp only [bZ.l1,aA]
  have hok:=oz.all hM hp hi
  rw [←hsc] at hok
  have hsl:=hok.len
  have hnum:=hok.num
  refine aC (aU @g12 @g13) ?_
  refine bP (i<n) (fun hc=>?_) fun hc=>?_
  ·have hnext: ∀f' sc',f' 2=P 0 0→f' 5=S 1 0 sc'.2.length 1→f' 6=P 2 0→f' 12=I n→f' 13=I i→sc'=jq p M (i+1)→T 0 bZ.iE R f' [some (p.map N8),some (sc'.2.map FN),some (sc'.1.map B)]:=by
    intro f' sc' g2 g5 g6 g12 g13 hs
    refine dw @g13 ?_
    exact hN (n-(i+1)) _ _ _ _ (by omega) Gh.refl ⟨i+1,sc',by omega,rfl,hs,ah,ah,ah,ah,ah,rfl⟩
   refine abf ?_
   refine aC @g13 ?_
   refine aC (aU @g6 @hsl) ?_
   refine bP (bl sc.1 i=true) (fun hc=>?_) fun hc=>?_
   ·refine Ew ?_
    exact hnext _ sc ah ah ah ah ah (by rw [jq,←hsc,if_pos hc])
   ·have h0:bl sc.1 i=false:=by simpa using hc
    have hin:i<n:=by assumption
    have hdone:=kE.done hM hp hsl hin h0 hok.inv
    refine aG ?_
    refine aG ?_
    refine aS (fun m f H'=> ∃j st,j≤M∧m=M-j∧st=wk p (sc.1,[],i) j∧f 2=P 0 0∧f 5=S 1 0 sc.2.length 1∧f 6=P 2 0∧f 12=I n∧f 13=I i∧f 8=S 3 0 st.2.1.length 1∧f 9=I st.2.2∧H'=[some (p.map N8),some (sc.2.map FN),some (st.1.map B),some (st.2.1.map eY)]) (M) ?_ ?_
    ·exact ⟨_,_,Gh.refl,0,(sc.1,[],i),by omega,by omega,rfl,ah,ah,ah,ah,ah,ah,ah,by simp⟩
    ·clear g2 g5 g6 g12 g13
     rintro m f H' R1 ⟨j,st,hj,rfl,hst,g2,g5,g6,g12,g13,g8,g9,rfl⟩ hN1 hX1 hR1 hE1
     simp only [bZ.l0,aA]
     have hw:=kE.wk hp hsl hin h0 hok.inv j
     have hstep:wk p (sc.1,[],i) (j+1)=pR p st:=by rw [hst];rfl
     have hstop:bl st.1 st.2.2=true→wk p (sc.1,[],i) M=st:=fun h=>by
      rw [hst] at h⊢
      exact EC h M hj
     have hdj:j=M→bl st.1 st.2.2=true:=fun h=>by
      rw [hst,h]
      exact hdone
     rw [←hst] at hw
     clear hst hdone
     obtain ⟨s,l,k⟩:=st
     simp only at g8 g9 hstop hdj hstep⊢
     have hwl:s.length=16:=hw.len
     have hwk:k<n:=hw.at_
     have hpk:=hp.lt hwk
     have hll:l.length≤16:=by
      have h1:=hw.cnt
      have h2:=List.count_le_length (a:=true) (l:=s)
      simp only at h1
      omega
     refine aC (cO @g6 @g9 @hwl) ?_
     refine bP (¬bl s k=true) (fun hc=>?_) fun hc=>?_
     ·rw [pR,if_neg hc] at hstep
      have hjM:j<M:=by
       rcases Nat.lt_or_ge j M with h|h
       ·exact h
       ·exact absurd (hdj (by omega)) hc
      refine dL ?_
      refine aC (cO @g6 @g9 @hwl) ?_
      refine aC (cO @g8 @g9 @Ap) ?_
      refine dw (aU @g2 @g9) ?_
      refine hN1 (M-(j+1)) _ _ _ _ (by omega) (Gh.nrm [0,1,2,5] rfl rfl (by simp only [RH,RV])) ⟨j+1,(s.set k true,l++[k],nl p k),by omega,rfl,hstep.symm,ah,ah,ah,ah,ah,ah,ah,rfl⟩
     ·refine hX1 _ _ ?_
      have hc':bl s k=true:=by simpa using hc
      have hfin:=hstop hc'
      have hfl:l.length*1=(l.map eY).length:=by simp
      have hfz: ∀f2:Fr,f2 2=P 0 0→f2 5=S 1 0 sc.2.length 1→f2 6=P 2 0→f2 8=Fz l.length 1 (l.map eY)→f2 12=I n→f2 13=I i→T 0 bZ.r13 (aH 1 (aJ 0 bZ.iE R)) f2 [some (p.map N8),some (sc.2.map FN),some (s.map B),none]:=by
       clear g2 g5 g6 g12 g13 g8 g9
       intro f2 g2 g5 g6 g8 g12 g13
       refine dw (cO @g5 @g8 @Lc) ?_
       refine Ew ?_
       refine ny (Gh.nrm [0,5,2] rfl rfl (by simp only [RH,RV])) ?_
       refine hnext _ (s,sc.2++[l]) ah ah ah ah ah ?_
       rw [jq,←hsc,if_neg (by simp [h0]),hfin]
      exact ny (Gh.fz (i:=3) (cs:=l.map eY) rfl rM) (hfz _ mD mD mD mD mD mD)
  ·refine hX _ _ ?_
   obtain rfl:i=n:=by omega
   refine aC @g5 ?_
   refine lZ @g5 ?_
   rw [hsc]
   exact ⟨1,rfl,rfl⟩
theorem Z8 {x:Bool} {p:List Nat} {n:Nat} {H:BH} {K:Value→BH→Prop} (hb:By 16 p) (hp:Perm p n) (hK:K (Fz (bg p n).length 1 ((bg p n).map FN)) H):aB x Ic [PL p,I n] H K:=
 rJ (by (simp only [RH])) Ba (by simp) (abe hb hp) hK
theorem abg {p:List Nat} {n:Nat} (hb:By 16 p) (hp:Perm p n):
  aB false H9 [PL p,I n] [] fun v H1=> ∃j,v=S j 0 (bg p n).length 1∧blk H1 j=some ((bg p n).map FN):=by
 have hlen:=hb.len
 have hn:=hp.1
 obtain ⟨M,hM⟩: ∃M,M=16:=⟨_,rfl⟩
 have Ez:bg p n=(jq p M n).2:=by rw [hM];rfl
 rw [Ez]
 refine aK WC ?_;simp only [dA,aA]
 refine aG ?_
 refine aG ?_
 refine aG ?_
 refine aS (fun m f H'=> ∃i sc,i≤n∧m=n-i∧sc=jq p M i∧f 1=I n∧f 2=P 0 0∧f 5=S 1 0 sc.2.length 1∧f 6=P 2 0∧f 7=I i∧H'=[some (p.map N8),some (sc.2.map FN),some (sc.1.map B)]) (n) ?_ ?_
 ·exact ⟨_,_,Gh.refl,0,(List.replicate 16 false,[]),by omega,by omega,rfl,ah,ah,ah,ah,ah,by simp⟩
 ·rintro m f H' R ⟨i,sc,hi,rfl,hsc,g1,g2,g5,g6,g7,rfl⟩ hN hX hR hE
  simp only [dA.l1,aA]
  have hok:=oz.all hM hp hi
  rw [←hsc] at hok
  have hsl:=hok.len
  have hnum:=hok.num
  refine aC (aU @g1 @g7) ?_
  refine bP (i<n) (fun hc=>?_) fun hc=>?_
  ·have hnext: ∀f' sc',f' 1=I n→f' 2=P 0 0→f' 5=S 1 0 sc'.2.length 1→f' 6=P 2 0→f' 7=I i→sc'=jq p M (i+1)→T 0 dA.r4 R f' [some (p.map N8),some (sc'.2.map FN),some (sc'.1.map B)]:=by
    intro f' sc' g1 g2 g5 g6 g7 hs
    refine dw @g7 ?_
    exact hN (n-(i+1)) _ _ _ _ (by omega) Gh.refl ⟨i+1,sc',by omega,rfl,hs,ah,ah,ah,ah,ah,rfl⟩
   have hin:i<n:=by assumption
   refine dL ?_
   refine aG ?_
   refine aC @g7 ?_
   by_cases hm:bl sc.1 i=true
   ·refine aS (fun m f H'=>m=0∧f 1=I n∧f 2=P 0 0∧f 5=S 1 0 sc.2.length 1∧f 6=P 2 0∧f 7=I i∧f 8=S 3 0 0 1∧f 9=I i∧H'=[some (p.map N8),some (sc.2.map FN),some (sc.1.map B),some []]) (0) ?_ ?_
    ·exact ⟨_,_,Gh.refl,rfl,ah,ah,ah,ah,ah,ah,ah,by simp⟩
    ·clear g1 g2 g5 g6 g7
     rintro m f H' R1 ⟨rfl,g1,g2,g5,g6,g7,g8,g9,rfl⟩ hN1 hX1 hR1 hE1
     simp only [dA.l0,aA]
     refine aC (cO @g6 @g9 @hsl) ?_
     refine KR @hm ?_
     refine hX1 _ _ ?_
     refine jQ ?_
     refine aC @g8 ?_
     refine jG ?_
     refine ny (Gh.nrm [0,1,2] rfl rfl (by simp only [RH,RV])) ?_
     exact hnext _ sc ah ah ah ah ah (by rw [jq,←hsc,if_pos hm])
   ·have h0:bl sc.1 i=false:=by simpa using hm
    have hdone:=kE.done hM hp hsl hin h0 hok.inv
    have Ld:=(kE.bg hM hp hsl hin h0 hok.inv hok.upto).1.ne
    refine aS (fun m f H'=> ∃j st,j≤M∧m=M-j∧st=wk p (sc.1,[],i) j∧f 1=I n∧f 2=P 0 0∧f 5=S 1 0 sc.2.length 1∧f 6=P 2 0∧f 7=I i∧f 8=S 3 0 st.2.1.length 1∧f 9=I st.2.2∧H'=[some (p.map N8),some (sc.2.map FN),some (st.1.map B),some (st.2.1.map eY)]) (M) ?_ ?_
    ·exact ⟨_,_,Gh.refl,0,(sc.1,[],i),by omega,by omega,rfl,ah,ah,ah,ah,ah,ah,ah,by simp⟩
    ·clear g1 g2 g5 g6 g7
     rintro m f H' R1 ⟨j,st,hj,rfl,hst,g1,g2,g5,g6,g7,g8,g9,rfl⟩ hN1 hX1 hR1 hE1
     simp only [dA.l0,aA]
     have hw:=kE.wk hp hsl hin h0 hok.inv j
     have hstep:wk p (sc.1,[],i) (j+1)=pR p st:=by rw [hst];rfl
     have hstop:bl st.1 st.2.2=true→wk p (sc.1,[],i) M=st:=fun h=>by
      rw [hst] at h⊢
      exact EC h M hj
     have hdj:j=M→bl st.1 st.2.2=true:=fun h=>by
      rw [hst,h]
      exact hdone
     rw [←hst] at hw
     clear hst hdone
     obtain ⟨s,l,k⟩:=st
     simp only at g8 g9 hstop hdj hstep⊢
     have hwl:s.length=16:=hw.len
     have hwk:k<n:=hw.at_
     have hpk:=hp.lt hwk
     have hll:l.length≤16:=by
      have h1:=hw.cnt
      have h2:=List.count_le_length (a:=true) (l:=s)
      simp only at h1
      omega
     refine aC (cO @g6 @g9 @hwl) ?_
     refine bP (¬bl s k=true) (fun hc=>?_) fun hc=>?_
     ·rw [pR,if_neg hc] at hstep
      have hjM:j<M:=by
       rcases Nat.lt_or_ge j M with h|h
       ·exact h
       ·exact absurd (hdj (by omega)) hc
      refine dL ?_
      refine aC (cO @g6 @g9 @hwl) ?_
      refine aC (cO @g8 @g9 @Ap) ?_
      refine dw (aU @g2 @g9) ?_
      refine hN1 (M-(j+1)) _ _ _ _ (by omega) (Gh.nrm [0,1,2,5] rfl rfl (by simp only [RH,RV])) ⟨j+1,(s.set k true,l++[k],nl p k),by omega,rfl,hstep.symm,ah,ah,ah,ah,ah,ah,ah,rfl⟩
     ·refine hX1 _ _ ?_
      have hc':bl s k=true:=by simpa using hc
      have hfin:=hstop hc'
      rw [hfin] at Ld
      have hfl:l.length*1=(l.map eY).length:=by simp
      have hl0:0<l.length:=Ld
      refine jQ ?_
      refine aC @g8 ?_
      refine pF ?_
      have hfz: ∀f2:Fr,f2 1=I n→f2 2=P 0 0→f2 5=S 1 0 sc.2.length 1→f2 6=P 2 0→f2 7=I i→f2 8=Fz l.length 1 (l.map eY)→T 0 (.seq dA.r12 dA.r4) R f2 [some (p.map N8),some (sc.2.map FN),some (s.map B),none]:=by
       clear g1 g2 g5 g6 g7 g8 g9
       intro f2 g1 g2 g5 g6 g7 g8
       refine aC (cO @g5 @g8 @Lc) ?_
       refine ny (Gh.nrm [0,5,2] rfl rfl (by simp only [RH,RV])) ?_
       refine hnext _ (s,sc.2++[l]) ah ah ah ah ah ?_
       rw [jq,←hsc,if_neg (by simp [h0]),hfin]
      exact ny (Gh.fz (i:=3) (cs:=l.map eY) rfl rM) (hfz _ mD mD mD mD mD mD)
  ·refine hX _ _ ?_
   obtain rfl:i=n:=by omega
   refine aC @g5 ?_
   refine lZ @g5 ?_
   rw [hsc]
   exact ⟨1,rfl,rfl⟩
theorem aai {x:Bool} {p:List Nat} {n:Nat} {H:BH} {K:Value→BH→Prop} (hb:By 16 p) (hp:Perm p n) (hK:K (Fz (bg p n).length 1 ((bg p n).map FN)) H):aB x H9 [PL p,I n] H K:=
 rJ (by (simp only [RH])) Ba (by simp) (abg hb hp) hK
end Go.Bm
namespace Go.Bm
open Go Go.Am
section
variable {H:BH} {b bytes:Nat}
end
end Go.Bm
namespace Go.Bm
open Go Go.Am
section
variable {code:List Nat} {a b:Nat} {h:Int} {H:BH}
end
end Go.Bm
namespace Go.Bm
open Go Go.Am
abbrev qI (m:Nat) (ls:List (List Nat)):Value:=Fz ls.length m (ls.flatten.map N8)
theorem Le {α:Type} {m:Nat}: ∀{ls:List (List α)} {j:Nat},(∀p∈ls,p.length=m)→j<ls.length→ ∃r,ls.flatten.drop (j*m)=ls.getD j []++r
 |p::ls,0,h,_=>⟨ls.flatten,by simp⟩
 |p::ls,j+1,h,hj=>by
  obtain ⟨r,hr⟩:=Le (ls:=ls) (j:=j) (fun q hq=>h q (by simp [hq])) (by simpa using hj)
  refine ⟨r,?_⟩
  have hp:p.length=m:=h p (by simp)
  rw [List.flatten_cons,Nat.succ_mul,Nat.add_comm,List.drop_append,List.drop_eq_nil_of_le (by omega)]
  simp only [List.nil_append,hp]
  rw [show m+j*m-m=j*m by omega,hr]
  simp [List.getD]
theorem flat_len {α:Type} {m:Nat}: ∀{ls:List (List α)},(∀p∈ls,p.length=m)→ls.flatten.length=ls.length*m
 |[],_=>by simp
 |p::ls,h=>by rw [List.flatten_cons,List.length_append,flat_len fun q hq=>h q (by simp [hq]),h p (by simp),List.length_cons,Nat.succ_mul];omega
theorem getD_mem {α:Type} {ls:List α} {d:α} {j:Nat} (h:j<ls.length):ls.getD j d∈ls:=by simp [List.getD,h]
theorem abh {m j:Nat} {ls:List (List Nat)} (h: ∀p∈ls,p.length=m) (hj:j<ls.length):getN (some m) (ls.flatten.map N8) (j*m)=some (PL (ls.getD j [])):=by
 obtain ⟨r,hr⟩:=Le h hj
 have hl:=h _ (getD_mem (d:=[]) hj)
 have hf:=flat_len h
 have:(j+1)*m≤ls.length*m:=Nat.mul_le_mul_right _ hj
 rw [Nat.succ_mul] at this
 generalize ls.getD j []=q at hr hl⊢
 rw [rW (by rw [List.length_map,hf];omega),←List.map_drop,hr,List.map_append,List.take_append_of_le_length (by simp [hl]),List.take_of_length_le (by simp [hl])]
theorem ZB {b w:List Nat} {m:Nat} {v:Value} (hb:b.length=m) (hw:w.length=m):fillL (repl (List.replicate m v) 2) [(0,m,PL b),(m,m,PL w)]=some (b.map N8++w.map N8):=by
 simp [fillL,repl,cellsL,hb,hw,splice,List.take_append,List.drop_append]
theorem ZF {x:Bool} {ls:List (List Nat)} {n:Int} {H:BH} {K:Value→BH→Prop} (hll:ls.length≤1000) (hl: ∀p∈ls,p.length=16) (jO: ∀p∈ls,∀i,nl p i<16)
  (hK:K (I (aX ls (st0 16) 16).2.length) H):aB x Vb [I n,qI 16 ls] H K:=by
 refine bf (by simp only [RH]) ?_
 refine aK WW ?_;simp only [dD,aA]
 refine aG ?_
 refine aG ?_
 refine aG ?_
 refine aG ?_
 refine aS (fun m f H'=> ∃i,i≤16∧m=16-i∧i≤(aX ls (st0 16) i).2.length∧f 1=qI 16 ls∧f 5=P 0 0∧f 6=S 1 0 (aX ls (st0 16) i).2.length 1∧f 7=I i∧H'=[some ((aX ls (st0 16) i).1.map B),some ((aX ls (st0 16) i).2.map N8)]) (16) ?_ ?_
 ·refine ⟨_,_,Gh.refl,0,by omega,by omega,by omega,ah,ah,ah,ah,?_⟩
  simp [aX,st0]<;>rfl
 ·rintro m f H' R ⟨i,hi,rfl,hil,h1,h5,h6,h7,rfl⟩ hN hX hR hE
  simp only [dD.l1,aA]
  have hB:=(Bi.st0 (m:=16) (by omega)).aX jO i
  generalize hst:aX ls (st0 16) i=st at hil h6 hB
  have hle:=hB.le
  have hsl:=hB.len
  refine aC (aU @h6 @h7) ?_
  refine bP (i<st.2.length) (fun hc=>?_) fun hc=>?_
  ·have hx:=hB.lt i hc
   refine dL ?_
   refine aC @h1 ?_
   refine aS (fun m f H'=> ∃j st',j≤ls.length∧m=ls.length-j∧st'=jo (ls.take j) (nl st.2 i) st∧f 1=qI 16 ls∧f 5=P 0 0∧f 6=S 1 0 st'.2.length 1∧f 7=I i∧f 19=qI 16 ls∧f 20=I ls.length∧f 21=I j∧H'=[some (st'.1.map B),some (st'.2.map N8)]) (ls.length) ?_ ?_
   ·refine ⟨_,_,Gh.refl,0,st,by omega,by omega,rfl,ah,ah,ah,ah,ah,ah,ah,rfl⟩
   ·clear h1 h5 h6 h7
    rintro m f H' R2 ⟨j,st',hj,rfl,hst',h1,h5,h6,h7,h19,h20,h21,rfl⟩ iy hX2 hR2 hE2
    simp only [dD.l0,aA]
    refine aC (aU @h20 @h21) ?_
    have hB':Bi 16 st':=by rw [hst'];exact hB.round fun p hp=>jO p (List.mem_of_mem_take hp) _
    have hle':=hB'.le
    have ng:=hB'.len
    refine bP (j<ls.length) (fun hc=>?_) fun hc=>?_
    ·obtain ⟨q,hq⟩:= @rH (nl st.2 i) (ls.take j) st
     rw [←hst'] at hq
     have hxi:nl st'.2 i=nl st.2 i:=by rw [hq,nG,if_pos (by assumption)]
     have IJ:i<st'.2.length:=by rw [hq];simp;omega
     have hnx:=Ai (ls:=ls) (x:=nl st.2 i) (st:=st) hc
     rw [←hst'] at hnx
     have hpl:=hl _ (getD_mem (d:=[]) hc)
     have hyl:=jO _ (getD_mem (d:=[]) hc) (nl st.2 i)
     obtain ⟨pj,wV⟩: ∃pj,ls.getD j []=pj:=⟨_,rfl⟩
     rw [wV] at hnx hpl hyl
     obtain ⟨y,ni⟩: ∃y,nl pj (nl st.2 i)=y:=⟨_,rfl⟩
     rw [ni] at hyl hnx
     have hnext: ∀f' st2,f' 1=qI 16 ls→f' 5=P 0 0→f' 6=S 1 0 st2.2.length 1→f' 7=I i→f' 19=qI 16 ls→f' 20=I ls.length→f' 21=I j→st2=visit st' y→
       T 0 dD.r13 R2 f' [some (st2.1.map B),some (st2.2.map N8)]:=by
      intro f' st2 h1 h5 h6 h7 h19 h20 h21 hs2
      refine dw @h21 ?_
      exact iy (ls.length-(j+1)) _ _ _ _ (by omega) Gh.refl ⟨j+1,st2,by omega,rfl,by rw [hnx,hs2],ah,ah,ah,ah,ah,ah,ah,rfl⟩
     refine dL ?_
     refine aC (fQ @h19 @h21 (abh hl hc) @wV) ?_
     refine aC (mF @h6 @h7 @hxi @hpl @ni) ?_
     refine aC (aU @h5 @ng) ?_
     refine bP (¬bl st'.1 y=true) (fun hc=>?_) fun hc=>?_
     ·refine aC (aU @h5 @ng) ?_
      refine aC @h6 ?_
      refine ny (Gh.nrm [0,4] rfl rfl Bc) ?_
      refine hnext _ (st'.1.set y true,st'.2++[y]) ah ah ah ah ah ah ah ?_
      rw [visit,if_neg hc]
     ·refine jQ ?_
      refine ny (Gh.nrm [0,1] rfl rfl Bc) ?_
      refine hnext _ st' ah ah ah ah ah ah ah ?_
      rw [visit,if_pos (by simpa using hc)]
    ·refine hX2 _ _ ?_
     obtain rfl:j=ls.length:=by omega
     have hst2:st'=aX ls (st0 16) (i+1):=by
      rw [hst',aX,hst,if_pos (by assumption),List.take_length]
     obtain ⟨q,hq⟩:= @rH (nl st.2 i) (ls.take ls.length) st
     have hlq:i+1≤st'.2.length:=by rw [hst',hq];simp;omega
     refine dw @h7 ?_
     refine hN (16-(i+1)) _ _ _ _ (by omega) Gh.refl ⟨i+1,by omega,rfl,by rw [←hst2];exact hlq,ah,ah,?_,ah,?_⟩
     ·rw [←hst2]
      exact ah
     ·rw [←hst2]
  ·refine hX _ _ ?_
   refine aC @h6 ?_
   refine dG ?_
   refine ⟨NN.int,?_⟩
   have hs:aX ls (st0 16) 16=st:=by rw [wW (i:=i) (by rw [hst];omega) 16 hi,hst]
   rw [hs] at hK
   exact hK
def bY (n:Int) (b w:List Nat):Prop:=Perm b n∧Perm w n∧((reach b w).2.length:Int)=n
instance (n:Int) (b w:List Nat):Decidable (bY n b w):=by unfold bY;infer_instance
theorem Perm.Aa {p:List Nat} {n:Int} (h:Perm p n) (hl:p.length=16) (i:Nat):nl p i<16:=by
 obtain ⟨m,rfl⟩:=Int.eq_ofNat_of_zero_le (show 0≤n by have:=h.1;omega)
 exact h.jM hl i
theorem abj {x:Bool} {n:Int} {b w:List Nat} {H:BH} {K:Value→BH→Prop} (hb:By 16 b) (hw:By 16 w) (hK:K (.bool (decide (bY n b w))) H):aB x Vf [DV n b w] H K:=by
 have hlb:=hb.len
 have fK:=hw.len
 refine bf (by simp only [RH]) ?_
 refine aK WZ ?_;simp only [qm,aA]
 refine aG ?_
 refine iG (aU @mY @ru) fun Kr hKr=>?_
 refine Lh hb ?_
 by_cases h1:Perm b n
 ·rw [decide_eq_true h1]
  refine uf (aU @mY @qZ) ?_
  refine Lh hw ?_
  by_cases h2:Perm w n
  ·rw [decide_eq_true h2]
   refine uf (cO @mY @qZ @ru) ?_
   refine abk hb hw (h1.Aa hb.len) (h2.Aa hw.len) ?_
   refine dI ?_
   refine dJ hKr ?_
   refine dG ?_
   exact ⟨NN.bool,by simpa [bY,h1,h2] using hK⟩
  ·rw [decide_eq_false h2]
   refine dI ?_
   refine dJ hKr ?_
   refine dG ?_
   exact ⟨NN.bool,by simpa [bY,h1,h2] using hK⟩
 ·rw [decide_eq_false h1]
  refine dI ?_
  refine dJ hKr ?_
  refine dG ?_
  exact ⟨NN.bool,by simpa [bY,h1] using hK⟩
theorem ZE {m:Nat} {b w:List Nat}:Fz 2 m (b.map N8++w.map N8)=qI m [b,w]:=by simp [qI]
end Go.Bm
namespace Go.Bm
open Go Go.Am
def fH:List Nat:=List.replicate 16 0
theorem wL:By 16 fH:=By.rep
theorem jU:fH.length=16:=by simp [fH]
theorem dz:(Value.int .i64 0::List.replicate 32 (Value.int .u8 0))=DC 0 fH fH:=by rfl
theorem Bd {b:List Nat}:(b.map N8).all Am.plain=true:=all_map fun _=>rfl
theorem abl {n:Int} {b w:List Nat}:(DC n b w).all fF=true:=by
 simp only [DC,List.all_cons,List.all_append,Bool.and_eq_true]
 exact ⟨rfl,rX,rX⟩
theorem Bf {n:Int} {b w:List Nat} (hb:b.length=16) (hw:w.length=16):(DC n b w).length=33:=by simp [hb,hw]
theorem qE {n:Int} {b w:List Nat}:aP (DC n b w):= .cons .int (.append (.map fun _=> .int) (.map fun _=> .int))
section
variable {H:BH} {i:Nat} {n m:Int} {b w b' w' p:List Nat}
theorem Lj (hb:b.length=16) (hw:w.length=16) (hb':b'.length=16) (hw':w'.length=16):bQ (some (DC n b w)) H i 0 33 (aggL (DC m b' w'))=some (undef,H.set i (some (DC m b' w'))):=by
 rw [lU (Bf hb' hw') abl (by rw [Bf hb hw];omega),Bg (by rw [Bf hb hw,Bf hb' hw'])]
theorem Ll:bQ (some (DC n b w)) H i 0 1 (.int .i64 m)=some (undef,H.set i (some (DC m b w))):=by
 rw [nX (by simp),xY]
theorem xZ {α:Type} {g:α→Value} {x y:List α} {pre post:List Value} (h:x.length=y.length):splice (pre++(x.map g++post)) pre.length (y.map g)=pre++(y.map g++post):=by
 simp only [splice]
 rw [List.take_append_of_le_length (by omega),List.take_of_length_le (by omega)]
 rw [List.drop_append,List.drop_eq_nil_of_le (by omega),List.nil_append]
 rw [show pre.length+(List.map g y).length-pre.length=(List.map g x).length by simp [h]]
 rw [List.drop_append,List.drop_eq_nil_of_le (by omega)]
 simp
theorem Lm {α:Type} {g:α→Value} {x:List α} {y:α} {k:Nat} {pre post:List Value} (h:k<x.length):splice (pre++(x.map g++post)) (pre.length+k) [g y]=pre++((x.set k y).map g++post):=by
 simp only [splice,List.length_singleton]
 rw [List.take_append,List.take_of_length_le (l:=pre) (by omega),show pre.length+k-pre.length=k by omega,List.take_append_of_le_length (by simp;omega)]
 rw [List.drop_append,List.drop_eq_nil_of_le (as:=pre) (by omega),show pre.length+k+1-pre.length=k+1 by omega,List.drop_append_of_le_length (by simp;omega)]
 rw [List.set_eq_take_append_cons_drop]
 simp [h,List.map_take,List.map_drop]
theorem Lp {α:Type} {g:α→Value} {x:List α} {k:Nat} {d:α} {pre post:List Value} (h:k<x.length):getN none (pre++(x.map g++post)) (pre.length+k)=some (g (x.getD k d)):=by
 simp only [getN]
 rw [List.getElem?_append_right (by omega),show pre.length+k-pre.length=k by omega,List.getElem?_append_left (by simpa using h)]
 simp [List.getD,h]
theorem Lr (hb:b.length=16) (hp:p.length=16):bQ (some (DC n b w)) H i 1 16 (aggL (p.map N8))=some (undef,H.set i (some (DC n p w))):=by
 rw [lU (by simpa using hp) rX (by simp [hb])]
 have:=xZ (g:=N8) (x:=b) (y:=p) (pre:=[I n]) (post:=w.map N8) (by omega)
 simp only [List.length_cons,List.length_nil,List.length_map,List.cons_append,List.nil_append,List.append_nil,Nat.zero_add] at this
 rw [show splice (DC n b w) 1 (p.map N8)=DC n p w from this]
theorem Ls (hb:b.length=16) (hw:w.length=16) (hp:p.length=16):bQ (some (DC n b w)) H i 17 16 (aggL (p.map N8))=some (undef,H.set i (some (DC n b p))):=by
 rw [lU (by simpa using hp) rX (by simp [hb,hw])]
 have:=xZ (g:=N8) (x:=w) (y:=p) (pre:=I n::b.map N8) (post:=[]) (by omega)
 simp only [List.length_cons,List.length_nil,List.length_map,List.cons_append,List.nil_append,List.append_nil,Nat.zero_add,hb] at this
 rw [show splice (DC n b w) 17 (p.map N8)=DC n b p from this]
theorem Lu {k x:Nat} (h:k<b.length):bQ (some (DC n b w)) H i (1+k) 1 (.int .u8 (x:Int))=some (undef,H.set i (some (DC n (b.set k x) w))):=by
 rw [nX (by simp;omega)]
 have:=Lm (g:=N8) (x:=b) (y:=x) (k:=k) (pre:=[I n]) (post:=w.map N8) h
 simp only [List.length_cons,List.length_nil,List.length_map,List.cons_append,List.nil_append,List.append_nil,Nat.zero_add] at this
 rw [show splice (DC n b w) (1+k) [N8 x]=DC n (b.set k x) w from this]
theorem LC {k x:Nat} (hb:b.length=16) (h:k<w.length):bQ (some (DC n b w)) H i (17+k) 1 (.int .u8 (x:Int))=some (undef,H.set i (some (DC n b (w.set k x)))):=by
 rw [nX (by simp;omega)]
 have:=Lm (g:=N8) (x:=w) (y:=x) (k:=k) (pre:=I n::b.map N8) (post:=[]) h
 simp only [List.length_cons,List.length_nil,List.length_map,List.cons_append,List.nil_append,List.append_nil,Nat.zero_add,hb] at this
 rw [show splice (DC n b w) (17+k) [N8 x]=DC n b (w.set k x) from this]
theorem LG {k:Nat} (h:k<b.length):getN none (DC n b w) (1+k)=some (N8 (nl b k)):=by
 have:=Lp (g:=N8) (x:=b) (k:=k) (d:=0) (pre:=[I n]) (post:=w.map N8) h
 simp only [List.length_cons,List.length_nil,List.length_map,List.cons_append,List.nil_append,List.append_nil,Nat.zero_add] at this
 exact this
theorem LJ {k:Nat} (hb:b.length=16) (h:k<w.length):getN none (DC n b w) (17+k)=some (N8 (nl w k)):=by
 have:=Lp (g:=N8) (x:=w) (k:=k) (d:=0) (pre:=I n::b.map N8) (post:=[]) h
 simp only [List.length_cons,List.length_nil,List.length_map,List.cons_append,List.nil_append,List.append_nil,Nat.zero_add,hb] at this
 exact this
theorem LK:fillL (DC n b w) [(0,1, .int .i64 m)]=some (DC m b w):=by
 simp [fillL,cellsL,splice]
theorem LM {b' w':List Nat} (hb:b.length=16) (hw:w.length=16) (hb':b'.length=16) (hw':w'.length=16):fillL (DC n b w) [(0,1, .int .i64 m),(1,16,PL b'),(17,16,PL w')]=some (DC m b' w'):=by
 simp only [fillL,Bh,Bj,List.length_singleton,List.length_map]
 rw [if_pos ⟨trivial,by simp⟩,xY,if_pos ⟨hb',by simp [hb]⟩]
 have h1:=xZ (g:=N8) (x:=b) (y:=b') (pre:=[I m]) (post:=w.map N8) (by omega)
 simp only [List.length_singleton,List.cons_append,List.nil_append] at h1
 rw [h1,if_pos ⟨hw',by simp [hb',hw]⟩]
 have h2:=xZ (g:=N8) (x:=w) (y:=w') (pre:=I m::b'.map N8) (post:=[]) (by omega)
 simp only [List.length_cons,List.length_map,hb',List.append_nil,List.cons_append] at h2
 rw [h2]
theorem LP (hb:b.length=16) (hw:w.length=16) (hw':w'.length=16):fillL (DC n b w) [(0,1, .int .i64 m),(17,16,PL w')]=some (DC m b w'):=by
 simp only [fillL,Bh,Bj,List.length_singleton,List.length_map]
 rw [if_pos ⟨trivial,by simp⟩,xY,if_pos ⟨hw',by simp [hb,hw]⟩]
 have h2:=xZ (g:=N8) (x:=w) (y:=w') (pre:=I m::b.map N8) (post:=[]) (by omega)
 simp only [List.length_cons,List.length_map,hb,List.append_nil,List.cons_append] at h2
 rw [h2]
theorem LQ (hb:b.length=16) (hw:w.length=16):getN (some 33) (DC n b w) 0=some (aggL (DC n b w)):=EF hb hw
theorem jP:NN (aggL (DC n b w)):=NN.agg qE
end
theorem LU {b w:List Nat}:(b.map N8++w.map N8).all Am.plain=true:=by rw [List.all_append,Bd,Bd];rfl
theorem aT:(type_of% @dz)∧(type_of% @LU)∧(type_of% @Bd)∧(type_of% @jU)∧(type_of% @Ll)∧(type_of% @mY)∧(type_of% @LK):=⟨@dz, @LU, @Bd, @jU, @Ll, @mY, @LK⟩
theorem bF:(type_of% @Lj)∧(type_of% @Lr)∧(type_of% @Ls)∧(type_of% @Lu)∧(type_of% @LC)∧(type_of% @ru)∧(type_of% @qZ)∧(type_of% @LG)∧(type_of% @LJ)∧(type_of% @LM)∧(type_of% @LP)∧(type_of% @LQ):=⟨@Lj, @Lr, @Ls, @Lu, @LC, @ru, @qZ, @LG, @LJ, @LM, @LP, @LQ⟩
theorem bY.n0 {n:Int} {b w:List Nat} (h:bY n b w): ∃m:Nat,n=m∧1≤m∧m≤16:=by
 have:=h.1.1
 exact ⟨n.toNat,by omega,by omega,by omega⟩
end Go.Bm
namespace Go.Bm
open Go Go.Am
def oh:List Bool:=List.replicate 16 false
theorem Ag {x:Nat}:bl oh x=false:=Bl
theorem tV:oh.length=16:=by simp [oh]
def stA (x:Nat):BS:=(oh.set x true,[x])
structure kR (ls:List (List Nat)) (n x d:Nat) (st:BS):Prop where
 len:st.1.length=16
 mem: ∀y,bl st.1 y=true↔y∈st.2
 gJ:st.2.Nodup
 lt: ∀y∈st.2,y<n
 pre: ∃r,st.2=x::r
 le:d≤st.2.length
 done: ∀j,j<d→ ∀p∈ls,nl p (nl st.2 j)∈st.2
theorem kR.visit {ls:List (List Nat)} {n x d y:Nat} {st:BS} (hn:n≤16) (h:kR ls n x d st) (hy:y<n):kR ls n x d (Bm.visit st y)∧(∃q,(Bm.visit st y).2=st.2++q)∧y∈(Bm.visit st y).2:=by
 unfold Bm.visit
 by_cases hb:bl st.1 y=true
 ·rw [if_pos hb]
  exact ⟨h,⟨[],by simp⟩,(h.mem y).1 hb⟩
 ·rw [if_neg hb]
  have hny:y∉st.2:=fun hm=>hb ((h.mem y).2 hm)
  refine ⟨⟨by simpa using h.len,fun z=>?_,?_,fun z hz=>?_,?_,?_,fun j hj1 p hp=>?_⟩,⟨[y],rfl⟩,by simp⟩
  ·show bl (st.1.set y true) z=true↔z∈st.2++[y]
   rw [og]
   by_cases e:z=y
   ·subst e
    rw [if_pos ⟨rfl,by have:=h.len;omega⟩]
    simp
   ·rw [if_neg (fun k=>e k.1),h.mem z]
    simp [e]
  ·show (st.2++[y]).Nodup
   rw [List.nodup_append]
   exact ⟨h.gJ,by simp,fun a ha b hb=>by
    rw [List.mem_singleton] at hb
    subst hb
    exact fun e=>hny (e▸ha)⟩
  ·rcases List.mem_append.1 hz with k|k
   ·exact h.lt z k
   ·rw [List.mem_singleton] at k
    omega
  ·obtain ⟨r,hr⟩:=h.pre
   exact ⟨r++[y],by show st.2++[y]=_;rw [hr];rfl⟩
  ·show d≤(st.2++[y]).length
   have:=h.le
   simp
   omega
  ·show nl p (nl (st.2++[y]) j)∈st.2++[y]
   rw [nG,if_pos (by have:=h.le;omega)]
   exact List.mem_append_left _ (h.done j hj1 p hp)
theorem kR.round {ls:List (List Nat)} {n x d z:Nat} (hn:n≤16): ∀{l2:List (List Nat)} {st:BS},kR ls n x d st→(∀p∈l2,nl p z<n)→kR ls n x d (jo l2 z st)∧(∃q,(jo l2 z st).2=st.2++q)∧ ∀p∈l2,nl p z∈(jo l2 z st).2
 |[],st,h,_=>⟨h,⟨[],by simp [jo]⟩,by simp⟩
 |p::l2,st,h,hp=>by
  obtain ⟨h1,⟨q1,h2⟩,h3⟩:=h.visit hn (hp p (by simp))
  obtain ⟨h4,⟨q2,h5⟩,h6⟩:=kR.round hn (l2:=l2) h1 fun q hq=>hp q (by simp [hq])
  have e:jo (p::l2) z st=jo l2 z (Bm.visit st (nl p z)):=rfl
  rw [e]
  refine ⟨h4,⟨q1++q2,by rw [h5,h2,List.append_assoc]⟩,fun q hq=>?_⟩
  rcases List.mem_cons.1 hq with rfl|hq
  ·rw [h5]
   exact List.mem_append_left _ h3
  ·exact h6 q hq
theorem kR.aX {ls:List (List Nat)} {n x:Nat} {st:BS} (hn:n≤16) (hl: ∀p∈ls,∀y,y<n→nl p y<n) (h:kR ls n x 0 st): ∀i,kR ls n x (min i (Bm.aX ls st i).2.length) (Bm.aX ls st i)
 |0=>by rw [Nat.zero_min];exact h
 |i+1=>by
  have ih:=kR.aX hn hl h i
  simp only [Bm.aX]
  generalize Bm.aX ls st i=s at ih⊢
  by_cases hi:i<s.2.length
  ·rw [if_pos hi]
   rw [Nat.min_eq_left (by omega)] at ih
   obtain ⟨h1,⟨q,h2⟩,h3⟩:=ih.round hn (z:=nl s.2 i) (l2:=ls) fun p hp=>hl p hp _ (ih.lt _ (iC hi))
   have hlen:i+1≤(jo ls (nl s.2 i) s).2.length:=by rw [h2];simp;omega
   rw [Nat.min_eq_left hlen]
   refine ⟨h1.len,h1.mem,h1.gJ,h1.lt,h1.pre,hlen,fun j hj p hp=>?_⟩
   by_cases e:j=i
   ·subst e
    have:nl (jo ls (nl s.2 j) s).2 j=nl s.2 j:=by rw [h2,nG,if_pos hi]
    rw [this]
    exact h3 p hp
   ·exact h1.done j (by omega) p hp
  ·rw [if_neg hi]
   rw [Nat.min_eq_right (by omega)] at ih
   rw [Nat.min_eq_right (by omega)]
   exact ih
theorem kR.start {ls:List (List Nat)} {n x:Nat} (hn:n≤16) (hx:x<n):kR ls n x 0 (stA x):=by
 refine ⟨by simp [stA,tV],fun y=>?_,by simp [stA],fun y hy=>?_,⟨[],rfl⟩,Nat.zero_le _,fun j hj=>by omega⟩
 ·show bl (oh.set x true) y=true↔y∈[x]
  rw [og,tV,Ag]
  by_cases e:y=x
  ·rw [if_pos ⟨e,by omega⟩];simp [e]
  ·rw [if_neg (fun k=>e k.1)];simp [e]
 ·rw [show (stA x).2=[x] from rfl,List.mem_singleton] at hy
  omega
theorem nodup_le {n:Nat} {l:List Nat} (h:l.Nodup) (hl: ∀x∈l,x<n):l.length≤n:=by
 have:=List.Nodup.length_le_of_subset h (l₂:=List.range n) fun x hx=>List.mem_range.2 (hl x hx)
 simpa using this
theorem abm {n:Nat} {l:List Nat} (h:l.Nodup) (hl: ∀x∈l,x<n) (hn:n≤l.length) {x:Nat} (hx:x<n):x∈l:=by
 apply Classical.byContradiction
 intro hxl
 have:=nodup_le (n:=n) (l:=x::l) (List.nodup_cons.2 ⟨hxl,h⟩) (by
  intro y hy
  rcases List.mem_cons.1 hy with rfl|hy
  ·exact hx
  ·exact hl y hy)
 rw [List.length_cons] at this
 omega
def ord (b w:List Nat) (x:Nat):List Nat:=(aX [b,w] (stA x) 16).2
section
variable {b w:List Nat} {n:Nat}
theorem rY (hb:Perm b n) (hw:Perm w n) {x:Nat} (hx:x<n):kR [b,w] n x (ord b w x).length (aX [b,w] (stA x) 16):=by
 have hn:=hb.1
 have h:=(kR.start (ls:=[b,w]) (x:=x) (n:=n) (by omega) hx).aX (by omega) (by
  intro p hp y hy
  simp only [List.mem_cons,List.not_mem_nil,or_false] at hp
  rcases hp with rfl|rfl
  ·exact hb.lt hy
  ·exact hw.lt hy) 16
 have h16:=nodup_le h.gJ h.lt
 rw [Nat.min_eq_right (by omega)] at h
 exact h
theorem abn (hb:Perm b n) (hw:Perm w n) {x:Nat} (hx:x<n): ∀y∈ord b w x,nl b y∈ord b w x∧nl w y∈ord b w x:=fun y hy=>by
 have h:=rY hb hw hx
 obtain ⟨j,hj,rfl⟩:=pJ hy
 exact ⟨h.done j hj b (by simp),h.done j hj w (by simp)⟩
theorem LV {p:List Nat} (hp:Perm p n) {S:Nat→Prop} (hS: ∀x,x<n→S x→S (nl p x)) {x:Nat} (hx:x<n) (h:S (nl p x)):S x:=by
 obtain ⟨c,hc,hxc⟩:=D9 hp hx
 have hi:=xJ hp hc
 obtain ⟨j,hj,hje⟩:=pJ (hi.fwd hxc)
 have hup: ∀d,j+d<c.length→S (nl c (j+d)):=by
  intro d
  induction d with
  |zero=>intro _;rw [Nat.add_zero,hje];exact h
  |succ d ih=>
   intro hd
   rw [←Nat.add_assoc,←hi.step (j+d) (by omega)]
   exact hS _ (hi.lt _ (iC (by omega))) (ih (by omega))
 have h0:S (nl c 0):=by
  rw [←hi.last]
  have:=hup (c.length-1-j) (by omega)
  rw [show j+(c.length-1-j)=c.length-1 by omega] at this
  exact hS _ (hi.lt _ (iC (by omega))) this
 have hall: ∀k,k<c.length→S (nl c k):=by
  intro k
  induction k with
  |zero=>intro _;exact h0
  |succ k ih=>
   intro hk
   rw [←hi.step k hk]
   exact hS _ (hi.lt _ (iC (by omega))) (ih (by omega))
 obtain ⟨k,hk,rfl⟩:=pJ hxc
 exact hall k hk
theorem bY.reach (h:bY n b w) {y:Nat} (hy:y<n):y∈ord b w 0:=by
 obtain ⟨hb,hw,hr⟩:=h
 have hn:=hb.1
 have h1:=rY hb hw (x:=0) (by omega)
 refine abm h1.gJ h1.lt ?_ hy
 have:(Bm.reach b w).2.length=n:=by omega
 have e:(aX [b,w] (stA 0) 16).2.length=n:=this
 omega
theorem bY.ind (h:bY n b w) (S:Nat→Prop) (s1: ∀z,z<n→S z→S (nl b z)) (s2: ∀z,z<n→S z→S (nl w z)) (s0:S 0): ∀z,z<n→S z:=by
 obtain ⟨hb,hw,hr⟩:=id h
 have hn:=hb.1
 intro z hz
 have hcl: ∀i,∀z∈(aX [b,w] (stA 0) i).2,z<n∧S z:=by
  have hv: ∀(st:BS) (y:Nat),(∀z∈st.2,z<n∧S z)→y<n→S y→ ∀z∈(visit st y).2,z<n∧S z:=by
   intro st y h1 h2 h3 z hz
   unfold visit at hz
   split at hz
   ·exact h1 z hz
   ·rcases List.mem_append.1 hz with k|k
    ·exact h1 z k
    ·rw [List.mem_singleton] at k
     subst k
     exact ⟨h2,h3⟩
  intro i
  induction i with
  |zero=>
   intro z hz
   have:z=0:=by simpa [aX,stA] using hz
   subst this
   exact ⟨by omega,s0⟩
  |succ i ih=>
   simp only [aX]
   split
   ·rename_i hi
    obtain ⟨hz1,hz2⟩:=ih _ (iC hi)
    exact hv _ _ (hv _ _ ih (hb.lt hz1) (s1 _ hz1 hz2)) (hw.lt hz1) (s2 _ hz1 hz2)
   ·exact ih
 exact (hcl 16 z (h.reach hz)).2
theorem bY.all (h:bY n b w) {x y:Nat} (hx:x<n) (hy:y<n):y∈ord b w x:=by
 obtain ⟨hb,hw,hr⟩:=id h
 have hn:=hb.1
 have h0:=h.ind
 have hx0:(ord b w x)=(ord b w x):=rfl
 have hfw:=abn hb hw hx
 have key: ∀z,z<n→(z∈ord b w x↔0∈ord b w x):=by
  refine h0 _ ?_ ?_ Iff.rfl
  ·intro z hz hS
   rw [←hS]
   exact ⟨LV hb (S:=fun z=>z∈ord b w x) (fun z _ h=>(hfw z h).1) hz,fun h=>(hfw z h).1⟩
  ·intro z hz hS
   rw [←hS]
   exact ⟨LV hw (S:=fun z=>z∈ord b w x) (fun z _ h=>(hfw z h).2) hz,fun h=>(hfw z h).2⟩
 have hxx:x∈ord b w x:=by
  obtain ⟨r,hr⟩:=(rY hb hw hx).pre
  rw [ord,hr]
  simp
 exact (key y hy).2 ((key x hx).1 hxx)
theorem qF (h:bY n b w) {x:Nat} (hx:x<n):(ord b w x).length=n:=by
 have h1:=rY h.1 h.2.1 hx
 have h2:=nodup_le h1.gJ h1.lt
 have h3:=List.Nodup.length_le_of_subset (List.nodup_range (n:=n)) (l₂:=ord b w x) fun y hy=>h.all hx (List.mem_range.1 hy)
 rw [List.length_range] at h3
 have:(ord b w x).length≤n:=h2
 omega
theorem abo (h:bY n b w) {x:Nat} (hx:x<n):(ord b w x).Nodup:=(rY h.1 h.2.1 hx).gJ
theorem Dw (h:bY n b w) {x:Nat} (hx:x<n) {j:Nat} (hj:j<n):nl (ord b w x) j<n:=(rY h.1 h.2.1 hx).lt _ (iC (by have:=qF h hx;rw [ord] at this;omega))
def iF (l:List Nat):Nat→List Nat
 |0=>List.replicate 16 0
 |k+1=>(iF l k).set (nl l k) k
theorem wX {l:List Nat} {k:Nat}:(iF l k).length=16:=by
 induction k with
 |zero=>simp [iF]
 |succ k ih=>simp [iF,ih]
theorem ZR {l:List Nat} {k i:Nat}:nl (iF l k) i≤k:=by
 induction k generalizing i with
 |zero=>simp only [iF,jZ];split<;>omega
 |succ k ih=>
  rw [iF,iR]
  split
  ·omega
  ·have:= @ih i;omega
theorem LW {l:List Nat} (hd:l.Nodup) (hl: ∀x∈l,x<16): ∀{k j:Nat},k≤l.length→j<k→nl (iF l k) (nl l j)=j
 |0,j,_,h=>by omega
 |k+1,j,hk,hj=>by
  rw [iF,iR,wX]
  by_cases e:j=k
  ·subst e
   rw [if_pos ⟨rfl,hl _ (iC (by omega))⟩]
  ·rw [if_neg (fun h=>e (D6 hd (by omega) (by omega) h.1)),LW hd hl (by omega) (by omega)]
def fE (b w:List Nat) (x:Nat):List Nat:=iF (ord b w x) (ord b w x).length
theorem EG (h:bY n b w) {x:Nat} (hx:x<n) {j:Nat} (hj:j<n):nl (fE b w x) (nl (ord b w x) j)=j:=by
 have hn:=h.1.1
 have hl:=qF h hx
 exact LW (abo h hx) (fun y hy=>by have:=(rY h.1 h.2.1 hx).lt y hy;omega) (Nat.le_refl _) (by omega)
theorem qG (h:bY n b w) {x:Nat} (hx:x<n) {y:Nat} (hy:y<n):nl (ord b w x) (nl (fE b w x) y)=y∧nl (fE b w x) y<n:=by
 obtain ⟨j,hj,rfl⟩:=pJ (h.all hx hy)
 rw [qF h hx] at hj
 rw [EG h hx hj]
 exact ⟨rfl,hj⟩
def fP (p nm:List Nat):Nat→List Nat
 |0=>List.replicate 16 0
 |k+1=>(fP p nm k).set (nl nm k) (nl nm (nl p k))
theorem pz {p nm:List Nat} {k:Nat}:(fP p nm k).length=16:=by
 induction k with
 |zero=>simp [fP]
 |succ k ih=>simp [fP,ih]
theorem EH {p nm:List Nat} (hd: ∀i j,i<n→j<n→nl nm i=nl nm j→i=j) (hl: ∀i,i<n→nl nm i<16): ∀{k j:Nat},k≤n→j<k→nl (fP p nm k) (nl nm j)=nl nm (nl p j)
 |0,j,_,h=>by omega
 |k+1,j,hk,hj=>by
  rw [fP,iR,pz]
  by_cases e:j=k
  ·subst e
   rw [if_pos ⟨rfl,hl _ (by omega)⟩]
  ·rw [if_neg (fun h=>e (hd _ _ (by omega) (by omega) h.1)),EH hd hl (by omega) (by omega)]
theorem EI {p nm:List Nat} {m i:Nat} (hl: ∀i,i<n→nl nm i<m) (hi:m≤i): ∀{k:Nat},k≤n→nl (fP p nm k) i=0
 |0,_=>by simp only [fP,jZ];split<;>rfl
 |k+1,hk=>by
  have:=hl k (by omega)
  rw [fP,iR,if_neg (by omega),EI hl hi (by omega)]
def eG (b w:List Nat) (n x:Nat):List Nat×List Nat:=(fP b (fE b w x) n,fP w (fE b w x) n)
theorem LX (h:bY n b w) {x:Nat} (hx:x<n): ∀i j,i<n→j<n→nl (fE b w x) i=nl (fE b w x) j→i=j:=fun i j hi hj he=>by
 have h1:=(qG h hx hi).1
 rw [he,(qG h hx hj).1] at h1
 exact h1.symm
theorem LY (h:bY n b w) {x:Nat} (hx:x<n) {y:Nat} (hy:y<n):nl (eG b w n x).1 (nl (fE b w x) y)=nl (fE b w x) (nl b y):=
 EH (LX h hx) (fun i hi=>by have:=(qG h hx hi).2;have:=h.1.1;omega) (Nat.le_refl _) hy
theorem LZ (h:bY n b w) {x:Nat} (hx:x<n) {y:Nat} (hy:y<n):nl (eG b w n x).2 (nl (fE b w x) y)=nl (fE b w x) (nl w y):=
 EH (LX h hx) (fun i hi=>by have:=(qG h hx hi).2;have:=h.1.1;omega) (Nat.le_refl _) hy
end
section
variable {b w b' w':List Nat} {n:Nat}
structure uy (n:Nat) (b w b' w':List Nat) (φ:Nat→Nat):Prop where
 lt: ∀y,y<n→φ y<n
 inj: ∀y z,y<n→z<n→φ y=φ z→y=z
 b: ∀y,y<n→nl b' (φ y)=φ (nl b y)
 w: ∀y,y<n→nl w' (φ y)=φ (nl w y)
structure yc (n:Nat) (φ:Nat→Nat) (st st':BS):Prop where
 ord:st'.2=st.2.map φ
 lt: ∀y∈st.2,y<n
 met: ∀y,y<n→bl st'.1 (φ y)=bl st.1 y
 len:st.1.length=16∧st'.1.length=16
theorem yc.visit {φ:Nat→Nat} {st st':BS} {y:Nat} (hn:n≤16) (hl: ∀y,y<n→φ y<n) (hinj: ∀y z,y<n→z<n→φ y=φ z→y=z) (h:yc n φ st st') (hy:y<n):yc n φ (Bm.visit st y) (Bm.visit st' (φ y)):=by
 unfold Bm.visit
 rw [h.met y hy]
 by_cases hb:bl st.1 y=true
 ·rw [if_pos hb,if_pos hb];exact h
 ·rw [if_neg hb,if_neg hb]
  refine ⟨by simp [h.ord],fun z hz=>?_,fun z hz=>?_,by simpa using h.len⟩
  ·rcases List.mem_append.1 hz with k|k
   ·exact h.lt z k
   ·rw [List.mem_singleton] at k;omega
  ·show bl (st'.1.set (φ y) true) (φ z)=bl (st.1.set y true) z
   have:=hl y hy
   rw [og,og,h.len.1,h.len.2,h.met z hz]
   by_cases e:z=y
   ·subst e;rw [if_pos ⟨rfl,by omega⟩,if_pos ⟨rfl,by omega⟩]
   ·rw [if_neg (fun k=>e (hinj _ _ hz hy k.1)),if_neg (fun k=>e k.1)]
theorem L6 {φ:Nat→Nat} {l:List Nat} {i:Nat} (h:i<l.length):nl (l.map φ) i=φ (nl l i):=by simp [nl,List.getD,h]
theorem uy.ord {φ:Nat→Nat} (hn:n≤16) (hb:Perm b n) (hw:Perm w n) (h:uy n b w b' w' φ) {x:Nat} (hx:x<n):Bm.ord b' w' (φ x)=(Bm.ord b w x).map φ:=by
 have key: ∀i,yc n φ (aX [b,w] (stA x) i) (aX [b',w'] (stA (φ x)) i):=by
  intro i
  induction i with
  |zero=>
   refine ⟨rfl,fun y hy=>?_,fun y hy=>?_,by simp [aX,stA,tV]⟩
   ·have:y=x:=by simpa [aX,stA] using hy
    omega
   ·show bl (oh.set (φ x) true) (φ y)=bl (oh.set x true) y
    have:=h.lt x hx
    rw [og,og,tV,Ag,Ag]
    by_cases e:y=x
    ·subst e;rw [if_pos ⟨rfl,by omega⟩,if_pos ⟨rfl,by omega⟩]
    ·rw [if_neg (fun k=>e (h.inj _ _ hy hx k.1)),if_neg (fun k=>e k.1)]
  |succ i ih=>
   simp only [aX]
   generalize aX [b,w] (stA x) i=st at ih⊢
   generalize aX [b',w'] (stA (φ x)) i=st' at ih⊢
   have hle:st'.2.length=st.2.length:=by rw [ih.ord,List.length_map]
   rw [hle]
   by_cases hi:i<st.2.length
   ·rw [if_pos hi,if_pos hi]
    have e:nl st'.2 i=φ (nl st.2 i):=by rw [ih.ord,L6 hi]
    rw [e]
    generalize hz:nl st.2 i=z
    have hz1:z<n:=by rw [←hz];exact ih.lt _ (iC hi)
    show yc n φ (Bm.visit (Bm.visit st (nl b z)) (nl w z)) (Bm.visit (Bm.visit st' (nl b' (φ z))) (nl w' (φ z)))
    rw [h.b z hz1,h.w z hz1]
    exact (ih.visit hn h.lt h.inj (hb.lt hz1)).visit hn h.lt h.inj (hw.lt hz1)
   ·rw [if_neg hi,if_neg hi]
    exact ih
 exact (key 16).ord
theorem uy.fE {φ:Nat→Nat} (hd:bY n b w) (hd':bY n b' w') (h:uy n b w b' w' φ) {x:Nat} (hx:x<n) {y:Nat} (hy:y<n):nl (Bm.fE b' w' (φ x)) (φ y)=nl (Bm.fE b w x) y:=by
 have hn:=hd.1.1
 obtain ⟨h1,h2⟩:=qG hd hx hy
 have h3:=h.ord (by omega) hd.1 hd.2.1 hx
 have h4:=EG hd' (h.lt x hx) h2
 rw [h3,L6 (by rw [qF hd hx];exact h2),h1] at h4
 exact h4
theorem uy.eG {φ:Nat→Nat} (hd:bY n b w) (hd':bY n b' w') (h:uy n b w b' w' φ) {x:Nat} (hx:x<n):Bm.eG b' w' n (φ x)=Bm.eG b w n x:=by
 have hn:=hd.1.1
 have hx':=h.lt x hx
 have hz: ∀{b w:List Nat},bY n b w→ ∀{x},x<n→ ∀i,n≤i→nl (Bm.eG b w n x).1 i=0∧nl (Bm.eG b w n x).2 i=0:=fun hd x hx i hi=>
  ⟨EI (n:=n) (m:=n) (fun i hi=>(qG hd hx hi).2) hi (Nat.le_refl _),EI (n:=n) (m:=n) (fun i hi=>(qG hd hx hi).2) hi (Nat.le_refl _)⟩
 have key: ∀i,i<16→nl (Bm.eG b' w' n (φ x)).1 i=nl (Bm.eG b w n x).1 i∧nl (Bm.eG b' w' n (φ x)).2 i=nl (Bm.eG b w n x).2 i:=by
  intro i _
  rcases Nat.lt_or_ge i n with hi|hi
  ·have hy:=Dw hd hx hi
   have e:=EG hd hx hi
   generalize ni:nl (Bm.ord b w x) i=y at hy e
   have e':=h.fE hd hd' hx hy
   rw [e] at e'
   have f1:=LY hd' hx' (h.lt y hy)
   have f2:=LZ hd' hx' (h.lt y hy)
   have g1:=LY hd hx hy
   have g2:=LZ hd hx hy
   rw [e',h.b y hy,h.fE hd hd' hx (hd.1.lt hy)] at f1
   rw [e',h.w y hy,h.fE hd hd' hx (hd.2.1.lt hy)] at f2
   rw [e] at g1 g2
   rw [f1,f2,g1,g2]
   exact ⟨rfl,rfl⟩
  ·obtain ⟨h1,h2⟩:=hz hd hx i hi
   obtain ⟨h3,h4⟩:=hz hd' hx' i hi
   rw [h1,h2,h3,h4]
   exact ⟨rfl,rfl⟩
 refine Prod.ext ?_ ?_
 ·exact qB (by simp only [Bm.eG,pz]) fun i hi=>(key i (by simpa only [Bm.eG,pz] using hi)).1
 ·exact qB (by simp only [Bm.eG,pz]) fun i hi=>(key i (by simpa only [Bm.eG,pz] using hi)).2
end
abbrev L2:=List Nat×List Nat
def bU (x y:L2):Prop:=x.1<y.1∨(x.1=y.1∧x.2<y.2)
instance (x y:L2):Decidable (bU x y):=by unfold bU;infer_instance
theorem tH (x:L2): ¬bU x x:=fun h=>by
 rcases h with h|h
 ·exact List.lt_irrefl _ h
 ·exact List.lt_irrefl _ h.2
theorem lt2_trans {x y z:L2} (h:bU x y) (k:bU y z):bU x z:=by
 rcases h with h|⟨h1,h2⟩<;>rcases k with k|⟨k1,k2⟩
 ·exact .inl (List.lt_trans h k)
 ·exact .inl (k1▸h)
 ·exact .inl (h1▸k)
 ·exact .inr ⟨h1.trans k1,List.lt_trans h2 k2⟩
theorem zQ {x y:L2} (h: ¬bU x y) (k: ¬bU y x):x=y:=by
 have e1:x.1=y.1:=List.le_antisymm (List.not_lt.1 fun e=>k (.inl e)) (List.not_lt.1 fun e=>h (.inl e))
 exact Prod.ext e1 (List.le_antisymm (List.not_lt.1 fun e=>k (.inr ⟨e1.symm,e⟩)) (List.not_lt.1 fun e=>h (.inr ⟨e1,e⟩)))
def lG (b w:List Nat) (n:Nat):Nat→L2
 |0=>eG b w n 0
 |k+1=>if bU (eG b w n (k+1)) (lG b w n k) then eG b w n (k+1) else lG b w n k
def jE (b w:List Nat) (n:Nat):L2:=lG b w n (n-1)
section
variable {b w b' w':List Nat} {n:Nat}
theorem Jp: ∀{k:Nat},∃x,x≤k∧lG b w n k=eG b w n x
 |0=>⟨0,Nat.le_refl _,rfl⟩
 |k+1=>by
  obtain ⟨x,hx,h⟩:= @Jp k
  simp only [lG]
  split
  ·exact ⟨k+1,Nat.le_refl _,rfl⟩
  ·exact ⟨x,by omega,h⟩
end
end Go.Bm
namespace Go.Bm
open Go Go.Am
section
variable {p b w:List Nat} {n:Nat}
theorem Perm.D8 (hp:Perm p n) {y:Nat} (hy:y<n): ∃x,x<n∧nl p x=y:=by
 obtain ⟨c,hc,hyc⟩:=D9 hp hy
 have hi:=xJ hp hc
 obtain ⟨j,hj,rfl⟩:=pJ hyc
 by_cases e:j=0
 ·subst e
  exact ⟨_,hi.lt _ (iC (by omega)),hi.last⟩
 ·have:=hi.step (j-1) (by omega)
  rw [show j-1+1=j by omega] at this
  exact ⟨_,hi.lt _ (iC (by omega)),this⟩
theorem EJ (hp:Perm p n): ∀{k i:Nat},k≤n→i<k→nl (jR p k) (nl p i)=i
 |0,_,_,h=>by omega
 |k+1,i,hk,hi=>by
  have hn:=hp.1
  rw [jR,iR,rZ]
  by_cases e:i=k
  ·subst e
   rw [if_pos ⟨rfl,by have:=hp.lt (show i<n by omega);omega⟩]
  ·rw [if_neg (fun h=>e (hp.inj (by omega) (by omega) h.1)),EJ hp (by omega) (by omega)]
theorem L8 (hp:Perm p n) {i:Nat} (hi:n≤i): ∀{k:Nat},k≤n→nl (jR p k) i=0
 |0,_=>by simp only [jR,jZ];split<;>rfl
 |k+1,hk=>by
  have:=hp.lt (show k<n by omega)
  rw [jR,iR,if_neg (by omega),L8 hp hi (by omega)]
theorem Perm.back (hp:Perm p n):Perm (jR p n) n:=by
 refine ⟨hp.1,fun i _=>⟨fun h=>L8 hp (by omega) (Nat.le_refl _),fun h=>?_⟩⟩
 obtain ⟨x,hx,rfl⟩:=hp.D8 (show i<n by omega)
 rw [EJ hp (Nat.le_refl _) hx]
 refine ⟨by omega,fun j hj=>?_⟩
 obtain ⟨y,hy,rfl⟩:=hp.D8 (show j<n by omega)
 rw [EJ hp (Nat.le_refl _) hy]
 intro e
 subst e
 omega
end
end Go.Bm
namespace Go.Bm
open Go Go.Am
def lJ:Nat→List Nat
 |0=>fH
 |i+1=>(lJ i).set i i
theorem JQ {i:Nat}:nl fH i=0:=by rw [fH,jZ];split<;>rfl
theorem AQ {k:Nat}:(lJ k).length=16:=by
 induction k with
 |zero=>exact jU
 |succ k ih=>rw [lJ,List.length_set,ih]
theorem Bo {k i:Nat} (hk:k≤16):nl (lJ k) i=if i<k then i else 0:=by
 induction k with
 |zero=>rw [lJ,JQ,if_neg (by omega)]
 |succ k ih=>
  rw [lJ,iR,ih (by omega),AQ]
  by_cases e:i=k
  ·subst e;rw [if_pos ⟨rfl,by omega⟩,if_pos (by omega)]
  ·rw [if_neg (by omega)]
   by_cases h:i<k
   ·rw [if_pos h,if_pos (by omega)]
   ·rw [if_neg h,if_neg (by omega)]
theorem Perm.of {p:List Nat} {n:Nat} (hn:1≤n∧n≤16) (h0: ∀i,n≤i→i<16→nl p i=0) (h1: ∀i,i<n→nl p i<n) (h2: ∀i j,i<n→j<i→nl p j≠nl p i):Perm p n:=
 ⟨by omega,fun i hi=>⟨fun h=>h0 i (by omega) hi,fun h=>⟨by have:=h1 i (by omega);omega,fun j hj=>h2 i j (by omega) hj⟩⟩⟩
theorem Perm.zero {p:List Nat} {n:Nat} (h:Perm p n) {i:Nat} (h1:n≤i) (h2:i<16):nl p i=0:=(h.2 i h2).1 (by omega)
theorem JX {n:Nat} (hn:1≤n∧n≤16):Perm (lJ n) n:= .of hn
 (fun i h1 h2=>by rw [Bo hn.2,if_neg (by omega)]) (fun i h=>by rw [Bo hn.2,if_pos h];exact h)
 (fun i j h1 h2=>by rw [Bo hn.2,Bo hn.2,if_pos h1,if_pos (by omega)];omega)
theorem mod_one {n i:Nat} (h:i<n):(i+1)%n=if i+1=n then 0 else i+1:=by
 split
 ·rename_i e;rw [e,Nat.mod_self]
 ·exact Nat.mod_eq_of_lt (by omega)
theorem Perm.swap {p:List Nat} {n:Nat} (h:Perm p n) (hl:p.length=16) {i k:Nat} (hi:i<n) (hk:k<n):Perm ((p.set i (nl p k)).set k (nl p i)) n:=by
 have hn:=h.1
 have e: ∀j,nl ((p.set i (nl p k)).set k (nl p i)) j=if j=k then nl p i else if j=i then nl p k else nl p j:=fun j=>by
  rw [iR,iR,List.length_set,hl]
  by_cases e1:j=k
  ·rw [if_pos ⟨e1,by omega⟩,if_pos e1]
  ·rw [if_neg (by omega),if_neg e1]
   by_cases e2:j=i
   ·rw [if_pos ⟨e2,by omega⟩,if_pos e2]
   ·rw [if_neg (by omega),if_neg e2]
 refine .of (by omega) (fun j h1 h2=>?_) (fun j hj=>?_) (fun j j' hj hj'=>?_)
 ·rw [e,if_neg (by omega),if_neg (by omega)];exact h.zero h1 h2
 ·rw [e];split
  ·exact h.lt hi
  ·split
   ·exact h.lt hk
   ·exact h.lt hj
 ·rw [e,e]
  intro he
  have key: ∀a b,a<n→b<n→nl p a=nl p b→a=b:=fun a b ha hb hab=>h.inj ha hb hab
  split at he<;>split at he<;>(try split at he)<;>(try split at he)
  all_goals first
   |(have:=key _ _ (by omega) (by omega) he;omega)
theorem abp {x:Bool} {n:Int} {H:BH} {K:Value→BH→Prop} (hn:n≤16) (hK:K (PL (lJ n.toNat)) H):aB x UZ [I n] H K:=by
 have hz:=jU
 refine bf (by simp only [RH]) ?_
 refine aK WB ?_;simp only [jc,aA]
 refine aG ?_
 refine aG ?_
 refine aG ?_
 refine aS (fun m f H'=> ∃k:Nat,k≤n.toNat∧m=n.toNat-k∧f 0=I n∧f 2=P 0 0∧f 3=P 1 0∧f 4=I k∧H'=[some (List.replicate 16 (.int .u8 0)),some ((lJ k).map N8)]) (n.toNat) ?_ ?_
 ·exact ⟨_,_,Gh.refl,0,by omega,by omega,ah,ah,ah,ah,rfl⟩
 ·rintro m f H' R ⟨k,hk,rfl,g0,g2,g3,g4,rfl⟩ hN hX hR hE
  simp only [jc.l0,aA]
  have hlk:= @AQ k
  refine aC (aU @g0 @g4) ?_
  refine bP ((k:Int)<n) (fun hc=>?_) fun hc=>?_
  ·have adL:k<16:=by omega
   refine dL ?_
   refine aC (cO @g3 @g4 @hlk) ?_
   refine dw @g4 ?_
   exact hN (n.toNat-(k+1)) _ _ _ _ (by omega) Gh.refl ⟨k+1,by omega,rfl,ah,ah,ah,ah,rfl⟩
  ·refine hX _ _ ?_
   obtain rfl:k=n.toNat:=by omega
   refine aC (cO @g2 @g3 @hlk) ?_
   refine lZ (aU @g2 @hlk) ?_
   exact ⟨dV (by (simp only [RH])),hK⟩
section
variable {code:List Nat} {a:Nat} {h:Int}
end
end Go.Bm
