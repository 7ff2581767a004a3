/- DpO, DpP, Dp7a, DpQ, DpCb, DpV, DpVa, DpDa, Dp3, Dp4, DpCc, DpCd -/
import Derived.Test.YtbpfbfbabpkceaaGreatDpG0
set_option linter.unusedVariables false
set_option linter.unusedSimpArgs false
namespace Go.Bm
open Go Go.Am
set_option maxRecDepth 10000
def len8:ByteArray:=⟨#[0,1,2,2,3,3,3,3,4,4,4,4,4,4,4,4,5,5,5,5,5,5,5,5,5,5,5,5,5,5,5,5,6,6,6,6,6,6,6,6,6,6,6,6,6,6,6,6,6,6,6,6,6,6,6,6,6,6,6,6,6,6,6,6,7,7,7,7,7,7,7,7,7,7,7,7,7,7,7,7,7,7,7,7,7,7,7,7,7,7,7,7,7,7,7,7,7,7,7,7,7,7,7,7,7,7,7,7,7,7,7,7,7,7,7,7,7,7,7,7,7,7,7,7,7,7,7,7,8,8,8,8,8,8,8,8,8,8,8,8,8,8,8,8,8,8,8,8,8,8,8,8,8,8,8,8,8,8,8,8,8,8,8,8,8,8,8,8,8,8,8,8,8,8,8,8,8,8,8,8,8,8,8,8,8,8,8,8,8,8,8,8,8,8,8,8,8,8,8,8,8,8,8,8,8,8,8,8,8,8,8,8,8,8,8,8,8,8,8,8,8,8,8,8,8,8,8,8,8,8,8,8,8,8,8,8,8,8,8,8,8,8,8,8,8,8,8,8,8,8,8,8,8,8,8,8]⟩
def lenOf (x:Nat):Nat:=match len8[x]? with|some b=>b.toNat|none=>0
theorem ac5:(⟨#[0,1,2,2,3,3,3,3,4,4,4,4,4,4,4,4,5,5,5,5,5,5,5,5,5,5,5,5,5,5,5,5,6,6,6,6,6,6,6,6,6,6,6,6,6,6,6,6,6,6,6,6,6,6,6,6,6,6,6,6,6,6,6,6,7,7,7,7,7,7,7,7,7,7,7,7,7,7,7,7,7,7,7,7,7,7,7,7,7,7,7,7,7,7,7,7,7,7,7,7,7,7,7,7,7,7,7,7,7,7,7,7,7,7,7,7,7,7,7,7,7,7,7,7,7,7,7,7,8,8,8,8,8,8,8,8,8,8,8,8,8,8,8,8,8,8,8,8,8,8,8,8,8,8,8,8,8,8,8,8,8,8,8,8,8,8,8,8,8,8,8,8,8,8,8,8,8,8,8,8,8,8,8,8,8,8,8,8,8,8,8,8,8,8,8,8,8,8,8,8,8,8,8,8,8,8,8,8,8,8,8,8,8,8,8,8,8,8,8,8,8,8,8,8,8,8,8,8,8,8,8,8,8,8,8,8,8,8,8,8,8,8,8,8,8,8,8,8,8,8,8,8,8,8,8,8]⟩:ByteArray)=len8:=rfl
theorem NY:len8.size=256:=by decide+kernel
theorem ac6 {x:Nat} (h:x<256):Dc (.string len8) (.int .u8 (x:Int))=some (.int .u8 (lenOf x:Int)):=by
 have hb:len8[x]? =some (len8[x]'(by rw [NY];exact h)):=getElem?_pos len8 x (by rw [NY];exact h)
 simp only [Dc,lenOf,Int.natCast_nonneg,if_true,Int.toNat_natCast,hb,Option.map_some]
theorem NZ {x:Nat}:lenOf x<256:=by
 unfold lenOf
 split
 ·exact UInt8.toNat_lt _
 ·omega
theorem N7: ∀x,x<17→x≤lenOf x+12∧(8≤x→lenOf x=if x<16 then 4 else 5):=by decide+kernel
theorem ac7 {x:Bool} {n:Nat} {H:BH} {K:Value→BH→Prop} (hn:n<256) (hK:K (I (lenOf n)) H):aF x X3 [.int .u64 (n:Int)] H K:=by
 have hl:= @NZ n
 refine bK (by simp only [RH]) ?_
 refine aG Zh ?_;simp only [iG,aB]
 refine aC ?_
 refine aC ?_
 refine bV ?_
 refine aC ?_
 refine bV ?_
 refine aC ?_
 refine bV ?_
 refine dF (bP @ac5 @ac6 @Int.zero_add) fun Kr hKr=>?_
 refine aO hKr ?_
 refine aV ?_
 exact ⟨NN.int,hK⟩
theorem GI {x:Bool} {n:Nat} {H:BH} {K:Value→BH→Prop} (hn:n<256) (hK:K (I (lenOf n)) H):aF x XI [.int .u64 (n:Int)] H K:=by
 refine bK (by simp only [RH]) ?_
 refine aG YW ?_;simp only [oQ,aB]
 refine aC ?_
 refine bV ?_
 refine eP fun Kr hKr=>?_
 refine ac7 hn ?_
 refine aS ?_
 refine aO hKr ?_
 refine aV ?_
 exact ⟨NN.int,hK⟩
theorem wu64 {n:Int} (h0:0≤n) (h1:n<18446744073709551616):IntKind.u64.wrap n=n:=by
 have hb:(2:Int)^(64:Nat)=18446744073709551616:=by decide
 simp only [IntKind.wrap,IntKind.bits,IntKind.signed,hb]
 simp
 omega
theorem ac8 {x:Bool} {n:Nat} {H:BH} {K:Value→BH→Prop} (h8:8≤n) (hn:n≤16) (hK:K (.int .u64 (if n<16 then 16 else 32)) H):aF x Yb [I n] H K:=by
 have hl:=(N7 n (by omega)).2 h8
 refine bK (by simp only [RH]) ?_
 refine aG Zv ?_;simp only [qX,aB]
 refine aC ?_
 refine dF @wu64 fun Kr hKr=>?_
 refine GI (by omega) ?_
 rw [hl]
 by_cases h:n<16
 ·rw [if_pos h] at hK⊢
  refine aS ?_
  refine aO hKr ?_
  refine aV ?_
  exact ⟨NN.int,hK⟩
 ·rw [if_neg h] at hK⊢
  refine aS ?_
  refine aO hKr ?_
  refine aV ?_
  exact ⟨NN.int,hK⟩
theorem Df {H:BH} {b:Nat} {v:Value} {k:IntKind} {n:Int}:dV (some [v]) H b 0 1 (.int k n)=some (undef,H.set b (some [.int k n])):=rfl
theorem ac9 {v:Int} {K:Value→BH→Prop} (hK: ∀v':Int,K (.int .u64 v') [some [.int .u64 v']]):aF false Yc [P 0 0] [some [.int .u64 v]] K:=by
 refine aG Zw ?_;simp only [lQ,aB]
 refine aC ?_
 refine aA (aH @vU @Df) ?_
 generalize IntKind.u64.wrap _=v1
 refine aA (aH @vU @Df) ?_
 generalize IntKind.u64.wrap _=v2
 refine aA (aH @vU @Df) ?_
 generalize IntKind.u64.wrap _=v3
 refine aA @vU ?_
 refine aV ?_
 exact hK _
theorem ada {a:Int} {m:Nat} (hm:m=16∨m=32): ∃o:Nat,IntKind.i64.wrap (IntKind.u64.wrap ((BitVec.ofInt IntKind.u64.bits a&&&BitVec.ofInt IntKind.u64.bits (IntKind.u64.wrap ((m:Int)-1))).toNat:Int))=o∧o<m:=by
 have h1:(BitVec.ofInt IntKind.u64.bits a&&&BitVec.ofInt IntKind.u64.bits (IntKind.u64.wrap ((m:Int)-1))).toNat≤m-1:=by
  rw [BitVec.toNat_and]
  refine Nat.le_trans Nat.and_le_right ?_
  rcases hm with rfl|rfl<;>decide
 refine ⟨(BitVec.ofInt IntKind.u64.bits a&&&BitVec.ofInt IntKind.u64.bits (IntKind.u64.wrap ((m:Int)-1))).toNat,?_,by omega⟩
 generalize (BitVec.ofInt IntKind.u64.bits a&&&BitVec.ofInt IntKind.u64.bits (IntKind.u64.wrap ((m:Int)-1))).toNat=x at h1
 rw [wu64 (by omega) (by omega),wW (by omega) (by omega)]
theorem adb {p:List Int} {a b:Nat} {K:Value→BH→Prop} (hpl:p.length≤1000) (hb:b≤p.length) (h8:a+8≤b) (h16:b≤a+16) (hK: ∀q,Sg a b p q→K (.tuple ⟨[]⟩) [some (q.map I)]):
  aF false Yg [S 0 0 p.length 1,I a,I b] [some (p.map I)] K:=by
 obtain ⟨l,hl⟩: ∃l,l=b-a:=⟨_,rfl⟩
 have hbl:(b:Int)-(a:Int)=(l:Int):=by omega
 have hd:(l:Int).tdiv 4=((l/4:Nat):Int):=(Int.ofNat_tdiv l 4).symm
 obtain ⟨t,ht⟩: ∃t,t=l/4:=⟨_,rfl⟩
 rw [←ht] at hd
 have e2:(a:Int)+(t:Int)*2=((a+t*2:Nat):Int):=by omega
 have e3:((a+t*2:Nat):Int)-1=((a+t*2-1:Nat):Int):=by omega
 have e4:((a+t*2:Nat):Int)+1=((a+t*2+1:Nat):Int):=by omega
 obtain ⟨m,hm,hml⟩: ∃m:Nat,(if l<16 then (16:Int) else 32)=m∧(m=16∧l<16∨m=32∧l=16):=by
  by_cases h:l<16
  ·exact ⟨16,by rw [if_pos h];rfl, .inl ⟨rfl,h⟩⟩
  ·exact ⟨32,by rw [if_neg h];rfl, .inr ⟨rfl,by omega⟩⟩
 refine aG ZA ?_;simp only [gB,aB]
 refine aA @hbl ?_
 refine aC ?_
 refine jX (t:=true) (by simp (disch:=omega) only [RA,↓reduceIte,Nat.reduceEqDiff,RD]) ?_;(try simp only [RN,reduceIte]);try refine aj rfl ?_
 refine aA (aH @wu64 @Df) ?_
 refine eP fun Kr hKr=>?_
 refine ac8 (by omega) (by omega) ?_
 rw [hm]
 refine aS ?_
 refine aO hKr ?_
 refine au fun Kr hKr=>?_;simp (disch:=omega) only [RA,↓reduceIte,Nat.reduceEqDiff,Int.reduceEq,RD,hd,e2,e3];refine hKr _ _ ?_;clear hKr Kr;(try simp only [RN,reduceIte]);try refine aj rfl ?_
 refine tH ?_
 refine aW (fun n f H'=> ∃(q:List Int) (i:Nat) (v:Int),Sg a b p q∧a+t*2-1≤i∧i≤a+t*2+2∧n=a+t*2+2-i∧f 0=S 0 0 p.length 1∧f 1=I a∧f 6=I l∧f 7=P 1 0∧f 8= .int .u64 (m:Int)∧f 9=I i∧H'=[some (q.map I),some [.int .u64 v]]) (a+t*2+2-(a+t*2-1)) ?_ ?_
 ·refine ⟨_,_,Gh.refl,p,a+t*2-1,l, .refl,by omega,by omega,rfl,?_,?_,?_,?_,?_,?_,rfl⟩
  any_goals (simp (disch:=omega) only [RA,↓reduceIte,Nat.reduceEqDiff,reduceCtorEq,RD,RE, *]<;>rfl)
 ·rintro n f H' R ⟨q,i,v,hq,hi1,hi2,rfl,g0,g1,g6,g7,g8,g9,rfl⟩ hN hX hR hE
  simp only [gB.l0,aB]
  have bD:=hq.len
  refine aA (nN @g1 @g6 @g9 @hd @e2 @e4) ?_
  refine bI (i≤a+t*2+1) (fun hc=>?_) fun hc=>?_
  ·have hnext: ∀f' (v':Int) (o:Nat),f' 0=S 0 0 p.length 1→f' 1=I a→f' 6=I l→f' 7=P 1 0→f' 8= .int .u64 (m:Int)→f' 9=I i→f' 10=I o→o<l→
     T 1 (.seq gB.r10 gB.r6) R f' [some (q.map I),some [.int .u64 v']]:=by
    intro f' v' o g0 g1 g6 g7 g8 g9 g10 ho
    have e5:(a:Int)+(o:Int)=((a+o:Nat):Int):=by omega
    have kX:(q.set i (el q (a+o))).length=p.length:=by simp [bD]
    have hsw:(q.set i (el q (a+o))).set (a+o) (el q i)=swp q i (a+o):=rfl
    refine aA (dh (dh @g0 @g1 @g9 @g10) @e5 @bD @kX) ?_
    rw [hsw]
    refine bM @g9 ?_
    exact hN (a+t*2+2-(i+1)) _ _ _ _ (by omega) Gh.refl ⟨swp q i (a+o),i+1,v',hq.trans (.swp (by omega) (by omega) (by omega) (by omega) (by omega)),by omega,by omega,rfl,ah,ah,ah,ah,ah,ah,rfl⟩
   refine dD ?_
   refine dF @g7 fun Kr hKr=>?_
   refine Na (i:=1) (cs:=[.int .u64 v]) rfl (by (simp only [RH])) ?_
   refine ac9 ?_
   intro v'
   refine ⟨.int, .cons (by (simp only [RH])) .nil,?_⟩
   obtain ⟨o,ho1,ho2⟩:= @ada v' m (by omega)
   refine gU (aH @g8 @ho1) ?_
   refine aO hKr ?_
   refine aA @g6 ?_
   refine bI (l≤o) (fun hc=>?_) fun hc=>?_
   ·have e6:(o:Int)-(l:Int)=((o-l:Nat):Int):=by omega
    refine aA (aH @g6 @e6) ?_
    exact hnext _ v' (o-l) ah ah ah ah ah ah ah (by omega)
   ·refine jQ ?_
    exact hnext _ v' o ah ah ah ah ah ah ah (by omega)
  ·refine hX _ _ ?_
   refine pJ ?_
   refine bZ (by simp (disch:=omega) only [RA,↓reduceIte,Nat.reduceEqDiff,RD,resAll,resOf];rfl) (aY.nrm [0] rfl rfl (by simp only [RH]) (by simp only [tup,RH])) ?_;simp only [tup]
   exact hK q hq
end Go.Bm
namespace Go.Bm
open Go Go.Am
section
variable {k:Nat} {Q:Ex→Fr→BH→Prop} {f:Fr} {H:BH}
theorem zh {a rest:ACode} (P:Fr→BH→Prop) (h1: ∀R:Ex→Fr→BH→Prop,(∀f' H',P f' H'→R .normal f' H')→(∀f' H',Q .ret f' H'→R .ret f' H')→(∀i f' H',Q (.exit i) f' H'→R (.exit i) f' H')→T k a R f H) (h2: ∀f' H',P f' H'→T k rest Q f' H'):T k (.seq a rest) Q f H:=
 pG (h1 (dH k rest Q) (fun _ _ h=>h2 _ _ h) (fun _ _ h=>h) (fun _ _ _ h=>h))
end
def Od (a b a' b':Nat) (q:List Int):Prop:= ∀x y,a≤x→x<y→y<b→ ¬(a'≤x∧y<b')→el q x≤el q y
def Pre (a b:Nat) (q:List Int):Prop:=0<a→ ∀x,a≤x→x<b→el q (a-1)≤el q x
section
variable {a b a' b' m:Nat} {q r:List Int}
theorem Od.sg (h:Od a b a' b' q) (ha:a≤a') (hb:b'≤b) (k:Sg a' b' q r):Od a b a' b' r:=by
 intro x y h1 h2 h3 h4
 by_cases hx:a'≤x∧x<b'
 ·obtain ⟨x',x1,x2,x3⟩:=k.src x hx.1 hx.2
  rw [x3,k.out y (by omega)]
  exact h x' y (by omega) (by omega) h3 (by omega)
 ·rw [k.out x (by omega)]
  by_cases hy:a'≤y∧y<b'
  ·obtain ⟨y',y1,y2,y3⟩:=k.src y hy.1 hy.2
   rw [y3]
   exact h x y' h1 (by omega) (by omega) (by omega)
  ·rw [k.out y (by omega)]
   exact h x y h1 h2 h3 h4
theorem Pre.sg (h:Pre a' b' q) (k:Sg a' b' q r):Pre a' b' r:=fun h0 x h1 h2=>by
 obtain ⟨x',x1,x2,x3⟩:=k.src x h1 h2
 rw [x3,k.out (a'-1) (by omega)]
 exact h h0 x' x1 x2
theorem Od.left (h:Od a b a' b' q) (ha:a≤a') (hb:b'≤b) (h1:a'≤m) (h2:m<b') (hl: ∀x,a'≤x→x<m→el q x≤el q m) (hr: ∀x,m<x→x<b'→el q m≤el q x) (k:Sg a' m q r) (hs:l7 a' m r):Od a b (m+1) b' r:=by
 intro x y k1 k2 k3 k4
 by_cases hb2:a'≤x∧y<b'
 ·have em:el r m=el q m:=k.out m (by omega)
  have hlow: ∀z,a'≤z→z<m→el r z≤el q m:=fun z z1 z2=>by
   obtain ⟨z',w1,w2,w3⟩:=k.src z z1 z2
   rw [w3]
   exact hl z' w1 w2
  have hup: ∀z,m<z→z<b'→el q m≤el r z:=fun z z1 z2=>by
   rw [k.out z (by omega)]
   exact hr z z1 z2
  rcases Nat.lt_trichotomy y m with hy|hy|hy
  ·exact hs x y hb2.1 (by omega) hy
  ·subst hy
   rw [em]
   exact hlow x hb2.1 k2
  ·have h9:=hup y hy hb2.2
   rcases Nat.lt_or_ge x m with hx|hx
   ·exact Int.le_trans (hlow x hb2.1 hx) h9
   ·obtain rfl:x=m:=by omega
    rw [em]
    exact h9
 ·exact h.sg ha hb (k.mono (by omega) (by omega)) x y k1 k2 k3 hb2
theorem Od.right (h:Od a b a' b' q) (ha:a≤a') (hb:b'≤b) (h1:a'≤m) (h2:m<b') (hl: ∀x,a'≤x→x<m→el q x≤el q m) (hr: ∀x,m<x→x<b'→el q m≤el q x) (k:Sg (m+1) b' q r) (hs:l7 (m+1) b' r):Od a b a' m r:=by
 intro x y k1 k2 k3 k4
 by_cases hb2:a'≤x∧y<b'
 ·have em:el r m=el q m:=k.out m (by omega)
  have hlow: ∀z,a'≤z→z<m→el r z≤el q m:=fun z z1 z2=>by
   rw [k.out z (by omega)]
   exact hl z z1 z2
  have hup: ∀z,m<z→z<b'→el q m≤el r z:=fun z z1 z2=>by
   obtain ⟨z',w1,w2,w3⟩:=k.src z (by omega) z2
   rw [w3]
   exact hr z' (by omega) w2
  rcases Nat.lt_trichotomy x m with hx|hx|hx
  ·have h9:=hlow x hb2.1 hx
   rcases Nat.lt_or_ge m y with hy|hy
   ·exact Int.le_trans h9 (hup y hy hb2.2)
   ·obtain rfl:y=m:=by omega
    rw [em]
    exact h9
  ·subst hx
   rw [em]
   exact hup y k2 hb2.2
  ·exact hs x y (by omega) (by omega) hb2.2
 ·exact h.sg ha hb (k.mono (by omega) (by omega)) x y k1 k2 k3 hb2
theorem Od.done (h:Od a b a' b' q) (ha:a≤a') (hb:b'≤b) (hs:l7 a' b' q):l7 a b q:=fun x y h1 h2 h3=>by
 rcases Nat.lt_or_ge x y with hx|hx
 ·by_cases hc:a'≤x∧y<b'
  ·exact hs x y hc.1 h2 hc.2
  ·exact h x y h1 hx h3 hc
 ·obtain rfl:x=y:=by omega
  exact Int.le_refl _
end
set_option maxRecDepth 20000 in
theorem N9: ∀(N:Nat) {p:List Int} {a b lim:Nat} {K:Value→BH→Prop},p.length≤1000→b≤p.length→a≤b→b-a<N→b≤a+16→b-a≤lim+12→lim≤1000→Pre a b p→(∀q,Sg a b p q→l7 a b q→K (.tuple ⟨[]⟩) [some (q.map I)])→
  aF false Ye [S 0 0 p.length 1,I a,I b,I lim] [some (p.map I)] K
 |0,_,_,_,_,_,_,_,_,h,_,_,_,_,_=>by omega
 |N+1,p,a,b,lim,K,hpl,hb,hab,hN0,h16,hlim,hlm,hpre,hK=>by
  have ih:=fun {p:List Int} {a b lim:Nat} {K:Value→BH→Prop}=> @N9 N p a b lim K
  refine aG Zy ?_;simp only [aZ,aB]
  refine aC ?_
  refine aC ?_
  refine tH ?_
  refine aW (fun m f H'=> ∃(q:List Int) (a' b' lim:Nat) (wb wp:Bool),Sg a b p q∧a≤a'∧a'≤b'∧b'≤b∧Od a b a' b' q∧Pre a' b' q∧b'-a'≤lim+12∧lim≤1000∧m=b'-a'∧f 0=S 0 0 p.length 1∧f 1=I a'∧f 2=I b'∧f 3=I lim∧f 8= .bool wb∧f 9= .bool wp∧H'=[some (q.map I)]) (b-a) ?_ ?_
  ·exact ⟨_,_,Gh.refl,p,a,b,lim,true,true, .refl,by omega,by omega,by omega,fun x y h1 h2 h3 h4=>absurd ⟨h1,h3⟩ h4,hpre,hlim,hlm,rfl,ah,ah,ah,ah,ah,ah,rfl⟩
  ·clear hlim hlm hpre
   rintro m f H' R ⟨q,a',b',lim,wb,wp,hq,h1,h2,h3,hod,hpre,hlim,hlm,rfl,g0,g1,g2,g3,g8,g9,rfl⟩ hN hX hR hE
   simp only [aZ.l0,aB]
   refine uK ?_
   refine jQ ?_
   obtain ⟨l,hl⟩: ∃l,l=b'-a':=⟨_,rfl⟩
   have hbl:(b':Int)-(a':Int)=(l:Int):=by omega
   have bD:=hq.len
   refine aA (bP @g1 @g2 @hbl) ?_
   refine aC ?_
   refine bI (l≤12) (fun hc=>?_) fun hc=>?_
   ·refine dF (bP @g0 @g1 @g2) fun Kr hKr=>?_
    rw [←bD]
    refine ade (by omega) (by omega) h2 ?_
    intro r hr hs
    refine aS ?_
    refine aO hKr ?_
    refine zi ?_
    refine hR _ _ ?_
    refine aV ?_
    exact hK r (hq.trans (hr.mono h1 h3)) ((hod.sg h1 h3 hr).done h1 h3 hs)
   refine aA @g3 ?_
   refine bV ?_
   refine aA @g8 ?_
   refine zh (fun f H'=> ∃(q:List Int) (lim':Nat),Sg a b p q∧Od a b a' b' q∧Pre a' b' q∧l≤lim'+13∧lim'≤1000∧f 0=S 0 0 p.length 1∧f 1=I a'∧f 2=I b'∧f 3=I lim'∧f 8= .bool wb∧f 9= .bool wp∧f 10=I l∧H'=[some (q.map I)]) ?_ ?_
   ·intro R1 hR1 hR2 yS
    cases wb
    ·refine jX (t:=true) (by simp (disch:=omega) only [RA,↓reduceIte,Nat.reduceEqDiff,RD]) ?_;(try simp only [RN,reduceIte]);try refine aj rfl ?_
     refine dF (bP @g0 @g1 @g2) fun Kr hKr=>?_
     rw [←bD]
     refine adb (by omega) (by omega) (by omega) (by omega) ?_
     intro r hr
     refine aS ?_
     refine aO hKr ?_
     have hl1:(lim:Int)-1=((lim-1:Nat):Int):=by omega
     have hrl:=hr.len
     refine bM (aH @g3 @hl1) ?_
     exact hR1 _ _ ⟨r,lim-1,hq.trans (hr.mono h1 h3),hod.sg h1 h3 hr,hpre.sg hr,by omega,by omega,ah,ah,ah,ah,ah,ah,ah,rfl⟩
    ·refine jX (t:=false) (by simp (disch:=omega) only [RA,↓reduceIte,Nat.reduceEqDiff,RD]) ?_;(try simp only [RN,reduceIte]);try refine aj rfl ?_
     exact hR1 _ _ ⟨q,lim,hq,hod,hpre,by omega,by omega,ah,ah,ah,ah,ah,ah,ah,rfl⟩
   clear hq bD hod hpre g0 g1 g2 g3 g8 g9 hlim hlm lim q
   rintro f H' ⟨q,lim,hq,hod,hpre,hlim,hlm,g0,g1,g2,g3,g8,g9,g10,rfl⟩
   have bD:=hq.len
   refine jQ ?_
   refine dF (bP @g0 @g1 @g2) fun Kr hKr=>?_
   rw [←bD]
   refine adf (by omega) (by omega) (by omega) (by omega) ?_
   intro piv h hp1 hp2
   refine aS ?_
   refine aO hKr ?_
   refine aC ?_
   refine zh (fun f H'=> ∃(q:List Int) (piv:Nat) (h:Int),a'≤piv∧piv<b'∧Sg a b p q∧Od a b a' b' q∧Pre a' b' q∧f 0=S 0 0 p.length 1∧f 1=I a'∧f 2=I b'∧f 3=I lim∧f 8= .bool wb∧f 9= .bool wp∧f 10=I l∧f 11=I piv∧f 12=I h∧H'=[some (q.map I)]) ?_ ?_
   ·intro R1 hR1 hR2 yS
    refine GK (h=2) (fun hc=>?_) fun hc=>?_
    ·refine dF (bP @g0 @g1 @g2) fun Kr hKr=>?_
     rw [←bD]
     refine adg (by omega) (by omega) (by omega) ?_
     intro r hr
     refine aS ?_
     refine aO hKr ?_
     have hpv:(b':Int)-1-((piv:Int)-(a':Int))=((b'-1-(piv-a'):Nat):Int):=by omega
     have hrl:=hr.len
     refine aA (bP @g1 @g2 @hpv) ?_
     refine Oa ?_
     exact hR1 _ _ ⟨r,b'-1-(piv-a'),1,by omega,by omega,hq.trans (hr.mono h1 h3),hod.sg h1 h3 hr,hpre.sg hr,ah,ah,ah,ah,ah,ah,ah,ah,ah,rfl⟩
    ·exact hR1 _ _ ⟨q,piv,h,hp1,hp2,hq,hod,hpre,ah,ah,ah,ah,ah,ah,ah,ah,ah,rfl⟩
   clear hq bD hod hpre g0 g1 g2 g3 g8 g9 g10 hp1 hp2 piv h q
   rintro f H' ⟨q,piv,h,hp1,hp2,hq,hod,hpre,g0,g1,g2,g3,g8,g9,g10,g11,g12,rfl⟩
   have bD:=hq.len
   refine jQ ?_
   have hpart: ∀f',f' 0=S 0 0 p.length 1→f' 1=I a'→f' 2=I b'→f' 3=I lim→f' 9= .bool wp→f' 10=I l→f' 11=I piv→f' 8= .bool wb→
     ∀R1:Ex→Fr→BH→Prop,(∀f' H',(f' 0=S 0 0 p.length 1∧f' 1=I a'∧f' 2=I b'∧f' 3=I lim∧f' 8= .bool wb∧f' 9= .bool wp∧f' 10=I l∧f' 11=I piv∧H'=[some (q.map I)])→R1 .normal f' H')→(∀f' H',mg 1 [] K .ret f' H'→R1 .ret f' H')→
     T 1 (.seq aZ.r16 (.cond (.t 72) .ret .skip)) R1 f' [some (q.map I)]:=by
    intro f' g0 g1 g2 g3 g9 g10 g11 g8 R1 hR1 hR2
    refine dF (bP @g0 @g1 @g2) fun Kr hKr=>?_
    rw [←bD]
    refine adh (by omega) (by omega) (by omega) (by omega) ?_
    intro r hr
    refine aS ?_
    refine aO hKr ?_
    cases r
    ·refine jX (t:=false) (by simp (disch:=omega) only [RA,↓reduceIte,Nat.reduceEqDiff,RD]) ?_;(try simp only [RN,reduceIte]);try refine aj rfl ?_
     exact hR1 _ _ ⟨ah,ah,ah,ah,ah,ah,ah,ah,rfl⟩
    ·refine jX (t:=true) (by simp (disch:=omega) only [RA,↓reduceIte,Nat.reduceEqDiff,RD]) ?_;(try simp only [RN,reduceIte]);try refine aj rfl ?_
     refine hR2 _ _ ?_
     refine aV ?_
     exact hK q hq (hod.done h1 h3 (hr rfl))
   have Ob: ∀f' (t:Bool),f' 0=S 0 0 p.length 1→f' 1=I a'→f' 2=I b'→f' 3=I lim→f' 9= .bool wp→f' 10=I l→f' 11=I piv→f' 8= .bool wb→f' 68= .bool t→
     ∀R1:Ex→Fr→BH→Prop,(∀f' H',(f' 0=S 0 0 p.length 1∧f' 1=I a'∧f' 2=I b'∧f' 3=I lim∧f' 8= .bool wb∧f' 9= .bool wp∧f' 10=I l∧f' 11=I piv∧H'=[some (q.map I)])→R1 .normal f' H')→(∀f' H',mg 1 [] K .ret f' H'→R1 .ret f' H')→
     T 1 (.cond (.t 68) (.seq aZ.r16 (.cond (.t 72) .ret .skip)) .skip) R1 f' [some (q.map I)]:=by
    intro f' t g0 g1 g2 g3 g9 g10 g11 g8 zk R1 hR1 hR2
    cases t
    ·refine jX (t:=false) (by simp (disch:=omega) only [RA,↓reduceIte,Nat.reduceEqDiff,RD,zk]) ?_;(try simp only [RN,reduceIte]);try refine aj rfl ?_
     exact hR1 _ _ ⟨g0,g1,g2,g3,g8,g9,g10,g11,rfl⟩
    ·refine jX (t:=true) zk ?_
     exact hpart _ g0 g1 g2 g3 g9 g10 g11 g8 R1 hR1 hR2
   refine zh (fun f H'=> ∃t:Bool,f 0=S 0 0 p.length 1∧f 1=I a'∧f 2=I b'∧f 3=I lim∧f 8= .bool wb∧f 9= .bool wp∧f 10=I l∧f 11=I piv∧f 68= .bool t∧H'=[some (q.map I)]) ?_ ?_
   ·intro R1 hR1 hR2 yS
    cases wb
    ·refine bM @g8 ?_
     exact hR1 _ _ ⟨false,ah,ah,ah,ah,ah,ah,ah,ah,ah,rfl⟩
    ·cases wp
     ·refine bM (aH @g8 @g9) ?_
      exact hR1 _ _ ⟨false,ah,ah,ah,ah,ah,ah,ah,ah,ah,rfl⟩
     ·refine bM (bP @g8 @g9 @g12) ?_
      exact hR1 _ _ ⟨decide (h=1),ah,ah,ah,ah,ah,ah,ah,ah,ah,rfl⟩
   clear g0 g1 g2 g3 g8 g9 g10 g11 g12
   rintro f H' ⟨t,g0,g1,g2,g3,g8,g9,g10,g11,zk,rfl⟩
   refine zh (fun f H'=>f 0=S 0 0 p.length 1∧f 1=I a'∧f 2=I b'∧f 3=I lim∧f 8= .bool wb∧f 9= .bool wp∧f 10=I l∧f 11=I piv∧H'=[some (q.map I)]) ?_ ?_
   ·intro R1 hR1 hR2 yS
    exact Ob f t g0 g1 g2 g3 g9 g10 g11 g8 zk R1 hR1 (fun f' H' h=>hR2 _ _ (hR _ _ h))
   clear hpart Ob g0 g1 g2 g3 g8 g9 g10 g11 zk
   rintro f H' ⟨g0,g1,g2,g3,g8,g9,g10,g11,rfl⟩
   refine jQ ?_
   refine zh (fun f H'=> ∃t:Bool,(t=true→0<a'∧el q piv≤el q (a'-1))∧f 0=S 0 0 p.length 1∧f 1=I a'∧f 2=I b'∧f 3=I lim∧f 8= .bool wb∧f 9= .bool wp∧f 10=I l∧f 11=I piv∧f 87= .bool t∧H'=[some (q.map I)]) ?_ ?_
   ·intro R1 hR1 hR2 yS
    by_cases ha0:0<a'
    ·have hai:(a':Int)-1=((a'-1:Nat):Int):=by omega
     refine dN fun Kr hKr=>?_;simp (disch:=omega) only [RA,↓reduceIte,Nat.reduceEqDiff,RD,g0,g1,g11,ha0,hai,bD]
     refine o8 ?_
     refine aS ?_
     refine hKr _ _ ?_
     exact hR1 _ _ ⟨!decide (el q (a'-1)<el q piv),fun h=>⟨ha0,by simpa using h⟩,ah,ah,ah,ah,ah,ah,ah,ah,ah,rfl⟩
    ·refine bM (aH @g1 @ha0) ?_
     exact hR1 _ _ ⟨false,fun h=>(by cases h),ah,ah,ah,ah,ah,ah,ah,ah,ah,rfl⟩
   clear g0 g1 g2 g3 g8 g9 g10 g11
   rintro f H' ⟨t,ht,g0,g1,g2,g3,g8,g9,g10,g11,Oc,rfl⟩
   by_cases htt:t=true
   ·subst htt
    obtain ⟨ha0,hle⟩:=ht rfl
    refine vV @Oc ?_
    refine dF (dh @g0 @g1 @g2 @g11) fun Kr hKr=>?_
    rw [←bD]
    refine adi (by omega) (by omega) hp1 hp2 (fun x x1 x2=>Int.le_trans hle (hpre ha0 x x1 x2)) ?_
    intro r mid hr hm1 hm2 oJ hm4
    have hrl:=hr.len
    refine aS ?_
    refine aO hKr ?_
    refine aC ?_
    refine hN (b'-mid) _ _ _ _ (by omega) Gh.refl ⟨r,mid,b',lim,wb,wp,hq.trans (hr.mono h1 h3),by omega,by omega,h3,?_,fun _ x x1 x2=>(by rw [oJ (mid-1) (by omega) (by omega)];exact hm4 x (by omega) x2),by omega,hlm,rfl,ah,ah,ah,ah,ah,ah,rfl⟩
    ·intro x y k1 k2 k3 k4
     by_cases hb2:a'≤x∧y<b'
     ·rw [oJ x hb2.1 (by omega)]
      exact hm4 y (by omega) hb2.2
     ·exact hod.sg h1 h3 hr x y k1 k2 k3 hb2
   ·have:t=false:=by simpa using htt
    subst this
    refine o9 @Oc ?_
    refine dF (dh @g0 @g1 @g2 @g11) fun Kr hKr=>?_
    rw [←bD]
    refine adk (by omega) (by omega) hp1 hp2 ?_
    intro r mid al hr hm1 hm2 oJ hm4
    have hrl:=hr.len
    have Oe:=hod.sg h1 h3 hr
    have hpre':=hpre.sg hr
    have e1:(mid:Int)-(a':Int)=((mid-a':Nat):Int):=by omega
    have e2:(b':Int)-(mid:Int)=((b'-mid:Nat):Int):=by omega
    have e3:(l:Int).tdiv 8=((l/8:Nat):Int):=(Int.ofNat_tdiv l 8).symm
    have e4:(mid:Int)+1=((mid+1:Nat):Int):=by omega
    have hdiv:l/8≤16:=by omega
    refine aS ?_
    refine aO hKr ?_
    refine aC ?_
    refine aA (dh @g1 @g2 @e1 @e2) ?_
    refine aA (aH @g10 @e3) ?_
    refine aC ?_
    refine GK (mid-a'<b'-mid) (fun hc=>?_) fun hc=>?_
    ·refine aC ?_
     refine dF (bP @g0 @g1 @g3) fun Kr hKr=>?_
     rw [←bD,←hrl]
     refine ih (by omega) (by omega) hm1 (by omega) (by omega) (by omega) hlm (fun h0 x x1 x2=>hpre' h0 x x1 (by omega)) ?_
     intro r2 hr2 hs2
     have adl:=hr2.len
     refine aS ?_
     refine aO hKr ?_
     refine bM @e4 ?_
     refine hN (b'-(mid+1)) _ _ _ _ (by omega) Gh.refl ⟨r2,mid+1,b',lim,decide (l/8≤mid-a'),al,(hq.trans (hr.mono h1 h3)).trans (hr2.mono h1 (by omega)),by omega,by omega,h3,Oe.left h1 h3 hm1 hm2 oJ hm4 hr2 hs2,fun _ x x1 x2=>?_,by omega,hlm,rfl,ah,ah,ah,ah,ah,ah,rfl⟩
     rw [Nat.add_sub_cancel,hr2.out mid (by omega),hr2.out x (by omega)]
     exact hm4 x (by omega) x2
    ·refine aC ?_
     refine dF (dh @g0 @g2 @g3 @e4) fun Kr hKr=>?_
     rw [←bD,←hrl]
     refine ih (by omega) (by omega) (by omega) (by omega) (by omega) (by omega) hlm (fun _ x x1 x2=>by rw [Nat.add_sub_cancel];exact hm4 x (by omega) x2) ?_
     intro r2 hr2 hs2
     have adl:=hr2.len
     refine aS ?_
     refine aO hKr ?_
     refine Oa ?_
     refine hN (mid-a') _ _ _ _ (by omega) Gh.refl ⟨r2,a',mid,lim,decide (l/8≤b'-mid),al,(hq.trans (hr.mono h1 h3)).trans (hr2.mono (by omega) h3),by omega,by omega,by omega,Oe.right h1 h3 hm1 hm2 oJ hm4 hr2 hs2,fun h0 x x1 x2=>?_,by omega,hlm,rfl,ah,ah,ah,ah,ah,ah,rfl⟩
     rw [hr2.out (a'-1) (by omega),hr2.out x (by omega)]
     exact hpre' h0 x x1 (by omega)
theorem adn {p:List Int} {K:Value→BH→Prop} (hpl:p.length≤16) (hK: ∀q:List Int,q.Perm p→l7 0 p.length q→K (.tuple ⟨[]⟩) [some (q.map I)]):
  aF false X9 [S 0 0 p.length 1] [some (p.map I)] K:=by
 have hle:=(N7 p.length (by omega)).1
 have hlt:= @NZ p.length
 refine aG Zt ?_;simp only [qW,aB]
 refine aC ?_
 refine dN fun Kr hKr=>?_;simp (disch:=omega) only [RA,↓reduceIte,Nat.reduceEqDiff,RD,wu64]
 refine GI (by omega) ?_
 refine aS ?_
 refine N9 (p.length+1) (a:=0) (b:=p.length) (lim:=lenOf p.length) (by omega) (Nat.le_refl _) (Nat.zero_le _) (by omega) (by omega) (by omega) (by omega) (fun h=>by omega) ?_
 intro q hq hs
 refine aS ?_
 refine hKr _ _ ?_;clear hKr Kr
 refine aV ?_
 exact hK q hq.perm hs
end Go.Bm
namespace Go.Bm
open Go Go.Am
abbrev bF (n:Nat):Value:= .int .i64 (n:Int)
theorem vM {p:List Nat} {k:Nat} (h:k<p.length):getN none (p.map bF) k=some (bF (nl p k)):=by
 simp [getN,h,nl,List.getD]
theorem rJ {H:BH} {b bytes cn:Nat} {xs:List Nat} {y:Nat} (h:(xs.length+1)*bytes≤140737488355328):app1 (some [.int .i64 (y:Int)]) (some (xs.map bF)) H b xs.length bytes cn=some (S H.length 0 (xs.length+1) 1,(H.set b none)++[some ((xs++[y]).map bF)]):=zl (g:=bF) rfl h
theorem mG {l:List Nat}:aJ (l.map N8):=aJ.map fun _=> .int
end Go.Bm
namespace Go.Bm
open Go Go.Am
def nK (xs:List Nat):List Int:=xs.map fun n:Nat=>(n:Int)
theorem Nl {xs:List Nat}:xs.map bF=(nK xs).map I:=by simp [nK,Function.comp_def]
theorem Nj {xs:List Nat}:(nK xs).length=xs.length:=by simp [nK]
theorem Og {xs:List Nat} {i:Nat}:el (nK xs) i=(nl xs i:Int):=by
 simp only [el,nK,nl,List.getD,List.getElem?_map]
 cases xs[i]? <;>rfl
def nO (p:List Int):Prop:= ∀i j,i≤j→j<p.length→el p j≤el p i
theorem nO.tail {a:Int} {p:List Int} (h:nO (a::p)):nO p:=fun i j h1 h2=>by
 have:=h (i+1) (j+1) (by omega) (by simp;omega)
 simpa [el,List.getD] using this
theorem nO.head {a:Int} {p:List Int} (h:nO (a::p)): ∀x∈p,x≤a:=fun x hx=>by
 obtain ⟨i,hi,rfl⟩:=List.mem_iff_getElem.1 hx
 have:=h 0 (i+1) (by omega) (by simpa using hi)
 simpa [el,List.getD,hi] using this
theorem nO.uniq: ∀{p q:List Int},nO p→nO q→p.Perm q→p=q
 |[],q,_,_,h=>(List.nil_perm.1 h).symm
 |a::p,[],_,_,h=>by simp at h
 |a::p,b::q,hp,hq,h=>by
  have hab:a=b:=by
   have h1:a∈b::q:=h.subset (by simp)
   have h2:b∈a::p:=h.symm.subset (by simp)
   have h3:a≤b:=by
    rcases List.mem_cons.1 h1 with e|e
    ·omega
    ·exact hq.head a e
   have h4:b≤a:=by
    rcases List.mem_cons.1 h2 with e|e
    ·omega
    ·exact hp.head b e
   omega
  subst hab
  rw [nO.uniq hp.tail hq.tail (List.Perm.cons_inv h)]
theorem Oh {p:List Int} {i:Nat} (hi:i<p.length):el p.reverse i=el p (p.length-1-i):=by
 simp only [el,List.getD]
 rw [List.getElem?_reverse (by omega)]
theorem acC {p r:List Int} {K:Value→BH→Prop} (hpl:p.length≤16) (hr:nO r) (hp:r.Perm p) (hK:K (S 0 0 p.length 1) [some (r.map I)]):
  aF false XW [S 0 0 p.length 1] [some (p.map I)] K:=by
 refine aG Zc ?_;simp only [mY,aB]
 refine aC ?_
 refine eP fun Kr hKr=>?_
 refine adn hpl ?_
 intro q hq hs
 have bD:q.length=p.length:=hq.length_eq
 refine aS ?_
 refine aO hKr ?_
 refine eP fun Kr hKr=>?_
 rw [←bD]
 refine ado (by omega) ?_
 have e:q.reverse=r:=by
  refine nO.uniq (fun i j h1 h2=>?_) hr ((List.reverse_perm q).trans (hq.trans hp.symm))
  simp only [List.length_reverse] at h2
  rw [Oh h2,Oh (by omega)]
  exact hs _ _ (Nat.zero_le _) (by omega) (by omega)
 rw [e]
 refine aS ?_
 refine aO hKr ?_
 refine aC ?_
 refine aV ?_
 rw [bD]
 exact hK
end Go.Bm
namespace Go.Bm
open Go Go.Am
def kV (zs:List Nat):Nat→List Nat
 |0=>List.replicate 17 0
 |i+1=>(kV zs i).set (nl zs i) (nl (kV zs i) (nl zs i)+1)
theorem Nq {zs:List Nat} {i:Nat}:(kV zs i).length=17:=by
 induction i with
 |zero=>simp [kV]
 |succ i ih=>simp [kV,ih]
theorem Nh {zs:List Nat} {i:Nat} (h:i<zs.length):zs.take (i+1)=zs.take i++[nl zs i]:=by
 rw [List.take_add_one]
 simp [nl,List.getD,h]
theorem Gf {zs:List Nat} {i v:Nat} (hi:i≤zs.length) (hv:v<17):nl (kV zs i) v=(zs.take i).count v:=by
 induction i with
 |zero=>simp only [kV,lG];split<;>simp
 |succ i ih=>
  rw [Nh (by omega),List.count_append,kV,jq,ih (by omega)]
  by_cases h:v=nl zs i
  ·subst h
   rw [if_pos ⟨rfl,by rw [Nq];exact hv⟩,ih (by omega)]
   simp
  ·rw [if_neg (fun e=>h e.1)]
   have:([nl zs i]:List Nat).count v=0:=by
    rw [List.count_cons,List.count_nil]
    simp [show (nl zs i==v)=false by simpa using fun e=>h e.symm]
   omega
def gW (cn:List Nat) (n:Nat):Nat→List Nat
 |0=>[]
 |k+1=>gW cn n k++List.replicate (nl cn (n-k)) (n-k)
def zo (zs:List Nat) (n:Nat):List Nat:=gW (kV zs zs.length) n n
theorem Oi {cn:List Nat} {n v:Nat}: ∀{k:Nat},k≤n→(gW cn n k).count v=if n-k<v∧v≤n then nl cn v else 0
 |0,_=>by
  rw [if_neg (by omega)]
  rfl
 |k+1,hk=>by
  rw [gW,List.count_append,Oi (by omega),List.count_replicate]
  by_cases h:n-k=v
  ·subst h
   rw [if_neg (by omega),if_pos (by simp),if_pos (by omega)]
   omega
  ·have e:((n-k)==v)=false:=by simpa using h
   rw [e]
   simp only [Bool.false_eq_true,if_false,Nat.add_zero]
   by_cases h2:n-k<v∧v≤n
   ·rw [if_pos h2,if_pos (by omega)]
   ·rw [if_neg h2,if_neg (by omega)]
theorem Oj {cn:List Nat} {n:Nat}: ∀{k:Nat},k≤n→ ∀z∈gW cn n k,n+1-k≤z
 |0,_,z,hz=>by simp [gW] at hz
 |k+1,hk,z,hz=>by
  simp only [gW,List.mem_append,List.mem_replicate] at hz
  rcases hz with hz|⟨_,rfl⟩
  ·have:=Oj (k:=k) (by omega) z hz
   omega
  ·omega
theorem Ol {cn:List Nat} {n:Nat}: ∀{k:Nat},k≤n→ ∀i j,i≤j→j<(gW cn n k).length→nl (gW cn n k) j≤nl (gW cn n k) i
 |0,_,i,j,_,h=>by simp [gW] at h
 |k+1,hk,i,j,h1,h2=>by
  have ih:=Ol (cn:=cn) (n:=n) (k:=k) (by omega)
  simp only [gW,List.length_append,List.length_replicate] at h2⊢
  simp only [mO]
  by_cases hj:j<(gW cn n k).length
  ·rw [if_pos hj,if_pos (by omega)]
   exact ih i j h1 hj
  ·rw [if_neg hj,lG,if_pos (by omega)]
   by_cases hi:i<(gW cn n k).length
   ·rw [if_pos hi]
    have:nl (gW cn n k) i∈gW cn n k:=dK hi
    have:=Oj (by omega) _ this
    omega
   ·rw [if_neg hi,lG,if_pos (by omega)]
    exact Nat.le_refl _
theorem acD {zs:List Nat} {n:Nat}:nO (nK (zo zs n)):=fun i j h1 h2=>by
 rw [Nj] at h2
 rw [Og,Og]
 exact Int.ofNat_le.2 (Ol (Nat.le_refl _) i j h1 h2)
theorem Om {zs:List Nat} {n:Nat} (hn:n≤16) (h: ∀z∈zs,1≤z∧z≤n):(zo zs n).Perm zs:=by
 rw [List.perm_iff_count]
 intro v
 rw [zo,Oi (Nat.le_refl _),Nat.sub_self]
 by_cases hv:0<v∧v≤n
 ·rw [if_pos hv,Gf (Nat.le_refl _) (by omega),List.take_length]
 ·rw [if_neg hv,List.count_eq_zero.2 fun hm=>hv (by have:=h v hm;omega)]
theorem acJ {zs:List Nat} {n k:Nat} (hn:n≤16) (hk:k≤n) (h: ∀z∈zs,1≤z∧z≤n):(gW (kV zs zs.length) n k).length≤zs.length:=by
 have hp:=(Om hn h).length_eq
 have: ∀j,j≤n→(gW (kV zs zs.length) n j).length≤(gW (kV zs zs.length) n n).length:=by
  intro j hj
  obtain ⟨d,rfl⟩: ∃d,n=j+d:=⟨n-j,by omega⟩
  have: ∀m d,(gW (kV zs zs.length) m j).length≤(gW (kV zs zs.length) m (j+d)).length:=by
   intro m d
   induction d with
   |zero=>exact Nat.le_refl _
   |succ d ih=>
    rw [show j+(d+1)=(j+d)+1 by omega,gW,List.length_append]
    omega
  exact this _ d
 have:=this k hk
 rw [zo] at hp
 omega
def lens (p:List Nat) (n:Nat):List Nat:=(aQ p n).map List.length
def typ (p:List Nat) (n:Nat):List Nat:=zo (lens p n) n
section
variable {p:List Nat} {n:Nat}
theorem Np (hp:Perm p n): ∀z∈lens p n,1≤z∧z≤n:=fun z hz=>by
 obtain ⟨c,hc,rfl⟩:=List.mem_map.1 hz
 exact adp hp hc
theorem Nk (hp:Perm p n):(lens p n).length≤16:=by
 rw [lens,List.length_map]
 have:=tq hp
 have:=hp.1
 omega
theorem F7 (hp:Perm p n):(typ p n).Perm (lens p n):=Om (by have:=hp.1;omega) (Np hp)
theorem CY (hp:Perm p n):(typ p n).length=(aQ p n).length:=by rw [(F7 hp).length_eq,lens,List.length_map]
end
end Go.Bm
namespace Go.Bm
open Go Go.Am
abbrev FN (c:List Nat):Value:=Fz c.length 1 (c.map bF)
theorem kL {p:List (List Nat)}:aJ (p.map FN):=aJ.map fun _=>NN.fz
theorem kU {p:List Nat}:aJ (p.map bF):=aJ.map fun _=>NN.int
theorem FU {H:BH} {b bytes cn:Nat} {xs:List (List Nat)} {y:List Nat} (h:(xs.length+1)*bytes≤140737488355328):app1 (some [Fz y.length 1 (y.map bF)]) (some (xs.map FN)) H b xs.length bytes cn=some (S H.length 0 (xs.length+1) 1,(H.set b none)++[some ((xs++[y]).map FN)]):=zl (g:=FN) rfl h
theorem vK {xs:List (List Nat)} {k:Nat} (h:k<xs.length):getN none (xs.map FN) k=some (FN (xs.getD k [])):=by
 simp [getN,h,List.getD]
theorem CS {i j o l e:Nat} {cs:List Value} (h:j≠i):frz i cs (S j o l e)=S j o l e:=by
 simp only [frz]
 rw [if_neg (fun k=>h k.1)]
theorem RV:(type_of% @kL)∧(type_of% @kU):=⟨@kL, @kU⟩
theorem adq {p:List Nat} {n:Nat} (hb:By 16 p) (hp:Perm p n):
  aF false KG [PL p,I n] [] fun v H1=> ∃j,v=S j 0 (aQ p n).length 1∧blk H1 j=some ((aQ p n).map FN):=by
 have hlen:=hb.len
 have hn:=hp.1
 obtain ⟨M,hM⟩: ∃M,M=16:=⟨_,rfl⟩
 have GL:aQ p n=(jU p M n).2:=by rw [hM];rfl
 rw [GL]
 refine aG Zb ?_;simp only [dI,aB]
 refine aC ?_
 refine aC ?_
 refine aC ?_
 refine aC ?_
 refine aW (fun m f H'=> ∃i sc,i≤n∧m=n-i∧sc=jU p M i∧f 2=P 0 0∧f 5=S 1 0 sc.2.length 1∧f 6=P 2 0∧f 12=I n∧f 13=I i∧H'=[some (p.map N8),some (sc.2.map FN),some (sc.1.map B)]) (n) ?_ ?_
 ·exact ⟨_,_,Gh.refl,0,(List.replicate 16 false,[]),by omega,by omega,rfl,ah,ah,ah,ah,ah,by simp⟩
 ·rintro m f H' R ⟨i,sc,hi,rfl,hsc,g2,g5,g6,g12,g13,rfl⟩ hN hX hR hE
  simp only [dI.l1,aB]
  have hok:=oG.all hM hp hi
  rw [←hsc] at hok
  have hsl:=hok.len
  have hnum:=hok.num
  refine aA (aH @g12 @g13) ?_
  refine bI (i<n) (fun hc=>?_) fun hc=>?_
  ·have hnext: ∀f' sc',f' 2=P 0 0→f' 5=S 1 0 sc'.2.length 1→f' 6=P 2 0→f' 12=I n→f' 13=I i→sc'=jU p M (i+1)→T 0 dI.iq R f' [some (p.map N8),some (sc'.2.map FN),some (sc'.1.map B)]:=by
    intro f' sc' g2 g5 g6 g12 g13 hs
    refine bM @g13 ?_
    exact hN (n-(i+1)) _ _ _ _ (by omega) Gh.refl ⟨i+1,sc',by omega,rfl,hs,ah,ah,ah,ah,ah,rfl⟩
   refine Oo ?_
   refine aA @g13 ?_
   refine aA (aH @g6 @hsl) ?_
   refine bI (bl sc.1 i=true) (fun hc=>?_) fun hc=>?_
   ·refine zi ?_
    exact hnext _ sc ah ah ah ah ah (by rw [jU,←hsc,if_pos hc])
   ·have h0:bl sc.1 i=false:=by simpa using hc
    have hin:i<n:=by assumption
    have hdone:=kY.done hM hp hsl hin h0 hok.inv
    refine aC ?_
    refine aC ?_
    refine aW (fun m f H'=> ∃j st,j≤M∧m=M-j∧st=wk p (sc.1,[],i) j∧f 2=P 0 0∧f 5=S 1 0 sc.2.length 1∧f 6=P 2 0∧f 12=I n∧f 13=I i∧f 8=S 3 0 st.2.1.length 1∧f 9=I st.2.2∧H'=[some (p.map N8),some (sc.2.map FN),some (st.1.map B),some (st.2.1.map bF)]) (M) ?_ ?_
    ·exact ⟨_,_,Gh.refl,0,(sc.1,[],i),by omega,by omega,rfl,ah,ah,ah,ah,ah,ah,ah,by simp⟩
    ·clear g2 g5 g6 g12 g13
     rintro m f H' R1 ⟨j,st,hj,rfl,hst,g2,g5,g6,g12,g13,g8,g9,rfl⟩ hN1 hX1 hR1 hE1
     simp only [dI.l0,aB]
     have hw:=kY.wk hp hsl hin h0 hok.inv j
     have hstep:wk p (sc.1,[],i) (j+1)=qE p st:=by rw [hst];rfl
     have hstop:bl st.1 st.2.2=true→wk p (sc.1,[],i) M=st:=fun h=>by
      rw [hst] at h⊢
      exact GN h M hj
     have hdj:j=M→bl st.1 st.2.2=true:=fun h=>by
      rw [hst,h]
      exact hdone
     rw [←hst] at hw
     clear hst hdone
     obtain ⟨s,l,k⟩:=st
     simp only at g8 g9 hstop hdj hstep⊢
     have hwl:s.length=16:=hw.len
     have hwk:k<n:=hw.at_
     have hpk:=hp.lt hwk
     have hll:l.length≤16:=by
      have h1:=hw.cnt
      have h2:=List.count_le_length (a:=true) (l:=s)
      simp only at h1
      omega
     refine aA (bP @g6 @g9 @hwl) ?_
     refine bI (¬bl s k=true) (fun hc=>?_) fun hc=>?_
     ·rw [qE,if_neg hc] at hstep
      have hjM:j<M:=by
       rcases Nat.lt_or_ge j M with h|h
       ·exact h
       ·exact absurd (hdj (by omega)) hc
      refine dD ?_
      refine aA (bP @g6 @g9 @hwl) ?_
      refine aA (bP @g8 @g9 @rJ) ?_
      refine bM (aH @g2 @g9) ?_
      refine hN1 (M-(j+1)) _ _ _ _ (by omega) (Gh.nrm [0,1,2,5] rfl rfl (by simp only [RH,RV])) ⟨j+1,(s.set k true,l++[k],nl p k),by omega,rfl,hstep.symm,ah,ah,ah,ah,ah,ah,ah,rfl⟩
     ·refine hX1 _ _ ?_
      have hc':bl s k=true:=by simpa using hc
      have hfin:=hstop hc'
      have hfl:l.length*1=(l.map bF).length:=by simp
      have hfz: ∀f2:Fr,f2 2=P 0 0→f2 5=S 1 0 sc.2.length 1→f2 6=P 2 0→f2 8=Fz l.length 1 (l.map bF)→f2 12=I n→f2 13=I i→T 0 dI.r13 (bW 1 (dH 0 dI.iq R)) f2 [some (p.map N8),some (sc.2.map FN),some (s.map B),none]:=by
       clear g2 g5 g6 g12 g13 g8 g9
       intro f2 g2 g5 g6 g8 g12 g13
       refine bM (bP @g5 @g8 @FU) ?_
       refine zi ?_
       refine jT (Gh.nrm [0,5,2] rfl rfl (by simp only [RH,RV])) ?_
       refine hnext _ (s,sc.2++[l]) ah ah ah ah ah ?_
       rw [jU,←hsc,if_neg (by simp [h0]),hfin]
      exact jT (Gh.fz (i:=3) (cs:=l.map bF) rfl kU) (hfz _ kE kE kE kE kE kE)
  ·refine hX _ _ ?_
   obtain rfl:i=n:=by omega
   refine aA @g5 ?_
   refine mJ @g5 ?_
   rw [hsc]
   exact ⟨1,rfl,rfl⟩
theorem acz {x:Bool} {p:List Nat} {n:Nat} {H:BH} {K:Value→BH→Prop} (hb:By 16 p) (hp:Perm p n) (hK:K (Fz (aQ p n).length 1 ((aQ p n).map FN)) H):aF x KG [PL p,I n] H K:=
 oz (by (simp only [RH])) kL (by simp) (adq hb hp) hK
theorem adr {p:List Nat} {n:Nat} (hb:By 16 p) (hp:Perm p n):
  aF false Kz [PL p,I n] [] fun v H1=> ∃j,v=S j 0 (aQ p n).length 1∧blk H1 j=some ((aQ p n).map FN):=by
 have hlen:=hb.len
 have hn:=hp.1
 obtain ⟨M,hM⟩: ∃M,M=16:=⟨_,rfl⟩
 have GL:aQ p n=(jU p M n).2:=by rw [hM];rfl
 rw [GL]
 refine aG YM ?_;simp only [dL,aB]
 refine aC ?_
 refine aC ?_
 refine aC ?_
 refine aW (fun m f H'=> ∃i sc,i≤n∧m=n-i∧sc=jU p M i∧f 1=I n∧f 2=P 0 0∧f 5=S 1 0 sc.2.length 1∧f 6=P 2 0∧f 7=I i∧H'=[some (p.map N8),some (sc.2.map FN),some (sc.1.map B)]) (n) ?_ ?_
 ·exact ⟨_,_,Gh.refl,0,(List.replicate 16 false,[]),by omega,by omega,rfl,ah,ah,ah,ah,ah,by simp⟩
 ·rintro m f H' R ⟨i,sc,hi,rfl,hsc,g1,g2,g5,g6,g7,rfl⟩ hN hX hR hE
  simp only [dL.l1,aB]
  have hok:=oG.all hM hp hi
  rw [←hsc] at hok
  have hsl:=hok.len
  have hnum:=hok.num
  refine aA (aH @g1 @g7) ?_
  refine bI (i<n) (fun hc=>?_) fun hc=>?_
  ·have hnext: ∀f' sc',f' 1=I n→f' 2=P 0 0→f' 5=S 1 0 sc'.2.length 1→f' 6=P 2 0→f' 7=I i→sc'=jU p M (i+1)→T 0 dL.r4 R f' [some (p.map N8),some (sc'.2.map FN),some (sc'.1.map B)]:=by
    intro f' sc' g1 g2 g5 g6 g7 hs
    refine bM @g7 ?_
    exact hN (n-(i+1)) _ _ _ _ (by omega) Gh.refl ⟨i+1,sc',by omega,rfl,hs,ah,ah,ah,ah,ah,rfl⟩
   have hin:i<n:=by assumption
   refine dD ?_
   refine aC ?_
   refine aA @g7 ?_
   by_cases hm:bl sc.1 i=true
   ·refine aW (fun m f H'=>m=0∧f 1=I n∧f 2=P 0 0∧f 5=S 1 0 sc.2.length 1∧f 6=P 2 0∧f 7=I i∧f 8=S 3 0 0 1∧f 9=I i∧H'=[some (p.map N8),some (sc.2.map FN),some (sc.1.map B),some []]) (0) ?_ ?_
    ·exact ⟨_,_,Gh.refl,rfl,ah,ah,ah,ah,ah,ah,ah,by simp⟩
    ·clear g1 g2 g5 g6 g7
     rintro m f H' R1 ⟨rfl,g1,g2,g5,g6,g7,g8,g9,rfl⟩ hN1 hX1 hR1 hE1
     simp only [dL.l0,aB]
     refine aA (bP @g6 @g9 @hsl) ?_
     refine o9 @hm ?_
     refine hX1 _ _ ?_
     refine jQ ?_
     refine aA @g8 ?_
     refine bV ?_
     refine jT (Gh.nrm [0,1,2] rfl rfl (by simp only [RH,RV])) ?_
     exact hnext _ sc ah ah ah ah ah (by rw [jU,←hsc,if_pos hm])
   ·have h0:bl sc.1 i=false:=by simpa using hm
    have hdone:=kY.done hM hp hsl hin h0 hok.inv
    have Oq:=(kY.aQ hM hp hsl hin h0 hok.inv hok.upto).1.ne
    refine aW (fun m f H'=> ∃j st,j≤M∧m=M-j∧st=wk p (sc.1,[],i) j∧f 1=I n∧f 2=P 0 0∧f 5=S 1 0 sc.2.length 1∧f 6=P 2 0∧f 7=I i∧f 8=S 3 0 st.2.1.length 1∧f 9=I st.2.2∧H'=[some (p.map N8),some (sc.2.map FN),some (st.1.map B),some (st.2.1.map bF)]) (M) ?_ ?_
    ·exact ⟨_,_,Gh.refl,0,(sc.1,[],i),by omega,by omega,rfl,ah,ah,ah,ah,ah,ah,ah,by simp⟩
    ·clear g1 g2 g5 g6 g7
     rintro m f H' R1 ⟨j,st,hj,rfl,hst,g1,g2,g5,g6,g7,g8,g9,rfl⟩ hN1 hX1 hR1 hE1
     simp only [dL.l0,aB]
     have hw:=kY.wk hp hsl hin h0 hok.inv j
     have hstep:wk p (sc.1,[],i) (j+1)=qE p st:=by rw [hst];rfl
     have hstop:bl st.1 st.2.2=true→wk p (sc.1,[],i) M=st:=fun h=>by
      rw [hst] at h⊢
      exact GN h M hj
     have hdj:j=M→bl st.1 st.2.2=true:=fun h=>by
      rw [hst,h]
      exact hdone
     rw [←hst] at hw
     clear hst hdone
     obtain ⟨s,l,k⟩:=st
     simp only at g8 g9 hstop hdj hstep⊢
     have hwl:s.length=16:=hw.len
     have hwk:k<n:=hw.at_
     have hpk:=hp.lt hwk
     have hll:l.length≤16:=by
      have h1:=hw.cnt
      have h2:=List.count_le_length (a:=true) (l:=s)
      simp only at h1
      omega
     refine aA (bP @g6 @g9 @hwl) ?_
     refine bI (¬bl s k=true) (fun hc=>?_) fun hc=>?_
     ·rw [qE,if_neg hc] at hstep
      have hjM:j<M:=by
       rcases Nat.lt_or_ge j M with h|h
       ·exact h
       ·exact absurd (hdj (by omega)) hc
      refine dD ?_
      refine aA (bP @g6 @g9 @hwl) ?_
      refine aA (bP @g8 @g9 @rJ) ?_
      refine bM (aH @g2 @g9) ?_
      refine hN1 (M-(j+1)) _ _ _ _ (by omega) (Gh.nrm [0,1,2,5] rfl rfl (by simp only [RH,RV])) ⟨j+1,(s.set k true,l++[k],nl p k),by omega,rfl,hstep.symm,ah,ah,ah,ah,ah,ah,ah,rfl⟩
     ·refine hX1 _ _ ?_
      have hc':bl s k=true:=by simpa using hc
      have hfin:=hstop hc'
      rw [hfin] at Oq
      have hfl:l.length*1=(l.map bF).length:=by simp
      have hl0:0<l.length:=Oq
      refine jQ ?_
      refine aA @g8 ?_
      refine jy ?_
      have hfz: ∀f2:Fr,f2 1=I n→f2 2=P 0 0→f2 5=S 1 0 sc.2.length 1→f2 6=P 2 0→f2 7=I i→f2 8=Fz l.length 1 (l.map bF)→T 0 (.seq dL.r12 dL.r4) R f2 [some (p.map N8),some (sc.2.map FN),some (s.map B),none]:=by
       clear g1 g2 g5 g6 g7 g8 g9
       intro f2 g1 g2 g5 g6 g7 g8
       refine aA (bP @g5 @g8 @FU) ?_
       refine jT (Gh.nrm [0,5,2] rfl rfl (by simp only [RH,RV])) ?_
       refine hnext _ (s,sc.2++[l]) ah ah ah ah ah ?_
       rw [jU,←hsc,if_neg (by simp [h0]),hfin]
      exact jT (Gh.fz (i:=3) (cs:=l.map bF) rfl kU) (hfz _ kE kE kE kE kE kE)
  ·refine hX _ _ ?_
   obtain rfl:i=n:=by omega
   refine aA @g5 ?_
   refine mJ @g5 ?_
   rw [hsc]
   exact ⟨1,rfl,rfl⟩
theorem acH {x:Bool} {p:List Nat} {n:Nat} {H:BH} {K:Value→BH→Prop} (hb:By 16 p) (hp:Perm p n) (hK:K (Fz (aQ p n).length 1 ((aQ p n).map FN)) H):aF x Kz [PL p,I n] H K:=
 oz (by (simp only [RH])) kL (by simp) (adr hb hp) hK
end Go.Bm
namespace Go.Bm
open Go Go.Am
def rH (c:Option (List Value)) (H:BH) (b l m bytes:Nat) (ys:List Value):Option (Value×BH):=
 match c with
 |some cs=>if ys.length=m∧l≤cs.length∧(l+m)*bytes≤140737488355328∧ys.all fJ=true then some (S H.length 0 (l+m) 1,(H.set b none)++[some (cs.take l++ys)]) else eH 1 bytes (S b 0 l 1) (Fz m 1 ys) H
 |none=>eH 1 bytes (S b 0 l 1) (Fz m 1 ys) H
theorem MV {H:BH} {b l m bytes:Nat} {ys:List Value}:eH 1 bytes (S b 0 l 1) (Fz m 1 ys) H=rH (blk H b) H b l m bytes ys:=by
 unfold rH
 split
 ·rename_i cs hb
  split
  ·rename_i h
   obtain ⟨h1,h2,h3,h4⟩:=h
   by_cases hm:m=0
   ·subst hm
    obtain rfl:ys=[]:=List.eq_nil_of_length_eq_zero h1
    simp only [Nat.add_zero] at h3
    simp [eH,newC,Fz,hb,h2,h3]
   ·simp only [eH,newC,Fz,if_neg hm,if_true,hb,Nat.mul_one]
    rw [if_pos ⟨h2,h3,h4⟩]
  ·rfl
 ·rfl
section
variable {H:BH} {b bytes:Nat}
theorem Ot {α:Type} {g:α→Value} {xs ys:List α} (ho: ∀a,fJ (g a)=true) (h:(xs.length+ys.length)*bytes≤140737488355328):
  rH (some (xs.map g)) H b xs.length ys.length bytes (ys.map g)=some (S H.length 0 (xs.length+ys.length) 1,(H.set b none)++[some ((xs++ys).map g)]):=by
 simp only [rH]
 rw [if_pos ⟨by simp,by simp,h,by simp [ho]⟩]
 simp [List.take_of_length_le]
theorem ads {α:Type} {g:α→Value} {x:α} {ys:List α} (ho: ∀a,fJ (g a)=true) (h:(ys.length+1)*bytes≤140737488355328):
  rH (some [g x]) H b 1 ys.length bytes (ys.map g)=some (S H.length 0 (ys.length+1) 1,(H.set b none)++[some ((x::ys).map g)]):=by
 have:=Ot (H:=H) (b:=b) (bytes:=bytes) (g:=g) (xs:=[x]) (ys:=ys) ho (by simpa [Nat.add_comm] using h)
 simpa [Nat.add_comm] using this
theorem acf {α:Type} {g:α→Value} {ys:List α} (ho: ∀a,fJ (g a)=true) (h:ys.length*bytes≤140737488355328):
  rH (some []) H b 0 ys.length bytes (ys.map g)=some (S H.length 0 ys.length 1,(H.set b none)++[some (ys.map g)]):=by
 have:=Ot (H:=H) (b:=b) (bytes:=bytes) (g:=g) (xs:=[]) (ys:=ys) ho (by simpa using h)
 simpa using this
theorem acU {x:Nat} {ys:List Nat} (h:(ys.length+1)*bytes≤140737488355328):rH (some [.int .i64 (x:Int)]) H b 1 ys.length bytes (ys.map bF)=some (S H.length 0 (ys.length+1) 1,(H.set b none)++[some ((x::ys).map bF)]):=ads (g:=bF) (fun _=>rfl) h
end
end Go.Bm
namespace Go.Bm
open Go Go.Am
section
variable {code:List Nat} {a b:Nat} {h:Int} {H:BH}
end
end Go.Bm
namespace Go.Bm
open Go Go.Am
abbrev rP (m:Nat) (ls:List (List Nat)):Value:=Fz ls.length m (ls.flatten.map N8)
theorem Ou {α:Type} {m:Nat}: ∀{ls:List (List α)} {j:Nat},(∀p∈ls,p.length=m)→j<ls.length→ ∃r,ls.flatten.drop (j*m)=ls.getD j []++r
 |p::ls,0,h,_=>⟨ls.flatten,by simp⟩
 |p::ls,j+1,h,hj=>by
  obtain ⟨r,hr⟩:=Ou (ls:=ls) (j:=j) (fun q hq=>h q (by simp [hq])) (by simpa using hj)
  refine ⟨r,?_⟩
  have hp:p.length=m:=h p (by simp)
  rw [List.flatten_cons,Nat.succ_mul,Nat.add_comm,List.drop_append,List.drop_eq_nil_of_le (by omega)]
  simp only [List.nil_append,hp]
  rw [show m+j*m-m=j*m by omega,hr]
  simp [List.getD]
theorem flat_len {α:Type} {m:Nat}: ∀{ls:List (List α)},(∀p∈ls,p.length=m)→ls.flatten.length=ls.length*m
 |[],_=>by simp
 |p::ls,h=>by rw [List.flatten_cons,List.length_append,flat_len fun q hq=>h q (by simp [hq]),h p (by simp),List.length_cons,Nat.succ_mul];omega
theorem getD_mem {α:Type} {ls:List α} {d:α} {j:Nat} (h:j<ls.length):ls.getD j d∈ls:=by simp [List.getD,h]
theorem adt {m j:Nat} {ls:List (List Nat)} (h: ∀p∈ls,p.length=m) (hj:j<ls.length):getN (some m) (ls.flatten.map N8) (j*m)=some (PL (ls.getD j [])):=by
 obtain ⟨r,hr⟩:=Ou h hj
 have hl:=h _ (getD_mem (d:=[]) hj)
 have hf:=flat_len h
 have:(j+1)*m≤ls.length*m:=Nat.mul_le_mul_right _ hj
 rw [Nat.succ_mul] at this
 generalize ls.getD j []=q at hr hl⊢
 rw [tJ (by rw [List.length_map,hf];omega),←List.map_drop,hr,List.map_append,List.take_append_of_le_length (by simp [hl]),List.take_of_length_le (by simp [hl])]
theorem abO {b w:List Nat} {m:Nat} {v:Value} (hb:b.length=m) (hw:w.length=m):fillL (repl (List.replicate m v) 2) [(0,m,PL b),(m,m,PL w)]=some (b.map N8++w.map N8):=by
 simp [fillL,repl,cellsL,hb,hw,splice,List.take_append,List.drop_append]
theorem abQ {x:Bool} {ls:List (List Nat)} {n:Int} {H:BH} {K:Value→BH→Prop} (hll:ls.length≤1000) (hl: ∀p∈ls,p.length=16) (kG: ∀p∈ls,∀i,nl p i<16)
  (hK:K (I (aN ls (st0 16) 16).2.length) H):aF x XL [I n,rP 16 ls] H K:=by
 refine bK (by simp only [RH]) ?_
 refine aG Y3 ?_;simp only [dP,aB]
 refine aC ?_
 refine aC ?_
 refine aC ?_
 refine aC ?_
 refine aW (fun m f H'=> ∃i,i≤16∧m=16-i∧i≤(aN ls (st0 16) i).2.length∧f 1=rP 16 ls∧f 5=P 0 0∧f 6=S 1 0 (aN ls (st0 16) i).2.length 1∧f 7=I i∧H'=[some ((aN ls (st0 16) i).1.map B),some ((aN ls (st0 16) i).2.map N8)]) (16) ?_ ?_
 ·refine ⟨_,_,Gh.refl,0,by omega,by omega,by omega,ah,ah,ah,ah,?_⟩
  simp [aN,st0]<;>rfl
 ·rintro m f H' R ⟨i,hi,rfl,hil,h1,h5,h6,h7,rfl⟩ hN hX hR hE
  simp only [dP.l1,aB]
  have hB:=(Bi.st0 (m:=16) (by omega)).aN kG i
  generalize hst:aN ls (st0 16) i=st at hil h6 hB
  have hle:=hB.le
  have hsl:=hB.len
  refine aA (aH @h6 @h7) ?_
  refine bI (i<st.2.length) (fun hc=>?_) fun hc=>?_
  ·have hx:=hB.lt i hc
   refine dD ?_
   refine aA @h1 ?_
   refine aW (fun m f H'=> ∃j st',j≤ls.length∧m=ls.length-j∧st'=gY (ls.take j) (nl st.2 i) st∧f 1=rP 16 ls∧f 5=P 0 0∧f 6=S 1 0 st'.2.length 1∧f 7=I i∧f 19=rP 16 ls∧f 20=I ls.length∧f 21=I j∧H'=[some (st'.1.map B),some (st'.2.map N8)]) (ls.length) ?_ ?_
   ·refine ⟨_,_,Gh.refl,0,st,by omega,by omega,rfl,ah,ah,ah,ah,ah,ah,ah,rfl⟩
   ·clear h1 h5 h6 h7
    rintro m f H' R2 ⟨j,st',hj,rfl,hst',h1,h5,h6,h7,h19,h20,h21,rfl⟩ iT hX2 hR2 hE2
    simp only [dP.l0,aB]
    refine aA (aH @h20 @h21) ?_
    have hB':Bi 16 st':=by rw [hst'];exact hB.round fun p hp=>kG p (List.mem_of_mem_take hp) _
    have hle':=hB'.le
    have oq:=hB'.len
    refine bI (j<ls.length) (fun hc=>?_) fun hc=>?_
    ·obtain ⟨q,hq⟩:= @rG (nl st.2 i) (ls.take j) st
     rw [←hst'] at hq
     have hxi:nl st'.2 i=nl st.2 i:=by rw [hq,mO,if_pos (by assumption)]
     have agD:i<st'.2.length:=by rw [hq];simp;omega
     have hnx:=CB (ls:=ls) (x:=nl st.2 i) (st:=st) hc
     rw [←hst'] at hnx
     have hpl:=hl _ (getD_mem (d:=[]) hc)
     have hyl:=kG _ (getD_mem (d:=[]) hc) (nl st.2 i)
     obtain ⟨pj,yJ⟩: ∃pj,ls.getD j []=pj:=⟨_,rfl⟩
     rw [yJ] at hnx hpl hyl
     obtain ⟨y,ou⟩: ∃y,nl pj (nl st.2 i)=y:=⟨_,rfl⟩
     rw [ou] at hyl hnx
     have hnext: ∀f' st2,f' 1=rP 16 ls→f' 5=P 0 0→f' 6=S 1 0 st2.2.length 1→f' 7=I i→f' 19=rP 16 ls→f' 20=I ls.length→f' 21=I j→st2=visit st' y→
       T 0 dP.r13 R2 f' [some (st2.1.map B),some (st2.2.map N8)]:=by
      intro f' st2 h1 h5 h6 h7 h19 h20 h21 hs2
      refine bM @h21 ?_
      exact iT (ls.length-(j+1)) _ _ _ _ (by omega) Gh.refl ⟨j+1,st2,by omega,rfl,by rw [hnx,hs2],ah,ah,ah,ah,ah,ah,ah,rfl⟩
     refine dD ?_
     refine aA (dh @h19 @h21 (adt hl hc) @yJ) ?_
     refine aA (iy @h6 @h7 @hxi @hpl @ou) ?_
     refine aA (aH @h5 @oq) ?_
     refine bI (¬bl st'.1 y=true) (fun hc=>?_) fun hc=>?_
     ·refine aA (aH @h5 @oq) ?_
      refine aA @h6 ?_
      refine jT (Gh.nrm [0,4] rfl rfl Dh) ?_
      refine hnext _ (st'.1.set y true,st'.2++[y]) ah ah ah ah ah ah ah ?_
      rw [visit,if_neg hc]
     ·refine jQ ?_
      refine jT (Gh.nrm [0,1] rfl rfl Dh) ?_
      refine hnext _ st' ah ah ah ah ah ah ah ?_
      rw [visit,if_pos (by simpa using hc)]
    ·refine hX2 _ _ ?_
     obtain rfl:j=ls.length:=by omega
     have hst2:st'=aN ls (st0 16) (i+1):=by
      rw [hst',aN,hst,if_pos (by assumption),List.take_length]
     obtain ⟨q,hq⟩:= @rG (nl st.2 i) (ls.take ls.length) st
     have hlq:i+1≤st'.2.length:=by rw [hst',hq];simp;omega
     refine bM @h7 ?_
     refine hN (16-(i+1)) _ _ _ _ (by omega) Gh.refl ⟨i+1,by omega,rfl,by rw [←hst2];exact hlq,ah,ah,?_,ah,?_⟩
     ·rw [←hst2]
      exact ah
     ·rw [←hst2]
  ·refine hX _ _ ?_
   refine aA @h6 ?_
   refine aV ?_
   refine ⟨NN.int,?_⟩
   have hs:aN ls (st0 16) 16=st:=by rw [vC (i:=i) (by rw [hst];omega) 16 hi,hst]
   rw [hs] at hK
   exact hK
def aX (n:Int) (b w:List Nat):Prop:=Perm b n∧Perm w n∧((reach b w).2.length:Int)=n
instance (n:Int) (b w:List Nat):Decidable (aX n b w):=by unfold aX;infer_instance
theorem Perm.Ce {p:List Nat} {n:Int} (h:Perm p n) (hl:p.length=16) (i:Nat):nl p i<16:=by
 obtain ⟨m,rfl⟩:=Int.eq_ofNat_of_zero_le (show 0≤n by have:=h.1;omega)
 exact h.jM hl i
theorem adu {x:Bool} {n:Int} {b w:List Nat} {H:BH} {K:Value→BH→Prop} (hb:By 16 b) (hw:By 16 w) (hK:K (.bool (decide (aX n b w))) H):aF x XT [DV n b w] H K:=by
 have hlb:=hb.len
 have fG:=hw.len
 refine bK (by simp only [RH]) ?_
 refine aG Y7 ?_;simp only [qU,aB]
 refine aC ?_
 refine dF (aH @oh @sO) fun Kr hKr=>?_
 refine Ov hb ?_
 by_cases h1:Perm b n
 ·rw [decide_eq_true h1]
  refine gU (aH @oh @sN) ?_
  refine Ov hw ?_
  by_cases h2:Perm w n
  ·rw [decide_eq_true h2]
   refine gU (bP @oh @sN @sO) ?_
   refine adv hb hw (h1.Ce hb.len) (h2.Ce hw.len) ?_
   refine aS ?_
   refine aO hKr ?_
   refine aV ?_
   exact ⟨NN.bool,by simpa [aX,h1,h2] using hK⟩
  ·rw [decide_eq_false h2]
   refine aS ?_
   refine aO hKr ?_
   refine aV ?_
   exact ⟨NN.bool,by simpa [aX,h1,h2] using hK⟩
 ·rw [decide_eq_false h1]
  refine aS ?_
  refine aO hKr ?_
  refine aV ?_
  exact ⟨NN.bool,by simpa [aX,h1] using hK⟩
theorem abP {m:Nat} {b w:List Nat}:Fz 2 m (b.map N8++w.map N8)=rP m [b,w]:=by simp [rP]
end Go.Bm
namespace Go.Bm
open Go Go.Am
def fQ:List Nat:=List.replicate 16 0
theorem yC:By 16 fQ:=By.rep
theorem jS:fQ.length=16:=by simp [fQ]
theorem dz:(Value.int .i64 0::List.replicate 32 (Value.int .u8 0))=DC 0 fQ fQ:=by rfl
theorem Di {b:List Nat}:(b.map N8).all Am.plain=true:=all_map fun _=>rfl
theorem adw {n:Int} {b w:List Nat}:(DC n b w).all fJ=true:=by
 simp only [DC,List.all_cons,List.all_append,Bool.and_eq_true]
 exact ⟨rfl,tK,tK⟩
theorem Dj {n:Int} {b w:List Nat} (hb:b.length=16) (hw:w.length=16):(DC n b w).length=33:=by simp [hb,hw]
theorem rF {n:Int} {b w:List Nat}:aJ (DC n b w):= .cons .int (.append (.map fun _=> .int) (.map fun _=> .int))
section
variable {H:BH} {i:Nat} {n m:Int} {b w b' w' p:List Nat}
theorem GR (hb:b.length=16) (hw:w.length=16) (hb':b'.length=16) (hw':w'.length=16):dV (some (DC n b w)) H i 0 33 (aggL (DC m b' w'))=some (undef,H.set i (some (DC m b' w'))):=by
 rw [oV (Dj hb' hw') adw (by rw [Dj hb hw];omega),Dk (by rw [Dj hb hw,Dj hb' hw'])]
theorem Ox:dV (some (DC n b w)) H i 0 1 (.int .i64 m)=some (undef,H.set i (some (DC m b w))):=by
 rw [rC (by simp),zq]
theorem zu {α:Type} {g:α→Value} {x y:List α} {pre post:List Value} (h:x.length=y.length):splice (pre++(x.map g++post)) pre.length (y.map g)=pre++(y.map g++post):=by
 simp only [splice]
 rw [List.take_append_of_le_length (by omega),List.take_of_length_le (by omega)]
 rw [List.drop_append,List.drop_eq_nil_of_le (by omega),List.nil_append]
 rw [show pre.length+(List.map g y).length-pre.length=(List.map g x).length by simp [h]]
 rw [List.drop_append,List.drop_eq_nil_of_le (by omega)]
 simp
theorem Oy {α:Type} {g:α→Value} {x:List α} {y:α} {k:Nat} {pre post:List Value} (h:k<x.length):splice (pre++(x.map g++post)) (pre.length+k) [g y]=pre++((x.set k y).map g++post):=by
 simp only [splice,List.length_singleton]
 rw [List.take_append,List.take_of_length_le (l:=pre) (by omega),show pre.length+k-pre.length=k by omega,List.take_append_of_le_length (by simp;omega)]
 rw [List.drop_append,List.drop_eq_nil_of_le (as:=pre) (by omega),show pre.length+k+1-pre.length=k+1 by omega,List.drop_append_of_le_length (by simp;omega)]
 rw [List.set_eq_take_append_cons_drop]
 simp [h,List.map_take,List.map_drop]
theorem Oz {α:Type} {g:α→Value} {x:List α} {k:Nat} {d:α} {pre post:List Value} (h:k<x.length):getN none (pre++(x.map g++post)) (pre.length+k)=some (g (x.getD k d)):=by
 simp only [getN]
 rw [List.getElem?_append_right (by omega),show pre.length+k-pre.length=k by omega,List.getElem?_append_left (by simpa using h)]
 simp [List.getD,h]
theorem OA (hb:b.length=16) (hp:p.length=16):dV (some (DC n b w)) H i 1 16 (aggL (p.map N8))=some (undef,H.set i (some (DC n p w))):=by
 rw [oV (by simpa using hp) tK (by simp [hb])]
 have:=zu (g:=N8) (x:=b) (y:=p) (pre:=[I n]) (post:=w.map N8) (by omega)
 simp only [List.length_cons,List.length_nil,List.length_map,List.cons_append,List.nil_append,List.append_nil,Nat.zero_add] at this
 rw [show splice (DC n b w) 1 (p.map N8)=DC n p w from this]
theorem OB (hb:b.length=16) (hw:w.length=16) (hp:p.length=16):dV (some (DC n b w)) H i 17 16 (aggL (p.map N8))=some (undef,H.set i (some (DC n b p))):=by
 rw [oV (by simpa using hp) tK (by simp [hb,hw])]
 have:=zu (g:=N8) (x:=w) (y:=p) (pre:=I n::b.map N8) (post:=[]) (by omega)
 simp only [List.length_cons,List.length_nil,List.length_map,List.cons_append,List.nil_append,List.append_nil,Nat.zero_add,hb] at this
 rw [show splice (DC n b w) 17 (p.map N8)=DC n b p from this]
theorem OC {k x:Nat} (h:k<b.length):dV (some (DC n b w)) H i (1+k) 1 (.int .u8 (x:Int))=some (undef,H.set i (some (DC n (b.set k x) w))):=by
 rw [rC (by simp;omega)]
 have:=Oy (g:=N8) (x:=b) (y:=x) (k:=k) (pre:=[I n]) (post:=w.map N8) h
 simp only [List.length_cons,List.length_nil,List.length_map,List.cons_append,List.nil_append,List.append_nil,Nat.zero_add] at this
 rw [show splice (DC n b w) (1+k) [N8 x]=DC n (b.set k x) w from this]
theorem OD {k x:Nat} (hb:b.length=16) (h:k<w.length):dV (some (DC n b w)) H i (17+k) 1 (.int .u8 (x:Int))=some (undef,H.set i (some (DC n b (w.set k x)))):=by
 rw [rC (by simp;omega)]
 have:=Oy (g:=N8) (x:=w) (y:=x) (k:=k) (pre:=I n::b.map N8) (post:=[]) h
 simp only [List.length_cons,List.length_nil,List.length_map,List.cons_append,List.nil_append,List.append_nil,Nat.zero_add,hb] at this
 rw [show splice (DC n b w) (17+k) [N8 x]=DC n b (w.set k x) from this]
theorem OE {k:Nat} (h:k<b.length):getN none (DC n b w) (1+k)=some (N8 (nl b k)):=by
 have:=Oz (g:=N8) (x:=b) (k:=k) (d:=0) (pre:=[I n]) (post:=w.map N8) h
 simp only [List.length_cons,List.length_nil,List.length_map,List.cons_append,List.nil_append,List.append_nil,Nat.zero_add] at this
 exact this
theorem OG {k:Nat} (hb:b.length=16) (h:k<w.length):getN none (DC n b w) (17+k)=some (N8 (nl w k)):=by
 have:=Oz (g:=N8) (x:=w) (k:=k) (d:=0) (pre:=I n::b.map N8) (post:=[]) h
 simp only [List.length_cons,List.length_nil,List.length_map,List.cons_append,List.nil_append,List.append_nil,Nat.zero_add,hb] at this
 exact this
theorem OH:fillL (DC n b w) [(0,1, .int .i64 m)]=some (DC m b w):=by
 simp [fillL,cellsL,splice]
theorem OI {b' w':List Nat} (hb:b.length=16) (hw:w.length=16) (hb':b'.length=16) (hw':w'.length=16):fillL (DC n b w) [(0,1, .int .i64 m),(1,16,PL b'),(17,16,PL w')]=some (DC m b' w'):=by
 simp only [fillL,Dl,Dn,List.length_singleton,List.length_map]
 rw [if_pos ⟨trivial,by simp⟩,zq,if_pos ⟨hb',by simp [hb]⟩]
 have h1:=zu (g:=N8) (x:=b) (y:=b') (pre:=[I m]) (post:=w.map N8) (by omega)
 simp only [List.length_singleton,List.cons_append,List.nil_append] at h1
 rw [h1,if_pos ⟨hw',by simp [hb',hw]⟩]
 have h2:=zu (g:=N8) (x:=w) (y:=w') (pre:=I m::b'.map N8) (post:=[]) (by omega)
 simp only [List.length_cons,List.length_map,hb',List.append_nil,List.cons_append] at h2
 rw [h2]
theorem OJ (hb:b.length=16) (hw:w.length=16) (hw':w'.length=16):fillL (DC n b w) [(0,1, .int .i64 m),(17,16,PL w')]=some (DC m b w'):=by
 simp only [fillL,Dl,Dn,List.length_singleton,List.length_map]
 rw [if_pos ⟨trivial,by simp⟩,zq,if_pos ⟨hw',by simp [hb,hw]⟩]
 have h2:=zu (g:=N8) (x:=w) (y:=w') (pre:=I m::b.map N8) (post:=[]) (by omega)
 simp only [List.length_cons,List.length_map,hb,List.append_nil,List.cons_append] at h2
 rw [h2]
theorem OL (hb:b.length=16) (hw:w.length=16):getN (some 33) (DC n b w) 0=some (aggL (DC n b w)):=adx hb hw
theorem jP:NN (aggL (DC n b w)):=NN.agg rF
end
theorem OM {b w:List Nat}:(b.map N8++w.map N8).all Am.plain=true:=by rw [List.all_append,Di,Di];rfl
theorem aI:(type_of% @dz)∧(type_of% @OM)∧(type_of% @Di)∧(type_of% @jS)∧(type_of% @Ox)∧(type_of% @oh)∧(type_of% @OH):=⟨@dz, @OM, @Di, @jS, @Ox, @oh, @OH⟩
theorem aT:(type_of% @GR)∧(type_of% @OA)∧(type_of% @OB)∧(type_of% @OC)∧(type_of% @OD)∧(type_of% @sO)∧(type_of% @sN)∧(type_of% @OE)∧(type_of% @OG)∧(type_of% @OI)∧(type_of% @OJ)∧(type_of% @OL):=⟨@GR, @OA, @OB, @OC, @OD, @sO, @sN, @OE, @OG, @OI, @OJ, @OL⟩
theorem aX.n0 {n:Int} {b w:List Nat} (h:aX n b w): ∃m:Nat,n=m∧1≤m∧m≤16:=by
 have:=h.1.1
 exact ⟨n.toNat,by omega,by omega,by omega⟩
end Go.Bm
namespace Go.Bm
open Go Go.Am
def oW:List Bool:=List.replicate 16 false
theorem Cj {x:Nat}:bl oW x=false:=zy
theorem vw:oW.length=16:=by simp [oW]
def stA (x:Nat):BS:=(oW.set x true,[x])
structure lM (ls:List (List Nat)) (n x d:Nat) (st:BS):Prop where
 len:st.1.length=16
 mem: ∀y,bl st.1 y=true↔y∈st.2
 fM:st.2.Nodup
 lt: ∀y∈st.2,y<n
 pre: ∃r,st.2=x::r
 le:d≤st.2.length
 done: ∀j,j<d→ ∀p∈ls,nl p (nl st.2 j)∈st.2
theorem lM.visit {ls:List (List Nat)} {n x d y:Nat} {st:BS} (hn:n≤16) (h:lM ls n x d st) (hy:y<n):lM ls n x d (Bm.visit st y)∧(∃q,(Bm.visit st y).2=st.2++q)∧y∈(Bm.visit st y).2:=by
 unfold Bm.visit
 by_cases hb:bl st.1 y=true
 ·rw [if_pos hb]
  exact ⟨h,⟨[],by simp⟩,(h.mem y).1 hb⟩
 ·rw [if_neg hb]
  have hny:y∉st.2:=fun hm=>hb ((h.mem y).2 hm)
  refine ⟨⟨by simpa using h.len,fun z=>?_,?_,fun z hz=>?_,?_,?_,fun j hj1 p hp=>?_⟩,⟨[y],rfl⟩,by simp⟩
  ·show bl (st.1.set y true) z=true↔z∈st.2++[y]
   rw [jO]
   by_cases e:z=y
   ·subst e
    rw [if_pos ⟨rfl,by have:=h.len;omega⟩]
    simp
   ·rw [if_neg (fun k=>e k.1),h.mem z]
    simp [e]
  ·show (st.2++[y]).Nodup
   rw [List.nodup_append]
   exact ⟨h.fM,by simp,fun a ha b hb=>by
    rw [List.mem_singleton] at hb
    subst hb
    exact fun e=>hny (e▸ha)⟩
  ·rcases List.mem_append.1 hz with k|k
   ·exact h.lt z k
   ·rw [List.mem_singleton] at k
    omega
  ·obtain ⟨r,hr⟩:=h.pre
   exact ⟨r++[y],by show st.2++[y]=_;rw [hr];rfl⟩
  ·show d≤(st.2++[y]).length
   have:=h.le
   simp
   omega
  ·show nl p (nl (st.2++[y]) j)∈st.2++[y]
   rw [mO,if_pos (by have:=h.le;omega)]
   exact List.mem_append_left _ (h.done j hj1 p hp)
theorem lM.round {ls:List (List Nat)} {n x d z:Nat} (hn:n≤16): ∀{l2:List (List Nat)} {st:BS},lM ls n x d st→(∀p∈l2,nl p z<n)→lM ls n x d (gY l2 z st)∧(∃q,(gY l2 z st).2=st.2++q)∧ ∀p∈l2,nl p z∈(gY l2 z st).2
 |[],st,h,_=>⟨h,⟨[],by simp [gY]⟩,by simp⟩
 |p::l2,st,h,hp=>by
  obtain ⟨h1,⟨q1,h2⟩,h3⟩:=h.visit hn (hp p (by simp))
  obtain ⟨h4,⟨q2,h5⟩,h6⟩:=lM.round hn (l2:=l2) h1 fun q hq=>hp q (by simp [hq])
  have e:gY (p::l2) z st=gY l2 z (Bm.visit st (nl p z)):=rfl
  rw [e]
  refine ⟨h4,⟨q1++q2,by rw [h5,h2,List.append_assoc]⟩,fun q hq=>?_⟩
  rcases List.mem_cons.1 hq with rfl|hq
  ·rw [h5]
   exact List.mem_append_left _ h3
  ·exact h6 q hq
theorem lM.aN {ls:List (List Nat)} {n x:Nat} {st:BS} (hn:n≤16) (hl: ∀p∈ls,∀y,y<n→nl p y<n) (h:lM ls n x 0 st): ∀i,lM ls n x (min i (Bm.aN ls st i).2.length) (Bm.aN ls st i)
 |0=>by rw [Nat.zero_min];exact h
 |i+1=>by
  have ih:=lM.aN hn hl h i
  simp only [Bm.aN]
  generalize Bm.aN ls st i=s at ih⊢
  by_cases hi:i<s.2.length
  ·rw [if_pos hi]
   rw [Nat.min_eq_left (by omega)] at ih
   obtain ⟨h1,⟨q,h2⟩,h3⟩:=ih.round hn (z:=nl s.2 i) (l2:=ls) fun p hp=>hl p hp _ (ih.lt _ (dK hi))
   have hlen:i+1≤(gY ls (nl s.2 i) s).2.length:=by rw [h2];simp;omega
   rw [Nat.min_eq_left hlen]
   refine ⟨h1.len,h1.mem,h1.fM,h1.lt,h1.pre,hlen,fun j hj p hp=>?_⟩
   by_cases e:j=i
   ·subst e
    have:nl (gY ls (nl s.2 j) s).2 j=nl s.2 j:=by rw [h2,mO,if_pos hi]
    rw [this]
    exact h3 p hp
   ·exact h1.done j (by omega) p hp
  ·rw [if_neg hi]
   rw [Nat.min_eq_right (by omega)] at ih
   rw [Nat.min_eq_right (by omega)]
   exact ih
theorem lM.start {ls:List (List Nat)} {n x:Nat} (hn:n≤16) (hx:x<n):lM ls n x 0 (stA x):=by
 refine ⟨by simp [stA,vw],fun y=>?_,by simp [stA],fun y hy=>?_,⟨[],rfl⟩,Nat.zero_le _,fun j hj=>by omega⟩
 ·show bl (oW.set x true) y=true↔y∈[x]
  rw [jO,vw,Cj]
  by_cases e:y=x
  ·rw [if_pos ⟨e,by omega⟩];simp [e]
  ·rw [if_neg (fun k=>e k.1)];simp [e]
 ·rw [show (stA x).2=[x] from rfl,List.mem_singleton] at hy
  omega
theorem nodup_le {n:Nat} {l:List Nat} (h:l.Nodup) (hl: ∀x∈l,x<n):l.length≤n:=by
 have:=List.Nodup.length_le_of_subset h (l₂:=List.range n) fun x hx=>List.mem_range.2 (hl x hx)
 simpa using this
theorem ady {n:Nat} {l:List Nat} (h:l.Nodup) (hl: ∀x∈l,x<n) (hn:n≤l.length) {x:Nat} (hx:x<n):x∈l:=by
 apply Classical.byContradiction
 intro hxl
 have:=nodup_le (n:=n) (l:=x::l) (List.nodup_cons.2 ⟨hxl,h⟩) (by
  intro y hy
  rcases List.mem_cons.1 hy with rfl|hy
  ·exact hx
  ·exact hl y hy)
 rw [List.length_cons] at this
 omega
def ord (b w:List Nat) (x:Nat):List Nat:=(aN [b,w] (stA x) 16).2
section
variable {b w:List Nat} {n:Nat}
theorem rQ (hb:Perm b n) (hw:Perm w n) {x:Nat} (hx:x<n):lM [b,w] n x (ord b w x).length (aN [b,w] (stA x) 16):=by
 have hn:=hb.1
 have h:=(lM.start (ls:=[b,w]) (x:=x) (n:=n) (by omega) hx).aN (by omega) (by
  intro p hp y hy
  simp only [List.mem_cons,List.not_mem_nil,or_false] at hp
  rcases hp with rfl|rfl
  ·exact hb.lt hy
  ·exact hw.lt hy) 16
 have h16:=nodup_le h.fM h.lt
 rw [Nat.min_eq_right (by omega)] at h
 exact h
theorem adz (hb:Perm b n) (hw:Perm w n) {x:Nat} (hx:x<n): ∀y∈ord b w x,nl b y∈ord b w x∧nl w y∈ord b w x:=fun y hy=>by
 have h:=rQ hb hw hx
 obtain ⟨j,hj,rfl⟩:=lY hy
 exact ⟨h.done j hj b (by simp),h.done j hj w (by simp)⟩
theorem OO {p:List Nat} (hp:Perm p n) {S:Nat→Prop} (hS: ∀x,x<n→S x→S (nl p x)) {x:Nat} (hx:x<n) (h:S (nl p x)):S x:=by
 obtain ⟨c,hc,hxc⟩:=vT hp hx
 have hi:=lZ hp hc
 obtain ⟨j,hj,hje⟩:=lY (hi.fwd hxc)
 have hup: ∀d,j+d<c.length→S (nl c (j+d)):=by
  intro d
  induction d with
  |zero=>intro _;rw [Nat.add_zero,hje];exact h
  |succ d ih=>
   intro hd
   rw [←Nat.add_assoc,←hi.step (j+d) (by omega)]
   exact hS _ (hi.lt _ (dK (by omega))) (ih (by omega))
 have h0:S (nl c 0):=by
  rw [←hi.last]
  have:=hup (c.length-1-j) (by omega)
  rw [show j+(c.length-1-j)=c.length-1 by omega] at this
  exact hS _ (hi.lt _ (dK (by omega))) this
 have hall: ∀k,k<c.length→S (nl c k):=by
  intro k
  induction k with
  |zero=>intro _;exact h0
  |succ k ih=>
   intro hk
   rw [←hi.step k hk]
   exact hS _ (hi.lt _ (dK (by omega))) (ih (by omega))
 obtain ⟨k,hk,rfl⟩:=lY hxc
 exact hall k hk
theorem aX.reach (h:aX n b w) {y:Nat} (hy:y<n):y∈ord b w 0:=by
 obtain ⟨hb,hw,hr⟩:=h
 have hn:=hb.1
 have h1:=rQ hb hw (x:=0) (by omega)
 refine ady h1.fM h1.lt ?_ hy
 have:(Bm.reach b w).2.length=n:=by omega
 have e:(aN [b,w] (stA 0) 16).2.length=n:=this
 omega
theorem aX.ind (h:aX n b w) (S:Nat→Prop) (s1: ∀z,z<n→S z→S (nl b z)) (s2: ∀z,z<n→S z→S (nl w z)) (s0:S 0): ∀z,z<n→S z:=by
 obtain ⟨hb,hw,hr⟩:=id h
 have hn:=hb.1
 intro z hz
 have hcl: ∀i,∀z∈(aN [b,w] (stA 0) i).2,z<n∧S z:=by
  have hv: ∀(st:BS) (y:Nat),(∀z∈st.2,z<n∧S z)→y<n→S y→ ∀z∈(visit st y).2,z<n∧S z:=by
   intro st y h1 h2 h3 z hz
   unfold visit at hz
   split at hz
   ·exact h1 z hz
   ·rcases List.mem_append.1 hz with k|k
    ·exact h1 z k
    ·rw [List.mem_singleton] at k
     subst k
     exact ⟨h2,h3⟩
  intro i
  induction i with
  |zero=>
   intro z hz
   have:z=0:=by simpa [aN,stA] using hz
   subst this
   exact ⟨by omega,s0⟩
  |succ i ih=>
   simp only [aN]
   split
   ·rename_i hi
    obtain ⟨hz1,hz2⟩:=ih _ (dK hi)
    exact hv _ _ (hv _ _ ih (hb.lt hz1) (s1 _ hz1 hz2)) (hw.lt hz1) (s2 _ hz1 hz2)
   ·exact ih
 exact (hcl 16 z (h.reach hz)).2
theorem aX.all (h:aX n b w) {x y:Nat} (hx:x<n) (hy:y<n):y∈ord b w x:=by
 obtain ⟨hb,hw,hr⟩:=id h
 have hn:=hb.1
 have h0:=h.ind
 have hx0:(ord b w x)=(ord b w x):=rfl
 have hfw:=adz hb hw hx
 have key: ∀z,z<n→(z∈ord b w x↔0∈ord b w x):=by
  refine h0 _ ?_ ?_ Iff.rfl
  ·intro z hz hS
   rw [←hS]
   exact ⟨OO hb (S:=fun z=>z∈ord b w x) (fun z _ h=>(hfw z h).1) hz,fun h=>(hfw z h).1⟩
  ·intro z hz hS
   rw [←hS]
   exact ⟨OO hw (S:=fun z=>z∈ord b w x) (fun z _ h=>(hfw z h).2) hz,fun h=>(hfw z h).2⟩
 have hxx:x∈ord b w x:=by
  obtain ⟨r,hr⟩:=(rQ hb hw hx).pre
  rw [ord,hr]
  simp
 exact (key y hy).2 ((key x hx).1 hxx)
theorem nH (h:aX n b w) {x:Nat} (hx:x<n):(ord b w x).length=n:=by
 have h1:=rQ h.1 h.2.1 hx
 have h2:=nodup_le h1.fM h1.lt
 have h3:=List.Nodup.length_le_of_subset (List.nodup_range (n:=n)) (l₂:=ord b w x) fun y hy=>h.all hx (List.mem_range.1 hy)
 rw [List.length_range] at h3
 have:(ord b w x).length≤n:=h2
 omega
theorem OQ (h:aX n b w) {x:Nat} (hx:x<n):(ord b w x).Nodup:=(rQ h.1 h.2.1 hx).fM
theorem sS (h:aX n b w) {x:Nat} (hx:x<n) {j:Nat} (hj:j<n):nl (ord b w x) j<n:=(rQ h.1 h.2.1 hx).lt _ (dK (by have:=nH h hx;rw [ord] at this;omega))
theorem OT (h:aX n b w) {x:Nat} (hx:x<n):nl (ord b w x) 0=x:=by
 obtain ⟨r,hr⟩:=(rQ h.1 h.2.1 hx).pre
 rw [ord,hr]
 rfl
def iw (l:List Nat):Nat→List Nat
 |0=>List.replicate 16 0
 |k+1=>(iw l k).set (nl l k) k
theorem yK {l:List Nat} {k:Nat}:(iw l k).length=16:=by
 induction k with
 |zero=>simp [iw]
 |succ k ih=>simp [iw,ih]
theorem ab5 {l:List Nat} {k i:Nat}:nl (iw l k) i≤k:=by
 induction k generalizing i with
 |zero=>simp only [iw,lG];split<;>omega
 |succ k ih=>
  rw [iw,jq]
  split
  ·omega
  ·have:= @ih i;omega
theorem OU {l:List Nat} (hd:l.Nodup) (hl: ∀x∈l,x<16): ∀{k j:Nat},k≤l.length→j<k→nl (iw l k) (nl l j)=j
 |0,j,_,h=>by omega
 |k+1,j,hk,hj=>by
  rw [iw,jq,yK]
  by_cases e:j=k
  ·subst e
   rw [if_pos ⟨rfl,hl _ (dK (by omega))⟩]
  ·rw [if_neg (fun h=>e (oD hd (by omega) (by omega) h.1)),OU hd hl (by omega) (by omega)]
def dW (b w:List Nat) (x:Nat):List Nat:=iw (ord b w x) (ord b w x).length
theorem vW (h:aX n b w) {x:Nat} (hx:x<n) {j:Nat} (hj:j<n):nl (dW b w x) (nl (ord b w x) j)=j:=by
 have hn:=h.1.1
 have hl:=nH h hx
 exact OU (OQ h hx) (fun y hy=>by have:=(rQ h.1 h.2.1 hx).lt y hy;omega) (Nat.le_refl _) (by omega)
theorem kT (h:aX n b w) {x:Nat} (hx:x<n) {y:Nat} (hy:y<n):nl (ord b w x) (nl (dW b w x) y)=y∧nl (dW b w x) y<n:=by
 obtain ⟨j,hj,rfl⟩:=lY (h.all hx hy)
 rw [nH h hx] at hj
 rw [vW h hx hj]
 exact ⟨rfl,hj⟩
def dJ (p nm:List Nat):Nat→List Nat
 |0=>List.replicate 16 0
 |k+1=>(dJ p nm k).set (nl nm k) (nl nm (nl p k))
theorem qp {p nm:List Nat} {k:Nat}:(dJ p nm k).length=16:=by
 induction k with
 |zero=>simp [dJ]
 |succ k ih=>simp [dJ,ih]
theorem Dp {p nm:List Nat} (hd: ∀i j,i<n→j<n→nl nm i=nl nm j→i=j) (hl: ∀i,i<n→nl nm i<16): ∀{k j:Nat},k≤n→j<k→nl (dJ p nm k) (nl nm j)=nl nm (nl p j)
 |0,j,_,h=>by omega
 |k+1,j,hk,hj=>by
  rw [dJ,jq,qp]
  by_cases e:j=k
  ·subst e
   rw [if_pos ⟨rfl,hl _ (by omega)⟩]
  ·rw [if_neg (fun h=>e (hd _ _ (by omega) (by omega) h.1)),Dp hd hl (by omega) (by omega)]
theorem Dq {p nm:List Nat} {m i:Nat} (hl: ∀i,i<n→nl nm i<m) (hi:m≤i): ∀{k:Nat},k≤n→nl (dJ p nm k) i=0
 |0,_=>by simp only [dJ,lG];split<;>rfl
 |k+1,hk=>by
  have:=hl k (by omega)
  rw [dJ,jq,if_neg (by omega),Dq hl hi (by omega)]
def dR (b w:List Nat) (n x:Nat):List Nat×List Nat:=(dJ b (dW b w x) n,dJ w (dW b w x) n)
theorem Dt (h:aX n b w) {x:Nat} (hx:x<n): ∀i j,i<n→j<n→nl (dW b w x) i=nl (dW b w x) j→i=j:=fun i j hi hj he=>by
 have h1:=(kT h hx hi).1
 rw [he,(kT h hx hj).1] at h1
 exact h1.symm
theorem Du (h:aX n b w) {x:Nat} (hx:x<n) {y:Nat} (hy:y<n):nl (dR b w n x).1 (nl (dW b w x) y)=nl (dW b w x) (nl b y):=
 Dp (Dt h hx) (fun i hi=>by have:=(kT h hx hi).2;have:=h.1.1;omega) (Nat.le_refl _) hy
theorem Dv (h:aX n b w) {x:Nat} (hx:x<n) {y:Nat} (hy:y<n):nl (dR b w n x).2 (nl (dW b w x) y)=nl (dW b w x) (nl w y):=
 Dp (Dt h hx) (fun i hi=>by have:=(kT h hx hi).2;have:=h.1.1;omega) (Nat.le_refl _) hy
end
section
variable {b w b' w':List Nat} {n:Nat}
structure rU (n:Nat) (b w b' w':List Nat) (φ:Nat→Nat):Prop where
 lt: ∀y,y<n→φ y<n
 inj: ∀y z,y<n→z<n→φ y=φ z→y=z
 b: ∀y,y<n→nl b' (φ y)=φ (nl b y)
 w: ∀y,y<n→nl w' (φ y)=φ (nl w y)
structure zA (n:Nat) (φ:Nat→Nat) (st st':BS):Prop where
 ord:st'.2=st.2.map φ
 lt: ∀y∈st.2,y<n
 met: ∀y,y<n→bl st'.1 (φ y)=bl st.1 y
 len:st.1.length=16∧st'.1.length=16
theorem zA.visit {φ:Nat→Nat} {st st':BS} {y:Nat} (hn:n≤16) (hl: ∀y,y<n→φ y<n) (hinj: ∀y z,y<n→z<n→φ y=φ z→y=z) (h:zA n φ st st') (hy:y<n):zA n φ (Bm.visit st y) (Bm.visit st' (φ y)):=by
 unfold Bm.visit
 rw [h.met y hy]
 by_cases hb:bl st.1 y=true
 ·rw [if_pos hb,if_pos hb];exact h
 ·rw [if_neg hb,if_neg hb]
  refine ⟨by simp [h.ord],fun z hz=>?_,fun z hz=>?_,by simpa using h.len⟩
  ·rcases List.mem_append.1 hz with k|k
   ·exact h.lt z k
   ·rw [List.mem_singleton] at k;omega
  ·show bl (st'.1.set (φ y) true) (φ z)=bl (st.1.set y true) z
   have:=hl y hy
   rw [jO,jO,h.len.1,h.len.2,h.met z hz]
   by_cases e:z=y
   ·subst e;rw [if_pos ⟨rfl,by omega⟩,if_pos ⟨rfl,by omega⟩]
   ·rw [if_neg (fun k=>e (hinj _ _ hz hy k.1)),if_neg (fun k=>e k.1)]
theorem OV {φ:Nat→Nat} {l:List Nat} {i:Nat} (h:i<l.length):nl (l.map φ) i=φ (nl l i):=by simp [nl,List.getD,h]
theorem rU.ord {φ:Nat→Nat} (hn:n≤16) (hb:Perm b n) (hw:Perm w n) (h:rU n b w b' w' φ) {x:Nat} (hx:x<n):Bm.ord b' w' (φ x)=(Bm.ord b w x).map φ:=by
 have key: ∀i,zA n φ (aN [b,w] (stA x) i) (aN [b',w'] (stA (φ x)) i):=by
  intro i
  induction i with
  |zero=>
   refine ⟨rfl,fun y hy=>?_,fun y hy=>?_,by simp [aN,stA,vw]⟩
   ·have:y=x:=by simpa [aN,stA] using hy
    omega
   ·show bl (oW.set (φ x) true) (φ y)=bl (oW.set x true) y
    have:=h.lt x hx
    rw [jO,jO,vw,Cj,Cj]
    by_cases e:y=x
    ·subst e;rw [if_pos ⟨rfl,by omega⟩,if_pos ⟨rfl,by omega⟩]
    ·rw [if_neg (fun k=>e (h.inj _ _ hy hx k.1)),if_neg (fun k=>e k.1)]
  |succ i ih=>
   simp only [aN]
   generalize aN [b,w] (stA x) i=st at ih⊢
   generalize aN [b',w'] (stA (φ x)) i=st' at ih⊢
   have hle:st'.2.length=st.2.length:=by rw [ih.ord,List.length_map]
   rw [hle]
   by_cases hi:i<st.2.length
   ·rw [if_pos hi,if_pos hi]
    have e:nl st'.2 i=φ (nl st.2 i):=by rw [ih.ord,OV hi]
    rw [e]
    generalize hz:nl st.2 i=z
    have hz1:z<n:=by rw [←hz];exact ih.lt _ (dK hi)
    show zA n φ (Bm.visit (Bm.visit st (nl b z)) (nl w z)) (Bm.visit (Bm.visit st' (nl b' (φ z))) (nl w' (φ z)))
    rw [h.b z hz1,h.w z hz1]
    exact (ih.visit hn h.lt h.inj (hb.lt hz1)).visit hn h.lt h.inj (hw.lt hz1)
   ·rw [if_neg hi,if_neg hi]
    exact ih
 exact (key 16).ord
theorem rU.dW {φ:Nat→Nat} (hd:aX n b w) (hd':aX n b' w') (h:rU n b w b' w' φ) {x:Nat} (hx:x<n) {y:Nat} (hy:y<n):nl (Bm.dW b' w' (φ x)) (φ y)=nl (Bm.dW b w x) y:=by
 have hn:=hd.1.1
 obtain ⟨h1,h2⟩:=kT hd hx hy
 have h3:=h.ord (by omega) hd.1 hd.2.1 hx
 have h4:=vW hd' (h.lt x hx) h2
 rw [h3,OV (by rw [nH hd hx];exact h2),h1] at h4
 exact h4
theorem rU.dR {φ:Nat→Nat} (hd:aX n b w) (hd':aX n b' w') (h:rU n b w b' w' φ) {x:Nat} (hx:x<n):Bm.dR b' w' n (φ x)=Bm.dR b w n x:=by
 have hn:=hd.1.1
 have hx':=h.lt x hx
 have hz: ∀{b w:List Nat},aX n b w→ ∀{x},x<n→ ∀i,n≤i→nl (Bm.dR b w n x).1 i=0∧nl (Bm.dR b w n x).2 i=0:=fun hd x hx i hi=>
  ⟨Dq (n:=n) (m:=n) (fun i hi=>(kT hd hx hi).2) hi (Nat.le_refl _),Dq (n:=n) (m:=n) (fun i hi=>(kT hd hx hi).2) hi (Nat.le_refl _)⟩
 have key: ∀i,i<16→nl (Bm.dR b' w' n (φ x)).1 i=nl (Bm.dR b w n x).1 i∧nl (Bm.dR b' w' n (φ x)).2 i=nl (Bm.dR b w n x).2 i:=by
  intro i _
  rcases Nat.lt_or_ge i n with hi|hi
  ·have hy:=sS hd hx hi
   have e:=vW hd hx hi
   generalize ou:nl (Bm.ord b w x) i=y at hy e
   have e':=h.dW hd hd' hx hy
   rw [e] at e'
   have f1:=Du hd' hx' (h.lt y hy)
   have f2:=Dv hd' hx' (h.lt y hy)
   have g1:=Du hd hx hy
   have g2:=Dv hd hx hy
   rw [e',h.b y hy,h.dW hd hd' hx (hd.1.lt hy)] at f1
   rw [e',h.w y hy,h.dW hd hd' hx (hd.2.1.lt hy)] at f2
   rw [e] at g1 g2
   rw [f1,f2,g1,g2]
   exact ⟨rfl,rfl⟩
  ·obtain ⟨h1,h2⟩:=hz hd hx i hi
   obtain ⟨h3,h4⟩:=hz hd' hx' i hi
   rw [h1,h2,h3,h4]
   exact ⟨rfl,rfl⟩
 refine Prod.ext ?_ ?_
 ·exact vg (by simp only [Bm.dR,qp]) fun i hi=>(key i (by simpa only [Bm.dR,qp] using hi)).1
 ·exact vg (by simp only [Bm.dR,qp]) fun i hi=>(key i (by simpa only [Bm.dR,qp] using hi)).2
theorem GU {x y:Nat} (hd:aX n b w) (hd':aX n b' w') (hx:x<n) (hy:y<n) (h:Bm.dR b' w' n y=Bm.dR b w n x): ∃φ,rU n b w b' w' φ∧φ x=y:=by
 refine ⟨fun z=>nl (Bm.ord b' w' y) (nl (Bm.dW b w x) z),⟨fun z hz=>?_,fun z z' hz hz' he=>?_,fun z hz=>?_,fun z hz=>?_⟩,?_⟩
 ·exact sS hd' hy (kT hd hx hz).2
 ·have h1:=oD (OQ hd' hy) (by rw [nH hd' hy];exact (kT hd hx hz).2) (by rw [nH hd' hy];exact (kT hd hx hz').2) he
  exact Dt hd hx z z' hz hz' h1
 ·have hk:=(kT hd hx hz).2
  have hu:=sS hd' hy hk
  have e:=vW hd' hy hk
  have g1:=Du hd' hy hu
  rw [e,h,Du hd hx hz] at g1
  show nl b' (nl (Bm.ord b' w' y) (nl (Bm.dW b w x) z))=nl (Bm.ord b' w' y) (nl (Bm.dW b w x) (nl b z))
  rw [g1]
  exact (kT hd' hy (hd'.1.lt hu)).1.symm
 ·have hk:=(kT hd hx hz).2
  have hu:=sS hd' hy hk
  have e:=vW hd' hy hk
  have g1:=Dv hd' hy hu
  rw [e,h,Dv hd hx hz] at g1
  show nl w' (nl (Bm.ord b' w' y) (nl (Bm.dW b w x) z))=nl (Bm.ord b' w' y) (nl (Bm.dW b w x) (nl w z))
  rw [g1]
  exact (kT hd' hy (hd'.2.1.lt hu)).1.symm
 ·have:=OT hd hx
  have h0:=vW hd hx (j:=0) (by have:=hd.1.1;omega)
  rw [this] at h0
  show nl (Bm.ord b' w' y) (nl (Bm.dW b w x) x)=y
  rw [h0]
  exact OT hd' hy
end
abbrev L2:=List Nat×List Nat
def cZ (x y:L2):Prop:=x.1<y.1∨(x.1=y.1∧x.2<y.2)
instance (x y:L2):Decidable (cZ x y):=by unfold cZ;infer_instance
theorem sK (x:L2): ¬cZ x x:=fun h=>by
 rcases h with h|h
 ·exact List.lt_irrefl _ h
 ·exact List.lt_irrefl _ h.2
theorem lt2_trans {x y z:L2} (h:cZ x y) (k:cZ y z):cZ x z:=by
 rcases h with h|⟨h1,h2⟩<;>rcases k with k|⟨k1,k2⟩
 ·exact .inl (List.lt_trans h k)
 ·exact .inl (k1▸h)
 ·exact .inl (h1▸k)
 ·exact .inr ⟨h1.trans k1,List.lt_trans h2 k2⟩
theorem yE {x y:L2} (h: ¬cZ x y) (k: ¬cZ y x):x=y:=by
 have e1:x.1=y.1:=List.le_antisymm (List.not_lt.1 fun e=>k (.inl e)) (List.not_lt.1 fun e=>h (.inl e))
 exact Prod.ext e1 (List.le_antisymm (List.not_lt.1 fun e=>k (.inr ⟨e1.symm,e⟩)) (List.not_lt.1 fun e=>h (.inr ⟨e1,e⟩)))
def lH (b w:List Nat) (n:Nat):Nat→L2
 |0=>dR b w n 0
 |k+1=>if cZ (dR b w n (k+1)) (lH b w n k) then dR b w n (k+1) else lH b w n k
def eG (b w:List Nat) (n:Nat):L2:=lH b w n (n-1)
section
variable {b w b' w':List Nat} {n:Nat}
theorem sU: ∀{k:Nat},∃x,x≤k∧lH b w n k=dR b w n x
 |0=>⟨0,Nat.le_refl _,rfl⟩
 |k+1=>by
  obtain ⟨x,hx,h⟩:= @sU k
  simp only [lH]
  split
  ·exact ⟨k+1,Nat.le_refl _,rfl⟩
  ·exact ⟨x,by omega,h⟩
theorem GV: ∀{k x:Nat},x≤k→ ¬cZ (dR b w n x) (lH b w n k)
 |0,x,h=>by
  obtain rfl:x=0:=by omega
  exact sK _
 |k+1,x,h=>by
  simp only [lH]
  by_cases e:x=k+1
  ·subst e
   split
   ·exact sK _
   ·assumption
  ·have ih:=GV (show x≤k by omega)
   split
   ·rename_i hl
    exact fun h=>ih (lt2_trans h hl)
   ·exact ih
theorem adA (hd:aX n b w) (hd':aX n b' w'):eG b w n=eG b' w' n↔ ∃x,x<n∧dR b' w' n x=dR b w n 0:=by
 have hn:=hd.1.1
 constructor
 ·intro h
  obtain ⟨y,hy,e⟩:= @sU b w n (n-1)
  obtain ⟨z,hz,e'⟩:= @sU b' w' n (n-1)
  rw [eG,eG,e,e'] at h
  obtain ⟨φ,hi,_⟩:=GU hd hd' (show y<n by omega) (show z<n by omega) h.symm
  exact ⟨φ 0,hi.lt 0 (by omega),hi.dR hd hd' (by omega)⟩
 ·rintro ⟨x,hx,h⟩
  obtain ⟨φ,hi,_⟩:=GU hd hd' (show 0<n by omega) hx h
  obtain ⟨ψ,hj,_⟩:=GU hd' hd hx (show 0<n by omega) h.symm
  obtain ⟨y,hy,e⟩:= @sU b w n (n-1)
  obtain ⟨z,hz,e'⟩:= @sU b' w' n (n-1)
  refine yE ?_ ?_
  ·rw [eG,e,←hi.dR hd hd' (show y<n by omega)]
   exact GV (by have:=hi.lt y (by omega);omega)
  ·rw [eG,eG,e',←hj.dR hd' hd (show z<n by omega)]
   exact GV (by have:=hj.lt z (by omega);omega)
end
end Go.Bm
namespace Go.Bm
open Go Go.Am
section
variable {p b w:List Nat} {n:Nat}
theorem Perm.qy (hp:Perm p n) {y:Nat} (hy:y<n): ∃x,x<n∧nl p x=y:=by
 obtain ⟨c,hc,vX⟩:=vT hp hy
 have hi:=lZ hp hc
 obtain ⟨j,hj,rfl⟩:=lY vX
 by_cases e:j=0
 ·subst e
  exact ⟨_,hi.lt _ (dK (by omega)),hi.last⟩
 ·have:=hi.step (j-1) (by omega)
  rw [show j-1+1=j by omega] at this
  exact ⟨_,hi.lt _ (dK (by omega)),this⟩
theorem vY (hp:Perm p n): ∀{k i:Nat},k≤n→i<k→nl (iZ p k) (nl p i)=i
 |0,_,_,h=>by omega
 |k+1,i,hk,hi=>by
  have hn:=hp.1
  rw [iZ,jq,rV]
  by_cases e:i=k
  ·subst e
   rw [if_pos ⟨rfl,by have:=hp.lt (show i<n by omega);omega⟩]
  ·rw [if_neg (fun h=>e (hp.inj (by omega) (by omega) h.1)),vY hp (by omega) (by omega)]
theorem OW (hp:Perm p n) {i:Nat} (hi:n≤i): ∀{k:Nat},k≤n→nl (iZ p k) i=0
 |0,_=>by simp only [iZ,lG];split<;>rfl
 |k+1,hk=>by
  have:=hp.lt (show k<n by omega)
  rw [iZ,jq,if_neg (by omega),OW hp hi (by omega)]
theorem Perm.back (hp:Perm p n):Perm (iZ p n) n:=by
 refine ⟨hp.1,fun i _=>⟨fun h=>OW hp (by omega) (Nat.le_refl _),fun h=>?_⟩⟩
 obtain ⟨x,hx,rfl⟩:=hp.qy (show i<n by omega)
 rw [vY hp (Nat.le_refl _) hx]
 refine ⟨by omega,fun j hj=>?_⟩
 obtain ⟨y,hy,rfl⟩:=hp.qy (show j<n by omega)
 rw [vY hp (Nat.le_refl _) hy]
 intro e
 subst e
 omega
end
end Go.Bm
