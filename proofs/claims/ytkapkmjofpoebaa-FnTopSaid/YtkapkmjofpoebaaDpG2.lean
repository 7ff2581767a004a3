/- DpO, DpP, Dp7a, DpQ, DpCb, DpV, DpVa, DpDa -/
import Derived.Test.YtkapkmjofpoebaaDpG0
import Derived.Test.YtkapkmjofpoebaaDpG1
set_option linter.unusedVariables false
set_option linter.unusedSimpArgs false
namespace Go.Bm
open Go Go.Am
set_option maxRecDepth 10000
def len8:ByteArray:=⟨#[0,1,2,2,3,3,3,3,4,4,4,4,4,4,4,4,5,5,5,5,5,5,5,5,5,5,5,5,5,5,5,5,6,6,6,6,6,6,6,6,6,6,6,6,6,6,6,6,6,6,6,6,6,6,6,6,6,6,6,6,6,6,6,6,7,7,7,7,7,7,7,7,7,7,7,7,7,7,7,7,7,7,7,7,7,7,7,7,7,7,7,7,7,7,7,7,7,7,7,7,7,7,7,7,7,7,7,7,7,7,7,7,7,7,7,7,7,7,7,7,7,7,7,7,7,7,7,7,8,8,8,8,8,8,8,8,8,8,8,8,8,8,8,8,8,8,8,8,8,8,8,8,8,8,8,8,8,8,8,8,8,8,8,8,8,8,8,8,8,8,8,8,8,8,8,8,8,8,8,8,8,8,8,8,8,8,8,8,8,8,8,8,8,8,8,8,8,8,8,8,8,8,8,8,8,8,8,8,8,8,8,8,8,8,8,8,8,8,8,8,8,8,8,8,8,8,8,8,8,8,8,8,8,8,8,8,8,8,8,8,8,8,8,8,8,8,8,8,8,8,8,8,8,8,8,8]⟩
def lenOf (x:Nat):Nat:=match len8[x]? with|some b=>b.toNat|none=>0
theorem afO:(⟨#[0,1,2,2,3,3,3,3,4,4,4,4,4,4,4,4,5,5,5,5,5,5,5,5,5,5,5,5,5,5,5,5,6,6,6,6,6,6,6,6,6,6,6,6,6,6,6,6,6,6,6,6,6,6,6,6,6,6,6,6,6,6,6,6,7,7,7,7,7,7,7,7,7,7,7,7,7,7,7,7,7,7,7,7,7,7,7,7,7,7,7,7,7,7,7,7,7,7,7,7,7,7,7,7,7,7,7,7,7,7,7,7,7,7,7,7,7,7,7,7,7,7,7,7,7,7,7,7,8,8,8,8,8,8,8,8,8,8,8,8,8,8,8,8,8,8,8,8,8,8,8,8,8,8,8,8,8,8,8,8,8,8,8,8,8,8,8,8,8,8,8,8,8,8,8,8,8,8,8,8,8,8,8,8,8,8,8,8,8,8,8,8,8,8,8,8,8,8,8,8,8,8,8,8,8,8,8,8,8,8,8,8,8,8,8,8,8,8,8,8,8,8,8,8,8,8,8,8,8,8,8,8,8,8,8,8,8,8,8,8,8,8,8,8,8,8,8,8,8,8,8,8,8,8,8,8]⟩:ByteArray)=len8:=rfl
theorem VG:len8.size=256:=by decide+kernel
theorem afP {x:Nat} (h:x<256):Em (.string len8) (.int .u8 (x:Int))=some (.int .u8 (lenOf x:Int)):=by
 have hb:len8[x]? =some (len8[x]'(by rw [VG];exact h)):=getElem?_pos len8 x (by rw [VG];exact h)
 simp only [Em,lenOf,Int.natCast_nonneg,if_true,Int.toNat_natCast,hb,Option.map_some]
theorem VH {x:Nat}:lenOf x<256:=by
 unfold lenOf
 split
 ·exact UInt8.toNat_lt _
 ·omega
theorem VI: ∀x,x<17→x≤lenOf x+12∧(8≤x→lenOf x=if x<16 then 4 else 5):=by decide+kernel
theorem afQ {x:Bool} {n:Nat} {H:BH} {K:Value→BH→Prop} (hn:n<256) (hK:K (I (lenOf n)) H):aQ x Zt [.int .u64 (n:Int)] H K:=by
 have hl:= @VH n
 refine dR (by simp only [RH]) ?_
 refine bF aaZ ?_;simp only [iV,aI]
 refine au fun Kr hKr=>?_;simp (disch:=omega) only [RA,↓reduceIte,Nat.reduceEqDiff,RD];refine hKr _ _ ?_;clear hKr Kr;(try simp only [RN,reduceIte]);try refine ah rfl ?_
 refine au fun Kr hKr=>?_;simp (disch:=omega) only [RA,↓reduceIte,Nat.reduceEqDiff,RD];refine hKr _ _ ?_;clear hKr Kr;(try simp only [RN,reduceIte]);try refine ah rfl ?_
 refine dG (t:=false) (by simp (disch:=omega) only [RA,↓reduceIte,Nat.reduceEqDiff,RD]) ?_;(try simp only [RN,reduceIte]);try refine ah rfl ?_
 refine au fun Kr hKr=>?_;simp (disch:=omega) only [RA,↓reduceIte,Nat.reduceEqDiff,RD];refine hKr _ _ ?_;clear hKr Kr;(try simp only [RN,reduceIte]);try refine ah rfl ?_
 refine dG (t:=false) (by simp (disch:=omega) only [RA,↓reduceIte,Nat.reduceEqDiff,RD]) ?_;(try simp only [RN,reduceIte]);try refine ah rfl ?_
 refine au fun Kr hKr=>?_;simp (disch:=omega) only [RA,↓reduceIte,Nat.reduceEqDiff,RD];refine hKr _ _ ?_;clear hKr Kr;(try simp only [RN,reduceIte]);try refine ah rfl ?_
 refine dG (t:=false) (by simp (disch:=omega) only [RA,↓reduceIte,Nat.reduceEqDiff,RD]) ?_;(try simp only [RN,reduceIte]);try refine ah rfl ?_
 refine au fun Kr hKr=>?_;simp (disch:=omega) only [RA,↓reduceIte,Nat.reduceEqDiff,RD,afO,afP,Int.zero_add]
 refine hKr _ _ ?_;clear hKr Kr;(try simp only [aK,aP,aN]);(try simp only [RN,reduceIte]);try refine ah rfl ?_
 refine aS (by simp (disch:=omega) only [RA,↓reduceIte,Nat.reduceEqDiff,RD,aG,aO];rfl) aC.refl ?_;simp only [aH]
 exact ⟨NN.int,hK⟩
theorem VJ {x:Bool} {n:Nat} {H:BH} {K:Value→BH→Prop} (hn:n<256) (hK:K (I (lenOf n)) H):aQ x Zq [.int .u64 (n:Int)] H K:=by
 refine dR (by simp only [RH]) ?_
 refine bF aaX ?_;simp only [qG,aI]
 refine au fun Kr hKr=>?_;simp (disch:=omega) only [RA,↓reduceIte,Nat.reduceEqDiff,RD];refine hKr _ _ ?_;clear hKr Kr;(try simp only [RN,reduceIte]);try refine ah rfl ?_
 refine dG (t:=false) (by simp (disch:=omega) only [RA,↓reduceIte,Nat.reduceEqDiff,RD]) ?_;(try simp only [RN,reduceIte]);try refine ah rfl ?_
 refine au fun Kr hKr=>?_;simp (disch:=omega) only [RA,↓reduceIte,Nat.reduceEqDiff,RD]
 refine afQ hn ?_
 simp (disch:=omega) only [RA,↓reduceIte,Nat.reduceEqDiff,RD]
 refine hKr _ _ ?_;clear hKr Kr;(try simp only [aK,aP,aN]);(try simp only [RN,reduceIte]);try refine ah rfl ?_
 refine aS (by simp (disch:=omega) only [RA,↓reduceIte,Nat.reduceEqDiff,RD,aG,aO];rfl) aC.refl ?_;simp only [aH]
 exact ⟨NN.int,hK⟩
theorem wu64 {n:Int} (h0:0≤n) (h1:n<18446744073709551616):IntKind.u64.wrap n=n:=by
 have hb:(2:Int)^(64:Nat)=18446744073709551616:=by decide
 simp only [IntKind.wrap,IntKind.bits,IntKind.signed,hb]
 simp
 omega
theorem afR {x:Bool} {n:Nat} {H:BH} {K:Value→BH→Prop} (h8:8≤n) (hn:n≤16) (hK:K (.int .u64 (if n<16 then 16 else 32)) H):aQ x ZC [I n] H K:=by
 have hl:=(VI n (by omega)).2 h8
 refine dR (by simp only [RH]) ?_
 refine bF aa8 ?_;simp only [uy,aI]
 refine au fun Kr hKr=>?_;simp (disch:=omega) only [RA,↓reduceIte,Nat.reduceEqDiff,RD];refine hKr _ _ ?_;clear hKr Kr;(try simp only [RN,reduceIte]);try refine ah rfl ?_
 refine au fun Kr hKr=>?_;simp (disch:=omega) only [RA,↓reduceIte,Nat.reduceEqDiff,RD,wu64]
 refine VJ (by omega) ?_
 rw [hl]
 by_cases h:n<16
 ·rw [if_pos h] at hK⊢
  simp (disch:=omega) only [RA,↓reduceIte,Nat.reduceEqDiff,RD]
  refine hKr _ _ ?_;clear hKr Kr;(try simp only [aK,aP,aN]);(try simp only [RN,reduceIte]);try refine ah rfl ?_
  refine aS (by simp (disch:=omega) only [RA,↓reduceIte,Nat.reduceEqDiff,RD,aG,aO];rfl) aC.refl ?_;simp only [aH]
  exact ⟨NN.int,hK⟩
 ·rw [if_neg h] at hK⊢
  simp (disch:=omega) only [RA,↓reduceIte,Nat.reduceEqDiff,RD]
  refine hKr _ _ ?_;clear hKr Kr;(try simp only [aK,aP,aN]);(try simp only [RN,reduceIte]);try refine ah rfl ?_
  refine aS (by simp (disch:=omega) only [RA,↓reduceIte,Nat.reduceEqDiff,RD,aG,aO];rfl) aC.refl ?_;simp only [aH]
  exact ⟨NN.int,hK⟩
theorem Fb {H:BH} {b:Nat} {v:Value} {k:IntKind} {n:Int}:dP (some [v]) H b 0 1 (.int k n)=some (undef,H.set b (some [.int k n])):=rfl
theorem afS {v:Int} {K:Value→BH→Prop} (hK: ∀v':Int,K (.int .u64 v') [some [.int .u64 v']]):aQ false ZE [P 0 0] [some [.int .u64 v]] K:=by
 refine bF aa9 ?_;simp only [mX,aI]
 refine au fun Kr hKr=>?_;simp (disch:=omega) only [RA,↓reduceIte,Nat.reduceEqDiff,RD];refine hKr _ _ ?_;clear hKr Kr;(try simp only [RN,reduceIte]);try refine ah rfl ?_
 refine au fun Kr hKr=>?_;simp (disch:=omega) only [RA,↓reduceIte,Nat.reduceEqDiff,RD,yD,Fb];refine hKr _ _ ?_;clear hKr Kr;(try simp only [RN,reduceIte]);try refine ah rfl ?_
 generalize IntKind.u64.wrap _=v1
 refine au fun Kr hKr=>?_;simp (disch:=omega) only [RA,↓reduceIte,Nat.reduceEqDiff,RD,yD,Fb];refine hKr _ _ ?_;clear hKr Kr;(try simp only [RN,reduceIte]);try refine ah rfl ?_
 generalize IntKind.u64.wrap _=v2
 refine au fun Kr hKr=>?_;simp (disch:=omega) only [RA,↓reduceIte,Nat.reduceEqDiff,RD,yD,Fb];refine hKr _ _ ?_;clear hKr Kr;(try simp only [RN,reduceIte]);try refine ah rfl ?_
 generalize IntKind.u64.wrap _=v3
 refine au fun Kr hKr=>?_;simp (disch:=omega) only [RA,↓reduceIte,Nat.reduceEqDiff,RD,yD];refine hKr _ _ ?_;clear hKr Kr;(try simp only [RN,reduceIte]);try refine ah rfl ?_
 refine aS (by simp (disch:=omega) only [RA,↓reduceIte,Nat.reduceEqDiff,RD,aG,aO];rfl) aC.refl ?_;simp only [aH]
 exact hK _
theorem afT {a:Int} {m:Nat} (hm:m=16∨m=32): ∃o:Nat,IntKind.i64.wrap (IntKind.u64.wrap ((BitVec.ofInt IntKind.u64.bits a&&&BitVec.ofInt IntKind.u64.bits (IntKind.u64.wrap ((m:Int)-1))).toNat:Int))=o∧o<m:=by
 have h1:(BitVec.ofInt IntKind.u64.bits a&&&BitVec.ofInt IntKind.u64.bits (IntKind.u64.wrap ((m:Int)-1))).toNat≤m-1:=by
  rw [BitVec.toNat_and]
  refine Nat.le_trans Nat.and_le_right ?_
  rcases hm with rfl|rfl<;>decide
 refine ⟨(BitVec.ofInt IntKind.u64.bits a&&&BitVec.ofInt IntKind.u64.bits (IntKind.u64.wrap ((m:Int)-1))).toNat,?_,by omega⟩
 generalize (BitVec.ofInt IntKind.u64.bits a&&&BitVec.ofInt IntKind.u64.bits (IntKind.u64.wrap ((m:Int)-1))).toNat=x at h1
 rw [wu64 (by omega) (by omega),tq (by omega) (by omega)]
theorem afU {p:List Int} {a b:Nat} {K:Value→BH→Prop} (hpl:p.length≤1000) (hb:b≤p.length) (h8:a+8≤b) (h16:b≤a+16) (hK: ∀q,Sg a b p q→K (.tuple ⟨[]⟩) [some (q.map I)]):
  aQ false Zv [S 0 0 p.length 1,I a,I b] [some (p.map I)] K:=by
 obtain ⟨l,hl⟩: ∃l,l=b-a:=⟨_,rfl⟩
 have hbl:(b:Int)-(a:Int)=(l:Int):=by omega
 have hd:(l:Int).tdiv 4=((l/4:Nat):Int):=(Int.ofNat_tdiv l 4).symm
 obtain ⟨t,ht⟩: ∃t,t=l/4:=⟨_,rfl⟩
 rw [←ht] at hd
 have e2:(a:Int)+(t:Int)*2=((a+t*2:Nat):Int):=by omega
 have e3:((a+t*2:Nat):Int)-1=((a+t*2-1:Nat):Int):=by omega
 have e4:((a+t*2:Nat):Int)+1=((a+t*2+1:Nat):Int):=by omega
 obtain ⟨m,hm,hml⟩: ∃m:Nat,(if l<16 then (16:Int) else 32)=m∧(m=16∧l<16∨m=32∧l=16):=by
  by_cases h:l<16
  ·exact ⟨16,by rw [if_pos h];rfl, .inl ⟨rfl,h⟩⟩
  ·exact ⟨32,by rw [if_neg h];rfl, .inr ⟨rfl,by omega⟩⟩
 refine bF aa1 ?_;simp only [gZ,aI]
 refine au fun Kr hKr=>?_;simp (disch:=omega) only [RA,↓reduceIte,Nat.reduceEqDiff,RD,hbl];refine hKr _ _ ?_;clear hKr Kr;(try simp only [RN,reduceIte]);try refine ah rfl ?_
 refine au fun Kr hKr=>?_;simp (disch:=omega) only [RA,↓reduceIte,Nat.reduceEqDiff,RD];refine hKr _ _ ?_;clear hKr Kr;(try simp only [RN,reduceIte]);try refine ah rfl ?_
 refine lW (t:=true) (by simp (disch:=omega) only [RA,↓reduceIte,Nat.reduceEqDiff,RD]) ?_;(try simp only [RN,reduceIte]);try refine ah rfl ?_
 refine au fun Kr hKr=>?_;simp (disch:=omega) only [RA,↓reduceIte,Nat.reduceEqDiff,RD,wu64,Fb];refine hKr _ _ ?_;clear hKr Kr;(try simp only [RN,reduceIte]);try refine ah rfl ?_
 refine au fun Kr hKr=>?_;simp (disch:=omega) only [RA,↓reduceIte,Nat.reduceEqDiff,RD]
 refine afR (by omega) (by omega) ?_
 rw [hm]
 simp (disch:=omega) only [RA,↓reduceIte,Nat.reduceEqDiff,RD]
 refine hKr _ _ ?_;clear hKr Kr;(try simp only [aK,aP,aN]);(try simp only [RN,reduceIte]);try refine ah rfl ?_
 refine au fun Kr hKr=>?_;simp (disch:=omega) only [RA,↓reduceIte,Nat.reduceEqDiff,Int.reduceEq,RD,hd,e2,e3];refine hKr _ _ ?_;clear hKr Kr;(try simp only [RN,reduceIte]);try refine ah rfl ?_
 refine Ba ?_
 refine bU (fun n f H'=> ∃(q:List Int) (i:Nat) (v:Int),Sg a b p q∧a+t*2-1≤i∧i≤a+t*2+2∧n=a+t*2+2-i∧f 0=S 0 0 p.length 1∧f 1=I a∧f 6=I l∧f 7=P 1 0∧f 8= .int .u64 (m:Int)∧f 9=I i∧H'=[some (q.map I),some [.int .u64 v]]) (a+t*2+2-(a+t*2-1)) ?_ ?_
 ·refine ⟨_,_,Gh.refl,p,a+t*2-1,l, .refl,by omega,by omega,rfl,?_,?_,?_,?_,?_,?_,rfl⟩
  any_goals (simp (disch:=omega) only [RA,↓reduceIte,Nat.reduceEqDiff,reduceCtorEq,RD,RE, *]<;>rfl)
 ·rintro n f H' R ⟨q,i,v,hq,hi1,hi2,rfl,g0,g1,g6,g7,g8,g9,rfl⟩ hN hX hR hE
  simp only [gZ.l0,aI]
  have bW:=hq.len
  refine au fun Kr hKr=>?_;simp (disch:=omega) only [RA,↓reduceIte,Nat.reduceEqDiff,Int.reduceEq,RD,g1,g6,g9,hd,e2,e4];refine hKr _ _ ?_;clear hKr Kr;(try simp only [RN,reduceIte]);try refine ah rfl ?_
  refine aX (p:=i≤a+t*2+1) (by simp only [RA,↓reduceIte,Nat.reduceEqDiff]<;>rfl) (by (try simp only [RB])<;>first|done|exact Iff.rfl|omega|simp) (fun hc=>?_) (fun hc=>?_)<;>(try simp only [RN,reduceIte])<;>(try refine ah rfl ?_)
  ·have hnext: ∀f' (v':Int) (o:Nat),f' 0=S 0 0 p.length 1→f' 1=I a→f' 6=I l→f' 7=P 1 0→f' 8= .int .u64 (m:Int)→f' 9=I i→f' 10=I o→o<l→
     T 1 (.seq gZ.r10 gZ.r6) R f' [some (q.map I),some [.int .u64 v']]:=by
    intro f' v' o g0 g1 g6 g7 g8 g9 g10 ho
    have e5:(a:Int)+(o:Int)=((a+o:Nat):Int):=by omega
    have lQ:(q.set i (el q (a+o))).length=p.length:=by simp [bW]
    have hsw:(q.set i (el q (a+o))).set (a+o) (el q i)=swp q i (a+o):=rfl
    refine au fun Kr hKr=>?_;simp (disch:=omega) only [RA,↓reduceIte,Nat.reduceEqDiff,RD,g0,g1,g9,g10,e5,bW,lQ];refine hKr _ _ ?_;clear hKr Kr;(try simp only [RN,reduceIte]);try refine ah rfl ?_
    rw [hsw]
    refine bH fun Kr hKr=>?_;simp (disch:=omega) only [RA,↓reduceIte,Nat.reduceEqDiff,RD,g9];refine hKr _ _ ?_;clear hKr Kr
    refine hN (a+t*2+2-(i+1)) _ _ _ _ (by omega) Gh.refl ⟨swp q i (a+o),i+1,v',hq.trans (.swp (by omega) (by omega) (by omega) (by omega) (by omega)),by omega,by omega,rfl,?_,?_,?_,?_,?_,?_,rfl⟩
    any_goals (simp (disch:=omega) only [RA,↓reduceIte,Nat.reduceEqDiff,RD,RE, *]<;>rfl)
   (first|refine bP rfl ?_|refine bQ rfl ?_);(try simp only [RN,reduceIte]);try refine ah rfl ?_
   refine au fun Kr hKr=>?_;simp (disch:=omega) only [RA,↓reduceIte,Nat.reduceEqDiff,RD,g7]
   refine qR (i:=1) (cs:=[.int .u64 v]) rfl (by (simp only [RH])) ?_
   refine afS ?_
   intro v'
   refine ⟨.int, .cons (by (simp only [RH])) .nil,?_⟩
   obtain ⟨o,ho1,ho2⟩:= @afT v' m (by omega)
   simp (disch:=omega) only [RA,↓reduceIte,Nat.reduceEqDiff,RD,g8,ho1]
   refine hKr _ _ ?_;clear hKr Kr;(try simp only [aK,aP,aN]);(try simp only [RN,reduceIte]);try refine ah rfl ?_
   refine au fun Kr hKr=>?_;simp (disch:=omega) only [RA,↓reduceIte,Nat.reduceEqDiff,RD,g6];refine hKr _ _ ?_;clear hKr Kr;(try simp only [RN,reduceIte]);try refine ah rfl ?_
   refine aX (p:=l≤o) (by simp only [RA,↓reduceIte,Nat.reduceEqDiff]<;>rfl) (by (try simp only [RB])<;>first|done|exact Iff.rfl|omega|simp) (fun hc=>?_) (fun hc=>?_)<;>(try simp only [RN,reduceIte])<;>(try refine ah rfl ?_)
   ·have e6:(o:Int)-(l:Int)=((o-l:Nat):Int):=by omega
    refine au fun Kr hKr=>?_;simp (disch:=omega) only [RA,↓reduceIte,Nat.reduceEqDiff,RD,g6,e6];refine hKr _ _ ?_;clear hKr Kr;(try simp only [RN,reduceIte]);try refine ah rfl ?_
    refine hnext _ v' (o-l) ?_ ?_ ?_ ?_ ?_ ?_ ?_ (by omega)
    any_goals (simp (disch:=omega) only [RA,↓reduceIte,Nat.reduceEqDiff,RD,RE, *]<;>rfl)
   ·(try simp only [RN,reduceIte]);try refine ah rfl ?_
    refine hnext _ v' o ?_ ?_ ?_ ?_ ?_ ?_ ?_ (by omega)
    any_goals (simp (disch:=omega) only [RA,↓reduceIte,Nat.reduceEqDiff,RD,RE, *]<;>rfl)
  ·refine hX _ _ ?_
   refine vM ?_
   refine aS (by simp (disch:=omega) only [RA,↓reduceIte,Nat.reduceEqDiff,RD,aG,aO];rfl) (aC.nrm [0] rfl rfl (by simp only [RH]) (by simp only [aH,RH])) ?_;simp only [aH]
   exact hK q hq
end Go.Bm
namespace Go.Bm
open Go Go.Am
section
variable {k:Nat} {Q:Ex→Fr→BH→Prop} {f:Fr} {H:BH}
theorem Bc {a rest:aj} (P:Fr→BH→Prop) (h1: ∀R:Ex→Fr→BH→Prop,(∀f' H',P f' H'→R .normal f' H')→(∀f' H',Q .ret f' H'→R .ret f' H')→(∀i f' H',Q (.exit i) f' H'→R (.exit i) f' H')→T k a R f H) (h2: ∀f' H',P f' H'→T k rest Q f' H'):T k (.seq a rest) Q f H:=
 lV (h1 (aP k rest Q) (fun _ _ h=>h2 _ _ h) (fun _ _ h=>h) (fun _ _ _ h=>h))
end
def Od (a b a' b':Nat) (q:List Int):Prop:= ∀x y,a≤x→x<y→y<b→ ¬(a'≤x∧y<b')→el q x≤el q y
def Pre (a b:Nat) (q:List Int):Prop:=0<a→ ∀x,a≤x→x<b→el q (a-1)≤el q x
section
variable {a b a' b' m:Nat} {q r:List Int}
theorem Od.sg (h:Od a b a' b' q) (ha:a≤a') (hb:b'≤b) (k:Sg a' b' q r):Od a b a' b' r:=by
 intro x y h1 h2 h3 h4
 by_cases hx:a'≤x∧x<b'
 ·obtain ⟨x',x1,x2,x3⟩:=k.src x hx.1 hx.2
  rw [x3,k.out y (by omega)]
  exact h x' y (by omega) (by omega) h3 (by omega)
 ·rw [k.out x (by omega)]
  by_cases hy:a'≤y∧y<b'
  ·obtain ⟨y',y1,y2,y3⟩:=k.src y hy.1 hy.2
   rw [y3]
   exact h x y' h1 (by omega) (by omega) (by omega)
  ·rw [k.out y (by omega)]
   exact h x y h1 h2 h3 h4
theorem Pre.sg (h:Pre a' b' q) (k:Sg a' b' q r):Pre a' b' r:=fun h0 x h1 h2=>by
 obtain ⟨x',x1,x2,x3⟩:=k.src x h1 h2
 rw [x3,k.out (a'-1) (by omega)]
 exact h h0 x' x1 x2
theorem Od.left (h:Od a b a' b' q) (ha:a≤a') (hb:b'≤b) (h1:a'≤m) (h2:m<b') (hl: ∀x,a'≤x→x<m→el q x≤el q m) (hr: ∀x,m<x→x<b'→el q m≤el q x) (k:Sg a' m q r) (hs:nK a' m r):Od a b (m+1) b' r:=by
 intro x y k1 k2 k3 k4
 by_cases hb2:a'≤x∧y<b'
 ·have em:el r m=el q m:=k.out m (by omega)
  have hlow: ∀z,a'≤z→z<m→el r z≤el q m:=fun z z1 z2=>by
   obtain ⟨z',w1,w2,w3⟩:=k.src z z1 z2
   rw [w3]
   exact hl z' w1 w2
  have hup: ∀z,m<z→z<b'→el q m≤el r z:=fun z z1 z2=>by
   rw [k.out z (by omega)]
   exact hr z z1 z2
  rcases Nat.lt_trichotomy y m with hy|hy|hy
  ·exact hs x y hb2.1 (by omega) hy
  ·subst hy
   rw [em]
   exact hlow x hb2.1 k2
  ·have h9:=hup y hy hb2.2
   rcases Nat.lt_or_ge x m with hx|hx
   ·exact Int.le_trans (hlow x hb2.1 hx) h9
   ·obtain rfl:x=m:=by omega
    rw [em]
    exact h9
 ·exact h.sg ha hb (k.mono (by omega) (by omega)) x y k1 k2 k3 hb2
theorem Od.right (h:Od a b a' b' q) (ha:a≤a') (hb:b'≤b) (h1:a'≤m) (h2:m<b') (hl: ∀x,a'≤x→x<m→el q x≤el q m) (hr: ∀x,m<x→x<b'→el q m≤el q x) (k:Sg (m+1) b' q r) (hs:nK (m+1) b' r):Od a b a' m r:=by
 intro x y k1 k2 k3 k4
 by_cases hb2:a'≤x∧y<b'
 ·have em:el r m=el q m:=k.out m (by omega)
  have hlow: ∀z,a'≤z→z<m→el r z≤el q m:=fun z z1 z2=>by
   rw [k.out z (by omega)]
   exact hl z z1 z2
  have hup: ∀z,m<z→z<b'→el q m≤el r z:=fun z z1 z2=>by
   obtain ⟨z',w1,w2,w3⟩:=k.src z (by omega) z2
   rw [w3]
   exact hr z' (by omega) w2
  rcases Nat.lt_trichotomy x m with hx|hx|hx
  ·have h9:=hlow x hb2.1 hx
   rcases Nat.lt_or_ge m y with hy|hy
   ·exact Int.le_trans h9 (hup y hy hb2.2)
   ·obtain rfl:y=m:=by omega
    rw [em]
    exact h9
  ·subst hx
   rw [em]
   exact hup y k2 hb2.2
  ·exact hs x y (by omega) (by omega) hb2.2
 ·exact h.sg ha hb (k.mono (by omega) (by omega)) x y k1 k2 k3 hb2
theorem Od.done (h:Od a b a' b' q) (ha:a≤a') (hb:b'≤b) (hs:nK a' b' q):nK a b q:=fun x y h1 h2 h3=>by
 rcases Nat.lt_or_ge x y with hx|hx
 ·by_cases hc:a'≤x∧y<b'
  ·exact hs x y hc.1 h2 hc.2
  ·exact h x y h1 hx h3 hc
 ·obtain rfl:x=y:=by omega
  exact Int.le_refl _
end
set_option maxRecDepth 20000 in
theorem VK: ∀(N:Nat) {p:List Int} {a b lim:Nat} {K:Value→BH→Prop},p.length≤1000→b≤p.length→a≤b→b-a<N→b≤a+16→b-a≤lim+12→lim≤1000→Pre a b p→(∀q,Sg a b p q→nK a b q→K (.tuple ⟨[]⟩) [some (q.map I)])→
  aQ false Zr [S 0 0 p.length 1,I a,I b,I lim] [some (p.map I)] K
 |0,_,_,_,_,_,_,_,_,h,_,_,_,_,_=>by omega
 |N+1,p,a,b,lim,K,hpl,hb,hab,hN0,h16,hlim,hlm,hpre,hK=>by
  have ih:=fun {p:List Int} {a b lim:Nat} {K:Value→BH→Prop}=> @VK N p a b lim K
  refine bF aaY ?_;simp only [bM,aI]
  refine au fun Kr hKr=>?_;simp (disch:=omega) only [RA,↓reduceIte,Nat.reduceEqDiff,RD];refine hKr _ _ ?_;clear hKr Kr;(try simp only [RN,reduceIte]);try refine ah rfl ?_
  refine au fun Kr hKr=>?_;simp (disch:=omega) only [RA,↓reduceIte,Nat.reduceEqDiff,RD];refine hKr _ _ ?_;clear hKr Kr;(try simp only [RN,reduceIte]);try refine ah rfl ?_
  refine Ba ?_
  refine bU (fun m f H'=> ∃(q:List Int) (a' b' lim:Nat) (wb wp:Bool),Sg a b p q∧a≤a'∧a'≤b'∧b'≤b∧Od a b a' b' q∧Pre a' b' q∧b'-a'≤lim+12∧lim≤1000∧m=b'-a'∧f 0=S 0 0 p.length 1∧f 1=I a'∧f 2=I b'∧f 3=I lim∧f 8= .bool wb∧f 9= .bool wp∧H'=[some (q.map I)]) (b-a) ?_ ?_
  ·refine ⟨_,_,Gh.refl,p,a,b,lim,true,true, .refl,by omega,by omega,by omega,fun x y h1 h2 h3 h4=>absurd ⟨h1,h3⟩ h4,hpre,hlim,hlm,rfl,?_,?_,?_,?_,?_,?_,rfl⟩
   any_goals (simp (disch:=omega) only [RA,↓reduceIte,Nat.reduceEqDiff,RD,RE, *]<;>rfl)
  ·clear hlim hlm hpre
   rintro m f H' R ⟨q,a',b',lim,wb,wp,hq,h1,h2,h3,hod,hpre,hlim,hlm,rfl,g0,g1,g2,g3,g8,g9,rfl⟩ hN hX hR hE
   simp only [bM.l0,aI]
   refine ou ?_
   (try simp only [RN,reduceIte]);try refine ah rfl ?_
   obtain ⟨l,hl⟩: ∃l,l=b'-a':=⟨_,rfl⟩
   have hbl:(b':Int)-(a':Int)=(l:Int):=by omega
   have bW:=hq.len
   refine au fun Kr hKr=>?_;simp (disch:=omega) only [RA,↓reduceIte,Nat.reduceEqDiff,RD,g1,g2,hbl];refine hKr _ _ ?_;clear hKr Kr;(try simp only [RN,reduceIte]);try refine ah rfl ?_
   refine au fun Kr hKr=>?_;simp (disch:=omega) only [RA,↓reduceIte,Nat.reduceEqDiff,RD];refine hKr _ _ ?_;clear hKr Kr;(try simp only [RN,reduceIte]);try refine ah rfl ?_
   refine aX (p:=l≤12) (by simp only [RA,↓reduceIte,Nat.reduceEqDiff]<;>rfl) (by (try simp only [RB])<;>first|done|exact Iff.rfl|omega|simp) (fun hc=>?_) (fun hc=>?_)<;>(try simp only [RN,reduceIte])<;>(try refine ah rfl ?_)
   ·refine au fun Kr hKr=>?_;simp (disch:=omega) only [RA,↓reduceIte,Nat.reduceEqDiff,RD,g0,g1,g2]
    rw [←bW]
    refine afV (by omega) (by omega) h2 ?_
    intro r hr hs
    simp (disch:=omega) only [RA,↓reduceIte,Nat.reduceEqDiff,RD]
    refine hKr _ _ ?_;clear hKr Kr;(try simp only [aK,aP,aN]);(try simp only [RN,reduceIte]);try refine ah rfl ?_
    simp only [aK,aP,aN,if_true]
    refine hR _ _ ?_
    refine aS (by simp (disch:=omega) only [RA,↓reduceIte,Nat.reduceEqDiff,RD,aG,aO];rfl) aC.refl ?_;simp only [aH]
    exact hK r (hq.trans (hr.mono h1 h3)) ((hod.sg h1 h3 hr).done h1 h3 hs)
   refine au fun Kr hKr=>?_;simp (disch:=omega) only [RA,↓reduceIte,Nat.reduceEqDiff,RD,g3];refine hKr _ _ ?_;clear hKr Kr;(try simp only [RN,reduceIte]);try refine ah rfl ?_
   refine dG (t:=false) (by simp (disch:=omega) only [RA,↓reduceIte,Nat.reduceEqDiff,RD]) ?_;(try simp only [RN,reduceIte]);try refine ah rfl ?_
   refine au fun Kr hKr=>?_;simp (disch:=omega) only [RA,↓reduceIte,Nat.reduceEqDiff,RD,g8];refine hKr _ _ ?_;clear hKr Kr;(try simp only [RN,reduceIte]);try refine ah rfl ?_
   refine Bc (fun f H'=> ∃(q:List Int) (lim':Nat),Sg a b p q∧Od a b a' b' q∧Pre a' b' q∧l≤lim'+13∧lim'≤1000∧f 0=S 0 0 p.length 1∧f 1=I a'∧f 2=I b'∧f 3=I lim'∧f 8= .bool wb∧f 9= .bool wp∧f 10=I l∧H'=[some (q.map I)]) ?_ ?_
   ·intro R1 hR1 hR2 xU
    cases wb
    ·refine lW (t:=true) (by simp (disch:=omega) only [RA,↓reduceIte,Nat.reduceEqDiff,RD]) ?_;(try simp only [RN,reduceIte]);try refine ah rfl ?_
     refine au fun Kr hKr=>?_;simp (disch:=omega) only [RA,↓reduceIte,Nat.reduceEqDiff,RD,g0,g1,g2]
     rw [←bW]
     refine afU (by omega) (by omega) (by omega) (by omega) ?_
     intro r hr
     simp (disch:=omega) only [RA,↓reduceIte,Nat.reduceEqDiff,RD]
     refine hKr _ _ ?_;clear hKr Kr;(try simp only [aK,aP,aN]);(try simp only [RN,reduceIte]);try refine ah rfl ?_
     have hl1:(lim:Int)-1=((lim-1:Nat):Int):=by omega
     have hrl:=hr.len
     refine bH fun Kr hKr=>?_;simp (disch:=omega) only [RA,↓reduceIte,Nat.reduceEqDiff,RD,g3,hl1];refine hKr _ _ ?_;clear hKr Kr
     refine hR1 _ _ ⟨r,lim-1,hq.trans (hr.mono h1 h3),hod.sg h1 h3 hr,hpre.sg hr,by omega,by omega,?_,?_,?_,?_,?_,?_,?_,rfl⟩
     any_goals (simp (disch:=omega) only [RA,↓reduceIte,Nat.reduceEqDiff,RD,RE, *]<;>rfl)
    ·refine lW (t:=false) (by simp (disch:=omega) only [RA,↓reduceIte,Nat.reduceEqDiff,RD]) ?_;(try simp only [RN,reduceIte]);try refine ah rfl ?_
     refine hR1 _ _ ⟨q,lim,hq,hod,hpre,by omega,by omega,?_,?_,?_,?_,?_,?_,?_,rfl⟩
     any_goals (simp (disch:=omega) only [RA,↓reduceIte,Nat.reduceEqDiff,RD,RE, *]<;>rfl)
   clear hq bW hod hpre g0 g1 g2 g3 g8 g9 hlim hlm lim q
   rintro f H' ⟨q,lim,hq,hod,hpre,hlim,hlm,g0,g1,g2,g3,g8,g9,g10,rfl⟩
   have bW:=hq.len
   (try simp only [RN,reduceIte]);try refine ah rfl ?_
   refine au fun Kr hKr=>?_;simp (disch:=omega) only [RA,↓reduceIte,Nat.reduceEqDiff,RD,g0,g1,g2]
   rw [←bW]
   refine afW (by omega) (by omega) (by omega) (by omega) ?_
   intro piv h hp1 hp2
   simp (disch:=omega) only [RA,↓reduceIte,Nat.reduceEqDiff,RD]
   refine hKr _ _ ?_;clear hKr Kr;(try simp only [aK,aP,aN]);(try simp only [RN,reduceIte]);try refine ah rfl ?_
   refine au fun Kr hKr=>?_;simp (disch:=omega) only [RA,↓reduceIte,Nat.reduceEqDiff,RD];refine hKr _ _ ?_;clear hKr Kr;(try simp only [RN,reduceIte]);try refine ah rfl ?_
   refine Bc (fun f H'=> ∃(q:List Int) (piv:Nat) (h:Int),a'≤piv∧piv<b'∧Sg a b p q∧Od a b a' b' q∧Pre a' b' q∧f 0=S 0 0 p.length 1∧f 1=I a'∧f 2=I b'∧f 3=I lim∧f 8= .bool wb∧f 9= .bool wp∧f 10=I l∧f 11=I piv∧f 12=I h∧H'=[some (q.map I)]) ?_ ?_
   ·intro R1 hR1 hR2 xU
    refine qN (p:=h=2) (by simp only [RA,↓reduceIte,Nat.reduceEqDiff]<;>rfl) (by (try simp only [RB])<;>first|done|exact Iff.rfl|omega|simp) (fun hc=>?_) (fun hc=>?_)<;>(try simp only [RN,reduceIte])<;>(try refine ah rfl ?_)
    ·refine au fun Kr hKr=>?_;simp (disch:=omega) only [RA,↓reduceIte,Nat.reduceEqDiff,RD,g0,g1,g2]
     rw [←bW]
     refine afX (by omega) (by omega) (by omega) ?_
     intro r hr
     simp (disch:=omega) only [RA,↓reduceIte,Nat.reduceEqDiff,RD]
     refine hKr _ _ ?_;clear hKr Kr;(try simp only [aK,aP,aN]);(try simp only [RN,reduceIte]);try refine ah rfl ?_
     have hpv:(b':Int)-1-((piv:Int)-(a':Int))=((b'-1-(piv-a'):Nat):Int):=by omega
     have hrl:=hr.len
     refine au fun Kr hKr=>?_;simp (disch:=omega) only [RA,↓reduceIte,Nat.reduceEqDiff,RD,g1,g2,hpv];refine hKr _ _ ?_;clear hKr Kr;(try simp only [RN,reduceIte]);try refine ah rfl ?_
     refine bH fun Kr hKr=>?_;simp (disch:=omega) only [RA,↓reduceIte,Nat.reduceEqDiff,RD];refine hKr _ _ ?_;clear hKr Kr
     refine hR1 _ _ ⟨r,b'-1-(piv-a'),1,by omega,by omega,hq.trans (hr.mono h1 h3),hod.sg h1 h3 hr,hpre.sg hr,?_,?_,?_,?_,?_,?_,?_,?_,?_,rfl⟩
     any_goals (simp (disch:=omega) only [RA,↓reduceIte,Nat.reduceEqDiff,RD,RE, *]<;>rfl)
    ·refine hR1 _ _ ⟨q,piv,h,hp1,hp2,hq,hod,hpre,?_,?_,?_,?_,?_,?_,?_,?_,?_,rfl⟩
     any_goals (simp (disch:=omega) only [RA,↓reduceIte,Nat.reduceEqDiff,RD,RE, *]<;>rfl)
   clear hq bW hod hpre g0 g1 g2 g3 g8 g9 g10 hp1 hp2 piv h q
   rintro f H' ⟨q,piv,h,hp1,hp2,hq,hod,hpre,g0,g1,g2,g3,g8,g9,g10,g11,g12,rfl⟩
   have bW:=hq.len
   (try simp only [RN,reduceIte]);try refine ah rfl ?_
   have hpart: ∀f',f' 0=S 0 0 p.length 1→f' 1=I a'→f' 2=I b'→f' 3=I lim→f' 9= .bool wp→f' 10=I l→f' 11=I piv→f' 8= .bool wb→
     ∀R1:Ex→Fr→BH→Prop,(∀f' H',(f' 0=S 0 0 p.length 1∧f' 1=I a'∧f' 2=I b'∧f' 3=I lim∧f' 8= .bool wb∧f' 9= .bool wp∧f' 10=I l∧f' 11=I piv∧H'=[some (q.map I)])→R1 .normal f' H')→(∀f' H',pU 1 [] K .ret f' H'→R1 .ret f' H')→
     T 1 (.seq bM.r16 (.cond (.t 72) .ret .skip)) R1 f' [some (q.map I)]:=by
    intro f' g0 g1 g2 g3 g9 g10 g11 g8 R1 hR1 hR2
    refine au fun Kr hKr=>?_;simp (disch:=omega) only [RA,↓reduceIte,Nat.reduceEqDiff,RD,g0,g1,g2]
    rw [←bW]
    refine afY (by omega) (by omega) (by omega) (by omega) ?_
    intro r hr
    simp (disch:=omega) only [RA,↓reduceIte,Nat.reduceEqDiff,RD]
    refine hKr _ _ ?_;clear hKr Kr;(try simp only [aK,aP,aN]);(try simp only [RN,reduceIte]);try refine ah rfl ?_
    cases r
    ·refine lW (t:=false) (by simp (disch:=omega) only [RA,↓reduceIte,Nat.reduceEqDiff,RD]) ?_;(try simp only [RN,reduceIte]);try refine ah rfl ?_
     refine hR1 _ _ ⟨?_,?_,?_,?_,?_,?_,?_,?_,rfl⟩
     any_goals (simp (disch:=omega) only [RA,↓reduceIte,Nat.reduceEqDiff,RD,RE, *]<;>rfl)
    ·refine lW (t:=true) (by simp (disch:=omega) only [RA,↓reduceIte,Nat.reduceEqDiff,RD]) ?_;(try simp only [RN,reduceIte]);try refine ah rfl ?_
     refine hR2 _ _ ?_
     refine aS (by simp (disch:=omega) only [RA,↓reduceIte,Nat.reduceEqDiff,RD,aG,aO];rfl) aC.refl ?_;simp only [aH]
     exact hK q hq (hod.done h1 h3 (hr rfl))
   have VN: ∀f' (t:Bool),f' 0=S 0 0 p.length 1→f' 1=I a'→f' 2=I b'→f' 3=I lim→f' 9= .bool wp→f' 10=I l→f' 11=I piv→f' 8= .bool wb→f' 68= .bool t→
     ∀R1:Ex→Fr→BH→Prop,(∀f' H',(f' 0=S 0 0 p.length 1∧f' 1=I a'∧f' 2=I b'∧f' 3=I lim∧f' 8= .bool wb∧f' 9= .bool wp∧f' 10=I l∧f' 11=I piv∧H'=[some (q.map I)])→R1 .normal f' H')→(∀f' H',pU 1 [] K .ret f' H'→R1 .ret f' H')→
     T 1 (.cond (.t 68) (.seq bM.r16 (.cond (.t 72) .ret .skip)) .skip) R1 f' [some (q.map I)]:=by
    intro f' t g0 g1 g2 g3 g9 g10 g11 g8 Bd R1 hR1 hR2
    cases t
    ·refine lW (t:=false) (by simp (disch:=omega) only [RA,↓reduceIte,Nat.reduceEqDiff,RD,Bd]) ?_;(try simp only [RN,reduceIte]);try refine ah rfl ?_
     exact hR1 _ _ ⟨g0,g1,g2,g3,g8,g9,g10,g11,rfl⟩
    ·refine lW (t:=true) Bd ?_
     exact hpart _ g0 g1 g2 g3 g9 g10 g11 g8 R1 hR1 hR2
   refine Bc (fun f H'=> ∃t:Bool,f 0=S 0 0 p.length 1∧f 1=I a'∧f 2=I b'∧f 3=I lim∧f 8= .bool wb∧f 9= .bool wp∧f 10=I l∧f 11=I piv∧f 68= .bool t∧H'=[some (q.map I)]) ?_ ?_
   ·intro R1 hR1 hR2 xU
    cases wb
    ·refine bH fun Kr hKr=>?_;simp (disch:=omega) only [RA,↓reduceIte,Nat.reduceEqDiff,RD,g8];refine hKr _ _ ?_;clear hKr Kr
     refine hR1 _ _ ⟨false,?_,?_,?_,?_,?_,?_,?_,?_,?_,rfl⟩
     any_goals (simp (disch:=omega) only [RA,↓reduceIte,Nat.reduceEqDiff,RD,RE, *]<;>rfl)
    ·cases wp
     ·refine bH fun Kr hKr=>?_;simp (disch:=omega) only [RA,↓reduceIte,Nat.reduceEqDiff,RD,g8,g9];refine hKr _ _ ?_;clear hKr Kr
      refine hR1 _ _ ⟨false,?_,?_,?_,?_,?_,?_,?_,?_,?_,rfl⟩
      any_goals (simp (disch:=omega) only [RA,↓reduceIte,Nat.reduceEqDiff,RD,RE, *]<;>rfl)
     ·refine bH fun Kr hKr=>?_;simp (disch:=omega) only [RA,↓reduceIte,Nat.reduceEqDiff,RD,g8,g9,g12];refine hKr _ _ ?_;clear hKr Kr
      refine hR1 _ _ ⟨decide (h=1),?_,?_,?_,?_,?_,?_,?_,?_,?_,rfl⟩
      any_goals (simp (disch:=omega) only [RA,↓reduceIte,Nat.reduceEqDiff,RD,RE, *]<;>rfl)
   clear g0 g1 g2 g3 g8 g9 g10 g11 g12
   rintro f H' ⟨t,g0,g1,g2,g3,g8,g9,g10,g11,Bd,rfl⟩
   refine Bc (fun f H'=>f 0=S 0 0 p.length 1∧f 1=I a'∧f 2=I b'∧f 3=I lim∧f 8= .bool wb∧f 9= .bool wp∧f 10=I l∧f 11=I piv∧H'=[some (q.map I)]) ?_ ?_
   ·intro R1 hR1 hR2 xU
    exact VN f t g0 g1 g2 g3 g9 g10 g11 g8 Bd R1 hR1 (fun f' H' h=>hR2 _ _ (hR _ _ h))
   clear hpart VN g0 g1 g2 g3 g8 g9 g10 g11 Bd
   rintro f H' ⟨g0,g1,g2,g3,g8,g9,g10,g11,rfl⟩
   (try simp only [RN,reduceIte]);try refine ah rfl ?_
   refine Bc (fun f H'=> ∃t:Bool,(t=true→0<a'∧el q piv≤el q (a'-1))∧f 0=S 0 0 p.length 1∧f 1=I a'∧f 2=I b'∧f 3=I lim∧f 8= .bool wb∧f 9= .bool wp∧f 10=I l∧f 11=I piv∧f 87= .bool t∧H'=[some (q.map I)]) ?_ ?_
   ·intro R1 hR1 hR2 xU
    by_cases ha0:0<a'
    ·have hai:(a':Int)-1=((a'-1:Nat):Int):=by omega
     refine bH fun Kr hKr=>?_;simp (disch:=omega) only [RA,↓reduceIte,Nat.reduceEqDiff,RD,g0,g1,g11,ha0,hai,bW]
     refine rH ?_
     simp (disch:=omega) only [RA,↓reduceIte,Nat.reduceEqDiff,RD]
     refine hKr _ _ ?_
     refine hR1 _ _ ⟨!decide (el q (a'-1)<el q piv),fun h=>⟨ha0,by simpa using h⟩,?_,?_,?_,?_,?_,?_,?_,?_,?_,rfl⟩
     any_goals (simp (disch:=omega) only [RA,↓reduceIte,Nat.reduceEqDiff,RD,RE, *]<;>rfl)
    ·refine bH fun Kr hKr=>?_;simp (disch:=omega) only [RA,↓reduceIte,Nat.reduceEqDiff,RD,g1,ha0];refine hKr _ _ ?_;clear hKr Kr
     refine hR1 _ _ ⟨false,fun h=>(by cases h),?_,?_,?_,?_,?_,?_,?_,?_,?_,rfl⟩
     any_goals (simp (disch:=omega) only [RA,↓reduceIte,Nat.reduceEqDiff,RD,RE, *]<;>rfl)
   clear g0 g1 g2 g3 g8 g9 g10 g11
   rintro f H' ⟨t,ht,g0,g1,g2,g3,g8,g9,g10,g11,yE,rfl⟩
   by_cases htt:t=true
   ·subst htt
    obtain ⟨ha0,hle⟩:=ht rfl
    refine dG (t:=true) (by simp (disch:=omega) only [RA,↓reduceIte,Nat.reduceEqDiff,RD,yE]) ?_;(try simp only [RN,reduceIte]);try refine ah rfl ?_
    refine au fun Kr hKr=>?_;simp (disch:=omega) only [RA,↓reduceIte,Nat.reduceEqDiff,RD,g0,g1,g2,g11]
    rw [←bW]
    refine afZ (by omega) (by omega) hp1 hp2 (fun x x1 x2=>Int.le_trans hle (hpre ha0 x x1 x2)) ?_
    intro r mid hr hm1 hm2 Bf hm4
    have hrl:=hr.len
    simp (disch:=omega) only [RA,↓reduceIte,Nat.reduceEqDiff,RD]
    refine hKr _ _ ?_;clear hKr Kr;(try simp only [aK,aP,aN]);(try simp only [RN,reduceIte]);try refine ah rfl ?_
    refine au fun Kr hKr=>?_;simp (disch:=omega) only [RA,↓reduceIte,Nat.reduceEqDiff,RD];refine hKr _ _ ?_;clear hKr Kr;(try simp only [RN,reduceIte]);try refine ah rfl ?_
    refine hN (b'-mid) _ _ _ _ (by omega) Gh.refl ⟨r,mid,b',lim,wb,wp,hq.trans (hr.mono h1 h3),by omega,by omega,h3,?_,fun _ x x1 x2=>(by rw [Bf (mid-1) (by omega) (by omega)];exact hm4 x (by omega) x2),by omega,hlm,rfl,?_,?_,?_,?_,?_,?_,rfl⟩
    any_goals (simp (disch:=omega) only [RA,↓reduceIte,Nat.reduceEqDiff,RD,RE, *]<;>rfl)
    ·intro x y k1 k2 k3 k4
     by_cases hb2:a'≤x∧y<b'
     ·rw [Bf x hb2.1 (by omega)]
      exact hm4 y (by omega) hb2.2
     ·exact hod.sg h1 h3 hr x y k1 k2 k3 hb2
   ·have:t=false:=by simpa using htt
    subst this
    refine dG (t:=false) (by simp (disch:=omega) only [RA,↓reduceIte,Nat.reduceEqDiff,RD,yE]) ?_;(try simp only [RN,reduceIte]);try refine ah rfl ?_
    refine au fun Kr hKr=>?_;simp (disch:=omega) only [RA,↓reduceIte,Nat.reduceEqDiff,RD,g0,g1,g2,g11]
    rw [←bW]
    refine af0 (by omega) (by omega) hp1 hp2 ?_
    intro r mid al hr hm1 hm2 Bf hm4
    have hrl:=hr.len
    have VO:=hod.sg h1 h3 hr
    have hpre':=hpre.sg hr
    have e1:(mid:Int)-(a':Int)=((mid-a':Nat):Int):=by omega
    have e2:(b':Int)-(mid:Int)=((b'-mid:Nat):Int):=by omega
    have e3:(l:Int).tdiv 8=((l/8:Nat):Int):=(Int.ofNat_tdiv l 8).symm
    have e4:(mid:Int)+1=((mid+1:Nat):Int):=by omega
    have hdiv:l/8≤16:=by omega
    simp (disch:=omega) only [RA,↓reduceIte,Nat.reduceEqDiff,RD]
    refine hKr _ _ ?_;clear hKr Kr;(try simp only [aK,aP,aN]);(try simp only [RN,reduceIte]);try refine ah rfl ?_
    refine au fun Kr hKr=>?_;simp (disch:=omega) only [RA,↓reduceIte,Nat.reduceEqDiff,RD];refine hKr _ _ ?_;clear hKr Kr;(try simp only [RN,reduceIte]);try refine ah rfl ?_
    refine au fun Kr hKr=>?_;simp (disch:=omega) only [RA,↓reduceIte,Nat.reduceEqDiff,RD,g1,g2,e1,e2];refine hKr _ _ ?_;clear hKr Kr;(try simp only [RN,reduceIte]);try refine ah rfl ?_
    refine au fun Kr hKr=>?_;simp (disch:=omega) only [RA,↓reduceIte,Nat.reduceEqDiff,Int.reduceEq,RD,g10,e3];refine hKr _ _ ?_;clear hKr Kr;(try simp only [RN,reduceIte]);try refine ah rfl ?_
    refine au fun Kr hKr=>?_;simp (disch:=omega) only [RA,↓reduceIte,Nat.reduceEqDiff,RD];refine hKr _ _ ?_;clear hKr Kr;(try simp only [RN,reduceIte]);try refine ah rfl ?_
    refine qN (p:=mid-a'<b'-mid) (by simp only [RA,↓reduceIte,Nat.reduceEqDiff]<;>rfl) (by (try simp only [RB])<;>first|done|exact Iff.rfl|omega|simp) (fun hc=>?_) (fun hc=>?_)<;>(try simp only [RN,reduceIte])<;>(try refine ah rfl ?_)
    ·refine au fun Kr hKr=>?_;simp (disch:=omega) only [RA,↓reduceIte,Nat.reduceEqDiff,RD];refine hKr _ _ ?_;clear hKr Kr;(try simp only [RN,reduceIte]);try refine ah rfl ?_
     refine au fun Kr hKr=>?_;simp (disch:=omega) only [RA,↓reduceIte,Nat.reduceEqDiff,RD,g0,g1,g3]
     rw [←bW,←hrl]
     refine ih (by omega) (by omega) hm1 (by omega) (by omega) (by omega) hlm (fun h0 x x1 x2=>hpre' h0 x x1 (by omega)) ?_
     intro r2 hr2 hs2
     have af2:=hr2.len
     simp (disch:=omega) only [RA,↓reduceIte,Nat.reduceEqDiff,RD]
     refine hKr _ _ ?_;clear hKr Kr;(try simp only [aK,aP,aN]);(try simp only [RN,reduceIte]);try refine ah rfl ?_
     refine bH fun Kr hKr=>?_;simp (disch:=omega) only [RA,↓reduceIte,Nat.reduceEqDiff,RD,e4];refine hKr _ _ ?_;clear hKr Kr
     refine hN (b'-(mid+1)) _ _ _ _ (by omega) Gh.refl ⟨r2,mid+1,b',lim,decide (l/8≤mid-a'),al,(hq.trans (hr.mono h1 h3)).trans (hr2.mono h1 (by omega)),by omega,by omega,h3,VO.left h1 h3 hm1 hm2 Bf hm4 hr2 hs2,fun _ x x1 x2=>?_,by omega,hlm,rfl,?_,?_,?_,?_,?_,?_,rfl⟩
     any_goals (simp (disch:=omega) only [RA,↓reduceIte,Nat.reduceEqDiff,RD,RE, *]<;>rfl)
     rw [Nat.add_sub_cancel,hr2.out mid (by omega),hr2.out x (by omega)]
     exact hm4 x (by omega) x2
    ·refine au fun Kr hKr=>?_;simp (disch:=omega) only [RA,↓reduceIte,Nat.reduceEqDiff,RD];refine hKr _ _ ?_;clear hKr Kr;(try simp only [RN,reduceIte]);try refine ah rfl ?_
     refine au fun Kr hKr=>?_;simp (disch:=omega) only [RA,↓reduceIte,Nat.reduceEqDiff,RD,g0,g2,g3,e4]
     rw [←bW,←hrl]
     refine ih (by omega) (by omega) (by omega) (by omega) (by omega) (by omega) hlm (fun _ x x1 x2=>by rw [Nat.add_sub_cancel];exact hm4 x (by omega) x2) ?_
     intro r2 hr2 hs2
     have af2:=hr2.len
     simp (disch:=omega) only [RA,↓reduceIte,Nat.reduceEqDiff,RD]
     refine hKr _ _ ?_;clear hKr Kr;(try simp only [aK,aP,aN]);(try simp only [RN,reduceIte]);try refine ah rfl ?_
     refine bH fun Kr hKr=>?_;simp (disch:=omega) only [RA,↓reduceIte,Nat.reduceEqDiff,RD];refine hKr _ _ ?_;clear hKr Kr
     refine hN (mid-a') _ _ _ _ (by omega) Gh.refl ⟨r2,a',mid,lim,decide (l/8≤b'-mid),al,(hq.trans (hr.mono h1 h3)).trans (hr2.mono (by omega) h3),by omega,by omega,by omega,VO.right h1 h3 hm1 hm2 Bf hm4 hr2 hs2,fun h0 x x1 x2=>?_,by omega,hlm,rfl,?_,?_,?_,?_,?_,?_,rfl⟩
     any_goals (simp (disch:=omega) only [RA,↓reduceIte,Nat.reduceEqDiff,RD,RE, *]<;>rfl)
     rw [hr2.out (a'-1) (by omega),hr2.out x (by omega)]
     exact hpre' h0 x x1 (by omega)
theorem af4 {p:List Int} {K:Value→BH→Prop} (hpl:p.length≤16) (hK: ∀q:List Int,q.Perm p→nK 0 p.length q→K (.tuple ⟨[]⟩) [some (q.map I)]):
  aQ false Zn [S 0 0 p.length 1] [some (p.map I)] K:=by
 have hle:=(VI p.length (by omega)).1
 have hlt:= @VH p.length
 refine bF aaV ?_;simp only [uq,aI]
 refine au fun Kr hKr=>?_;simp (disch:=omega) only [RA,↓reduceIte,Nat.reduceEqDiff,RD];refine hKr _ _ ?_;clear hKr Kr;(try simp only [RN,reduceIte]);try refine ah rfl ?_
 refine bH fun Kr hKr=>?_;simp (disch:=omega) only [RA,↓reduceIte,Nat.reduceEqDiff,RD,wu64]
 refine VJ (by omega) ?_
 simp (disch:=omega) only [RA,↓reduceIte,Nat.reduceEqDiff,RD]
 refine VK (p.length+1) (a:=0) (b:=p.length) (lim:=lenOf p.length) (by omega) (Nat.le_refl _) (Nat.zero_le _) (by omega) (by omega) (by omega) (by omega) (fun h=>by omega) ?_
 intro q hq hs
 simp (disch:=omega) only [RA,↓reduceIte,Nat.reduceEqDiff,RD]
 refine hKr _ _ ?_;clear hKr Kr
 refine aS (by simp (disch:=omega) only [RA,↓reduceIte,Nat.reduceEqDiff,RD,aG,aO];rfl) aC.refl ?_;simp only [aH]
 exact hK q hq.perm hs
end Go.Bm
namespace Go.Bm
open Go Go.Am
abbrev fJ (n:Nat):Value:= .int .i64 (n:Int)
theorem Jt {p:List Nat} {k:Nat} (h:k<p.length):aY none (p.map fJ) k=some (fJ (nl p k)):=by
 simp [aY,h,nl,List.getD]
theorem Bg {H:BH} {b bytes cn:Nat} {xs:List Nat} {y:Nat} (h:(xs.length+1)*bytes≤140737488355328):app1 (some [.int .i64 (y:Int)]) (some (xs.map fJ)) H b xs.length bytes cn=some (S H.length 0 (xs.length+1) 1,(H.set b none)++[some ((xs++[y]).map fJ)]):=Aq (g:=fJ) rfl h
theorem Bh {l:List Nat}:aW (l.map N8):=aW.map fun _=> .int
end Go.Bm
namespace Go.Bm
open Go Go.Am
def pF (xs:List Nat):List Int:=xs.map fun n:Nat=>(n:Int)
theorem VP {xs:List Nat}:xs.map fJ=(pF xs).map I:=by simp [pF,Function.comp_def]
theorem VQ {xs:List Nat}:(pF xs).length=xs.length:=by simp [pF]
theorem VT {xs:List Nat} {i:Nat}:el (pF xs) i=(nl xs i:Int):=by
 simp only [el,pF,nl,List.getD,List.getElem?_map]
 cases xs[i]? <;>rfl
def pG (p:List Int):Prop:= ∀i j,i≤j→j<p.length→el p j≤el p i
theorem pG.tail {a:Int} {p:List Int} (h:pG (a::p)):pG p:=fun i j h1 h2=>by
 have:=h (i+1) (j+1) (by omega) (by simp;omega)
 simpa [el,List.getD] using this
theorem pG.head {a:Int} {p:List Int} (h:pG (a::p)): ∀x∈p,x≤a:=fun x hx=>by
 obtain ⟨i,hi,rfl⟩:=List.mem_iff_getElem.1 hx
 have:=h 0 (i+1) (by omega) (by simpa using hi)
 simpa [el,List.getD,hi] using this
theorem pG.uniq: ∀{p q:List Int},pG p→pG q→p.Perm q→p=q
 |[],q,_,_,h=>(List.nil_perm.1 h).symm
 |a::p,[],_,_,h=>by simp at h
 |a::p,b::q,hp,hq,h=>by
  have hab:a=b:=by
   have h1:a∈b::q:=h.subset (by simp)
   have h2:b∈a::p:=h.symm.subset (by simp)
   have h3:a≤b:=by
    rcases List.mem_cons.1 h1 with e|e
    ·omega
    ·exact hq.head a e
   have h4:b≤a:=by
    rcases List.mem_cons.1 h2 with e|e
    ·omega
    ·exact hp.head b e
   omega
  subst hab
  rw [pG.uniq hp.tail hq.tail (List.Perm.cons_inv h)]
theorem VU {p:List Int} {i:Nat} (hi:i<p.length):el p.reverse i=el p (p.length-1-i):=by
 simp only [el,List.getD]
 rw [List.getElem?_reverse (by omega)]
theorem af5 {p r:List Int} {K:Value→BH→Prop} (hpl:p.length≤16) (hr:pG r) (hp:r.Perm p) (hK:K (S 0 0 p.length 1) [some (r.map I)]):
  aQ false Zg [S 0 0 p.length 1] [some (p.map I)] K:=by
 refine bF aaL ?_;simp only [oJ,aI]
 refine au fun Kr hKr=>?_;simp (disch:=omega) only [RA,↓reduceIte,Nat.reduceEqDiff,RD];refine hKr _ _ ?_;clear hKr Kr;(try simp only [RN,reduceIte]);try refine ah rfl ?_
 refine au fun Kr hKr=>?_;simp (disch:=omega) only [RA,↓reduceIte,Nat.reduceEqDiff,RD]
 refine af4 hpl ?_
 intro q hq hs
 have bW:q.length=p.length:=hq.length_eq
 simp (disch:=omega) only [RA,↓reduceIte,Nat.reduceEqDiff,RD]
 refine hKr _ _ ?_;clear hKr Kr;(try simp only [aK,aP,aN]);(try simp only [RN,reduceIte]);try refine ah rfl ?_
 refine au fun Kr hKr=>?_;simp (disch:=omega) only [RA,↓reduceIte,Nat.reduceEqDiff,RD]
 rw [←bW]
 refine af6 (by omega) ?_
 have e:q.reverse=r:=by
  refine pG.uniq (fun i j h1 h2=>?_) hr ((List.reverse_perm q).trans (hq.trans hp.symm))
  simp only [List.length_reverse] at h2
  rw [VU h2,VU (by omega)]
  exact hs _ _ (Nat.zero_le _) (by omega) (by omega)
 rw [e]
 simp (disch:=omega) only [RA,↓reduceIte,Nat.reduceEqDiff,RD]
 refine hKr _ _ ?_;clear hKr Kr;(try simp only [aK,aP,aN]);(try simp only [RN,reduceIte]);try refine ah rfl ?_
 refine au fun Kr hKr=>?_;simp (disch:=omega) only [RA,↓reduceIte,Nat.reduceEqDiff,RD];refine hKr _ _ ?_;clear hKr Kr;(try simp only [RN,reduceIte]);try refine ah rfl ?_
 refine aS (by simp (disch:=omega) only [RA,↓reduceIte,Nat.reduceEqDiff,RD,aG,aO];rfl) aC.refl ?_;simp only [aH]
 rw [bW]
 exact hK
end Go.Bm
namespace Go.Bm
open Go Go.Am
def kP (zs:List Nat):Nat→List Nat
 |0=>List.replicate 17 0
 |i+1=>(kP zs i).set (nl zs i) (nl (kP zs i) (nl zs i)+1)
theorem Bj {zs:List Nat} {i:Nat}:(kP zs i).length=17:=by
 induction i with
 |zero=>simp [kP]
 |succ i ih=>simp [kP,ih]
theorem VW {zs:List Nat} {i:Nat} (h:i<zs.length):zs.take (i+1)=zs.take i++[nl zs i]:=by
 rw [List.take_add_one]
 simp [nl,List.getD,h]
theorem Bl {zs:List Nat} {i v:Nat} (hi:i≤zs.length) (hv:v<17):nl (kP zs i) v=(zs.take i).count v:=by
 induction i with
 |zero=>simp only [kP,qw];split<;>simp
 |succ i ih=>
  rw [VW (by omega),List.count_append,kP,jI,ih (by omega)]
  by_cases h:v=nl zs i
  ·subst h
   rw [if_pos ⟨rfl,by rw [Bj];exact hv⟩,ih (by omega)]
   simp
  ·rw [if_neg (fun e=>h e.1)]
   have:([nl zs i]:List Nat).count v=0:=by
    rw [List.count_cons,List.count_nil]
    simp [show (nl zs i==v)=false by simpa using fun e=>h e.symm]
   omega
def iH (cn:List Nat) (n:Nat):Nat→List Nat
 |0=>[]
 |k+1=>iH cn n k++List.replicate (nl cn (n-k)) (n-k)
def sO (zs:List Nat) (n:Nat):List Nat:=iH (kP zs zs.length) n n
theorem VX {cn:List Nat} {n v:Nat}: ∀{k:Nat},k≤n→(iH cn n k).count v=if n-k<v∧v≤n then nl cn v else 0
 |0,_=>by
  rw [if_neg (by omega)]
  rfl
 |k+1,hk=>by
  rw [iH,List.count_append,VX (by omega),List.count_replicate]
  by_cases h:n-k=v
  ·subst h
   rw [if_neg (by omega),if_pos (by simp),if_pos (by omega)]
   omega
  ·have e:((n-k)==v)=false:=by simpa using h
   rw [e]
   simp only [Bool.false_eq_true,if_false,Nat.add_zero]
   by_cases h2:n-k<v∧v≤n
   ·rw [if_pos h2,if_pos (by omega)]
   ·rw [if_neg h2,if_neg (by omega)]
theorem VY {cn:List Nat} {n:Nat}: ∀{k:Nat},k≤n→ ∀z∈iH cn n k,n+1-k≤z
 |0,_,z,hz=>by simp [iH] at hz
 |k+1,hk,z,hz=>by
  simp only [iH,List.mem_append,List.mem_replicate] at hz
  rcases hz with hz|⟨_,rfl⟩
  ·have:=VY (k:=k) (by omega) z hz
   omega
  ·omega
theorem V3 {cn:List Nat} {n:Nat}: ∀{k:Nat},k≤n→ ∀i j,i≤j→j<(iH cn n k).length→nl (iH cn n k) j≤nl (iH cn n k) i
 |0,_,i,j,_,h=>by simp [iH] at h
 |k+1,hk,i,j,h1,h2=>by
  have ih:=V3 (cn:=cn) (n:=n) (k:=k) (by omega)
  simp only [iH,List.length_append,List.length_replicate] at h2⊢
  simp only [oW]
  by_cases hj:j<(iH cn n k).length
  ·rw [if_pos hj,if_pos (by omega)]
   exact ih i j h1 hj
  ·rw [if_neg hj,qw,if_pos (by omega)]
   by_cases hi:i<(iH cn n k).length
   ·rw [if_pos hi]
    have:nl (iH cn n k) i∈iH cn n k:=eu hi
    have:=VY (by omega) _ this
    omega
   ·rw [if_neg hi,qw,if_pos (by omega)]
    exact Nat.le_refl _
theorem af7 {zs:List Nat} {n:Nat}:pG (pF (sO zs n)):=fun i j h1 h2=>by
 rw [VQ] at h2
 rw [VT,VT]
 exact Int.ofNat_le.2 (V3 (Nat.le_refl _) i j h1 h2)
theorem V4 {zs:List Nat} {n:Nat} (hn:n≤16) (h: ∀z∈zs,1≤z∧z≤n):(sO zs n).Perm zs:=by
 rw [List.perm_iff_count]
 intro v
 rw [sO,VX (Nat.le_refl _),Nat.sub_self]
 by_cases hv:0<v∧v≤n
 ·rw [if_pos hv,Bl (Nat.le_refl _) (by omega),List.take_length]
 ·rw [if_neg hv,List.count_eq_zero.2 fun hm=>hv (by have:=h v hm;omega)]
theorem af8 {zs:List Nat} {n k:Nat} (hn:n≤16) (hk:k≤n) (h: ∀z∈zs,1≤z∧z≤n):(iH (kP zs zs.length) n k).length≤zs.length:=by
 have hp:=(V4 hn h).length_eq
 have: ∀j,j≤n→(iH (kP zs zs.length) n j).length≤(iH (kP zs zs.length) n n).length:=by
  intro j hj
  obtain ⟨d,rfl⟩: ∃d,n=j+d:=⟨n-j,by omega⟩
  have: ∀m d,(iH (kP zs zs.length) m j).length≤(iH (kP zs zs.length) m (j+d)).length:=by
   intro m d
   induction d with
   |zero=>exact Nat.le_refl _
   |succ d ih=>
    rw [show j+(d+1)=(j+d)+1 by omega,iH,List.length_append]
    omega
  exact this _ d
 have:=this k hk
 rw [sO] at hp
 omega
def lens (p:List Nat) (n:Nat):List Nat:=(aV p n).map List.length
def typ (p:List Nat) (n:Nat):List Nat:=sO (lens p n) n
section
variable {p:List Nat} {n:Nat}
theorem Fe (hp:Perm p n): ∀z∈lens p n,1≤z∧z≤n:=fun z hz=>by
 obtain ⟨c,hc,rfl⟩:=List.mem_map.1 hz
 exact af9 hp hc
theorem V5 (hp:Perm p n):(lens p n).length≤16:=by
 rw [lens,List.length_map]
 have:=vG hp
 have:=hp.1
 omega
theorem Bo (hp:Perm p n):(typ p n).Perm (lens p n):=V4 (by have:=hp.1;omega) (Fe hp)
theorem Bq (hp:Perm p n):(typ p n).length=(aV p n).length:=by rw [(Bo hp).length_eq,lens,List.length_map]
theorem aga (hp:Perm p n):(∀z∈typ p n,z=2)↔ ∀x,x<n→nl p x≠x∧nl p (nl p x)=x:=by
 rw [←agb hp]
 constructor
 ·intro h c hc
  exact h _ ((Bo hp).mem_iff.2 (List.mem_map.2 ⟨c,hc,rfl⟩))
 ·intro h z hz
  obtain ⟨c,hc,rfl⟩:=List.mem_map.1 ((Bo hp).mem_iff.1 hz)
  exact h c hc
end
end Go.Bm
namespace Go.Bm
open Go Go.Am
abbrev FN (c:List Nat):Value:=Fz c.length 1 (c.map fJ)
theorem yF {p:List (List Nat)}:aW (p.map FN):=aW.map fun _=>NN.fz
theorem wJ {p:List Nat}:aW (p.map fJ):=aW.map fun _=>NN.int
theorem V6 {H:BH} {b bytes cn:Nat} {xs:List (List Nat)} {y:List Nat} (h:(xs.length+1)*bytes≤140737488355328):app1 (some [Fz y.length 1 (y.map fJ)]) (some (xs.map FN)) H b xs.length bytes cn=some (S H.length 0 (xs.length+1) 1,(H.set b none)++[some ((xs++[y]).map FN)]):=Aq (g:=FN) rfl h
theorem V7 {xs:List (List Nat)} {k:Nat} (h:k<xs.length):aY none (xs.map FN) k=some (FN (xs.getD k [])):=by
 simp [aY,h,List.getD]
theorem pI {i j o l e:Nat} {cs:List Value} (h:j≠i):iR i cs (S j o l e)=S j o l e:=by
 simp only [iR]
 rw [if_neg (fun k=>h k.1)]
theorem RV:(type_of% @yF)∧(type_of% @wJ):=⟨@yF, @wJ⟩
theorem agc {p:List Nat} {n:Nat} (hb:By 16 p) (hp:Perm p n):
  aQ false MK [PL p,I n] [] fun v H1=> ∃j,v=S j 0 (aV p n).length 1∧blk H1 j=some ((aV p n).map FN):=by
 have hlen:=hb.len
 have hn:=hp.1
 obtain ⟨M,hM⟩: ∃M,M=16:=⟨_,rfl⟩
 have Bv:aV p n=(jZ p M n).2:=by rw [hM];rfl
 rw [Bv]
 refine bF aaK ?_;simp only [dX,aI]
 refine au fun Kr hKr=>?_;simp (disch:=omega) only [RA,↓reduceIte,Nat.reduceEqDiff,Nat.reduceAdd,Nat.reduceLeDiff,RD];refine hKr _ _ ?_;clear hKr Kr;(try simp only [RN,reduceIte]);try refine ah rfl ?_
 refine au fun Kr hKr=>?_;simp (disch:=omega) only [RA,↓reduceIte,Nat.reduceEqDiff,Nat.reduceAdd,Nat.reduceLeDiff,RD];refine hKr _ _ ?_;clear hKr Kr;(try simp only [RN,reduceIte]);try refine ah rfl ?_
 refine au fun Kr hKr=>?_;simp (disch:=omega) only [RA,↓reduceIte,Nat.reduceEqDiff,Nat.reduceAdd,Nat.reduceLeDiff,RD];refine hKr _ _ ?_;clear hKr Kr;(try simp only [RN,reduceIte]);try refine ah rfl ?_
 refine au fun Kr hKr=>?_;simp (disch:=omega) only [RA,↓reduceIte,Nat.reduceEqDiff,Nat.reduceAdd,Nat.reduceLeDiff,RD];refine hKr _ _ ?_;clear hKr Kr;(try simp only [RN,reduceIte]);try refine ah rfl ?_
 refine bU (fun m f H'=> ∃i sc,i≤n∧m=n-i∧sc=jZ p M i∧f 2=P 0 0∧f 5=S 1 0 sc.2.length 1∧f 6=P 2 0∧f 12=I n∧f 13=I i∧H'=[some (p.map N8),some (sc.2.map FN),some (sc.1.map B)]) (n) ?_ ?_
 ·refine ⟨_,_,Gh.refl,0,(List.replicate 16 false,[]),by omega,by omega,rfl,?_,?_,?_,?_,?_,by simp⟩
  any_goals (simp (disch:=omega) only [RA,↓reduceIte,Nat.reduceEqDiff,RD,RE, *]<;>rfl)
 ·rintro m f H' R ⟨i,sc,hi,rfl,hsc,g2,g5,g6,g12,g13,rfl⟩ hN hX hR hE
  simp only [dX.l1,aI]
  have hok:=pq.all hM hp hi
  rw [←hsc] at hok
  have hsl:=hok.len
  have hnum:=hok.num
  refine au fun Kr hKr=>?_;simp (disch:=omega) only [RA,↓reduceIte,Nat.reduceEqDiff,RD,g12,g13];refine hKr _ _ ?_;clear hKr Kr;(try simp only [RN,reduceIte]);try refine ah rfl ?_
  refine aX (p:=i<n) (by simp only [RA,↓reduceIte,Nat.reduceEqDiff]<;>rfl) (by (try simp only [RB])<;>first|done|exact Iff.rfl|omega|simp) (fun hc=>?_) (fun hc=>?_)<;>(try simp only [RN,reduceIte])<;>(try refine ah rfl ?_)
  ·have hnext: ∀f' sc',f' 2=P 0 0→f' 5=S 1 0 sc'.2.length 1→f' 6=P 2 0→f' 12=I n→f' 13=I i→sc'=jZ p M (i+1)→T 0 dX.gQ R f' [some (p.map N8),some (sc'.2.map FN),some (sc'.1.map B)]:=by
    intro f' sc' g2 g5 g6 g12 g13 hs
    refine bH fun Kr hKr=>?_;simp (disch:=omega) only [RA,↓reduceIte,Nat.reduceEqDiff,RD,g13];refine hKr _ _ ?_;clear hKr Kr
    refine hN (n-(i+1)) _ _ _ _ (by omega) Gh.refl ⟨i+1,sc',by omega,rfl,hs,?_,?_,?_,?_,?_,rfl⟩
    any_goals (simp (disch:=omega) only [RA,↓reduceIte,Nat.reduceEqDiff,RD,RE, *]<;>rfl)
   refine lV (ou ?_);(try simp only [RN,reduceIte]);try refine ah rfl ?_
   refine au fun Kr hKr=>?_;simp (disch:=omega) only [RA,↓reduceIte,Nat.reduceEqDiff,RD,g13];refine hKr _ _ ?_;clear hKr Kr;(try simp only [RN,reduceIte]);try refine ah rfl ?_
   refine au fun Kr hKr=>?_;simp (disch:=omega) only [RA,↓reduceIte,Nat.reduceEqDiff,RD,g6,hsl];refine hKr _ _ ?_;clear hKr Kr;(try simp only [RN,reduceIte]);try refine ah rfl ?_
   refine aX (p:=bl sc.1 i=true) (by simp only [RA,↓reduceIte,Nat.reduceEqDiff]<;>rfl) (by (try simp only [RB])<;>first|done|exact Iff.rfl|omega|simp) (fun hc=>?_) (fun hc=>?_)<;>(try simp only [RN,reduceIte])<;>(try refine ah rfl ?_)
   ·simp only [aK,aP,aN,if_true]
    refine hnext _ sc ?_ ?_ ?_ ?_ ?_ (by rw [jZ,←hsc,if_pos hc])
    any_goals (simp (disch:=omega) only [RA,↓reduceIte,Nat.reduceEqDiff,RD,RE, *]<;>rfl)
   ·have h0:bl sc.1 i=false:=by simpa using hc
    have hin:i<n:=by assumption
    have hdone:=lS.done hM hp hsl hin h0 hok.inv
    refine au fun Kr hKr=>?_;simp (disch:=omega) only [RA,↓reduceIte,Nat.reduceEqDiff,Nat.reduceAdd,Nat.reduceLeDiff,RD];refine hKr _ _ ?_;clear hKr Kr;(try simp only [RN,reduceIte]);try refine ah rfl ?_
    refine au fun Kr hKr=>?_;simp (disch:=omega) only [RA,↓reduceIte,Nat.reduceEqDiff,Nat.reduceAdd,Nat.reduceLeDiff,RD];refine hKr _ _ ?_;clear hKr Kr;(try simp only [RN,reduceIte]);try refine ah rfl ?_
    refine bU (fun m f H'=> ∃j st,j≤M∧m=M-j∧st=wk p (sc.1,[],i) j∧f 2=P 0 0∧f 5=S 1 0 sc.2.length 1∧f 6=P 2 0∧f 12=I n∧f 13=I i∧f 8=S 3 0 st.2.1.length 1∧f 9=I st.2.2∧H'=[some (p.map N8),some (sc.2.map FN),some (st.1.map B),some (st.2.1.map fJ)]) (M) ?_ ?_
    ·refine ⟨_,_,Gh.refl,0,(sc.1,[],i),by omega,by omega,rfl,?_,?_,?_,?_,?_,?_,?_,by simp⟩
     any_goals (simp (disch:=omega) only [RA,↓reduceIte,Nat.reduceEqDiff,RD,RE, *]<;>rfl)
    ·clear g2 g5 g6 g12 g13
     rintro m f H' R1 ⟨j,st,hj,rfl,hst,g2,g5,g6,g12,g13,g8,g9,rfl⟩ hN1 hX1 hR1 hE1
     simp only [dX.l0,aI]
     have hw:=lS.wk hp hsl hin h0 hok.inv j
     have hstep:wk p (sc.1,[],i) (j+1)=sQ p st:=by rw [hst];rfl
     have hstop:bl st.1 st.2.2=true→wk p (sc.1,[],i) M=st:=fun h=>by
      rw [hst] at h⊢
      exact Ju h M hj
     have hdj:j=M→bl st.1 st.2.2=true:=fun h=>by
      rw [hst,h]
      exact hdone
     rw [←hst] at hw
     clear hst hdone
     obtain ⟨s,l,k⟩:=st
     simp only at g8 g9 hstop hdj hstep⊢
     have hwl:s.length=16:=hw.len
     have hwk:k<n:=hw.at_
     have hpk:=hp.lt hwk
     have hll:l.length≤16:=by
      have h1:=hw.cnt
      have h2:=List.count_le_length (a:=true) (l:=s)
      simp only at h1
      omega
     refine au fun Kr hKr=>?_;simp (disch:=omega) only [RA,↓reduceIte,Nat.reduceEqDiff,RD,g6,g9,hwl];refine hKr _ _ ?_;clear hKr Kr;(try simp only [RN,reduceIte]);try refine ah rfl ?_
     refine aX (p:= ¬bl s k=true) (by simp only [RA,↓reduceIte,Nat.reduceEqDiff]<;>rfl) (by (try simp only [RB])<;>first|done|exact Iff.rfl|omega|simp) (fun hc=>?_) (fun hc=>?_)<;>(try simp only [RN,reduceIte])<;>(try refine ah rfl ?_)
     ·rw [sQ,if_neg hc] at hstep
      have hjM:j<M:=by
       rcases Nat.lt_or_ge j M with h|h
       ·exact h
       ·exact absurd (hdj (by omega)) hc
      (first|refine bP rfl ?_|refine bQ rfl ?_);(try simp only [RN,reduceIte]);try refine ah rfl ?_
      refine au fun Kr hKr=>?_;simp (disch:=omega) only [RA,↓reduceIte,Nat.reduceEqDiff,RD,g6,g9,hwl];refine hKr _ _ ?_;clear hKr Kr;(try simp only [RN,reduceIte]);try refine ah rfl ?_
      refine au fun Kr hKr=>?_;simp (disch:=omega) only [RA,↓reduceIte,Nat.reduceEqDiff,Nat.reduceAdd,Nat.reduceLeDiff,RD,g8,g9,Bg];refine hKr _ _ ?_;clear hKr Kr;(try simp only [RN,reduceIte]);try refine ah rfl ?_
      refine bH fun Kr hKr=>?_;simp (disch:=omega) only [RA,↓reduceIte,Nat.reduceEqDiff,RD,g2,g9];refine hKr _ _ ?_;clear hKr Kr
      refine hN1 (M-(j+1)) _ _ _ _ (by omega) (Gh.nrm [0,1,2,5] rfl rfl (by simp only [RH,RV])) ⟨j+1,(s.set k true,l++[k],nl p k),by omega,rfl,hstep.symm,?_,?_,?_,?_,?_,?_,?_,rfl⟩
      any_goals (simp (disch:=omega) only [RA,↓reduceIte,Nat.reduceEqDiff,RD,RE, *]<;>rfl)
     ·refine hX1 _ _ ?_
      have hc':bl s k=true:=by simpa using hc
      have hfin:=hstop hc'
      have hfl:l.length*1=(l.map fJ).length:=by simp
      have hfz: ∀f2:Fr,f2 2=P 0 0→f2 5=S 1 0 sc.2.length 1→f2 6=P 2 0→f2 8=Fz l.length 1 (l.map fJ)→f2 12=I n→f2 13=I i→T 0 dX.r13 (aK 1 (aP 0 dX.gQ R)) f2 [some (p.map N8),some (sc.2.map FN),some (s.map B),none]:=by
       clear g2 g5 g6 g12 g13 g8 g9
       intro f2 g2 g5 g6 g8 g12 g13
       refine bH fun Kr hKr=>?_;simp (disch:=omega) only [RA,↓reduceIte,Nat.reduceEqDiff,Nat.reduceAdd,Nat.reduceLeDiff,RD,g5,g8,V6];refine hKr _ _ ?_;clear hKr Kr
       simp only [aK,aP,aN,if_true]
       refine lI (Gh.nrm [0,5,2] rfl rfl (by simp only [RH,RV])) ?_
       refine hnext _ (s,sc.2++[l]) ?_ ?_ ?_ ?_ ?_ ?_
       any_goals (simp (disch:=omega) only [RA,↓reduceIte,Nat.reduceEqDiff,RD,RE, *]<;>rfl)
       rw [jZ,←hsc,if_neg (by simp [h0]),hfin]
      exact lI (Gh.fz (i:=3) (cs:=l.map fJ) rfl wJ) (hfz _ (by simp (disch:=omega) only [RA,↓reduceIte,Nat.reduceEqDiff,RD,RE,RZ,pI,jD, *]<;>rfl) (by simp (disch:=omega) only [RA,↓reduceIte,Nat.reduceEqDiff,RD,RE,RZ,pI,jD, *]<;>rfl) (by simp (disch:=omega) only [RA,↓reduceIte,Nat.reduceEqDiff,RD,RE,RZ,pI,jD, *]<;>rfl) (by simp (disch:=omega) only [RA,↓reduceIte,Nat.reduceEqDiff,RD,RE,RZ,pI,jD, *]<;>rfl) (by simp (disch:=omega) only [RA,↓reduceIte,Nat.reduceEqDiff,RD,RE,RZ,pI,jD, *]<;>rfl) (by simp (disch:=omega) only [RA,↓reduceIte,Nat.reduceEqDiff,RD,RE,RZ,pI,jD, *]<;>rfl))
  ·refine hX _ _ ?_
   obtain rfl:i=n:=by omega
   refine au fun Kr hKr=>?_;simp (disch:=omega) only [RA,↓reduceIte,Nat.reduceEqDiff,RD,g5];refine hKr _ _ ?_;clear hKr Kr;(try simp only [RN,reduceIte]);try refine ah rfl ?_
   refine aS (by simp (disch:=omega) only [RA,↓reduceIte,Nat.reduceEqDiff,RD,aG,aO,g5];rfl) aC.refl ?_;simp only [aH]
   rw [hsc]
   exact ⟨1,rfl,rfl⟩
theorem agd {x:Bool} {p:List Nat} {n:Nat} {H:BH} {K:Value→BH→Prop} (hb:By 16 p) (hp:Perm p n) (hK:K (Fz (aV p n).length 1 ((aV p n).map FN)) H):aQ x MK [PL p,I n] H K:=
 uQ (by (simp only [RH])) yF (by simp) (agc hb hp) hK
theorem agf {p:List Nat} {n:Nat} (hb:By 16 p) (hp:Perm p n):
  aQ false ML [PL p,I n] [] fun v H1=> ∃j,v=S j 0 (aV p n).length 1∧blk H1 j=some ((aV p n).map FN):=by
 have hlen:=hb.len
 have hn:=hp.1
 obtain ⟨M,hM⟩: ∃M,M=16:=⟨_,rfl⟩
 have Bv:aV p n=(jZ p M n).2:=by rw [hM];rfl
 rw [Bv]
 refine bF aaM ?_;simp only [eG,aI]
 refine au fun Kr hKr=>?_;simp (disch:=omega) only [RA,↓reduceIte,Nat.reduceEqDiff,Nat.reduceAdd,Nat.reduceLeDiff,RD];refine hKr _ _ ?_;clear hKr Kr;(try simp only [RN,reduceIte]);try refine ah rfl ?_
 refine au fun Kr hKr=>?_;simp (disch:=omega) only [RA,↓reduceIte,Nat.reduceEqDiff,Nat.reduceAdd,Nat.reduceLeDiff,RD];refine hKr _ _ ?_;clear hKr Kr;(try simp only [RN,reduceIte]);try refine ah rfl ?_
 refine au fun Kr hKr=>?_;simp (disch:=omega) only [RA,↓reduceIte,Nat.reduceEqDiff,Nat.reduceAdd,Nat.reduceLeDiff,RD];refine hKr _ _ ?_;clear hKr Kr;(try simp only [RN,reduceIte]);try refine ah rfl ?_
 refine bU (fun m f H'=> ∃i sc,i≤n∧m=n-i∧sc=jZ p M i∧f 1=I n∧f 2=P 0 0∧f 5=S 1 0 sc.2.length 1∧f 6=P 2 0∧f 7=I i∧H'=[some (p.map N8),some (sc.2.map FN),some (sc.1.map B)]) (n) ?_ ?_
 ·refine ⟨_,_,Gh.refl,0,(List.replicate 16 false,[]),by omega,by omega,rfl,?_,?_,?_,?_,?_,by simp⟩
  any_goals (simp (disch:=omega) only [RA,↓reduceIte,Nat.reduceEqDiff,RD,RE, *]<;>rfl)
 ·rintro m f H' R ⟨i,sc,hi,rfl,hsc,g1,g2,g5,g6,g7,rfl⟩ hN hX hR hE
  simp only [eG.l1,aI]
  have hok:=pq.all hM hp hi
  rw [←hsc] at hok
  have hsl:=hok.len
  have hnum:=hok.num
  refine au fun Kr hKr=>?_;simp (disch:=omega) only [RA,↓reduceIte,Nat.reduceEqDiff,RD,g1,g7];refine hKr _ _ ?_;clear hKr Kr;(try simp only [RN,reduceIte]);try refine ah rfl ?_
  refine aX (p:=i<n) (by simp only [RA,↓reduceIte,Nat.reduceEqDiff]<;>rfl) (by (try simp only [RB])<;>first|done|exact Iff.rfl|omega|simp) (fun hc=>?_) (fun hc=>?_)<;>(try simp only [RN,reduceIte])<;>(try refine ah rfl ?_)
  ·have hnext: ∀f' sc',f' 1=I n→f' 2=P 0 0→f' 5=S 1 0 sc'.2.length 1→f' 6=P 2 0→f' 7=I i→sc'=jZ p M (i+1)→T 0 eG.r4 R f' [some (p.map N8),some (sc'.2.map FN),some (sc'.1.map B)]:=by
    intro f' sc' g1 g2 g5 g6 g7 hs
    refine bH fun Kr hKr=>?_;simp (disch:=omega) only [RA,↓reduceIte,Nat.reduceEqDiff,RD,g7];refine hKr _ _ ?_;clear hKr Kr
    refine hN (n-(i+1)) _ _ _ _ (by omega) Gh.refl ⟨i+1,sc',by omega,rfl,hs,?_,?_,?_,?_,?_,rfl⟩
    any_goals (simp (disch:=omega) only [RA,↓reduceIte,Nat.reduceEqDiff,RD,RE, *]<;>rfl)
   have hin:i<n:=by assumption
   (first|refine bP rfl ?_|refine bQ rfl ?_);(try simp only [RN,reduceIte]);try refine ah rfl ?_
   refine au fun Kr hKr=>?_;simp (disch:=omega) only [RA,↓reduceIte,Nat.reduceEqDiff,Nat.reduceAdd,Nat.reduceLeDiff,RD];refine hKr _ _ ?_;clear hKr Kr;(try simp only [RN,reduceIte]);try refine ah rfl ?_
   refine au fun Kr hKr=>?_;simp (disch:=omega) only [RA,↓reduceIte,Nat.reduceEqDiff,RD,g7];refine hKr _ _ ?_;clear hKr Kr;(try simp only [RN,reduceIte]);try refine ah rfl ?_
   by_cases hm:bl sc.1 i=true
   ·refine bU (fun m f H'=>m=0∧f 1=I n∧f 2=P 0 0∧f 5=S 1 0 sc.2.length 1∧f 6=P 2 0∧f 7=I i∧f 8=S 3 0 0 1∧f 9=I i∧H'=[some (p.map N8),some (sc.2.map FN),some (sc.1.map B),some []]) (0) ?_ ?_
    ·refine ⟨_,_,Gh.refl,rfl,?_,?_,?_,?_,?_,?_,?_,by simp⟩
     any_goals (simp (disch:=omega) only [RA,↓reduceIte,Nat.reduceEqDiff,RD,RE, *]<;>rfl)
    ·clear g1 g2 g5 g6 g7
     rintro m f H' R1 ⟨rfl,g1,g2,g5,g6,g7,g8,g9,rfl⟩ hN1 hX1 hR1 hE1
     simp only [eG.l0,aI]
     refine au fun Kr hKr=>?_;simp (disch:=omega) only [RA,↓reduceIte,Nat.reduceEqDiff,RD,g6,g9,hsl];refine hKr _ _ ?_;clear hKr Kr;(try simp only [RN,reduceIte]);try refine ah rfl ?_
     refine dG (t:=false) (by simp (disch:=omega) only [RA,↓reduceIte,Nat.reduceEqDiff,RD,hm]) ?_;(try simp only [RN,reduceIte]);try refine ah rfl ?_
     refine hX1 _ _ ?_
     (try simp only [RN,reduceIte]);try refine ah rfl ?_
     refine au fun Kr hKr=>?_;simp (disch:=omega) only [RA,↓reduceIte,Nat.reduceEqDiff,Int.reduceLT,RD,g8];refine hKr _ _ ?_;clear hKr Kr;(try simp only [RN,reduceIte]);try refine ah rfl ?_
     refine dG (t:=false) (by simp (disch:=omega) only [RA,↓reduceIte,Nat.reduceEqDiff,RD]) ?_;(try simp only [RN,reduceIte]);try refine ah rfl ?_
     refine lI (Gh.nrm [0,1,2] rfl rfl (by simp only [RH,RV])) ?_
     refine hnext _ sc ?_ ?_ ?_ ?_ ?_ (by rw [jZ,←hsc,if_pos hm])
     any_goals (simp (disch:=omega) only [RA,↓reduceIte,Nat.reduceEqDiff,RD,RE, *]<;>rfl)
   ·have h0:bl sc.1 i=false:=by simpa using hm
    have hdone:=lS.done hM hp hsl hin h0 hok.inv
    have V8:=(lS.aV hM hp hsl hin h0 hok.inv hok.upto).1.ne
    refine bU (fun m f H'=> ∃j st,j≤M∧m=M-j∧st=wk p (sc.1,[],i) j∧f 1=I n∧f 2=P 0 0∧f 5=S 1 0 sc.2.length 1∧f 6=P 2 0∧f 7=I i∧f 8=S 3 0 st.2.1.length 1∧f 9=I st.2.2∧H'=[some (p.map N8),some (sc.2.map FN),some (st.1.map B),some (st.2.1.map fJ)]) (M) ?_ ?_
    ·refine ⟨_,_,Gh.refl,0,(sc.1,[],i),by omega,by omega,rfl,?_,?_,?_,?_,?_,?_,?_,by simp⟩
     any_goals (simp (disch:=omega) only [RA,↓reduceIte,Nat.reduceEqDiff,RD,RE, *]<;>rfl)
    ·clear g1 g2 g5 g6 g7
     rintro m f H' R1 ⟨j,st,hj,rfl,hst,g1,g2,g5,g6,g7,g8,g9,rfl⟩ hN1 hX1 hR1 hE1
     simp only [eG.l0,aI]
     have hw:=lS.wk hp hsl hin h0 hok.inv j
     have hstep:wk p (sc.1,[],i) (j+1)=sQ p st:=by rw [hst];rfl
     have hstop:bl st.1 st.2.2=true→wk p (sc.1,[],i) M=st:=fun h=>by
      rw [hst] at h⊢
      exact Ju h M hj
     have hdj:j=M→bl st.1 st.2.2=true:=fun h=>by
      rw [hst,h]
      exact hdone
     rw [←hst] at hw
     clear hst hdone
     obtain ⟨s,l,k⟩:=st
     simp only at g8 g9 hstop hdj hstep⊢
     have hwl:s.length=16:=hw.len
     have hwk:k<n:=hw.at_
     have hpk:=hp.lt hwk
     have hll:l.length≤16:=by
      have h1:=hw.cnt
      have h2:=List.count_le_length (a:=true) (l:=s)
      simp only at h1
      omega
     refine au fun Kr hKr=>?_;simp (disch:=omega) only [RA,↓reduceIte,Nat.reduceEqDiff,RD,g6,g9,hwl];refine hKr _ _ ?_;clear hKr Kr;(try simp only [RN,reduceIte]);try refine ah rfl ?_
     refine aX (p:= ¬bl s k=true) (by simp only [RA,↓reduceIte,Nat.reduceEqDiff]<;>rfl) (by (try simp only [RB])<;>first|done|exact Iff.rfl|omega|simp) (fun hc=>?_) (fun hc=>?_)<;>(try simp only [RN,reduceIte])<;>(try refine ah rfl ?_)
     ·rw [sQ,if_neg hc] at hstep
      have hjM:j<M:=by
       rcases Nat.lt_or_ge j M with h|h
       ·exact h
       ·exact absurd (hdj (by omega)) hc
      (first|refine bP rfl ?_|refine bQ rfl ?_);(try simp only [RN,reduceIte]);try refine ah rfl ?_
      refine au fun Kr hKr=>?_;simp (disch:=omega) only [RA,↓reduceIte,Nat.reduceEqDiff,RD,g6,g9,hwl];refine hKr _ _ ?_;clear hKr Kr;(try simp only [RN,reduceIte]);try refine ah rfl ?_
      refine au fun Kr hKr=>?_;simp (disch:=omega) only [RA,↓reduceIte,Nat.reduceEqDiff,Nat.reduceAdd,Nat.reduceLeDiff,RD,g8,g9,Bg];refine hKr _ _ ?_;clear hKr Kr;(try simp only [RN,reduceIte]);try refine ah rfl ?_
      refine bH fun Kr hKr=>?_;simp (disch:=omega) only [RA,↓reduceIte,Nat.reduceEqDiff,RD,g2,g9];refine hKr _ _ ?_;clear hKr Kr
      refine hN1 (M-(j+1)) _ _ _ _ (by omega) (Gh.nrm [0,1,2,5] rfl rfl (by simp only [RH,RV])) ⟨j+1,(s.set k true,l++[k],nl p k),by omega,rfl,hstep.symm,?_,?_,?_,?_,?_,?_,?_,rfl⟩
      any_goals (simp (disch:=omega) only [RA,↓reduceIte,Nat.reduceEqDiff,RD,RE, *]<;>rfl)
     ·refine hX1 _ _ ?_
      have hc':bl s k=true:=by simpa using hc
      have hfin:=hstop hc'
      rw [hfin] at V8
      have hfl:l.length*1=(l.map fJ).length:=by simp
      have hl0:0<l.length:=V8
      (try simp only [RN,reduceIte]);try refine ah rfl ?_
      refine au fun Kr hKr=>?_;simp (disch:=omega) only [RA,↓reduceIte,Nat.reduceEqDiff,Int.reduceLT,RD,g8];refine hKr _ _ ?_;clear hKr Kr;(try simp only [RN,reduceIte]);try refine ah rfl ?_
      refine dG (t:=true) (by simp (disch:=omega) only [RA,↓reduceIte,Nat.reduceEqDiff,RD]) ?_;(try simp only [RN,reduceIte]);try refine ah rfl ?_
      have hfz: ∀f2:Fr,f2 1=I n→f2 2=P 0 0→f2 5=S 1 0 sc.2.length 1→f2 6=P 2 0→f2 7=I i→f2 8=Fz l.length 1 (l.map fJ)→T 0 (.seq eG.r12 eG.r4) R f2 [some (p.map N8),some (sc.2.map FN),some (s.map B),none]:=by
       clear g1 g2 g5 g6 g7 g8 g9
       intro f2 g1 g2 g5 g6 g7 g8
       refine au fun Kr hKr=>?_;simp (disch:=omega) only [RA,↓reduceIte,Nat.reduceEqDiff,Nat.reduceAdd,Nat.reduceLeDiff,RD,g5,g8,V6];refine hKr _ _ ?_;clear hKr Kr;(try simp only [RN,reduceIte]);try refine ah rfl ?_
       refine lI (Gh.nrm [0,5,2] rfl rfl (by simp only [RH,RV])) ?_
       refine hnext _ (s,sc.2++[l]) ?_ ?_ ?_ ?_ ?_ ?_
       any_goals (simp (disch:=omega) only [RA,↓reduceIte,Nat.reduceEqDiff,RD,RE, *]<;>rfl)
       rw [jZ,←hsc,if_neg (by simp [h0]),hfin]
      exact lI (Gh.fz (i:=3) (cs:=l.map fJ) rfl wJ) (hfz _ (by simp (disch:=omega) only [RA,↓reduceIte,Nat.reduceEqDiff,RD,RE,RZ,pI,jD, *]<;>rfl) (by simp (disch:=omega) only [RA,↓reduceIte,Nat.reduceEqDiff,RD,RE,RZ,pI,jD, *]<;>rfl) (by simp (disch:=omega) only [RA,↓reduceIte,Nat.reduceEqDiff,RD,RE,RZ,pI,jD, *]<;>rfl) (by simp (disch:=omega) only [RA,↓reduceIte,Nat.reduceEqDiff,RD,RE,RZ,pI,jD, *]<;>rfl) (by simp (disch:=omega) only [RA,↓reduceIte,Nat.reduceEqDiff,RD,RE,RZ,pI,jD, *]<;>rfl) (by simp (disch:=omega) only [RA,↓reduceIte,Nat.reduceEqDiff,RD,RE,RZ,pI,jD, *]<;>rfl))
  ·refine hX _ _ ?_
   obtain rfl:i=n:=by omega
   refine au fun Kr hKr=>?_;simp (disch:=omega) only [RA,↓reduceIte,Nat.reduceEqDiff,RD,g5];refine hKr _ _ ?_;clear hKr Kr;(try simp only [RN,reduceIte]);try refine ah rfl ?_
   refine aS (by simp (disch:=omega) only [RA,↓reduceIte,Nat.reduceEqDiff,RD,aG,aO,g5];rfl) aC.refl ?_;simp only [aH]
   rw [hsc]
   exact ⟨1,rfl,rfl⟩
theorem agh {x:Bool} {p:List Nat} {n:Nat} {H:BH} {K:Value→BH→Prop} (hb:By 16 p) (hp:Perm p n) (hK:K (Fz (aV p n).length 1 ((aV p n).map FN)) H):aQ x ML [PL p,I n] H K:=
 uQ (by (simp only [RH])) yF (by simp) (agf hb hp) hK
end Go.Bm
namespace Go.Bm
open Go Go.Am
section
variable {H:BH} {b bytes:Nat}
end
end Go.Bm
namespace Go.Bm
open Go Go.Am
abbrev ER (h:Int):Value:= .int .u64 h
def SC (code:List Nat) (a:Nat) (h:Int):List Value:=[Fz code.length 1 (code.map N8),I a,ER h]
section
variable {code:List Nat} {a b:Nat} {h:Int} {H:BH}
theorem EP:aY none (SC code a h) 0=some (Fz code.length 1 (code.map N8)):=rfl
theorem xY:aY none (SC code a h) 1=some (I a):=rfl
theorem xW:aY none (SC code a h) 2=some (ER h):=rfl
theorem U7 {x:Nat}:dP (some (SC code a h)) H b 1 1 (.int .i64 (x:Int))=some (undef,H.set b (some (SC code x h))):=by
 rw [Es rfl rfl rfl (by simp [SC])]
 rfl
theorem xX {x:Int}:dP (some (SC code a h)) H b 2 1 (.int .u64 x)=some (undef,H.set b (some (SC code a x))):=by
 rw [Es rfl rfl rfl (by simp [SC])]
 rfl
theorem U8 {x:Int}:bK [.slice none 0 0, .int .i64 0, .int .u64 0] [(0,1,Fz code.length 1 (code.map N8)),(2,1, .int .u64 x)]=some (SC code 0 x):=by
 simp [bK,dL,SC,splice,Fz]
theorem kY:aW (SC code a h):=aW.cons .fz (aW.cons .int (aW.cons .int aW.nil))
theorem EO {x:Int}:0≤IntKind.u64.wrap ((BitVec.ofInt IntKind.u64.bits x&&&BitVec.ofInt IntKind.u64.bits 16777215).toNat:Int)∧IntKind.u64.wrap ((BitVec.ofInt IntKind.u64.bits x&&&BitVec.ofInt IntKind.u64.bits 16777215).toNat:Int)≤16777215:=by
 have h1:(BitVec.ofInt IntKind.u64.bits x&&&BitVec.ofInt IntKind.u64.bits 16777215).toNat≤16777215:=by
  rw [BitVec.toNat_and]
  exact Nat.le_trans Nat.and_le_right (by decide)
 have h2:IntKind.u64.wrap ((BitVec.ofInt IntKind.u64.bits x&&&BitVec.ofInt IntKind.u64.bits 16777215).toNat:Int)=((BitVec.ofInt IntKind.u64.bits x&&&BitVec.ofInt IntKind.u64.bits 16777215).toNat:Int):=by
  generalize (BitVec.ofInt IntKind.u64.bits x&&&BitVec.ofInt IntKind.u64.bits 16777215).toNat=k at h1
  exact wu64 (by omega) (by omega)
 rw [h2]
 omega
theorem agi {n:Int} {K:Value→BH→Prop} (ha:a≤code.length) (hl:code.length≤1048576) (hcd: ∀i,nl code i<256) (hn:n<4611686018427387904)
  (hK: ∀v a' h',a'≤code.length→0≤v→v≤16777470→(0<n→v<n)→(n<1→v=0)→K (I v) [some (SC code a' h')]):aQ false MC [P 0 0,I n] [some (SC code a h)] K:=by
 refine bF aap ?_;simp only [jq,aI]
 refine au fun Kr hKr=>?_;simp (disch:=omega) only [RA,↓reduceIte,Nat.reduceEqDiff,RD];refine hKr _ _ ?_;clear hKr Kr;(try simp only [RN,reduceIte]);try refine ah rfl ?_
 refine au fun Kr hKr=>?_;simp (disch:=omega) only [RA,↓reduceIte,Nat.reduceEqDiff,RD];refine hKr _ _ ?_;clear hKr Kr;(try simp only [RN,reduceIte]);try refine ah rfl ?_
 refine aX (p:=n<1) (by simp only [RA,↓reduceIte,Nat.reduceEqDiff]<;>rfl) (by (try simp only [RB])<;>first|done|exact Iff.rfl|omega|simp) (fun hc=>?_) (fun hc=>?_)<;>(try simp only [RN,reduceIte])<;>(try refine ah rfl ?_)
 ·refine au fun Kr hKr=>?_;simp (disch:=omega) only [RA,↓reduceIte,Nat.reduceEqDiff,RD];refine hKr _ _ ?_;clear hKr Kr;(try simp only [RN,reduceIte]);try refine ah rfl ?_
  refine aS (by simp (disch:=omega) only [RA,↓reduceIte,Nat.reduceEqDiff,RD,aG,aO];rfl) aC.refl ?_;simp only [aH]
  exact hK 0 a h ha (by omega) (by omega) (fun h=>by omega) (fun _=>rfl)
 ·refine au fun Kr hKr=>?_;simp (disch:=omega) only [RA,↓reduceIte,Nat.reduceEqDiff,reduceCtorEq,RD,xW,xX];refine hKr _ _ ?_;clear hKr Kr;(try simp only [RN,reduceIte]);try refine ah rfl ?_
  generalize IntKind.u64.wrap (IntKind.u64.wrap (h*6364136223846793005)+1442695040888963407)=h2
  refine au fun Kr hKr=>?_;simp (disch:=omega) only [RA,↓reduceIte,Nat.reduceEqDiff,Int.reduceToNat,reduceCtorEq,RD,xW,xX];refine hKr _ _ ?_;clear hKr Kr;(try simp only [RN,reduceIte]);try refine ah rfl ?_
  obtain ⟨y,hy,hy0,hy1⟩: ∃y,IntKind.u64.wrap ((BitVec.ofInt IntKind.u64.bits (h2.fdiv (2^min 33 IntKind.u64.bits))&&&BitVec.ofInt IntKind.u64.bits 16777215).toNat:Int)=y∧0≤y∧y≤16777215:=⟨_,rfl,EO.1,EO.2⟩
  rw [hy]
  have Jg:IntKind.i64.wrap y=y:=tq (by omega) (by omega)
  rw [Jg]
  have hend: ∀f' y' a',0≤y'→y'≤16777470→a'≤code.length→f' 1=I n→f' 5=I y'→T 1 (.seq jq.r8 .ret) (pU 1 [.tmp 4] K) f' [some (SC code a' h2)]:=by
   intro f' y' a' k1 k2 k3 g1 g5
   have hn0:n≠0:=by omega
   refine au fun Kr hKr=>?_;simp (disch:=omega) only [RA,↓reduceIte,Nat.reduceEqDiff,RD,g1,g5,hn0];refine hKr _ _ ?_;clear hKr Kr;(try simp only [RN,reduceIte]);try refine ah rfl ?_
   refine aS (by simp (disch:=omega) only [RA,↓reduceIte,Nat.reduceEqDiff,RD,aG,aO];rfl) aC.refl ?_;simp only [aH]
   have t1:=Int.tmod_nonneg n k1
   have t2:=Int.tmod_lt_of_pos y' (show 0<n by omega)
   have t3:y'.tmod n≤y':=by
    rw [Int.tmod_eq_emod_of_nonneg k1]
    have q:=Int.mul_ediv_add_emod y' n
    have q2:=Int.mul_nonneg (show 0≤n by omega) (Int.ediv_nonneg k1 (show 0≤n by omega))
    omega
   exact hK _ a' h2 k3 t1 (by omega) (fun _=>t2) (fun h=>by omega)
  refine au fun Kr hKr=>?_;simp (disch:=omega) only [RA,↓reduceIte,Nat.reduceEqDiff,RD,xY,EP];refine hKr _ _ ?_;clear hKr Kr;(try simp only [RN,reduceIte]);try refine ah rfl ?_
  refine aX (p:=a<code.length) (by simp only [RA,↓reduceIte,Nat.reduceEqDiff]<;>rfl) (by (try simp only [RB])<;>first|done|exact Iff.rfl|omega|simp) (fun hc=>?_) (fun hc=>?_)<;>(try simp only [RN,reduceIte])<;>(try refine ah rfl ?_)
  ·have hcc:=hcd a
   refine au fun Kr hKr=>?_;simp (disch:=omega) only [RA,↓reduceIte,Nat.reduceEqDiff,RD,xY,EP];refine hKr _ _ ?_;clear hKr Kr;(try simp only [RN,reduceIte]);try refine ah rfl ?_
   have e1:((a:Nat):Int)+1=((a+1:Nat):Int):=by omega
   refine au fun Kr hKr=>?_;simp (disch:=omega) only [RA,↓reduceIte,Nat.reduceEqDiff,RD,xY,e1,U7];refine hKr _ _ ?_;clear hKr Kr;(try simp only [RN,reduceIte]);try refine ah rfl ?_
   refine hend _ (y+nl code a) (a+1) (by omega) (by omega) (by omega) ?_ ?_
   any_goals (simp (disch:=omega) only [RA,↓reduceIte,Nat.reduceEqDiff,RD,RE, *]<;>rfl)
  ·refine hend _ y a (by omega) (by omega) ha ?_ ?_
   any_goals (simp (disch:=omega) only [RA,↓reduceIte,Nat.reduceEqDiff,RD,RE, *]<;>rfl)
theorem yA {n:Int} {i:Nat} {K:Value→BH→Prop} (hb:blk H i=some (SC code a h)) (ha:a≤code.length) (hl:code.length≤1048576) (hcd: ∀i,nl code i<256) (hn:n<4611686018427387904)
  (hK: ∀v a' h',a'≤code.length→0≤v→v≤16777470→(0<n→v<n)→(n<1→v=0)→K (I v) (H.set i (some (SC code a' h')))):aQ false MC [P i 0,I n] H K:=by
 refine qR hb kY ?_
 have e:([P i 0,I n]:List Value).map (ren [i])=[P 0 0,I n]:=by simp [ren,nI,nm]
 rw [e]
 exact agi ha hl hcd hn fun v a' h' k1 k2 k3 k4 k5=>⟨.int,HN.cons kY HN.nil,hK v a' h' k1 k2 k3 k4 k5⟩
theorem agj (hl:code.length≤1048576) (hcd: ∀i,nl code i<256):aQ false L9 [Fz code.length 1 (code.map N8)] [] fun v H1=> ∃j h,v=P j 0∧blk H1 j=some (SC code 0 h):=by
 refine bF Z8 ?_;simp only [jL,aI]
 refine au fun Kr hKr=>?_;simp (disch:=omega) only [RA,↓reduceIte,Nat.reduceEqDiff,RD];refine hKr _ _ ?_;clear hKr Kr;(try simp only [RN,reduceIte]);try refine ah rfl ?_
 refine au fun Kr hKr=>?_;simp (disch:=omega) only [RA,↓reduceIte,Nat.reduceEqDiff,RD,U8];refine hKr _ _ ?_;clear hKr Kr;(try simp only [RN,reduceIte]);try refine ah rfl ?_
 refine au fun Kr hKr=>?_;simp (disch:=omega) only [RA,↓reduceIte,Nat.reduceEqDiff,RD];refine hKr _ _ ?_;clear hKr Kr;(try simp only [RN,reduceIte]);try refine ah rfl ?_
 refine bU (fun d f H'=> ∃i h,i≤code.length∧d=code.length-i∧f 0=Fz code.length 1 (code.map N8)∧f 3=P 0 0∧f 4=I i∧H'=[some (SC code 0 h)]) (code.length) ?_ ?_
 ·refine ⟨_,_,Gh.refl,0,_,by omega,by omega,?_,?_,?_,rfl⟩
  any_goals (simp (disch:=omega) only [RA,↓reduceIte,Nat.reduceEqDiff,RD,RE, *]<;>rfl)
 ·rintro d f H' R ⟨i,h,hi,rfl,g0,g3,g4,rfl⟩ hN hX hR hE
  simp only [jL.l0,aI]
  by_cases h1:i<code.length
  ·by_cases h2:i<4096
   ·have hcc:=hcd i
    refine au fun Kr hKr=>?_;simp (disch:=omega) only [RA,↓reduceIte,Nat.reduceEqDiff,RD,g0,g4];refine hKr _ _ ?_;clear hKr Kr;(try simp only [RN,reduceIte]);try refine ah rfl ?_
    refine dG (t:=true) (by simp (disch:=omega) only [RA,↓reduceIte,Nat.reduceEqDiff,RD]) ?_;(try simp only [RN,reduceIte]);try refine ah rfl ?_
    (first|refine bP rfl ?_|refine bQ rfl ?_);(try simp only [RN,reduceIte]);try refine ah rfl ?_
    refine au fun Kr hKr=>?_;simp (disch:=omega) only [RA,↓reduceIte,Nat.reduceEqDiff,RD,g0,g3,g4,xW,xX];refine hKr _ _ ?_;clear hKr Kr;(try simp only [RN,reduceIte]);try refine ah rfl ?_
    refine bH fun Kr hKr=>?_;simp (disch:=omega) only [RA,↓reduceIte,Nat.reduceEqDiff,RD,g4];refine hKr _ _ ?_;clear hKr Kr
    refine hN (code.length-(i+1)) _ _ _ _ (by omega) Gh.refl ⟨i+1,_,by omega,rfl,?_,?_,?_,rfl⟩
    any_goals (simp (disch:=omega) only [RA,↓reduceIte,Nat.reduceEqDiff,RD,RE, *]<;>rfl)
   ·refine au fun Kr hKr=>?_;simp (disch:=omega) only [RA,↓reduceIte,Nat.reduceEqDiff,RD,g0,g4];refine hKr _ _ ?_;clear hKr Kr;(try simp only [RN,reduceIte]);try refine ah rfl ?_
    refine dG (t:=false) (by simp (disch:=omega) only [RA,↓reduceIte,Nat.reduceEqDiff,RD]) ?_;(try simp only [RN,reduceIte]);try refine ah rfl ?_
    refine hX _ _ ?_
    refine au fun Kr hKr=>?_;simp (disch:=omega) only [RA,↓reduceIte,Nat.reduceEqDiff,RD,g3];refine hKr _ _ ?_;clear hKr Kr;(try simp only [RN,reduceIte]);try refine ah rfl ?_
    refine aS (by simp (disch:=omega) only [RA,↓reduceIte,Nat.reduceEqDiff,RD,aG,aO];rfl) aC.refl ?_;simp only [aH]
    exact ⟨0,h,rfl,rfl⟩
  ·refine au fun Kr hKr=>?_;simp (disch:=omega) only [RA,↓reduceIte,Nat.reduceEqDiff,RD,g0,g4];refine hKr _ _ ?_;clear hKr Kr;(try simp only [RN,reduceIte]);try refine ah rfl ?_
   refine dG (t:=false) (by simp (disch:=omega) only [RA,↓reduceIte,Nat.reduceEqDiff,RD]) ?_;(try simp only [RN,reduceIte]);try refine ah rfl ?_
   refine hX _ _ ?_
   refine au fun Kr hKr=>?_;simp (disch:=omega) only [RA,↓reduceIte,Nat.reduceEqDiff,RD,g3];refine hKr _ _ ?_;clear hKr Kr;(try simp only [RN,reduceIte]);try refine ah rfl ?_
   refine aS (by simp (disch:=omega) only [RA,↓reduceIte,Nat.reduceEqDiff,RD,aG,aO];rfl) aC.refl ?_;simp only [aH]
   exact ⟨0,h,rfl,rfl⟩
theorem agk {x:Bool} {K:Value→BH→Prop} (hl:code.length≤1048576) (hcd: ∀i,nl code i<256) (hK: ∀h,K (P H.length 0) (H++[some (SC code 0 h)])):
  aQ x L9 [Fz code.length 1 (code.map N8)] H K:=
 xP (.cons .fz .nil) ((agj hl hcd).mono fun v H1 ⟨j,h,h1,h2⟩=>⟨j,_,_,fun ρ ρ' Z u hr hv=>by
  rw [h1] at hv
  obtain ⟨b,hb,rfl⟩:=hv.jH
  exact .ptr (by rw [hr];exact hb),h2,kY,hK h⟩)
theorem Fg {xs:List Int} {i:Nat} {K:Value→BH→Prop} (hb:blk H i=some (SC code a h)) (ha:a≤code.length) (hl:code.length≤1048576) (hcd: ∀i,nl code i<256) (h0:0<xs.length) (hx:xs.length≤1000)
  (hK: ∀k a' h',k<xs.length→a'≤code.length→K (I (el xs k)) (H.set i (some (SC code a' h')))):aQ false Y0 [P i 0,Fz xs.length 1 (xs.map I)] H K:=by
 refine qR hb kY ?_
 have e:([P i 0,Fz xs.length 1 (xs.map I)]:List Value).map (ren [i])=[P 0 0,Fz xs.length 1 (xs.map I)]:=by simp [ren,nI,nm,Fz]
 rw [e]
 refine bF aaq ?_;simp only [uf,aI]
 refine au fun Kr hKr=>?_;simp (disch:=omega) only [RA,↓reduceIte,Nat.reduceEqDiff,RD];refine hKr _ _ ?_;clear hKr Kr;(try simp only [RN,reduceIte]);try refine ah rfl ?_
 refine au fun Kr hKr=>?_;simp (disch:=omega) only [RA,↓reduceIte,Nat.reduceEqDiff,RD]
 refine yA (i:=0) rfl ha hl hcd (by omega) fun v a' h' k1 k2 k3 k4 k5=>?_
 have hv:=k4 (by omega)
 obtain ⟨k,rfl⟩: ∃k:Nat,v=k:=⟨v.toNat,by omega⟩
 simp (disch:=omega) only [RA,↓reduceIte,Nat.reduceEqDiff,RD]
 refine hKr _ _ ?_;clear hKr Kr;(try simp only [aK,aP,aN]);(try simp only [RN,reduceIte]);try refine ah rfl ?_
 refine aS (by simp (disch:=omega) only [RA,↓reduceIte,Nat.reduceEqDiff,RD,aG,aO];rfl) aC.refl ?_;simp only [aH]
 exact ⟨.int,HN.cons kY HN.nil,hK k a' h' (by omega) k1⟩
end
end Go.Bm
