/- DpMc, Dp5, DpA, DpB, DpCc, DpCd, DpDg, DpTa, DpPa -/
import Derived.Test.YtkapkmjofpoebaaDpG0
import Derived.Test.YtkapkmjofpoebaaDpG1
import Derived.Test.YtkapkmjofpoebaaDpG2
set_option linter.unusedVariables false
set_option linter.unusedSimpArgs false
set_option linter.unusedSectionVars false
namespace Go.Bm
open Go Go.Am
section
variable {code:List Nat} {a b:Nat} {h:Int} {H:BH}
theorem afm {n:Int} {K:Value→BH→Prop} (ha:a≤code.length) (hl:code.length≤1048576) (hcd: ∀i,nl code i<256) (hn:n<4611686018427387904)
  (hK: ∀v a' h',a'≤code.length→0≤v→v≤16777470→(0<n→v<n)→(n<1→v=0)→K (I v) [some (SC code a' h')]):aQ false LZ [P 0 0,I n] [some (SC code a h)] K:=by
 refine bF ZP ?_;simp only [jm,aI]
 refine au fun Kr hKr=>?_;simp (disch:=omega) only [RA,↓reduceIte,Nat.reduceEqDiff,RD];refine hKr _ _ ?_;clear hKr Kr;(try simp only [RN,reduceIte]);try refine ah rfl ?_
 refine au fun Kr hKr=>?_;simp (disch:=omega) only [RA,↓reduceIte,Nat.reduceEqDiff,RD];refine hKr _ _ ?_;clear hKr Kr;(try simp only [RN,reduceIte]);try refine ah rfl ?_
 refine aX (p:=n<1) (by simp only [RA,↓reduceIte,Nat.reduceEqDiff]<;>rfl) (by (try simp only [RB])<;>first|done|exact Iff.rfl|omega|simp) (fun hc=>?_) (fun hc=>?_)<;>(try simp only [RN,reduceIte])<;>(try refine ah rfl ?_)
 ·refine au fun Kr hKr=>?_;simp (disch:=omega) only [RA,↓reduceIte,Nat.reduceEqDiff,RD];refine hKr _ _ ?_;clear hKr Kr;(try simp only [RN,reduceIte]);try refine ah rfl ?_
  refine aS (by simp (disch:=omega) only [RA,↓reduceIte,Nat.reduceEqDiff,RD,aG,aO];rfl) aC.refl ?_;simp only [aH]
  exact hK 0 a h ha (by omega) (by omega) (fun h=>by omega) (fun _=>rfl)
 ·refine au fun Kr hKr=>?_;simp (disch:=omega) only [RA,↓reduceIte,Nat.reduceEqDiff,reduceCtorEq,RD,xW,xX];refine hKr _ _ ?_;clear hKr Kr;(try simp only [RN,reduceIte]);try refine ah rfl ?_
  generalize IntKind.u64.wrap (IntKind.u64.wrap (h*6364136223846793005)+1442695040888963407)=h2
  refine au fun Kr hKr=>?_;simp (disch:=omega) only [RA,↓reduceIte,Nat.reduceEqDiff,Int.reduceToNat,reduceCtorEq,RD,xW,xX];refine hKr _ _ ?_;clear hKr Kr;(try simp only [RN,reduceIte]);try refine ah rfl ?_
  obtain ⟨y,hy,hy0,hy1⟩: ∃y,IntKind.u64.wrap ((BitVec.ofInt IntKind.u64.bits (h2.fdiv (2^min 33 IntKind.u64.bits))&&&BitVec.ofInt IntKind.u64.bits 16777215).toNat:Int)=y∧0≤y∧y≤16777215:=⟨_,rfl,EO.1,EO.2⟩
  rw [hy]
  have Jg:IntKind.i64.wrap y=y:=tq (by omega) (by omega)
  rw [Jg]
  have hend: ∀f' y' a',0≤y'→y'≤16777470→a'≤code.length→f' 1=I n→f' 5=I y'→T 1 (.seq jm.r8 .ret) (pU 1 [.tmp 4] K) f' [some (SC code a' h2)]:=by
   intro f' y' a' k1 k2 k3 g1 g5
   have hn0:n≠0:=by omega
   refine au fun Kr hKr=>?_;simp (disch:=omega) only [RA,↓reduceIte,Nat.reduceEqDiff,RD,g1,g5,hn0];refine hKr _ _ ?_;clear hKr Kr;(try simp only [RN,reduceIte]);try refine ah rfl ?_
   refine aS (by simp (disch:=omega) only [RA,↓reduceIte,Nat.reduceEqDiff,RD,aG,aO];rfl) aC.refl ?_;simp only [aH]
   have t1:=Int.tmod_nonneg n k1
   have t2:=Int.tmod_lt_of_pos y' (show 0<n by omega)
   have t3:y'.tmod n≤y':=by
    rw [Int.tmod_eq_emod_of_nonneg k1]
    have q:=Int.mul_ediv_add_emod y' n
    have q2:=Int.mul_nonneg (show 0≤n by omega) (Int.ediv_nonneg k1 (show 0≤n by omega))
    omega
   exact hK _ a' h2 k3 t1 (by omega) (fun _=>t2) (fun h=>by omega)
  refine au fun Kr hKr=>?_;simp (disch:=omega) only [RA,↓reduceIte,Nat.reduceEqDiff,RD,xY,EP];refine hKr _ _ ?_;clear hKr Kr;(try simp only [RN,reduceIte]);try refine ah rfl ?_
  refine aX (p:=a<code.length) (by simp only [RA,↓reduceIte,Nat.reduceEqDiff]<;>rfl) (by (try simp only [RB])<;>first|done|exact Iff.rfl|omega|simp) (fun hc=>?_) (fun hc=>?_)<;>(try simp only [RN,reduceIte])<;>(try refine ah rfl ?_)
  ·have hcc:=hcd a
   refine au fun Kr hKr=>?_;simp (disch:=omega) only [RA,↓reduceIte,Nat.reduceEqDiff,RD,xY,EP];refine hKr _ _ ?_;clear hKr Kr;(try simp only [RN,reduceIte]);try refine ah rfl ?_
   have e1:((a:Nat):Int)+1=((a+1:Nat):Int):=by omega
   refine au fun Kr hKr=>?_;simp (disch:=omega) only [RA,↓reduceIte,Nat.reduceEqDiff,RD,xY,e1,U7];refine hKr _ _ ?_;clear hKr Kr;(try simp only [RN,reduceIte]);try refine ah rfl ?_
   refine hend _ (y+nl code a) (a+1) (by omega) (by omega) (by omega) ?_ ?_
   any_goals (simp (disch:=omega) only [RA,↓reduceIte,Nat.reduceEqDiff,RD,RE, *]<;>rfl)
  ·refine hend _ y a (by omega) (by omega) ha ?_ ?_
   any_goals (simp (disch:=omega) only [RA,↓reduceIte,Nat.reduceEqDiff,RD,RE, *]<;>rfl)
theorem afl {n:Int} {i:Nat} {K:Value→BH→Prop} (hb:blk H i=some (SC code a h)) (ha:a≤code.length) (hl:code.length≤1048576) (hcd: ∀i,nl code i<256) (hn:n<4611686018427387904)
  (hK: ∀v a' h',a'≤code.length→0≤v→v≤16777470→(0<n→v<n)→(n<1→v=0)→K (I v) (H.set i (some (SC code a' h')))):aQ false LZ [P i 0,I n] H K:=by
 refine qR hb kY ?_
 have e:([P i 0,I n]:List Value).map (ren [i])=[P 0 0,I n]:=by simp [ren,nI,nm]
 rw [e]
 exact afm ha hl hcd hn fun v a' h' k1 k2 k3 k4 k5=>⟨.int,HN.cons kY HN.nil,hK v a' h' k1 k2 k3 k4 k5⟩
theorem afn {z:Int} (hl:code.length≤1048576) (hcd: ∀i,nl code i<256):aQ false LY [Fz code.length 1 (code.map N8),ER z] [] fun v H1=> ∃j h,v=P j 0∧blk H1 j=some (SC code 0 h):=by
 refine bF ZO ?_;simp only [jK,aI]
 refine au fun Kr hKr=>?_;simp (disch:=omega) only [RA,↓reduceIte,Nat.reduceEqDiff,RD];refine hKr _ _ ?_;clear hKr Kr;(try simp only [RN,reduceIte]);try refine ah rfl ?_
 refine au fun Kr hKr=>?_;simp (disch:=omega) only [RA,↓reduceIte,Nat.reduceEqDiff,RD,U8];refine hKr _ _ ?_;clear hKr Kr;(try simp only [RN,reduceIte]);try refine ah rfl ?_
 refine au fun Kr hKr=>?_;simp (disch:=omega) only [RA,↓reduceIte,Nat.reduceEqDiff,RD];refine hKr _ _ ?_;clear hKr Kr;(try simp only [RN,reduceIte]);try refine ah rfl ?_
 refine bU (fun d f H'=> ∃i h,i≤code.length∧d=code.length-i∧f 0=Fz code.length 1 (code.map N8)∧f 5=P 0 0∧f 6=I i∧H'=[some (SC code 0 h)]) (code.length) ?_ ?_
 ·refine ⟨_,_,Gh.refl,0,_,by omega,by omega,?_,?_,?_,rfl⟩
  any_goals (simp (disch:=omega) only [RA,↓reduceIte,Nat.reduceEqDiff,RD,RE, *]<;>rfl)
 ·rintro d f H' R ⟨i,h,hi,rfl,g0,g5,g6,rfl⟩ hN hX hR hE
  simp only [jK.l0,aI]
  refine au fun Kr hKr=>?_;simp (disch:=omega) only [RA,↓reduceIte,Nat.reduceEqDiff,RD,g0,g6];refine hKr _ _ ?_;clear hKr Kr;(try simp only [RN,reduceIte]);try refine ah rfl ?_
  refine aX (p:=i<code.length) (by simp only [RA,↓reduceIte,Nat.reduceEqDiff]<;>rfl) (by (try simp only [RB])<;>first|done|exact Iff.rfl|omega|simp) (fun hc=>?_) (fun hc=>?_)<;>(try simp only [RN,reduceIte])<;>(try refine ah rfl ?_)
  ·have hcc:=hcd i
   (first|refine bP rfl ?_|refine bQ rfl ?_);(try simp only [RN,reduceIte]);try refine ah rfl ?_
   refine au fun Kr hKr=>?_;simp (disch:=omega) only [RA,↓reduceIte,Nat.reduceEqDiff,RD,g0,g5,g6,xW,xX];refine hKr _ _ ?_;clear hKr Kr;(try simp only [RN,reduceIte]);try refine ah rfl ?_
   refine bH fun Kr hKr=>?_;simp (disch:=omega) only [RA,↓reduceIte,Nat.reduceEqDiff,RD,g6];refine hKr _ _ ?_;clear hKr Kr
   refine hN (code.length-(i+1)) _ _ _ _ (by omega) Gh.refl ⟨i+1,_,by omega,rfl,?_,?_,?_,rfl⟩
   any_goals (simp (disch:=omega) only [RA,↓reduceIte,Nat.reduceEqDiff,RD,RE, *]<;>rfl)
  ·refine hX _ _ ?_
   refine au fun Kr hKr=>?_;simp (disch:=omega) only [RA,↓reduceIte,Nat.reduceEqDiff,RD,g5];refine hKr _ _ ?_;clear hKr Kr;(try simp only [RN,reduceIte]);try refine ah rfl ?_
   refine aS (by simp (disch:=omega) only [RA,↓reduceIte,Nat.reduceEqDiff,RD,aG,aO];rfl) aC.refl ?_;simp only [aH]
   exact ⟨0,h,rfl,rfl⟩
theorem afk {x:Bool} {z:Int} {K:Value→BH→Prop} (hl:code.length≤1048576) (hcd: ∀i,nl code i<256) (hK: ∀h,K (P H.length 0) (H++[some (SC code 0 h)])):
  aQ x LY [Fz code.length 1 (code.map N8),ER z] H K:=
 xP (.cons .fz (.cons .int .nil)) ((afn hl hcd).mono fun v H1 ⟨j,h,h1,h2⟩=>⟨j,_,_,fun ρ ρ' Z u hr hv=>by
  rw [h1] at hv
  obtain ⟨b,hb,rfl⟩:=hv.jH
  exact .ptr (by rw [hr];exact hb),h2,kY,hK h⟩)
end
end Go.Bm
namespace Go.Bm
open Go Go.Am
def U9 (n:Int) (b w:List Nat) (n':Int) (b' w':List Nat):Prop:=n=n'∧b=b'∧w=w'
instance (n:Int) (b w:List Nat) (n':Int) (b' w':List Nat):Decidable (U9 n b w n' b' w'):=by unfold U9;infer_instance
theorem sG {n:Int} {b w:List Nat} {k:IntKind} {c:Int}:NN (.tuple ⟨[bJ (DC n b w), .int k c]⟩):=NN.tuple (aW.cons iK (aW.cons NN.int aW.nil))
end Go.Bm
namespace Go.Bm
open Go Go.Am
def prt (e:Nat):Nat→List (List Value)→List (Nat×Nat×Value)
 | _,[]=>[]
 |o,x::xs=>(o,e,bJ x)::prt e (o+e) xs
theorem Jh {e:Nat}: ∀(X:List (List Value)) (pre post:List Value),(∀x∈X,x.length=e)→post.length=X.length*e→bK (pre++post) (prt e pre.length X)=some (pre++X.flatten)
 |[],pre,post,_,hp=>by
  have:post=[]:=List.eq_nil_of_length_eq_zero (by simpa using hp)
  simp [prt,bK,this]
 |x::X,pre,post,hx,hp=>by
  have h1:=hx x (by simp)
  simp only [List.length_cons,Nat.add_mul,Nat.one_mul] at hp
  simp only [prt]
  rw [Et ⟨by simpa [dL] using h1,by simp;omega⟩]
  have e1:splice (pre++post) pre.length (dL (bJ x))=(pre++x)++post.drop e:=by
   simp only [splice,dL]
   rw [List.take_append_of_le_length (Nat.le_refl _),List.take_of_length_le (Nat.le_refl _)]
   rw [List.drop_append,List.drop_eq_nil_of_le (by omega),List.nil_append,h1]
   simp
  rw [e1]
  have:=Jh X (pre++x) (post.drop e) (fun y hy=>hx y (by simp [hy])) (by simp;omega)
  rw [List.length_append,h1] at this
  rw [this]
  simp
theorem Va {e:Nat}: ∀(X:List (List Value)) (k:Nat) (x:List Value),(∀x∈X,x.length=e)→X[k]? =some x→aY (some e) X.flatten (k*e)=some (bJ x)
 |[],k,x,_,hk=>by simp at hk
 |y::X,0,x,hX,hk=>by
  simp only [List.getElem?_cons_zero,Option.some.injEq] at hk
  subst hk
  have h1:=hX y (by simp)
  rw [Nat.zero_mul,rX (by simp;omega)]
  simp [List.take_append_of_le_length,h1]
 |y::X,k+1,x,hX,hk=>by
  have h1:=hX y (by simp)
  have ih:=Va X k x (fun z hz=>hX z (by simp [hz])) (by simpa using hk)
  have hlen:(y::X).flatten.length=e+X.flatten.length:=by simp [h1]
  simp only [aY] at ih⊢
  split at ih
  ·rename_i hle
   rw [if_pos (by rw [hlen,Nat.add_mul,Nat.one_mul];omega)]
   rw [←ih]
   congr 3
   simp only [List.flatten_cons]
   rw [List.drop_append,List.drop_eq_nil_of_le (by rw [h1,Nat.add_mul];omega),List.nil_append,h1,Nat.add_mul,Nat.one_mul]
   congr 1
   omega
  ·cases ih
abbrev PC (a b:List Nat):List Value:=a.map N8++b.map N8
theorem Vb {m:Nat} {a b:List Nat} (ha:a.length=m) (hb:b.length=m):(PC a b).length=m+m:=by simp [ha,hb]
theorem afo {m:Nat} {a b:List Nat} (ha:a.length=m):aY (some m) (PC a b) 0=some (PL a):=by
 have:=AQ (g:=N8) (x:=a) (pre:=[]) (post:=b.map N8)
 rw [ha] at this
 exact this
theorem afp {m:Nat} {a b:List Nat} (ha:a.length=m) (hb:b.length=m):aY (some m) (PC a b) m=some (PL b):=by
 have:=AQ (g:=N8) (x:=b) (pre:=a.map N8) (post:=[])
 rw [hb] at this
 simpa [ha] using this
theorem afq {a b:List Nat}:(PC a b).all iE=true:=by rw [List.all_append,mg,mg];rfl
theorem afr {m:Nat} {H:BH} {i:Nat} {v:Value} {a b:List Nat} (ha:a.length=m) (hb:b.length=m):dP (some (List.replicate (m+m) v)) H i 0 (m+m) (bJ (PC a b))=some (undef,H.set i (some (PC a b))):=by
 rw [nG (Vb ha hb) afq (by simp),uO (by rw [Vb ha hb];simp)]
theorem xZ {m:Nat} {v:Value} {a b:List Nat} (ha:a.length=m) (hb:b.length=m):bK (List.replicate (m+m) v) [(0,m,PL a),(m,m,PL b)]=some (PC a b):=by
 have:=Jh (e:=m) [a.map N8,b.map N8] [] (List.replicate (m+m) v) (by simp [ha,hb]) (by simp;omega)
 simpa [prt] using this
theorem afs {m n:Nat} {v:Value}:dA (List.replicate m v) n=List.replicate (n*m) v:=by simp [dA]
def ES (a0 b0 a1 b1 a2 b2 a3 b3 a4 b4 a5 b5:List Nat):List (List Value):=[PC a0 b0,PC a1 b1,PC a2 b2,PC a3 b3,PC a4 b4,PC a5 b5]
section
variable {m:Nat} {a b c:List Nat}
def wG (a b c:List Nat) (k:Nat):List Nat:=match k with|0=>a|1=>b|2=>b|3=>c|4=>a| _=>c
def wH (a b c:List Nat) (k:Nat):List Nat:=match k with|0=>b|1=>a|2=>c|3=>a|4=>c| _=>b
def vw (a b c:List Nat):List (List Value):=ES a b b a b c c a a c c b
theorem Vd (ha:a.length=m) (hb:b.length=m) (hc:c.length=m): ∀x∈vw a b c,x.length=m+m:=by simp [vw,ES,ha,hb,hc]
theorem aft {k:Nat} (h:k<6):(vw a b c)[k]? =some (PC (wG a b c k) (wH a b c k)):=by
 match k,h with
 |0,_=>rfl
 |1,_=>rfl
 |2,_=>rfl
 |3,_=>rfl
 |4,_=>rfl
 |5,_=>rfl
theorem afu (ha:a.length=m) (hb:b.length=m) (hc:c.length=m) {k:Nat}:(wG a b c k).length=m:=by unfold wG;split<;>assumption
theorem afv (ha:a.length=m) (hb:b.length=m) (hc:c.length=m) {k:Nat}:(wH a b c k).length=m:=by unfold wH;split<;>assumption
end
end Go.Bm
namespace Go.Bm
open Go Go.Am
def qZ (n:Int) (b w:List Nat) (k:Int):(Int×List Nat×List Nat)×Int:=
 if¬aZ n b w then ((0,gu,gu),1) else if¬(0≤k∧k≤5) then ((0,gu,gu),2) else ((n,wG b w (eH b w n.toNat) k.toNat,wH b w (eH b w n.toNat) k.toNat),0)
set_option maxRecDepth 10000 in
theorem ae9 {x:Bool} {n:Int} {b w:List Nat} {k:Int} {H:BH} {K:Value→BH→Prop} (hb:By 16 b) (hw:By 16 w)
  (hK:K (.tuple ⟨[DV (qZ n b w k).1.1 (qZ n b w k).1.2.1 (qZ n b w k).1.2.2,I (qZ n b w k).2]⟩) H):aQ x YK [DV n b w,I k] H K:=by
 have hlb:=hb.len
 have dI:=hw.len
 have hz:=ji
 refine dR (by exact .cons iK (.cons .int .nil)) ?_
 refine bF ZU ?_;simp only [jV,aI]
 refine au fun Kr hKr=>?_;simp (disch:=omega) only [RA,↓reduceIte,Nat.reduceEqDiff,RD,aF];refine hKr _ _ ?_;clear hKr Kr;(try simp only [RN,reduceIte]);try refine ah rfl ?_
 refine lV (ou ?_);(try simp only [RN,reduceIte]);try refine ah rfl ?_
 refine au fun Kr hKr=>?_;simp (disch:=omega) only [RA,↓reduceIte,Nat.reduceEqDiff,Nat.reduceSub,Nat.reduceLT,RD,aF,aU]
 refine oZ hb hw ?_
 simp (disch:=omega) only [RA,↓reduceIte,Nat.reduceEqDiff,RD]
 refine hKr _ _ ?_;clear hKr Kr;(try simp only [aK,aP,aN]);(try simp only [RN,reduceIte]);try refine ah rfl ?_
 refine qN (p:= ¬aZ n b w) (by simp only [RA,↓reduceIte,Nat.reduceEqDiff]<;>rfl) (by (try simp only [RB])<;>first|done|exact Iff.rfl|omega|simp) (fun hc=>?_) (fun hc=>?_)<;>(try simp only [RN,reduceIte])<;>(try refine ah rfl ?_)
 ·refine au fun Kr hKr=>?_;simp (disch:=omega) only [RA,↓reduceIte,Nat.reduceEqDiff,RD,aF,aU];refine hKr _ _ ?_;clear hKr Kr;(try simp only [RN,reduceIte]);try refine ah rfl ?_
  simp only [aK,aP,aN,if_true]
  refine aS (by simp (disch:=omega) only [RA,↓reduceIte,Nat.reduceEqDiff,RD,aG,aO,aF,aU];rfl) aC.refl ?_;simp only [aH]
  rw [qZ,if_pos hc] at hK
  exact ⟨sG,hK⟩
 have hd:=Decidable.not_not.1 hc
 by_cases hk0:k<0
 ·refine au fun Kr hKr=>?_;simp (disch:=omega) only [RA,↓reduceIte,Nat.reduceEqDiff,RD,hk0];refine hKr _ _ ?_;clear hKr Kr;(try simp only [RN,reduceIte]);try refine ah rfl ?_
  refine lW (t:=true) (by simp (disch:=omega) only [RA,↓reduceIte,Nat.reduceEqDiff,RD]) ?_;(try simp only [RN,reduceIte]);try refine ah rfl ?_
  refine au fun Kr hKr=>?_;simp (disch:=omega) only [RA,↓reduceIte,Nat.reduceEqDiff,RD,aF,aU];refine hKr _ _ ?_;clear hKr Kr;(try simp only [RN,reduceIte]);try refine ah rfl ?_
  simp only [aK,aP,aN,if_true]
  refine aS (by simp (disch:=omega) only [RA,↓reduceIte,Nat.reduceEqDiff,RD,aG,aO,aF,aU];rfl) aC.refl ?_;simp only [aH]
  rw [qZ,if_neg (by simpa using hd),if_pos (by omega)] at hK
  exact ⟨sG,hK⟩
 refine au fun Kr hKr=>?_;simp (disch:=omega) only [RA,↓reduceIte,Nat.reduceEqDiff,RD,hk0];refine hKr _ _ ?_;clear hKr Kr;(try simp only [RN,reduceIte]);try refine ah rfl ?_
 refine qN (p:=k>5) (by simp only [RA,↓reduceIte,Nat.reduceEqDiff]<;>rfl) (by (try simp only [RB])<;>first|done|exact Iff.rfl|omega|simp) (fun hc=>?_) (fun hc=>?_)<;>(try simp only [RN,reduceIte])<;>(try refine ah rfl ?_)
 ·refine au fun Kr hKr=>?_;simp (disch:=omega) only [RA,↓reduceIte,Nat.reduceEqDiff,RD,aF,aU];refine hKr _ _ ?_;clear hKr Kr;(try simp only [RN,reduceIte]);try refine ah rfl ?_
  simp only [aK,aP,aN,if_true]
  refine aS (by simp (disch:=omega) only [RA,↓reduceIte,Nat.reduceEqDiff,RD,aG,aO,aF,aU];rfl) aC.refl ?_;simp only [aH]
  rw [qZ,if_neg (by simpa using hd),if_pos (by omega)] at hK
  exact ⟨sG,hK⟩
 simp only [aK,aP,aN,if_true]
 obtain ⟨m,rfl,hm1,hm2⟩:=hd.n0
 obtain ⟨j,rfl⟩: ∃j:Nat,k=j:=⟨k.toNat,by omega⟩
 have hf:By 16 (eH b w m):=Ux (by omega)
 have hlf:=hf.len
 rw [qZ,if_neg (by simpa using hd),if_neg (by omega)] at hK
 simp only [Int.toNat_natCast] at hK
 have hl1:= @afu 16 b w (eH b w m) hlb dI hlf j
 have hl2:= @afv 16 b w (eH b w m) hlb dI hlf j
 refine au fun Kr hKr=>?_;simp (disch:=omega) only [RA,↓reduceIte,Nat.reduceEqDiff,Nat.reduceSub,Nat.reduceLT,RD,aF,aU]
 refine UC hb hw (by omega) (hd.1.qW hlb) (hd.2.1.qW dI) ?_
 generalize eH b w m=f at hf hlf hK hl1 hl2
 simp (disch:=omega) only [RA,↓reduceIte,Nat.reduceEqDiff,Nat.reduceBEq,Nat.reduceSub,Nat.reduceAdd,Nat.reduceLT,RD,aF,aU]
 refine hKr _ _ ?_;clear hKr Kr;(try simp only [aK,aP,aN]);(try simp only [RN,reduceIte]);try refine ah rfl ?_
 have h6:=Va _ _ _ (@Vd 16 b w f hlb dI hlf) (@aft b w f j (by omega))
 have e1:= @xZ 16 (.int .u8 0) b w hlb dI
 have e2:= @xZ 16 (.int .u8 0) w b dI hlb
 have e3:= @xZ 16 (.int .u8 0) w f dI hlf
 have e4:= @xZ 16 (.int .u8 0) f b hlf hlb
 have e5:= @xZ 16 (.int .u8 0) b f hlb hlf
 have e6:= @xZ 16 (.int .u8 0) f w hlf dI
 simp only [Nat.reduceAdd] at e1 e2 e3 e4 e5 e6 h6
 have h7:bK (dA (List.replicate 32 (.int .u8 0)) 6) [(0,32,bJ (PC b w)),(32,32,bJ (PC w b)),(64,32,bJ (PC w f)),(96,32,bJ (PC f b)),(128,32,bJ (PC b f)),(160,32,bJ (PC f w))]=some (vw b w f).flatten:=by
  have:=Jh (e:=32) (vw b w f) [] (dA (List.replicate 32 (.int .u8 0)) 6) (Vd (m:=16) hlb dI hlf) (by rw [afs];simp [vw,ES])
  simpa [prt,vw,ES] using this
 have h8:=fun {H:BH} {i:Nat}=> @afr 16 H i (.int .u8 0) (wG b w f j) (wH b w f j) hl1 hl2
 have h9:= @afo 16 (wG b w f j) (wH b w f j) hl1
 have h10:= @afp 16 (wG b w f j) (wH b w f j) hl1 hl2
 simp only [Nat.reduceAdd] at h8
 generalize (vw b w f).flatten=X at h6 h7
 simp only [PC] at e1 e2 e3 e4 e5 e6 h6 h7 h8 h9 h10
 refine au fun Kr hKr=>?_;simp (disch:=omega) only [RA,↓reduceIte,Nat.reduceEqDiff,Nat.reduceAdd,Nat.reduceMul,Nat.reduceLeDiff,RD,aF,aU,e1,e2,e3,e4,e5,e6,h7,h6,h8];refine hKr _ _ ?_;clear hKr Kr;(try simp only [RN,reduceIte]);try refine ah rfl ?_
 refine au fun Kr hKr=>?_;simp (disch:=omega) only [RA,↓reduceIte,Nat.reduceEqDiff,Nat.reduceMul,Int.reduceToNat,RD,aF,aU,h9,h10];refine hKr _ _ ?_;clear hKr Kr;(try simp only [RN,reduceIte]);try refine ah rfl ?_
 refine aS (by simp (disch:=omega) only [RA,↓reduceIte,Nat.reduceEqDiff,RD,aG,aO,aF,aU];rfl) aC.refl ?_;simp only [aH]
 exact ⟨sG,hK⟩
end Go.Bm
namespace Go.Bm
open Go Go.Am
def sH:List Bool:=List.replicate 16 false
theorem ET {x:Nat}:bl sH x=false:=xQ
theorem yc:sH.length=16:=by simp [sH]
def stA (x:Nat):BS:=(sH.set x true,[x])
structure mJ (ls:List (List Nat)) (n x d:Nat) (st:BS):Prop where
 len:st.1.length=16
 mem: ∀y,bl st.1 y=true↔y∈st.2
 gW:st.2.Nodup
 lt: ∀y∈st.2,y<n
 pre: ∃r,st.2=x::r
 le:d≤st.2.length
 done: ∀j,j<d→ ∀p∈ls,nl p (nl st.2 j)∈st.2
theorem mJ.visit {ls:List (List Nat)} {n x d y:Nat} {st:BS} (hn:n≤16) (h:mJ ls n x d st) (hy:y<n):mJ ls n x d (Bm.visit st y)∧(∃q,(Bm.visit st y).2=st.2++q)∧y∈(Bm.visit st y).2:=by
 unfold Bm.visit
 by_cases hb:bl st.1 y=true
 ·rw [if_pos hb]
  exact ⟨h,⟨[],by simp⟩,(h.mem y).1 hb⟩
 ·rw [if_neg hb]
  have hny:y∉st.2:=fun hm=>hb ((h.mem y).2 hm)
  refine ⟨⟨by simpa using h.len,fun z=>?_,?_,fun z hz=>?_,?_,?_,fun j hj1 p hp=>?_⟩,⟨[y],rfl⟩,by simp⟩
  ·show bl (st.1.set y true) z=true↔z∈st.2++[y]
   rw [jh]
   by_cases e:z=y
   ·subst e
    rw [if_pos ⟨rfl,by have:=h.len;omega⟩]
    simp
   ·rw [if_neg (fun k=>e k.1),h.mem z]
    simp [e]
  ·show (st.2++[y]).Nodup
   rw [List.nodup_append]
   exact ⟨h.gW,by simp,fun a ha b hb=>by
    rw [List.mem_singleton] at hb
    subst hb
    exact fun e=>hny (e▸ha)⟩
  ·rcases List.mem_append.1 hz with k|k
   ·exact h.lt z k
   ·rw [List.mem_singleton] at k
    omega
  ·obtain ⟨r,hr⟩:=h.pre
   exact ⟨r++[y],by show st.2++[y]=_;rw [hr];rfl⟩
  ·show d≤(st.2++[y]).length
   have:=h.le
   simp
   omega
  ·show nl p (nl (st.2++[y]) j)∈st.2++[y]
   rw [oW,if_pos (by have:=h.le;omega)]
   exact List.mem_append_left _ (h.done j hj1 p hp)
theorem mJ.round {ls:List (List Nat)} {n x d z:Nat} (hn:n≤16): ∀{l2:List (List Nat)} {st:BS},mJ ls n x d st→(∀p∈l2,nl p z<n)→mJ ls n x d (iJ l2 z st)∧(∃q,(iJ l2 z st).2=st.2++q)∧ ∀p∈l2,nl p z∈(iJ l2 z st).2
 |[],st,h,_=>⟨h,⟨[],by simp [iJ]⟩,by simp⟩
 |p::l2,st,h,hp=>by
  obtain ⟨h1,⟨q1,h2⟩,h3⟩:=h.visit hn (hp p (by simp))
  obtain ⟨h4,⟨q2,h5⟩,h6⟩:=mJ.round hn (l2:=l2) h1 fun q hq=>hp q (by simp [hq])
  have e:iJ (p::l2) z st=iJ l2 z (Bm.visit st (nl p z)):=rfl
  rw [e]
  refine ⟨h4,⟨q1++q2,by rw [h5,h2,List.append_assoc]⟩,fun q hq=>?_⟩
  rcases List.mem_cons.1 hq with rfl|hq
  ·rw [h5]
   exact List.mem_append_left _ h3
  ·exact h6 q hq
theorem mJ.bf {ls:List (List Nat)} {n x:Nat} {st:BS} (hn:n≤16) (hl: ∀p∈ls,∀y,y<n→nl p y<n) (h:mJ ls n x 0 st): ∀i,mJ ls n x (min i (Bm.bf ls st i).2.length) (Bm.bf ls st i)
 |0=>by rw [Nat.zero_min];exact h
 |i+1=>by
  have ih:=mJ.bf hn hl h i
  simp only [Bm.bf]
  generalize Bm.bf ls st i=s at ih⊢
  by_cases hi:i<s.2.length
  ·rw [if_pos hi]
   rw [Nat.min_eq_left (by omega)] at ih
   obtain ⟨h1,⟨q,h2⟩,h3⟩:=ih.round hn (z:=nl s.2 i) (l2:=ls) fun p hp=>hl p hp _ (ih.lt _ (eu hi))
   have hlen:i+1≤(iJ ls (nl s.2 i) s).2.length:=by rw [h2];simp;omega
   rw [Nat.min_eq_left hlen]
   refine ⟨h1.len,h1.mem,h1.gW,h1.lt,h1.pre,hlen,fun j hj p hp=>?_⟩
   by_cases e:j=i
   ·subst e
    have:nl (iJ ls (nl s.2 j) s).2 j=nl s.2 j:=by rw [h2,oW,if_pos hi]
    rw [this]
    exact h3 p hp
   ·exact h1.done j (by omega) p hp
  ·rw [if_neg hi]
   rw [Nat.min_eq_right (by omega)] at ih
   rw [Nat.min_eq_right (by omega)]
   exact ih
theorem mJ.start {ls:List (List Nat)} {n x:Nat} (hn:n≤16) (hx:x<n):mJ ls n x 0 (stA x):=by
 refine ⟨by simp [stA,yc],fun y=>?_,by simp [stA],fun y hy=>?_,⟨[],rfl⟩,Nat.zero_le _,fun j hj=>by omega⟩
 ·show bl (sH.set x true) y=true↔y∈[x]
  rw [jh,yc,ET]
  by_cases e:y=x
  ·rw [if_pos ⟨e,by omega⟩];simp [e]
  ·rw [if_neg (fun k=>e k.1)];simp [e]
 ·rw [show (stA x).2=[x] from rfl,List.mem_singleton] at hy
  omega
theorem AV {n:Nat} {l:List Nat} (h:l.Nodup) (hl: ∀x∈l,x<n):l.length≤n:=by
 have:=List.Nodup.length_le_of_subset h (l₂:=List.range n) fun x hx=>List.mem_range.2 (hl x hx)
 simpa using this
theorem afw {n:Nat} {l:List Nat} (h:l.Nodup) (hl: ∀x∈l,x<n) (hn:n≤l.length) {x:Nat} (hx:x<n):x∈l:=by
 apply Classical.byContradiction
 intro hxl
 have:=AV (n:=n) (l:=x::l) (List.nodup_cons.2 ⟨hxl,h⟩) (by
  intro y hy
  rcases List.mem_cons.1 hy with rfl|hy
  ·exact hx
  ·exact hl y hy)
 rw [List.length_cons] at this
 omega
def ord (b w:List Nat) (x:Nat):List Nat:=(bf [b,w] (stA x) 16).2
section
variable {b w:List Nat} {n:Nat}
theorem rC (hb:Perm b n) (hw:Perm w n) {x:Nat} (hx:x<n):mJ [b,w] n x (ord b w x).length (bf [b,w] (stA x) 16):=by
 have hn:=hb.1
 have h:=(mJ.start (ls:=[b,w]) (x:=x) (n:=n) (by omega) hx).bf (by omega) (by
  intro p hp y hy
  simp only [List.mem_cons,List.not_mem_nil,or_false] at hp
  rcases hp with rfl|rfl
  ·exact hb.lt hy
  ·exact hw.lt hy) 16
 have h16:=AV h.gW h.lt
 rw [Nat.min_eq_right (by omega)] at h
 exact h
theorem Ji (hb:Perm b n) (hw:Perm w n) {x:Nat} (hx:x<n): ∀y∈ord b w x,nl b y∈ord b w x∧nl w y∈ord b w x:=fun y hy=>by
 have h:=rC hb hw hx
 obtain ⟨j,hj,rfl⟩:=kZ hy
 exact ⟨h.done j hj b (by simp),h.done j hj w (by simp)⟩
theorem EU {p:List Nat} (hp:Perm p n) {S:Nat→Prop} (hS: ∀x,x<n→S x→S (nl p x)) {x:Nat} (hx:x<n) (h:S (nl p x)):S x:=by
 obtain ⟨c,hc,hxc⟩:=rD hp hx
 have hi:=kJ hp hc
 obtain ⟨j,hj,hje⟩:=kZ (hi.fwd hxc)
 have hup: ∀d,j+d<c.length→S (nl c (j+d)):=by
  intro d
  induction d with
  |zero=>intro _;rw [Nat.add_zero,hje];exact h
  |succ d ih=>
   intro hd
   rw [←Nat.add_assoc,←hi.step (j+d) (by omega)]
   exact hS _ (hi.lt _ (eu (by omega))) (ih (by omega))
 have h0:S (nl c 0):=by
  rw [←hi.last]
  have:=hup (c.length-1-j) (by omega)
  rw [show j+(c.length-1-j)=c.length-1 by omega] at this
  exact hS _ (hi.lt _ (eu (by omega))) this
 have hall: ∀k,k<c.length→S (nl c k):=by
  intro k
  induction k with
  |zero=>intro _;exact h0
  |succ k ih=>
   intro hk
   rw [←hi.step k hk]
   exact hS _ (hi.lt _ (eu (by omega))) (ih (by omega))
 obtain ⟨k,hk,rfl⟩:=kZ hxc
 exact hall k hk
theorem aZ.reach (h:aZ n b w) {y:Nat} (hy:y<n):y∈ord b w 0:=by
 obtain ⟨hb,hw,hr⟩:=h
 have hn:=hb.1
 have h1:=rC hb hw (x:=0) (by omega)
 refine afw h1.gW h1.lt ?_ hy
 have:(Bm.reach b w).2.length=n:=by omega
 have e:(bf [b,w] (stA 0) 16).2.length=n:=this
 omega
theorem aZ.ind (h:aZ n b w) (S:Nat→Prop) (s1: ∀z,z<n→S z→S (nl b z)) (s2: ∀z,z<n→S z→S (nl w z)) (s0:S 0): ∀z,z<n→S z:=by
 obtain ⟨hb,hw,hr⟩:=id h
 have hn:=hb.1
 intro z hz
 have hcl: ∀i,∀z∈(bf [b,w] (stA 0) i).2,z<n∧S z:=by
  have hv: ∀(st:BS) (y:Nat),(∀z∈st.2,z<n∧S z)→y<n→S y→ ∀z∈(visit st y).2,z<n∧S z:=by
   intro st y h1 h2 h3 z hz
   unfold visit at hz
   split at hz
   ·exact h1 z hz
   ·rcases List.mem_append.1 hz with k|k
    ·exact h1 z k
    ·rw [List.mem_singleton] at k
     subst k
     exact ⟨h2,h3⟩
  intro i
  induction i with
  |zero=>
   intro z hz
   have:z=0:=by simpa [bf,stA] using hz
   subst this
   exact ⟨by omega,s0⟩
  |succ i ih=>
   simp only [bf]
   split
   ·rename_i hi
    obtain ⟨hz1,hz2⟩:=ih _ (eu hi)
    exact hv _ _ (hv _ _ ih (hb.lt hz1) (s1 _ hz1 hz2)) (hw.lt hz1) (s2 _ hz1 hz2)
   ·exact ih
 exact (hcl 16 z (h.reach hz)).2
theorem aZ.all (h:aZ n b w) {x y:Nat} (hx:x<n) (hy:y<n):y∈ord b w x:=by
 obtain ⟨hb,hw,hr⟩:=id h
 have hn:=hb.1
 have h0:=h.ind
 have hx0:(ord b w x)=(ord b w x):=rfl
 have hfw:=Ji hb hw hx
 have key: ∀z,z<n→(z∈ord b w x↔0∈ord b w x):=by
  refine h0 _ ?_ ?_ Iff.rfl
  ·intro z hz hS
   rw [←hS]
   exact ⟨EU hb (S:=fun z=>z∈ord b w x) (fun z _ h=>(hfw z h).1) hz,fun h=>(hfw z h).1⟩
  ·intro z hz hS
   rw [←hS]
   exact ⟨EU hw (S:=fun z=>z∈ord b w x) (fun z _ h=>(hfw z h).2) hz,fun h=>(hfw z h).2⟩
 have hxx:x∈ord b w x:=by
  obtain ⟨r,hr⟩:=(rC hb hw hx).pre
  rw [ord,hr]
  simp
 exact (key y hy).2 ((key x hx).1 hxx)
theorem rE (h:aZ n b w) {x:Nat} (hx:x<n):(ord b w x).length=n:=by
 have h1:=rC h.1 h.2.1 hx
 have h2:=AV h1.gW h1.lt
 have h3:=List.Nodup.length_le_of_subset (List.nodup_range (n:=n)) (l₂:=ord b w x) fun y hy=>h.all hx (List.mem_range.1 hy)
 rw [List.length_range] at h3
 have:(ord b w x).length≤n:=h2
 omega
theorem Ve (h:aZ n b w) {x:Nat} (hx:x<n):(ord b w x).Nodup:=(rC h.1 h.2.1 hx).gW
theorem yg (h:aZ n b w) {x:Nat} (hx:x<n) {j:Nat} (hj:j<n):nl (ord b w x) j<n:=(rC h.1 h.2.1 hx).lt _ (eu (by have:=rE h hx;rw [ord] at this;omega))
theorem Vf (h:aZ n b w) {x:Nat} (hx:x<n):nl (ord b w x) 0=x:=by
 obtain ⟨r,hr⟩:=(rC h.1 h.2.1 hx).pre
 rw [ord,hr]
 rfl
def lM (l:List Nat):Nat→List Nat
 |0=>List.replicate 16 0
 |k+1=>(lM l k).set (nl l k) k
theorem Jj {l:List Nat} {k:Nat}:(lM l k).length=16:=by
 induction k with
 |zero=>simp [lM]
 |succ k ih=>simp [lM,ih]
theorem afx {l:List Nat} {k i:Nat}:nl (lM l k) i≤k:=by
 induction k generalizing i with
 |zero=>simp only [lM,qw];split<;>omega
 |succ k ih=>
  rw [lM,jI]
  split
  ·omega
  ·have:= @ih i;omega
theorem Vg {l:List Nat} (hd:l.Nodup) (hl: ∀x∈l,x<16): ∀{k j:Nat},k≤l.length→j<k→nl (lM l k) (nl l j)=j
 |0,j,_,h=>by omega
 |k+1,j,hk,hj=>by
  rw [lM,jI,Jj]
  by_cases e:j=k
  ·subst e
   rw [if_pos ⟨rfl,hl _ (eu (by omega))⟩]
  ·rw [if_neg (fun h=>e (o9 hd (by omega) (by omega) h.1)),Vg hd hl (by omega) (by omega)]
def gX (b w:List Nat) (x:Nat):List Nat:=lM (ord b w x) (ord b w x).length
theorem yh (h:aZ n b w) {x:Nat} (hx:x<n) {j:Nat} (hj:j<n):nl (gX b w x) (nl (ord b w x) j)=j:=by
 have hn:=h.1.1
 have hl:=rE h hx
 exact Vg (Ve h hx) (fun y hy=>by have:=(rC h.1 h.2.1 hx).lt y hy;omega) (Nat.le_refl _) (by omega)
theorem mM (h:aZ n b w) {x:Nat} (hx:x<n) {y:Nat} (hy:y<n):nl (ord b w x) (nl (gX b w x) y)=y∧nl (gX b w x) y<n:=by
 obtain ⟨j,hj,rfl⟩:=kZ (h.all hx hy)
 rw [rE h hx] at hj
 rw [yh h hx hj]
 exact ⟨rfl,hj⟩
def dJ (p nm:List Nat):Nat→List Nat
 |0=>List.replicate 16 0
 |k+1=>(dJ p nm k).set (nl nm k) (nl nm (nl p k))
theorem o8 {p nm:List Nat} {k:Nat}:(dJ p nm k).length=16:=by
 induction k with
 |zero=>simp [dJ]
 |succ k ih=>simp [dJ,ih]
theorem EW {p nm:List Nat} (hd: ∀i j,i<n→j<n→nl nm i=nl nm j→i=j) (hl: ∀i,i<n→nl nm i<16): ∀{k j:Nat},k≤n→j<k→nl (dJ p nm k) (nl nm j)=nl nm (nl p j)
 |0,j,_,h=>by omega
 |k+1,j,hk,hj=>by
  rw [dJ,jI,o8]
  by_cases e:j=k
  ·subst e
   rw [if_pos ⟨rfl,hl _ (by omega)⟩]
  ·rw [if_neg (fun h=>e (hd _ _ (by omega) (by omega) h.1)),EW hd hl (by omega) (by omega)]
theorem EX {p nm:List Nat} {m i:Nat} (hl: ∀i,i<n→nl nm i<m) (hi:m≤i): ∀{k:Nat},k≤n→nl (dJ p nm k) i=0
 |0,_=>by simp only [dJ,qw];split<;>rfl
 |k+1,hk=>by
  have:=hl k (by omega)
  rw [dJ,jI,if_neg (by omega),EX hl hi (by omega)]
def fC (b w:List Nat) (n x:Nat):List Nat×List Nat:=(dJ b (gX b w x) n,dJ w (gX b w x) n)
theorem Jk (h:aZ n b w) {x:Nat} (hx:x<n): ∀i j,i<n→j<n→nl (gX b w x) i=nl (gX b w x) j→i=j:=fun i j hi hj he=>by
 have h1:=(mM h hx hi).1
 rw [he,(mM h hx hj).1] at h1
 exact h1.symm
theorem EY (h:aZ n b w) {x:Nat} (hx:x<n) {y:Nat} (hy:y<n):nl (fC b w n x).1 (nl (gX b w x) y)=nl (gX b w x) (nl b y):=
 EW (Jk h hx) (fun i hi=>by have:=(mM h hx hi).2;have:=h.1.1;omega) (Nat.le_refl _) hy
theorem EZ (h:aZ n b w) {x:Nat} (hx:x<n) {y:Nat} (hy:y<n):nl (fC b w n x).2 (nl (gX b w x) y)=nl (gX b w x) (nl w y):=
 EW (Jk h hx) (fun i hi=>by have:=(mM h hx hi).2;have:=h.1.1;omega) (Nat.le_refl _) hy
end
section
variable {b w b' w':List Nat} {n:Nat}
structure vC (n:Nat) (b w b' w':List Nat) (φ:Nat→Nat):Prop where
 lt: ∀y,y<n→φ y<n
 inj: ∀y z,y<n→z<n→φ y=φ z→y=z
 b: ∀y,y<n→nl b' (φ y)=φ (nl b y)
 w: ∀y,y<n→nl w' (φ y)=φ (nl w y)
structure AX (n:Nat) (φ:Nat→Nat) (st st':BS):Prop where
 ord:st'.2=st.2.map φ
 lt: ∀y∈st.2,y<n
 met: ∀y,y<n→bl st'.1 (φ y)=bl st.1 y
 len:st.1.length=16∧st'.1.length=16
theorem AX.visit {φ:Nat→Nat} {st st':BS} {y:Nat} (hn:n≤16) (hl: ∀y,y<n→φ y<n) (hinj: ∀y z,y<n→z<n→φ y=φ z→y=z) (h:AX n φ st st') (hy:y<n):AX n φ (Bm.visit st y) (Bm.visit st' (φ y)):=by
 unfold Bm.visit
 rw [h.met y hy]
 by_cases hb:bl st.1 y=true
 ·rw [if_pos hb,if_pos hb];exact h
 ·rw [if_neg hb,if_neg hb]
  refine ⟨by simp [h.ord],fun z hz=>?_,fun z hz=>?_,by simpa using h.len⟩
  ·rcases List.mem_append.1 hz with k|k
   ·exact h.lt z k
   ·rw [List.mem_singleton] at k;omega
  ·show bl (st'.1.set (φ y) true) (φ z)=bl (st.1.set y true) z
   have:=hl y hy
   rw [jh,jh,h.len.1,h.len.2,h.met z hz]
   by_cases e:z=y
   ·subst e;rw [if_pos ⟨rfl,by omega⟩,if_pos ⟨rfl,by omega⟩]
   ·rw [if_neg (fun k=>e (hinj _ _ hz hy k.1)),if_neg (fun k=>e k.1)]
theorem Vh {φ:Nat→Nat} {l:List Nat} {i:Nat} (h:i<l.length):nl (l.map φ) i=φ (nl l i):=by simp [nl,List.getD,h]
theorem vC.ord {φ:Nat→Nat} (hn:n≤16) (hb:Perm b n) (hw:Perm w n) (h:vC n b w b' w' φ) {x:Nat} (hx:x<n):Bm.ord b' w' (φ x)=(Bm.ord b w x).map φ:=by
 have key: ∀i,AX n φ (bf [b,w] (stA x) i) (bf [b',w'] (stA (φ x)) i):=by
  intro i
  induction i with
  |zero=>
   refine ⟨rfl,fun y hy=>?_,fun y hy=>?_,by simp [bf,stA,yc]⟩
   ·have:y=x:=by simpa [bf,stA] using hy
    omega
   ·show bl (sH.set (φ x) true) (φ y)=bl (sH.set x true) y
    have:=h.lt x hx
    rw [jh,jh,yc,ET,ET]
    by_cases e:y=x
    ·subst e;rw [if_pos ⟨rfl,by omega⟩,if_pos ⟨rfl,by omega⟩]
    ·rw [if_neg (fun k=>e (h.inj _ _ hy hx k.1)),if_neg (fun k=>e k.1)]
  |succ i ih=>
   simp only [bf]
   generalize bf [b,w] (stA x) i=st at ih⊢
   generalize bf [b',w'] (stA (φ x)) i=st' at ih⊢
   have hle:st'.2.length=st.2.length:=by rw [ih.ord,List.length_map]
   rw [hle]
   by_cases hi:i<st.2.length
   ·rw [if_pos hi,if_pos hi]
    have e:nl st'.2 i=φ (nl st.2 i):=by rw [ih.ord,Vh hi]
    rw [e]
    generalize hz:nl st.2 i=z
    have hz1:z<n:=by rw [←hz];exact ih.lt _ (eu hi)
    show AX n φ (Bm.visit (Bm.visit st (nl b z)) (nl w z)) (Bm.visit (Bm.visit st' (nl b' (φ z))) (nl w' (φ z)))
    rw [h.b z hz1,h.w z hz1]
    exact (ih.visit hn h.lt h.inj (hb.lt hz1)).visit hn h.lt h.inj (hw.lt hz1)
   ·rw [if_neg hi,if_neg hi]
    exact ih
 exact (key 16).ord
theorem vC.gX {φ:Nat→Nat} (hd:aZ n b w) (hd':aZ n b' w') (h:vC n b w b' w' φ) {x:Nat} (hx:x<n) {y:Nat} (hy:y<n):nl (Bm.gX b' w' (φ x)) (φ y)=nl (Bm.gX b w x) y:=by
 have hn:=hd.1.1
 obtain ⟨h1,h2⟩:=mM hd hx hy
 have h3:=h.ord (by omega) hd.1 hd.2.1 hx
 have h4:=yh hd' (h.lt x hx) h2
 rw [h3,Vh (by rw [rE hd hx];exact h2),h1] at h4
 exact h4
theorem vC.fC {φ:Nat→Nat} (hd:aZ n b w) (hd':aZ n b' w') (h:vC n b w b' w' φ) {x:Nat} (hx:x<n):Bm.fC b' w' n (φ x)=Bm.fC b w n x:=by
 have hn:=hd.1.1
 have hx':=h.lt x hx
 have hz: ∀{b w:List Nat},aZ n b w→ ∀{x},x<n→ ∀i,n≤i→nl (Bm.fC b w n x).1 i=0∧nl (Bm.fC b w n x).2 i=0:=fun hd x hx i hi=>
  ⟨EX (n:=n) (m:=n) (fun i hi=>(mM hd hx hi).2) hi (Nat.le_refl _),EX (n:=n) (m:=n) (fun i hi=>(mM hd hx hi).2) hi (Nat.le_refl _)⟩
 have key: ∀i,i<16→nl (Bm.fC b' w' n (φ x)).1 i=nl (Bm.fC b w n x).1 i∧nl (Bm.fC b' w' n (φ x)).2 i=nl (Bm.fC b w n x).2 i:=by
  intro i _
  rcases Nat.lt_or_ge i n with hi|hi
  ·have hy:=yg hd hx hi
   have e:=yh hd hx hi
   generalize mD:nl (Bm.ord b w x) i=y at hy e
   have e':=h.gX hd hd' hx hy
   rw [e] at e'
   have f1:=EY hd' hx' (h.lt y hy)
   have f2:=EZ hd' hx' (h.lt y hy)
   have g1:=EY hd hx hy
   have g2:=EZ hd hx hy
   rw [e',h.b y hy,h.gX hd hd' hx (hd.1.lt hy)] at f1
   rw [e',h.w y hy,h.gX hd hd' hx (hd.2.1.lt hy)] at f2
   rw [e] at g1 g2
   rw [f1,f2,g1,g2]
   exact ⟨rfl,rfl⟩
  ·obtain ⟨h1,h2⟩:=hz hd hx i hi
   obtain ⟨h3,h4⟩:=hz hd' hx' i hi
   rw [h1,h2,h3,h4]
   exact ⟨rfl,rfl⟩
 refine Prod.ext ?_ ?_
 ·exact IV (by simp only [Bm.fC,o8]) fun i hi=>(key i (by simpa only [Bm.fC,o8] using hi)).1
 ·exact IV (by simp only [Bm.fC,o8]) fun i hi=>(key i (by simpa only [Bm.fC,o8] using hi)).2
theorem Jl {x y:Nat} (hd:aZ n b w) (hd':aZ n b' w') (hx:x<n) (hy:y<n) (h:Bm.fC b' w' n y=Bm.fC b w n x): ∃φ,vC n b w b' w' φ∧φ x=y:=by
 refine ⟨fun z=>nl (Bm.ord b' w' y) (nl (Bm.gX b w x) z),⟨fun z hz=>?_,fun z z' hz hz' he=>?_,fun z hz=>?_,fun z hz=>?_⟩,?_⟩
 ·exact yg hd' hy (mM hd hx hz).2
 ·have h1:=o9 (Ve hd' hy) (by rw [rE hd' hy];exact (mM hd hx hz).2) (by rw [rE hd' hy];exact (mM hd hx hz').2) he
  exact Jk hd hx z z' hz hz' h1
 ·have hk:=(mM hd hx hz).2
  have hu:=yg hd' hy hk
  have e:=yh hd' hy hk
  have g1:=EY hd' hy hu
  rw [e,h,EY hd hx hz] at g1
  show nl b' (nl (Bm.ord b' w' y) (nl (Bm.gX b w x) z))=nl (Bm.ord b' w' y) (nl (Bm.gX b w x) (nl b z))
  rw [g1]
  exact (mM hd' hy (hd'.1.lt hu)).1.symm
 ·have hk:=(mM hd hx hz).2
  have hu:=yg hd' hy hk
  have e:=yh hd' hy hk
  have g1:=EZ hd' hy hu
  rw [e,h,EZ hd hx hz] at g1
  show nl w' (nl (Bm.ord b' w' y) (nl (Bm.gX b w x) z))=nl (Bm.ord b' w' y) (nl (Bm.gX b w x) (nl w z))
  rw [g1]
  exact (mM hd' hy (hd'.2.1.lt hu)).1.symm
 ·have:=Vf hd hx
  have h0:=yh hd hx (j:=0) (by have:=hd.1.1;omega)
  rw [this] at h0
  show nl (Bm.ord b' w' y) (nl (Bm.gX b w x) x)=y
  rw [h0]
  exact Vf hd' hy
end
abbrev L2:=List Nat×List Nat
def nY (x y:L2):Prop:=x.1<y.1∨(x.1=y.1∧x.2<y.2)
instance (x y:L2):Decidable (nY x y):=by unfold nY;infer_instance
theorem Vj (x:L2): ¬nY x x:=fun h=>by
 rcases h with h|h
 ·exact List.lt_irrefl _ h
 ·exact List.lt_irrefl _ h.2
theorem lt2_trans {x y z:L2} (h:nY x y) (k:nY y z):nY x z:=by
 rcases h with h|⟨h1,h2⟩<;>rcases k with k|⟨k1,k2⟩
 ·exact .inl (List.lt_trans h k)
 ·exact .inl (k1▸h)
 ·exact .inl (h1▸k)
 ·exact .inr ⟨h1.trans k1,List.lt_trans h2 k2⟩
theorem afy {x y:L2} (h: ¬nY x y) (k: ¬nY y x):x=y:=by
 have e1:x.1=y.1:=List.le_antisymm (List.not_lt.1 fun e=>k (.inl e)) (List.not_lt.1 fun e=>h (.inl e))
 exact Prod.ext e1 (List.le_antisymm (List.not_lt.1 fun e=>k (.inr ⟨e1.symm,e⟩)) (List.not_lt.1 fun e=>h (.inr ⟨e1,e⟩)))
def lN (b w:List Nat) (n:Nat):Nat→L2
 |0=>fC b w n 0
 |k+1=>if nY (fC b w n (k+1)) (lN b w n k) then fC b w n (k+1) else lN b w n k
def jX (b w:List Nat) (n:Nat):L2:=lN b w n (n-1)
section
variable {b w b' w':List Nat} {n:Nat}
theorem yj: ∀{k:Nat},∃x,x≤k∧lN b w n k=fC b w n x
 |0=>⟨0,Nat.le_refl _,rfl⟩
 |k+1=>by
  obtain ⟨x,hx,h⟩:= @yj k
  simp only [lN]
  split
  ·exact ⟨k+1,Nat.le_refl _,rfl⟩
  ·exact ⟨x,by omega,h⟩
theorem Jm: ∀{k x:Nat},x≤k→ ¬nY (fC b w n x) (lN b w n k)
 |0,x,h=>by
  obtain rfl:x=0:=by omega
  exact Vj _
 |k+1,x,h=>by
  simp only [lN]
  by_cases e:x=k+1
  ·subst e
   split
   ·exact Vj _
   ·assumption
  ·have ih:=Jm (show x≤k by omega)
   split
   ·rename_i hl
    exact fun h=>ih (lt2_trans h hl)
   ·exact ih
theorem Vk (hd:aZ n b w) (hd':aZ n b' w'):jX b w n=jX b' w' n↔ ∃x,x<n∧fC b' w' n x=fC b w n 0:=by
 have hn:=hd.1.1
 constructor
 ·intro h
  obtain ⟨y,hy,e⟩:= @yj b w n (n-1)
  obtain ⟨z,hz,e'⟩:= @yj b' w' n (n-1)
  rw [jX,jX,e,e'] at h
  obtain ⟨φ,hi,_⟩:=Jl hd hd' (show y<n by omega) (show z<n by omega) h.symm
  exact ⟨φ 0,hi.lt 0 (by omega),hi.fC hd hd' (by omega)⟩
 ·rintro ⟨x,hx,h⟩
  obtain ⟨φ,hi,_⟩:=Jl hd hd' (show 0<n by omega) hx h
  obtain ⟨ψ,hj,_⟩:=Jl hd' hd hx (show 0<n by omega) h.symm
  obtain ⟨y,hy,e⟩:= @yj b w n (n-1)
  obtain ⟨z,hz,e'⟩:= @yj b' w' n (n-1)
  refine afy ?_ ?_
  ·rw [jX,e,←hi.fC hd hd' (show y<n by omega)]
   exact Jm (by have:=hi.lt y (by omega);omega)
  ·rw [jX,jX,e',←hj.fC hd' hd (show z<n by omega)]
   exact Jm (by have:=hj.lt z (by omega);omega)
end
end Go.Bm
namespace Go.Bm
open Go Go.Am
section
variable {p b w:List Nat} {n:Nat}
theorem Perm.mO (hp:Perm p n) {y:Nat} (hy:y<n): ∃x,x<n∧nl p x=y:=by
 obtain ⟨c,hc,yu⟩:=rD hp hy
 have hi:=kJ hp hc
 obtain ⟨j,hj,rfl⟩:=kZ yu
 by_cases e:j=0
 ·subst e
  exact ⟨_,hi.lt _ (eu (by omega)),hi.last⟩
 ·have:=hi.step (j-1) (by omega)
  rw [show j-1+1=j by omega] at this
  exact ⟨_,hi.lt _ (eu (by omega)),this⟩
theorem nZ (hp:Perm p n): ∀{k i:Nat},k≤n→i<k→nl (dN p k) (nl p i)=i
 |0,_,_,h=>by omega
 |k+1,i,hk,hi=>by
  have hn:=hp.1
  rw [dN,jI,uT]
  by_cases e:i=k
  ·subst e
   rw [if_pos ⟨rfl,by have:=hp.lt (show i<n by omega);omega⟩]
  ·rw [if_neg (fun h=>e (hp.inj (by omega) (by omega) h.1)),nZ hp (by omega) (by omega)]
theorem Vl (hp:Perm p n) {i:Nat} (hi:n≤i): ∀{k:Nat},k≤n→nl (dN p k) i=0
 |0,_=>by simp only [dN,qw];split<;>rfl
 |k+1,hk=>by
  have:=hp.lt (show k<n by omega)
  rw [dN,jI,if_neg (by omega),Vl hp hi (by omega)]
theorem Perm.back (hp:Perm p n):Perm (dN p n) n:=by
 refine ⟨hp.1,fun i _=>⟨fun h=>Vl hp (by omega) (Nat.le_refl _),fun h=>?_⟩⟩
 obtain ⟨x,hx,rfl⟩:=hp.mO (show i<n by omega)
 rw [nZ hp (Nat.le_refl _) hx]
 refine ⟨by omega,fun j hj=>?_⟩
 obtain ⟨y,hy,rfl⟩:=hp.mO (show j<n by omega)
 rw [nZ hp (Nat.le_refl _) hy]
 intro e
 subst e
 omega
theorem afz (hp:Perm p n) {x:Nat} (hx:x<n):nl p (nl (dN p n) x)=x:=by
 obtain ⟨y,hy,rfl⟩:=hp.mO hx
 rw [nZ hp (Nat.le_refl _) hy]
end
end Go.Bm
namespace Go.Bm
open Go Go.Am
def dQ:Nat→List Nat
 |0=>gu
 |i+1=>(dQ i).set i i
def lg (n:Nat):Nat→List Nat
 |0=>gu
 |i+1=>(lg n i).set i ((i+1)%n)
theorem E5 {i:Nat}:nl gu i=0:=by rw [gu,qw];split<;>rfl
theorem mG {k:Nat}:(dQ k).length=16:=by
 induction k with
 |zero=>exact ji
 |succ k ih=>rw [dQ,List.length_set,ih]
theorem AY {n k:Nat}:(lg n k).length=16:=by
 induction k with
 |zero=>exact ji
 |succ k ih=>rw [lg,List.length_set,ih]
theorem yw {k i:Nat} (hk:k≤16):nl (dQ k) i=if i<k then i else 0:=by
 induction k with
 |zero=>rw [dQ,E5,if_neg (by omega)]
 |succ k ih=>
  rw [dQ,jI,ih (by omega),mG]
  by_cases e:i=k
  ·subst e;rw [if_pos ⟨rfl,by omega⟩,if_pos (by omega)]
  ·rw [if_neg (by omega)]
   by_cases h:i<k
   ·rw [if_pos h,if_pos (by omega)]
   ·rw [if_neg h,if_neg (by omega)]
theorem yx {n k i:Nat} (hk:k≤16):nl (lg n k) i=if i<k then (i+1)%n else 0:=by
 induction k with
 |zero=>rw [lg,E5,if_neg (by omega)]
 |succ k ih=>
  rw [lg,jI,ih (by omega),AY]
  by_cases e:i=k
  ·subst e;rw [if_pos ⟨rfl,by omega⟩,if_pos (by omega)]
  ·rw [if_neg (by omega)]
   by_cases h:i<k
   ·rw [if_pos h,if_pos (by omega)]
   ·rw [if_neg h,if_neg (by omega)]
theorem E8 {k:Nat} (hk:k≤16):By 16 (dQ k):=⟨mG,fun i=>by rw [yw hk];split<;>omega⟩
theorem afA {n k:Nat} (hn:1≤n∧n≤16) (hk:k≤16):By 16 (lg n k):=⟨AY,fun i=>by
 rw [yx hk]
 have:=Nat.mod_lt (i+1) (show 0<n by omega)
 split<;>omega⟩
theorem Perm.of {p:List Nat} {n:Nat} (hn:1≤n∧n≤16) (h0: ∀i,n≤i→i<16→nl p i=0) (h1: ∀i,i<n→nl p i<n) (h2: ∀i j,i<n→j<i→nl p j≠nl p i):Perm p n:=
 ⟨by omega,fun i hi=>⟨fun h=>h0 i (by omega) hi,fun h=>⟨by have:=h1 i (by omega);omega,fun j hj=>h2 i j (by omega) hj⟩⟩⟩
theorem Perm.zero {p:List Nat} {n:Nat} (h:Perm p n) {i:Nat} (h1:n≤i) (h2:i<16):nl p i=0:=(h.2 i h2).1 (by omega)
theorem AZ {n:Nat} (hn:1≤n∧n≤16):Perm (dQ n) n:= .of hn
 (fun i h1 h2=>by rw [yw hn.2,if_neg (by omega)]) (fun i h=>by rw [yw hn.2,if_pos h];exact h)
 (fun i j h1 h2=>by rw [yw hn.2,yw hn.2,if_pos h1,if_pos (by omega)];omega)
theorem mod_one {n i:Nat} (h:i<n):(i+1)%n=if i+1=n then 0 else i+1:=by
 split
 ·rename_i e;rw [e,Nat.mod_self]
 ·exact Nat.mod_eq_of_lt (by omega)
theorem afB {n:Nat} (hn:1≤n∧n≤16):Perm (lg n n) n:= .of hn
 (fun i h1 h2=>by rw [yx hn.2,if_neg (by omega)]) (fun i h=>by rw [yx hn.2,if_pos h];exact Nat.mod_lt _ (by omega))
 (fun i j h1 h2=>by
  rw [yx hn.2,yx hn.2,if_pos h1,if_pos (by omega),mod_one h1,mod_one (by omega)]
  split<;>split<;>omega)
theorem Perm.swap {p:List Nat} {n:Nat} (h:Perm p n) (hl:p.length=16) {i k:Nat} (hi:i<n) (hk:k<n):Perm ((p.set i (nl p k)).set k (nl p i)) n:=by
 have hn:=h.1
 have e: ∀j,nl ((p.set i (nl p k)).set k (nl p i)) j=if j=k then nl p i else if j=i then nl p k else nl p j:=fun j=>by
  rw [jI,jI,List.length_set,hl]
  by_cases e1:j=k
  ·rw [if_pos ⟨e1,by omega⟩,if_pos e1]
  ·rw [if_neg (by omega),if_neg e1]
   by_cases e2:j=i
   ·rw [if_pos ⟨e2,by omega⟩,if_pos e2]
   ·rw [if_neg (by omega),if_neg e2]
 refine .of (by omega) (fun j h1 h2=>?_) (fun j hj=>?_) (fun j j' hj hj'=>?_)
 ·rw [e,if_neg (by omega),if_neg (by omega)];exact h.zero h1 h2
 ·rw [e];split
  ·exact h.lt hi
  ·split
   ·exact h.lt hk
   ·exact h.lt hj
 ·rw [e,e]
  intro he
  have key: ∀a b,a<n→b<n→nl p a=nl p b→a=b:=fun a b ha hb hab=>h.inj ha hb hab
  split at he<;>split at he<;>(try split at he)<;>(try split at he)
  all_goals first
   |(have:=key _ _ (by omega) (by omega) he;omega)
theorem aZ.turn {w:List Nat} {n:Nat} (hn:1≤n∧n≤16) (hw:Perm w n):aZ n (lg n n) w:=by
 have hb:=afB hn
 refine ⟨hb,hw,?_⟩
 have h0:=rC hb hw (x:=0) (by omega)
 have hcl:=Ji hb hw (x:=0) (by omega)
 have hin:0∈ord (lg n n) w 0:=by
  obtain ⟨r,hr⟩:=h0.pre
  rw [ord,hr]
  simp
 have hall: ∀y,y<n→y∈ord (lg n n) w 0:=by
  intro y
  induction y with
  |zero=>exact fun _=>hin
  |succ y ih=>
   intro hy
   have:=(hcl y (ih (by omega))).1
   rwa [yx hn.2,if_pos (by omega),mod_one (by omega),if_neg (by omega)] at this
 have h1:=AV h0.gW h0.lt
 have h2:=List.Nodup.length_le_of_subset (List.nodup_range (n:=n)) (l₂:=ord (lg n n) w 0) fun y hy=>hall y (List.mem_range.1 hy)
 rw [List.length_range] at h2
 have e:(Bm.reach (lg n n) w).2.length=n:=Nat.le_antisymm h1 h2
 show ((Bm.reach (lg n n) w).2.length:Int)=n
 omega
theorem E9 {x:Bool} {n:Int} {H:BH} {K:Value→BH→Prop} (hn:n≤16) (hK:K (PL (dQ n.toNat)) H):aQ x Y1 [I n] H K:=by
 have hz:=ji
 refine dR (by simp only [RH]) ?_
 refine bF aar ?_;simp only [jM,aI]
 refine au fun Kr hKr=>?_;simp (disch:=omega) only [RA,↓reduceIte,Nat.reduceEqDiff,RD];refine hKr _ _ ?_;clear hKr Kr;(try simp only [RN,reduceIte]);try refine ah rfl ?_
 refine au fun Kr hKr=>?_;simp (disch:=omega) only [RA,↓reduceIte,Nat.reduceEqDiff,RD];refine hKr _ _ ?_;clear hKr Kr;(try simp only [RN,reduceIte]);try refine ah rfl ?_
 refine au fun Kr hKr=>?_;simp (disch:=omega) only [RA,↓reduceIte,Nat.reduceEqDiff,RD];refine hKr _ _ ?_;clear hKr Kr;(try simp only [RN,reduceIte]);try refine ah rfl ?_
 refine bU (fun m f H'=> ∃k:Nat,k≤n.toNat∧m=n.toNat-k∧f 0=I n∧f 2=P 0 0∧f 3=P 1 0∧f 4=I k∧H'=[some (List.replicate 16 (.int .u8 0)),some ((dQ k).map N8)]) (n.toNat) ?_ ?_
 ·refine ⟨_,_,Gh.refl,0,by omega,by omega,?_,?_,?_,?_,rfl⟩
  any_goals (simp (disch:=omega) only [RA,↓reduceIte,Nat.reduceEqDiff,RD,RE, *]<;>rfl)
 ·rintro m f H' R ⟨k,hk,rfl,g0,g2,g3,g4,rfl⟩ hN hX hR hE
  simp only [jM.l0,aI]
  have hlk:= @mG k
  refine au fun Kr hKr=>?_;simp (disch:=omega) only [RA,↓reduceIte,Nat.reduceEqDiff,RD,g0,g4];refine hKr _ _ ?_;clear hKr Kr;(try simp only [RN,reduceIte]);try refine ah rfl ?_
  refine aX (p:=(k:Int)<n) (by simp only [RA,↓reduceIte,Nat.reduceEqDiff]<;>rfl) (by (try simp only [RB])<;>first|done|exact Iff.rfl|omega|simp) (fun hc=>?_) (fun hc=>?_)<;>(try simp only [RN,reduceIte])<;>(try refine ah rfl ?_)
  ·have sJ:k<16:=by omega
   (first|refine bP rfl ?_|refine bQ rfl ?_);(try simp only [RN,reduceIte]);try refine ah rfl ?_
   refine au fun Kr hKr=>?_;simp (disch:=omega) only [RA,↓reduceIte,Nat.reduceEqDiff,RD,g3,g4,hlk];refine hKr _ _ ?_;clear hKr Kr;(try simp only [RN,reduceIte]);try refine ah rfl ?_
   refine bH fun Kr hKr=>?_;simp (disch:=omega) only [RA,↓reduceIte,Nat.reduceEqDiff,RD,g4];refine hKr _ _ ?_;clear hKr Kr
   refine hN (n.toNat-(k+1)) _ _ _ _ (by omega) Gh.refl ⟨k+1,by omega,rfl,?_,?_,?_,?_,rfl⟩
   any_goals (simp (disch:=omega) only [RA,↓reduceIte,Nat.reduceEqDiff,RD,RE, *]<;>rfl)
  ·refine hX _ _ ?_
   obtain rfl:k=n.toNat:=by omega
   refine au fun Kr hKr=>?_;simp (disch:=omega) only [RA,↓reduceIte,Nat.reduceEqDiff,RD,g2,g3,hlk];refine hKr _ _ ?_;clear hKr Kr;(try simp only [RN,reduceIte]);try refine ah rfl ?_
   refine aS (by simp (disch:=omega) only [RA,↓reduceIte,Nat.reduceEqDiff,RD,aG,aO,g2,hlk];rfl) aC.refl ?_;simp only [aH]
   exact ⟨kM (by (simp only [RH])),hK⟩
theorem afC {x:Bool} {n:Nat} {H:BH} {K:Value→BH→Prop} (hn:1≤n∧n≤16) (hK:K (PL (lg n n)) H):aQ x Zm [I n] H K:=by
 have hz:=ji
 refine dR (by simp only [RH]) ?_
 refine bF aaU ?_;simp only [jQ,aI]
 refine au fun Kr hKr=>?_;simp (disch:=omega) only [RA,↓reduceIte,Nat.reduceEqDiff,RD];refine hKr _ _ ?_;clear hKr Kr;(try simp only [RN,reduceIte]);try refine ah rfl ?_
 refine au fun Kr hKr=>?_;simp (disch:=omega) only [RA,↓reduceIte,Nat.reduceEqDiff,RD];refine hKr _ _ ?_;clear hKr Kr;(try simp only [RN,reduceIte]);try refine ah rfl ?_
 refine au fun Kr hKr=>?_;simp (disch:=omega) only [RA,↓reduceIte,Nat.reduceEqDiff,RD];refine hKr _ _ ?_;clear hKr Kr;(try simp only [RN,reduceIte]);try refine ah rfl ?_
 refine bU (fun m f H'=> ∃k:Nat,k≤n∧m=n-k∧f 0=I n∧f 2=P 0 0∧f 3=P 1 0∧f 4=I k∧H'=[some (List.replicate 16 (.int .u8 0)),some ((lg n k).map N8)]) (n) ?_ ?_
 ·refine ⟨_,_,Gh.refl,0,by omega,by omega,?_,?_,?_,?_,rfl⟩
  any_goals (simp (disch:=omega) only [RA,↓reduceIte,Nat.reduceEqDiff,RD,RE, *]<;>rfl)
 ·rintro m f H' R ⟨k,hk,rfl,g0,g2,g3,g4,rfl⟩ hN hX hR hE
  simp only [jQ.l0,aI]
  have hlk:= @AY n k
  refine au fun Kr hKr=>?_;simp (disch:=omega) only [RA,↓reduceIte,Nat.reduceEqDiff,RD,g0,g4];refine hKr _ _ ?_;clear hKr Kr;(try simp only [RN,reduceIte]);try refine ah rfl ?_
  refine aX (p:=k<n) (by simp only [RA,↓reduceIte,Nat.reduceEqDiff]<;>rfl) (by (try simp only [RB])<;>first|done|exact Iff.rfl|omega|simp) (fun hc=>?_) (fun hc=>?_)<;>(try simp only [RN,reduceIte])<;>(try refine ah rfl ?_)
  ·have sJ:k<16:=by omega
   have hn0:(n:Int)≠0:=by omega
   have hm:=Nat.mod_lt (k+1) (show 0<n by omega)
   have e1:((k:Nat):Int)+1=((k+1:Nat):Int):=by omega
   have e2:(((k+1:Nat):Int)).tmod (n:Int)=(((k+1)%n:Nat):Int):=Int.ofNat_tmod (k+1) n
   (first|refine bP rfl ?_|refine bQ rfl ?_);(try simp only [RN,reduceIte]);try refine ah rfl ?_
   refine au fun Kr hKr=>?_;simp (disch:=omega) only [RA,↓reduceIte,Nat.reduceEqDiff,RD,g0,g3,g4,hlk,hn0,e1,e2];refine hKr _ _ ?_;clear hKr Kr;(try simp only [RN,reduceIte]);try refine ah rfl ?_
   refine bH fun Kr hKr=>?_;simp (disch:=omega) only [RA,↓reduceIte,Nat.reduceEqDiff,RD,g4];refine hKr _ _ ?_;clear hKr Kr
   refine hN (n-(k+1)) _ _ _ _ (by omega) Gh.refl ⟨k+1,by omega,rfl,?_,?_,?_,?_,rfl⟩
   any_goals (simp (disch:=omega) only [RA,↓reduceIte,Nat.reduceEqDiff,RD,RE, *]<;>rfl)
  ·refine hX _ _ ?_
   obtain rfl:k=n:=by omega
   refine au fun Kr hKr=>?_;simp (disch:=omega) only [RA,↓reduceIte,Nat.reduceEqDiff,RD,g2,g3,hlk];refine hKr _ _ ?_;clear hKr Kr;(try simp only [RN,reduceIte]);try refine ah rfl ?_
   refine aS (by simp (disch:=omega) only [RA,↓reduceIte,Nat.reduceEqDiff,RD,aG,aO,g2,hlk];rfl) aC.refl ?_;simp only [aH]
   exact ⟨kM (by (simp only [RH])),hK⟩
theorem afD {x:Bool} {n:Nat} {H:BH} {K:Value→BH→Prop} (hn:1≤n∧n≤16) (hK:K (DV n (lg n n) (dQ n)) H):aQ x Zd [I n] H K:=by
 have h1:= @AY n n
 have h2:= @mG n
 have hz:=ji
 refine dR (by simp only [RH]) ?_
 refine bF aaH ?_;simp only [uj,aI]
 refine au fun Kr hKr=>?_;simp (disch:=omega) only [RA,↓reduceIte,Nat.reduceEqDiff,RD,aF];refine hKr _ _ ?_;clear hKr Kr;(try simp only [RN,reduceIte]);try refine ah rfl ?_
 refine au fun Kr hKr=>?_;simp (disch:=omega) only [RA,↓reduceIte,Nat.reduceEqDiff,RD,aF,aU]
 refine afC hn ?_
 simp (disch:=omega) only [RA,↓reduceIte,Nat.reduceEqDiff,RD,aF,aU]
 refine E9 (by omega) ?_
 simp (disch:=omega) only [RA,↓reduceIte,Nat.reduceEqDiff,RD,aF,aU]
 refine hKr _ _ ?_;clear hKr Kr;(try simp only [aK,aP,aN]);(try simp only [RN,reduceIte]);try refine ah rfl ?_
 refine aS (by simp (disch:=omega) only [RA,↓reduceIte,Nat.reduceEqDiff,RD,aG,aO,aF,aU];rfl) aC.refl ?_;simp only [aH]
 exact ⟨iK,hK⟩
section
variable {code:List Nat} {a:Nat} {h:Int}
theorem ru:aW (SC code a h)=True:=eq_true kY
theorem afE {n:Nat} {K:Value→BH→Prop} (ha:a≤code.length) (hl:code.length≤1048576) (hcd: ∀i,nl code i<256) (hn:1≤n∧n≤16)
  (hK: ∀p a' h',By 16 p→Perm p n→a'≤code.length→K (PL p) [some (SC code a' h')]):aQ false MJ [P 0 0,I n] [some (SC code a h)] K:=by
 have hz:=ji
 have hil:= @mG n
 refine bF aaI ?_;simp only [gY,aI]
 refine au fun Kr hKr=>?_;simp (disch:=omega) only [RA,↓reduceIte,Nat.reduceEqDiff,RD];refine hKr _ _ ?_;clear hKr Kr;(try simp only [RN,reduceIte]);try refine ah rfl ?_
 refine au fun Kr hKr=>?_;simp (disch:=omega) only [RA,↓reduceIte,Nat.reduceEqDiff,reduceCtorEq,RD]
 refine E9 (by omega) ?_
 simp (disch:=omega) only [RA,↓reduceIte,Nat.reduceEqDiff,Nat.reduceAdd,RD]
 refine hKr _ _ ?_;clear hKr Kr;(try simp only [aK,aP,aN]);(try simp only [RN,reduceIte]);try refine ah rfl ?_
 refine au fun Kr hKr=>?_;simp (disch:=omega) only [RA,↓reduceIte,Nat.reduceEqDiff,reduceCtorEq,RD]
 refine yA (i:=0) rfl ha hl hcd (by omega) fun v a h hA k2 k3 k4 k5=>?_
 clear ha
 simp (disch:=omega) only [RA,↓reduceIte,Nat.reduceEqDiff,Nat.reduceAdd,RD]
 refine hKr _ _ ?_;clear hKr Kr;(try simp only [aK,aP,aN]);(try simp only [RN,reduceIte]);try refine ah rfl ?_
 have e0:(n:Int)-1=((n-1:Nat):Int):=by omega
 refine aX (p:=v=0) (by simp only [RA,↓reduceIte,Nat.reduceEqDiff]<;>rfl) (by (try simp only [RB])<;>first|done|exact Iff.rfl|omega|simp) (fun hc=>?_) (fun hc=>?_)<;>(try simp only [RN,reduceIte])<;>(try refine ah rfl ?_)
 ·refine au fun Kr hKr=>?_;simp (disch:=omega) only [RA,↓reduceIte,Nat.reduceEqDiff,RD];refine hKr _ _ ?_;clear hKr Kr;(try simp only [RN,reduceIte]);try refine ah rfl ?_
  refine aS (by simp (disch:=omega) only [RA,↓reduceIte,Nat.reduceEqDiff,RD,aG,aO,hz];rfl) (aC.nrm [0] rfl rfl (by simp only [RH,ru]) (by simp only [aH,RH])) ?_;simp only [aH]
  exact hK _ _ _ (E8 hn.2) (AZ hn) hA
 ·clear hc
  refine au fun Kr hKr=>?_;simp (disch:=omega) only [RA,↓reduceIte,Nat.reduceEqDiff,RD,e0];refine hKr _ _ ?_;clear hKr Kr;(try simp only [RN,reduceIte]);try refine ah rfl ?_
  refine bU (fun m f H'=> ∃i a' h' p,i<n∧m=i∧a'≤code.length∧By 16 p∧Perm p n∧f 0=P 0 0∧f 4=P 1 0∧f 5=P 2 0∧f 6=I i∧H'=[some (SC code a' h'),some (List.replicate 16 (.int .u8 0)),some (p.map N8)]) (n-1) ?_ ?_
  ·refine ⟨_,_,Gh.refl,n-1,a,h,dQ n,by omega,rfl,hA,E8 hn.2,AZ hn,?_,?_,?_,?_,rfl⟩
   any_goals (simp (disch:=omega) only [RA,↓reduceIte,Nat.reduceEqDiff,RD,RE, *]<;>rfl)
  ·clear hA k2 k3 k4 k5 v
   rintro i f H' R ⟨_,a,h,p,hi,rfl,hA,hb,hp,g0,g4,g5,g6,rfl⟩ hN hX hR hE
   simp only [gY.l0,aI]
   have hlp:=hb.len
   refine au fun Kr hKr=>?_;simp (disch:=omega) only [RA,↓reduceIte,Nat.reduceEqDiff,RD,g6];refine hKr _ _ ?_;clear hKr Kr;(try simp only [RN,reduceIte]);try refine ah rfl ?_
   refine aX (p:=0<i) (by simp only [RA,↓reduceIte,Nat.reduceEqDiff]<;>rfl) (by (try simp only [RB])<;>first|done|exact Iff.rfl|omega|simp) (fun hc=>?_) (fun hc=>?_)<;>(try simp only [RN,reduceIte])<;>(try refine ah rfl ?_)
   ·have e1:((i:Nat):Int)+1=((i+1:Nat):Int):=by omega
    have e2:((i:Nat):Int)-1=((i-1:Nat):Int):=by omega
    (first|refine bP rfl ?_|refine bQ rfl ?_);(try simp only [RN,reduceIte]);try refine ah rfl ?_
    refine au fun Kr hKr=>?_;simp (disch:=omega) only [RA,↓reduceIte,Nat.reduceEqDiff,RD,g0,g6,e1]
    refine yA (i:=0) rfl hA hl hcd (by omega) fun v a h hA k2 k3 k4 k5=>?_
    have hv:=k4 (by omega)
    obtain ⟨k,rfl⟩: ∃k:Nat,v=k:=⟨v.toNat,by omega⟩
    have hpi:=hb.lt i
    have hpk:=hb.lt k
    have hs:=hp.swap hlp (i:=i) (k:=k) hi (by omega)
    have hl2:(p.set i (nl p k)).length=16:=by rw [List.length_set,hlp]
    simp (disch:=omega) only [RA,↓reduceIte,Nat.reduceEqDiff,Nat.reduceAdd,RD]
    refine hKr _ _ ?_;clear hKr Kr;(try simp only [aK,aP,aN]);(try simp only [RN,reduceIte]);try refine ah rfl ?_
    refine au fun Kr hKr=>?_;simp (disch:=omega) only [RA,↓reduceIte,Nat.reduceEqDiff,RD,g5,g6,hlp];refine hKr _ _ ?_;clear hKr Kr;(try simp only [RN,reduceIte]);try refine ah rfl ?_
    refine au fun Kr hKr=>?_;simp (disch:=omega) only [RA,↓reduceIte,Nat.reduceEqDiff,RD,g5,g6,hlp];refine hKr _ _ ?_;clear hKr Kr;(try simp only [RN,reduceIte]);try refine ah rfl ?_
    refine au fun Kr hKr=>?_;simp (disch:=omega) only [RA,↓reduceIte,Nat.reduceEqDiff,RD,g5,hl2,hlp];refine hKr _ _ ?_;clear hKr Kr;(try simp only [RN,reduceIte]);try refine ah rfl ?_
    refine bH fun Kr hKr=>?_;simp (disch:=omega) only [RA,↓reduceIte,Nat.reduceEqDiff,RD,g6];refine hKr _ _ ?_;clear hKr Kr
    refine hN (i-1) _ _ _ _ (by omega) Gh.refl ⟨i-1,a,h,_,by omega,rfl,hA,(hb.set hpk).set hpi,hs,?_,?_,?_,?_,rfl⟩
    any_goals (simp (disch:=omega) only [RA,↓reduceIte,Nat.reduceEqDiff,RD,RE, *]<;>rfl)
   ·refine hX _ _ ?_
    refine au fun Kr hKr=>?_;simp (disch:=omega) only [RA,↓reduceIte,Nat.reduceEqDiff,RD,g4,g5,hlp];refine hKr _ _ ?_;clear hKr Kr;(try simp only [RN,reduceIte]);try refine ah rfl ?_
    refine aS (by simp (disch:=omega) only [RA,↓reduceIte,Nat.reduceEqDiff,RD,aG,aO,g4,hlp];rfl) (aC.nrm [0] rfl rfl (by simp only [RH,ru]) (by simp only [aH,RH])) ?_;simp only [aH]
    exact hK _ _ _ hb hp hA
theorem Vm {n:Nat} {i:Nat} {H:BH} {K:Value→BH→Prop} (hb:blk H i=some (SC code a h)) (ha:a≤code.length) (hl:code.length≤1048576) (hcd: ∀i,nl code i<256) (hn:1≤n∧n≤16)
  (hK: ∀p a' h',By 16 p→Perm p n→a'≤code.length→K (PL p) (H.set i (some (SC code a' h')))):aQ false MJ [P i 0,I n] H K:=by
 refine qR hb kY ?_
 have e:([P i 0,I n]:List Value).map (ren [i])=[P 0 0,I n]:=by simp [ren,nI,nm]
 rw [e]
 exact afE ha hl hcd hn fun p a' h' k1 k2 k3=>⟨kM (by (simp only [RH])),HN.cons kY HN.nil,hK p a' h' k1 k2 k3⟩
end
end Go.Bm
namespace Go.Bm
open Go Go.Am
theorem Fa {b w:List Nat} {n:Nat} (hb:Perm b n) (hw:Perm w n):Perm (bG b w n) n:=by
 have hn:=hb.1
 refine ⟨hb.1,fun i _=>⟨fun h=>by rw [uU (by omega),if_neg (by omega)],fun h=>?_⟩⟩
 have hi:i<n:=by omega
 rw [uU (by omega),if_pos hi]
 have h1:=hw.lt (hb.lt hi)
 refine ⟨by omega,fun j hj e=>?_⟩
 rw [uU (by omega),if_pos (by omega)] at e
 have:=hb.inj (by omega) hi (hw.inj (hb.lt (by omega)) (hb.lt hi) e)
 omega
theorem qX {b w:List Nat} {n:Nat} (hb:Perm b n) (hw:Perm w n):Perm (eH b w n) n:=(Fa hb hw).back
def Tree (n:Nat) (b w:List Nat):Prop:=(aV (eH b w n) n).length=1∧(aV b n).length+(aV w n).length=n+1
instance (n:Nat) (b w:List Nat):Decidable (Tree n b w):=by unfold Tree;infer_instance
def sK (p:List Nat) (n x:Nat):Nat:=(aV p n).findIdx fun c=>c.contains x
theorem A8 {p:List Nat} {n x:Nat} (hp:Perm p n) (hx:x<n):sK p n x<(aV p n).length:=by
 obtain ⟨c,hc,hxc⟩:=rD hp hx
 exact List.findIdx_lt_length_of_exists ⟨c,hc,by simpa using hxc⟩
theorem Vo {p:List Nat} {n x:Nat} (hp:Perm p n) (hx:x<n):x∈(aV p n)[sK p n x]'(A8 hp hx):=by
 have h2:((aV p n)[sK p n x]'(A8 hp hx)).contains x=true:=List.findIdx_getElem (w:=A8 hp hx)
 simpa using h2
theorem afF {p:List Nat} {n:Nat} (hp:Perm p n):(aV p n).flatten.Nodup:=(pq.all rfl hp (Nat.le_refl n)).gW
theorem Vp: ∀{cs:List (List Nat)} {i j x:Nat} (hi:i<cs.length) (hj:j<cs.length),cs.flatten.Nodup→x∈cs[i]→x∈cs[j]→i=j
 |c::cs,0,0,x,_,_,_,_,_=>rfl
 |c::cs,0,j+1,x,_,hj,hn,h1,h2=>by
  rw [List.flatten_cons,List.nodup_append] at hn
  exact absurd rfl (hn.2.2 x h1 x (List.mem_flatten.2 ⟨_,List.getElem_mem (by simpa using hj),h2⟩))
 |c::cs,i+1,0,x,hi,_,hn,h1,h2=>by
  rw [List.flatten_cons,List.nodup_append] at hn
  exact absurd rfl (hn.2.2 x h2 x (List.mem_flatten.2 ⟨_,List.getElem_mem (by simpa using hi),h1⟩))
 |c::cs,i+1,j+1,x,hi,hj,hn,h1,h2=>by
  rw [List.flatten_cons,List.nodup_append] at hn
  rw [Vp (cs:=cs) (by simpa using hi) (by simpa using hj) hn.2.1 h1 h2]
theorem Vq {p:List Nat} {n x i:Nat} (hp:Perm p n) (hx:x<n) (hi:i<(aV p n).length) (h:x∈(aV p n)[i]):sK p n x=i:=
 Vp (A8 hp hx) hi (afF hp) (Vo hp hx) h
theorem Vr {p:List Nat} {n x:Nat} (hp:Perm p n) (hx:x<n):sK p n (nl p x)=sK p n x:=
 Vq hp (hp.lt hx) (A8 hp hx) ((kJ hp (List.getElem_mem _)).fwd (Vo hp hx))
theorem Vs {p:List Nat} {n i:Nat} (hp:Perm p n) (hi:i<(aV p n).length): ∃x,x<n∧sK p n x=i:=by
 have hc:=kJ hp (List.getElem_mem hi)
 have hm:nl (aV p n)[i] 0∈(aV p n)[i]:=eu hc.ne
 exact ⟨_,hc.lt _ hm,Vq hp (hc.lt _ hm) hi hm⟩
def merge (f:Nat→Nat) (e:Nat×Nat):Nat→Nat:=fun x=>if f x=f e.1 then f e.2 else f x
def pieces (es:List (Nat×Nat)):Nat→Nat:=es.foldl merge id
theorem Vt: ∀(es:List (Nat×Nat)) (f:Nat→Nat) (V m:Nat) (S:List Nat),S.Nodup→m+es.length≤S.length→(∀a∈S,∃x,x<V∧f x=a)→
  ∃S':List Nat,S'.Nodup∧m≤S'.length∧ ∀a∈S',∃x,x<V∧(es.foldl merge f) x=a
 |[],f,V,m,S,h1,h2,h3=>⟨S,h1,by simpa using h2,h3⟩
 |e::es,f,V,m,S,h1,h2,h3=>by
  have hl:=List.length_erase (a:=f e.1) (l:=S)
  refine Vt es (merge f e) V m (S.erase (f e.1)) (h1.erase _) ?_ fun a ha=>?_
  ·simp only [List.length_cons] at h2
   split at hl<;>omega
  ·obtain ⟨x,hx,hxa⟩:=h3 a (List.mem_of_mem_erase ha)
   refine ⟨x,hx,?_⟩
   have hne:a≠f e.1:=fun h=>by
    subst h
    exact (List.Nodup.not_mem_erase h1) ha
   rw [merge,if_neg (by rw [hxa];exact hne),hxa]
theorem Vu: ∀(es:List (Nat×Nat)) (f:Nat→Nat) (x y:Nat),f x=f y→(es.foldl merge f) x=(es.foldl merge f) y
 |[],f,x,y,h=>h
 |e::es,f,x,y,h=>Vu es (merge f e) x y (by simp only [merge,h])
theorem Vw: ∀(es:List (Nat×Nat)) (f:Nat→Nat) (e:Nat×Nat),e∈es→(es.foldl merge f) e.1=(es.foldl merge f) e.2
 |e'::es,f,e,h=>by
  rcases List.mem_cons.1 h with rfl|h
  ·exact Vu es _ _ _ (by
    simp only [merge,if_true]
    split
    ·rfl
    ·rfl)
  ·exact Vw es (merge f e') e h
section
variable {b w:List Nat} {n:Nat}
def ends (b w:List Nat) (n:Nat) (c:Bool) (x:Nat):Nat:=if c then (aV b n).length+sK w n x else sK b n x
def others (b w:List Nat) (n y:Nat):List (Nat×Nat):=((List.range n).filter fun z=>z !=y).map fun z=>(ends b w n false z,ends b w n true z)
def lab (b w:List Nat) (n y:Nat):Nat→Nat:=pieces (others b w n y)
theorem afG {y z:Nat} (hz:z<n) (h:z≠y) (c c':Bool):lab b w n y (ends b w n c z)=lab b w n y (ends b w n c' z):=by
 have key:lab b w n y (ends b w n false z)=lab b w n y (ends b w n true z):=
  Vw _ id (ends b w n false z,ends b w n true z) (List.mem_map.2 ⟨z,List.mem_filter.2 ⟨List.mem_range.2 hz,by simpa using h⟩,rfl⟩)
 cases c<;>cases c'<;>first|rfl|exact key|exact key.symm
theorem afH {y:Nat} (hy:y<n):((List.range n).filter fun z=>z !=y).length+1=n:=by
 have h1:((List.range n).filter fun z=>z !=y)=(List.range n).erase y:=(List.Nodup.erase_eq_filter List.nodup_range y).symm
 rw [h1,List.length_erase_of_mem (List.mem_range.2 hy),List.length_range]
 omega
theorem Tree.apart (hd:aZ n b w) (ht:Tree n b w) {y:Nat} (hy:y<n):lab b w n y (ends b w n false y)≠lab b w n y (ends b w n true y):=by
 intro he
 obtain ⟨hb,hw,_⟩:=id hd
 have hall: ∀z,z<n→lab b w n y (ends b w n false z)=lab b w n y (ends b w n true z):=fun z hz=>by
  by_cases e:z=y
  ·rw [e];exact he
  ·exact afG hz e _ _
 have hone:=hd.ind (fun z=>lab b w n y (ends b w n false z)=lab b w n y (ends b w n false 0))
  (fun z hz hS=>by
   have e:ends b w n false (nl b z)=ends b w n false z:=by simp only [ends];exact Vr hb hz
   rw [e];exact hS)
  (fun z hz hS=>by
   have e:ends b w n true (nl w z)=ends b w n true z:=by simp only [ends,if_true];rw [Vr hw hz]
   rw [hall _ (hw.lt hz),e,←hall z hz];exact hS) rfl
 obtain ⟨S,h1,h2,h3⟩:=Vt (others b w n y) id (n+1) 2 (List.range (n+1)) List.nodup_range (by
  have:=afH hy
  rw [others,List.length_map,List.length_range]
  omega) (fun a ha=>⟨a,List.mem_range.1 ha,rfl⟩)
 have Vx: ∀v,v<n+1→lab b w n y v=lab b w n y (ends b w n false 0):=fun v hv=>by
  have ht2:=ht.2
  rcases Nat.lt_or_ge v (aV b n).length with h|h
  ·obtain ⟨x,hx,rfl⟩:=Vs hb h
   exact hone x hx
  ·obtain ⟨x,hx,hxv⟩:=Vs hw (show v-(aV b n).length<(aV w n).length by omega)
   have e:v=ends b w n true x:=by simp only [ends,if_true];omega
   rw [e,←hall x hx]
   exact hone x hx
 match S,h1,h2,h3 with
 |[],_,h2,_=>simp at h2
 |[_],_,h2,_=>simp at h2
 |a::a'::_,h1,_,h3=>
  obtain ⟨x,hx,hxa⟩:=h3 a (by simp)
  obtain ⟨x',hx',afI⟩:=h3 a' (by simp)
  have e1:lab b w n y x=a:=hxa
  have e2:lab b w n y x'=a':=afI
  have:a=a':=by rw [←e1,←e2,Vx x hx,Vx x' hx']
  simp only [List.nodup_cons,List.mem_cons] at h1
  exact h1.1 (.inl this)
def behind (b w:List Nat) (n:Nat) (c:Bool) (x:Nat):List Nat:=(List.range n).filter fun z=>z !=x&&lab b w n x (ends b w n false z)==lab b w n x (ends b w n c x)
def it (p:List Nat) (x:Nat):Nat→Nat
 |0=>nl p x
 |i+1=>nl p (it p x i)
end
def bs (l:List UInt8):ByteArray:=⟨l.toArray⟩
end Go.Bm
namespace Go.Bm
open Go Go.Am
structure PN (n:Nat) (p:List Nat):Prop where
 perm:Perm p n
 len:p.length=16
section
variable {n:Nat} {p q r t:List Nat}
theorem PN.n16 (h:PN n p):1≤n∧n≤16:=by have:=h.perm.1;omega
theorem PN.ext (hp:PN n p) (hq:PN n q) (h: ∀i,i<n→nl p i=nl q i):p=q:=by
 refine List.ext_getElem (by rw [hp.len,hq.len]) fun i h1 h2=>?_
 have e:nl p i=nl q i:=by
  by_cases hi:i<n
  ·exact h i hi
  ·rw [hp.perm.zero (by omega) (by have:=hp.len;omega),hq.perm.zero (by omega) (by have:=hp.len;omega)]
 simpa [nl,List.getD,h1,h2] using e
theorem PN.mul (hp:PN n p) (hq:PN n q):PN n (bG p q n):=⟨Fa hp.perm hq.perm,qx⟩
theorem PN.one (hn:1≤n∧n≤16):PN n (dQ n):=⟨AZ hn,mG⟩
theorem PN.inv (hp:PN n p):PN n (dN p n):=⟨hp.perm.back,uT⟩
theorem jJ (hp:PN n p) {i:Nat} (hi:i<n):nl (bG p q n) i=nl q (nl p i):=by
 rw [uU (by have:=hp.n16;omega),if_pos hi]
theorem pz (hn:n≤16) {i:Nat} (hi:i<n):nl (dQ n) i=i:=by rw [yw hn,if_pos hi]
theorem mul_assoc (hp:PN n p) (hq:PN n q) (hr:PN n r):bG (bG p q n) r n=bG p (bG q r n) n:=
 ((hp.mul hq).mul hr).ext (hp.mul (hq.mul hr)) fun i hi=>by
  rw [jJ (hp.mul hq) hi,jJ hp hi,jJ hp hi,jJ hq (hp.perm.lt hi)]
theorem one_mul (hp:PN n p):bG (dQ n) p n=p:=
 ((PN.one hp.n16).mul hp).ext hp fun i hi=>by rw [jJ (PN.one hp.n16) hi,pz hp.n16.2 hi]
theorem mul_one (hp:PN n p):bG p (dQ n) n=p:=
 (hp.mul (PN.one hp.n16)).ext hp fun i hi=>by rw [jJ hp hi,pz hp.n16.2 (hp.perm.lt hi)]
theorem sN (hp:PN n p):bG (dN p n) p n=dQ n:=
 (hp.inv.mul hp).ext (PN.one hp.n16) fun i hi=>by rw [jJ hp.inv hi,afz hp.perm hi,pz hp.n16.2 hi]
theorem rF (hp:PN n p):bG p (dN p n) n=dQ n:=
 (hp.mul hp.inv).ext (PN.one hp.n16) fun i hi=>by rw [jJ hp hi,nZ hp.perm (Nat.le_refl _) hi,pz hp.n16.2 hi]
theorem mul_right_inj (hp:PN n p) (hq:PN n q) (ht:PN n t) (h:bG p t n=bG q t n):p=q:=by
 have:=congrArg (fun x=>bG x (dN t n) n) h
 simp only [mul_assoc hp ht ht.inv,mul_assoc hq ht ht.inv,rF ht,mul_one hp,mul_one hq] at this
 exact this
theorem mul_left_inj (hp:PN n p) (hq:PN n q) (ht:PN n t) (h:bG t p n=bG t q n):p=q:=by
 have:=congrArg (fun x=>bG (dN t n) x n) h
 simp only [←mul_assoc ht.inv ht hp,←mul_assoc ht.inv ht hq,sN ht,one_mul hp,one_mul hq] at this
 exact this
def Fix (i:Nat) (p:List Nat):Prop:= ∀j,j<i→nl p j=j
theorem Fix.mul {i:Nat} (hi:i≤n) (hp:PN n p) (h1:Fix i p) (h2:Fix i q):Fix i (bG p q n):=fun j hj=>by
 rw [jJ hp (by omega),h1 j hj,h2 j hj]
theorem Fix.inv {i:Nat} (hi:i≤n) (hp:PN n p) (h:Fix i p):Fix i (dN p n):=fun j hj=>by
 have:=nZ hp.perm (Nat.le_refl _) (show j<n by omega)
 rwa [h j hj] at this
theorem Fix.one {i:Nat} (hn:n≤16) (hi:i≤n):Fix i (dQ n):=fun j hj=>pz hn (by omega)
end
abbrev Tab:=Nat→Nat→Option (List Nat)
structure fQ (n:Nat) (T:Tab):Prop where
 n16:1≤n∧n≤16
 id: ∀i,i<n→T i i=some (dQ n)
 ok: ∀i k t,i<n→T i k=some t→k<n∧PN n t∧Fix i t∧nl t i=k
def sf (T:Tab) (n:Nat):Nat→List Nat→List Nat×Nat
 |0,p=>(p,n)
 |d+1,p=>match T (n-(d+1)) (nl p (n-(d+1))) with
  |none=>(p,n-(d+1))
  |some t=>sf T n d (bG p (dN t n) n)
inductive cO (T:Tab) (n:Nat):Nat→List Nat→Prop
 |zero:cO T n 0 (dQ n)
 |succ {d k:Nat} {s t:List Nat}:d<n→cO T n d s→T (n-(d+1)) k=some t→cO T n (d+1) (bG s t n)
section
variable {n:Nat} {T T':Tab}
theorem cO.pn (h:fQ n T) {d:Nat} {s:List Nat} (hs:cO T n d s):PN n s∧Fix (n-d) s:=by
 induction hs with
 |zero=>exact ⟨.one h.n16, .one h.n16.2 (by omega)⟩
 |succ hd _ ht ih=>
  obtain ⟨h1,h2,h3,h4⟩:=h.ok _ _ _ (by omega) ht
  exact ⟨ih.1.mul h2,Fix.mul (by omega) ih.1 (fun j hj=>ih.2 j (by omega)) h3⟩
theorem cO.mono {d:Nat} {s:List Nat} (hT: ∀i k t,T i k=some t→T' i k=some t) (hs:cO T n d s):cO T' n d s:=by
 induction hs with
 |zero=>exact .zero
 |succ hd _ ht ih=>exact .succ hd ih (hT _ _ _ ht)
theorem cO.up1 (h:fQ n T) {d:Nat} {s:List Nat} (hs:cO T n d s) (hd:d<n):cO T n (d+1) s:=by
 have:=cO.succ hd hs (h.id (n-(d+1)) (by omega))
 rwa [mul_one (hs.pn h).1] at this
theorem cO.up (h:fQ n T) {d:Nat} {s:List Nat} (hs:cO T n d s): ∀e,d+e≤n→cO T n (d+e) s
 |0,_=>hs
 |e+1,he=>(cO.up h hs e (by omega)).up1 h (by omega)
theorem cO.one (h:fQ n T) {d:Nat} (hd:d≤n):cO T n d (dQ n):=by
 have:=cO.up h (T:=T) .zero d (by omega)
 rwa [Nat.zero_add] at this
theorem cO.entry (h:fQ n T) {i k:Nat} {t:List Nat} (hi:i<n) (ht:T i k=some t):cO T n (n-i) t:=by
 have h1:=cO.one h (d:=n-i-1) (by omega)
 have h2:=cO.succ (k:=k) (t:=t) (show n-i-1<n by omega) h1 (by rw [show n-(n-i-1+1)=i by omega];exact ht)
 rwa [one_mul (h.ok i k t hi ht).2.1,show n-i-1+1=n-i by omega] at h2
theorem cO.all (h:fQ n T) {d:Nat} {s:List Nat} (hs:cO T n d s) (hd:d≤n):cO T n n s:=by
 have:=hs.up h (n-d) (by omega)
 rwa [show d+(n-d)=n by omega] at this
theorem Jo (h:fQ n T): ∀d p,d≤n→PN n p→Fix (n-d) p→
  ((sf T n d p).2=n∧cO T n d p)∨((sf T n d p).2<n∧n-d≤(sf T n d p).2∧PN n (sf T n d p).1∧Fix (sf T n d p).2 (sf T n d p).1∧T (sf T n d p).2 (nl (sf T n d p).1 (sf T n d p).2)=none∧
   ∀T',fQ n T'→(∀i k t,T i k=some t→T' i k=some t)→T' (sf T n d p).2 (nl (sf T n d p).1 (sf T n d p).2)=some (sf T n d p).1→cO T' n d p)
 |0,p,_,hp,hf=>by
  refine .inl ⟨rfl,?_⟩
  have e:p=dQ n:=hp.ext (.one h.n16) fun i hi=>by rw [hf i (by omega),pz h.n16.2 hi]
  rw [e]
  exact .zero
 |d+1,p,hd,hp,hf=>by
  have hi:n-(d+1)<n:=by omega
  cases ht:T (n-(d+1)) (nl p (n-(d+1))) with
  |none=>
   have e:sf T n (d+1) p=(p,n-(d+1)):=by rw [sf,ht]
   rw [e]
   refine .inr ⟨hi,Nat.le_refl _,hp,hf,ht,fun T' h' _ hq=>?_⟩
   have:=cO.succ (by omega) (cO.one h' (d:=d) (by omega)) hq
   rwa [one_mul hp] at this
  |some t=>
   obtain ⟨k1,k2,k3,k4⟩:=h.ok _ _ _ hi ht
   have e:sf T n (d+1) p=sf T n d (bG p (dN t n) n):=by rw [sf,ht]
   rw [e]
   have hp':PN n (bG p (dN t n) n):=hp.mul k2.inv
   have hf':Fix (n-d) (bG p (dN t n) n):=fun j hj=>by
    rw [jJ hp (by omega)]
    by_cases hji:j=n-(d+1)
    ·subst hji
     rw [←k4]
     exact nZ k2.perm (Nat.le_refl _) hi
    ·rw [hf j (by omega)]
     exact Fix.inv (by omega) k2 k3 j (by omega)
   have ep:bG (bG p (dN t n) n) t n=p:=by rw [mul_assoc hp k2.inv k2,sN k2,mul_one hp]
   rcases Jo h d _ (by omega) hp' hf' with ⟨a1,a2⟩|⟨a1,a2,a3,a4,a5,a6⟩
   ·refine .inl ⟨a1,?_⟩
    have:=cO.succ (by omega) a2 ht
    rwa [ep] at this
   ·refine .inr ⟨a1,by omega,a3,a4,a5,fun T' h' hm hq=>?_⟩
    have:=cO.succ (by omega) (a6 T' h' hm hq) (hm _ _ _ ht)
    rwa [ep] at this
def Jp (n:Nat) (T:Tab):Prop:= ∀i k t i' k' t',i<n→i'<n→T i k=some t→T i' k'=some t'→cO T n n (bG t t' n)
theorem cO.lower (h:fQ n T): ∀e d g,d+e≤n→cO T n (d+e) g→Fix (n-d) g→cO T n d g
 |0,_,_,_,hg,_=>hg
 |e+1,d,g,he,hg,hf=>by
  refine cO.lower h e d g (by omega) ?_ hf
  rw [show d+(e+1)=d+e+1 by omega] at hg
  cases hg with
  |succ hd hs ht=>
   rename_i k s t
   obtain ⟨k1,k2,k3,k4⟩:=h.ok _ _ _ (by omega) ht
   have hsp:=hs.pn h
   have h1:=hf (n-(d+e+1)) (by omega)
   rw [jJ hsp.1 (by omega),hsp.2 _ (by omega),k4] at h1
   subst h1
   rw [h.id _ (by omega)] at ht
   cases ht
   rw [mul_one hsp.1]
   exact hs
theorem Vy (h:fQ n T) (hc:Jp n T): ∀d,d≤n→ ∀s,cO T n d s→ ∀j k t,n-d≤j→j<n→T j k=some t→cO T n d (bG s t n)
 |0,_,s,hs,j,k,t,h1,h2,ht=>by omega
 |d+1,hd,s,hs,j,k,t,h1,h2,ht=>by
  have ih:=Vy h hc d (by omega)
  have hprod: ∀e,e≤d→ ∀r,cO T n e r→ ∀s,cO T n d s→cO T n d (bG s r n):=by
   intro e
   induction e with
   |zero=>
    intro _ r hr s hs
    cases hr
    rw [mul_one (hs.pn h).1]
    exact hs
   |succ e Jq=>
    intro he r hr s hs
    cases hr with
    |succ _ hr' ht'=>
     obtain ⟨k1,k2,k3,k4⟩:=h.ok _ _ _ (by omega) ht'
     rw [←mul_assoc (hs.pn h).1 (hr'.pn h).1 k2]
     exact ih _ (Jq (by omega) _ hr' s hs) _ _ _ (by omega) (by omega) ht'
  cases hs with
  |succ _ hs' hu=>
   rename_i ku s' u _
   obtain ⟨a1,a2,a3,a4⟩:=h.ok _ _ _ (by omega) hu
   obtain ⟨b1,b2,b3,b4⟩:=h.ok _ _ _ h2 ht
   have h3:=hc _ _ _ _ _ _ (by omega) h2 hu ht
   have h4:cO T n (d+1) (bG u t n):=by
    have:=cO.lower h (n-(d+1)) (d+1) (bG u t n) (by omega) (by rw [show d+1+(n-(d+1))=n by omega];exact h3) (Fix.mul (by omega) a2 a3 fun x hx=>b3 x (by omega))
    exact this
   rw [mul_assoc (hs'.pn h).1 a2 b2]
   generalize bG u t n=g at h4
   cases h4 with
   |succ _ hs2 hu2=>
    obtain ⟨c1,c2,c3,c4⟩:=h.ok _ _ _ (by omega) hu2
    rw [←mul_assoc (hs'.pn h).1 (hs2.pn h).1 c2]
    exact .succ (by omega) (hprod d (Nat.le_refl _) _ hs2 _ hs') hu2
theorem Vz (h:fQ n T) (hc:Jp n T): ∀e,e≤n→ ∀r,cO T n e r→ ∀s,cO T n n s→cO T n n (bG s r n):=by
 intro e
 induction e with
 |zero=>
  intro _ r hr s hs
  cases hr
  rw [mul_one (hs.pn h).1]
  exact hs
 |succ e Jq=>
  intro he r hr s hs
  cases hr with
  |succ _ hr' ht'=>
   obtain ⟨k1,k2,k3,k4⟩:=h.ok _ _ _ (by omega) ht'
   rw [←mul_assoc (hs.pn h).1 (hr'.pn h).1 k2]
   exact Vy h hc n (Nat.le_refl _) _ (Jq (by omega) _ hr' s hs) _ _ _ (by omega) (by omega) ht'
end
theorem Jr {α β:Type} {f:α→β} {l:List α} (hi: ∀x∈l,∀y∈l,f x=f y→x=y) (h:l.Nodup):(l.map f).Nodup:=
 List.pairwise_map.2 (List.Pairwise.imp_of_mem (fun {x y} hx hy hne e=>hne (hi x hx y hy e)) h)
theorem VA {α β:Type} {f:α→List β}: ∀{l:List α},(∀s∈l,(f s).Nodup)→l.Pairwise (fun s u=> ∀g∈f s,g∉f u)→(l.flatMap f).Nodup
 |[],_,_=>by simp
 |a::r,h1,h2=>by
  have h2':=List.pairwise_cons.1 h2
  rw [List.flatMap_cons]
  refine List.pairwise_append.2 ⟨h1 a (by simp),VA (fun s hs=>h1 s (by simp [hs])) h2'.2,fun x hx y hy e=>?_⟩
  obtain ⟨u,hu,hyu⟩:=List.mem_flatMap.1 hy
  rw [e] at hx
  exact h2'.1 u hu y hx hyu
theorem VB {α β:Type} {f:α→List β} {c:Nat}: ∀{l:List α},(∀s∈l,(f s).length=c)→(l.flatMap f).length=l.length*c
 |[],_=>by simp
 |a::r,h=>by
  rw [List.flatMap_cons,List.length_append,h a (by simp),VB fun s hs=>h s (by simp [hs]),List.length_cons,Nat.add_mul,Nat.one_mul]
  omega
theorem yB {α:Type} [DecidableEq α]: ∀{l1 l2:List α},l1.Nodup→(∀x∈l1,x∈l2)→l1.length≤l2.length
 |[],_,_,_=>Nat.zero_le _
 |a::r,l2,hn,hs=>by
  have ha:=hs a (by simp)
  have hn':=List.nodup_cons.1 hn
  have ih:=yB (l1:=r) (l2:=l2.erase a) hn'.2 fun x hx=>(List.mem_erase_of_ne (fun e=>hn'.1 (by rw [←e];exact hx))).2 (hs x (by simp [hx]))
  have hl:=List.length_erase_of_mem ha
  have hp:=List.length_pos_of_mem ha
  simp only [List.length_cons]
  omega
theorem VD {α:Type} [DecidableEq α]: ∀{l1 l2:List α},l1.Nodup→(∀x∈l1,x∈l2)→l2.length≤l1.length→ ∀x∈l2,x∈l1
 |[],l2,_,_,hl,x,hx=>by
  have:=List.length_pos_of_mem hx
  simp at hl
  rw [hl] at hx
  cases hx
 |a::r,l2,hn,hs,hl,x,hx=>by
  have ha:=hs a (by simp)
  have hn':=List.nodup_cons.1 hn
  by_cases e:x=a
  ·simp [e]
  ·have hle:=List.length_erase_of_mem ha
   simp only [List.length_cons] at hl
   have:=VD (l1:=r) (l2:=l2.erase a) hn'.2 (fun y hy=>(List.mem_erase_of_ne (fun e=>hn'.1 (by rw [←e];exact hy))).2 (hs y (by simp [hy]))) (by omega) x ((List.mem_erase_of_ne e).2 hx)
   simp [this]
section
variable {n:Nat} {T:Tab}
def vF (T:Tab) (n i:Nat):List (List Nat):=(List.range n).filterMap (T i)
def jY (T:Tab) (n:Nat):Nat→List (List Nat)
 |0=>[dQ n]
 |d+1=>(jY T n d).flatMap fun s=>(vF T n (n-(d+1))).map fun t=>bG s t n
theorem yC (h:fQ n T) {i:Nat} (hi:i<n) {t:List Nat}:t∈vF T n i↔ ∃k,T i k=some t:=by
 unfold vF
 rw [List.mem_filterMap]
 exact ⟨fun ⟨k,_,hk⟩=>⟨k,hk⟩,fun ⟨k,hk⟩=>⟨k,List.mem_range.2 (h.ok i k t hi hk).1,hk⟩⟩
theorem rG (h:fQ n T): ∀d,d≤n→ ∀g,g∈jY T n d↔cO T n d g
 |0,_,g=>by
  rw [jY,List.mem_singleton]
  exact ⟨fun e=>e▸ .zero,fun hg=>by cases hg;rfl⟩
 |d+1,hd,g=>by
  rw [jY,List.mem_flatMap]
  constructor
  ·rintro ⟨s,hs,hg⟩
   obtain ⟨t,ht,rfl⟩:=List.mem_map.1 hg
   obtain ⟨k,hk⟩:=(yC h (by omega)).1 ht
   exact .succ (by omega) ((rG h d (by omega) s).1 hs) hk
  ·intro hg
   cases hg with
   |succ _ hs ht=>exact ⟨_,(rG h d (by omega) _).2 hs,List.mem_map.2 ⟨_,(yC h (by omega)).2 ⟨_,ht⟩,rfl⟩⟩
theorem afJ (h:fQ n T) {i:Nat} (hi:i<n):(vF T n i).Nodup:=by
 unfold vF
 refine List.Pairwise.filterMap (R:=fun a b:Nat=>a≠b) (T i) (fun a b hab x hx y hy e=>?_) List.nodup_range
 subst e
 have h1:=(h.ok i a x hi hx).2.2.2
 have h2:=(h.ok i b x hi hy).2.2.2
 exact hab (h1.symm.trans h2)
theorem Js (h:fQ n T): ∀d,d≤n→(jY T n d).Nodup
 |0,_=>by simp [jY]
 |d+1,hd=>by
  rw [jY]
  have hpn: ∀s,s∈jY T n d→PN n s∧Fix (n-d) s:=fun s hs=>((rG h d (by omega) s).1 hs).pn h
  refine VA (fun s hs=>?_) ?_
  ·refine Jr (fun t ht u hu e=>?_) (afJ h (by omega))
   obtain ⟨k,hk⟩:=(yC h (by omega)).1 ht
   obtain ⟨l,hl⟩:=(yC h (by omega)).1 hu
   exact mul_left_inj (h.ok _ _ _ (by omega) hk).2.1 (h.ok _ _ _ (by omega) hl).2.1 (hpn s hs).1 e
  ·refine List.Pairwise.imp_of_mem (fun {s u} hs hu hne=>?_) (Js h d (by omega))
   intro g hg1 hg2
   obtain ⟨t,ht,e1⟩:=List.mem_map.1 hg1
   obtain ⟨t2,ht2,e2⟩:=List.mem_map.1 hg2
   obtain ⟨k,hk⟩:=(yC h (by omega)).1 ht
   obtain ⟨l,hl⟩:=(yC h (by omega)).1 ht2
   obtain ⟨a1,a2,a3,a4⟩:=h.ok _ _ _ (by omega) hk
   obtain ⟨b1,b2,b3,b4⟩:=h.ok _ _ _ (by omega) hl
   have q1:nl g (n-(d+1))=k:=by rw [←e1,jJ (hpn s hs).1 (by omega),(hpn s hs).2 _ (by omega),a4]
   have q2:nl g (n-(d+1))=l:=by rw [←e2,jJ (hpn u hu).1 (by omega),(hpn u hu).2 _ (by omega),b4]
   have:k=l:=q1.symm.trans q2
   subst this
   rw [hk] at hl
   cases hl
   exact hne (mul_right_inj (hpn s hs).1 (hpn u hu).1 a2 (e1.trans e2.symm))
theorem afK: ∀d,(jY T n (d+1)).length=(jY T n d).length*(vF T n (n-(d+1))).length:=fun d=>by
 rw [jY]
 exact VB fun s _=>by simp
end
inductive Gen (n:Nat) (b w:List Nat):List Nat→Prop
 |one:Gen n b w (dQ n)
 |b:Gen n b w b
 |w:Gen n b w w
 |mul {p q:List Nat}:Gen n b w p→Gen n b w q→Gen n b w (bG p q n)
 |inv {p:List Nat}:Gen n b w p→Gen n b w (dN p n)
theorem Gen.pn {n:Nat} {b w g:List Nat} (hb:PN n b) (hw:PN n w) (h:Gen n b w g):PN n g:=by
 induction h with
 |one=>exact .one hb.n16
 |b=>exact hb
 |w=>exact hw
 |mul _ _ h1 h2=>exact h1.mul h2
 |inv _ h=>exact h.inv
def lq (n:Nat) (b w:List Nat) (N:Nat):Prop:= ∃L:List (List Nat),L.Nodup∧L.length=N∧ ∀g,g∈L↔Gen n b w g
theorem lq.uniq {n:Nat} {b w:List Nat} {N M:Nat} (h:lq n b w N) (k:lq n b w M):N=M:=by
 obtain ⟨L,h1,rfl,h2⟩:=h
 obtain ⟨L',k1,rfl,k2⟩:=k
 have a:=yB h1 fun x hx=>(k2 x).2 ((h2 x).1 hx)
 have b:=yB k1 fun x hx=>(h2 x).2 ((k2 x).1 hx)
 omega
theorem afL {n:Nat} {T:Tab} {b w:List Nat} (h:fQ n T) (hc:Jp n T) (hb:cO T n n b) (hw:cO T n n w) (hg: ∀i k t,i<n→T i k=some t→Gen n b w t):lq n b w (jY T n n).length:=by
 refine ⟨jY T n n,Js h n (Nat.le_refl _),rfl,fun g=>?_⟩
 rw [rG h n (Nat.le_refl _)]
 constructor
 ·intro hs
  have: ∀d s,cO T n d s→Gen n b w s:=fun d s hs=>by
   induction hs with
   |zero=>exact .one
   |succ hd _ ht ih=>exact .mul ih (hg _ _ _ (by omega) ht)
  exact this n g hs
 ·intro hs
  induction hs with
  |one=>exact .one h (Nat.le_refl _)
  |b=>exact hb
  |w=>exact hw
  |mul _ _ h1 h2=>exact Vz h hc n (Nat.le_refl _) _ h2 _ h1
  |inv _ hp=>
   rename_i p _
   have hpp:=(hp.pn h).1
   have hnd:((jY T n n).map fun s=>bG s p n).Nodup:=Jr (fun s hs u hu e=>mul_right_inj (((rG h n (Nat.le_refl _) s).1 hs).pn h).1 (((rG h n (Nat.le_refl _) u).1 hu).pn h).1 hpp e) (Js h n (Nat.le_refl _))
   have hon:=VD hnd (l2:=jY T n n) (fun x hx=>by
    obtain ⟨s,hs,rfl⟩:=List.mem_map.1 hx
    exact (rG h n (Nat.le_refl _) _).2 (Vz h hc n (Nat.le_refl _) _ hp _ ((rG h n (Nat.le_refl _) s).1 hs))) (by simp) (dQ n) ((rG h n (Nat.le_refl _) _).2 (.one h (Nat.le_refl _)))
   obtain ⟨s,hs,e⟩:=List.mem_map.1 hon
   have hs':=(rG h n (Nat.le_refl _) s).1 hs
   have hsp:=(hs'.pn h).1
   have:s=dN p n:=by
    have:=congrArg (fun x=>bG x (dN p n) n) e
    simp only [mul_assoc hsp hpp hpp.inv,rF hpp,mul_one hsp,one_mul hpp.inv] at this
    exact this
   rw [←this]
   exact hs'
def iG (n:Nat) (p g:List Nat):List Nat:=bG (bG (dN p n) g n) p n
theorem wI {n:Nat} {p g:List Nat} (hp:PN n p) (hg:PN n g):PN n (iG n p g):=(hp.inv.mul hg).mul hp
theorem afM {n:Nat} {b w p g:List Nat} (hb:PN n b) (hw:PN n w) (hp:PN n p) (h:Gen n b w g):Gen n (iG n p b) (iG n p w) (iG n p g):=by
 induction h with
 |one=>
  have:iG n p (dQ n)=dQ n:=by rw [iG,mul_one hp.inv,sN hp]
  rw [this]
  exact .one
 |b=>exact .b
 |w=>exact .w
 |mul h1 h2 i1 i2=>
  rename_i x y
  have hx:=h1.pn hb hw
  have hy:=h2.pn hb hw
  have:iG n p (bG x y n)=bG (iG n p x) (iG n p y) n:=by
   unfold iG
   rw [mul_assoc (hp.inv.mul hx) hp ((hp.inv.mul hy).mul hp),←mul_assoc hp (hp.inv.mul hy) hp,←mul_assoc hp hp.inv hy,rF hp,one_mul hy,←mul_assoc (hp.inv.mul hx) hy hp,mul_assoc hp.inv hx hy]
  rw [this]
  exact .mul i1 i2
 |inv h1 i1=>
  rename_i x
  have hx:=h1.pn hb hw
  have:iG n p (dN x n)=dN (iG n p x) n:=by
   refine mul_left_inj (wI hp hx.inv) (wI hp hx).inv (wI hp hx) ?_
   rw [rF (wI hp hx)]
   unfold iG
   rw [mul_assoc (hp.inv.mul hx) hp ((hp.inv.mul hx.inv).mul hp),←mul_assoc hp (hp.inv.mul hx.inv) hp,←mul_assoc hp hp.inv hx.inv,rF hp,one_mul hx.inv,←mul_assoc (hp.inv.mul hx) hx.inv hp,mul_assoc hp.inv hx hx.inv,rF hx,mul_one hp.inv,sN hp]
  rw [this]
  exact .inv i1
theorem afN {n:Nat} {p g h:List Nat} (hp:PN n p) (hg:PN n g) (hh:PN n h) (e:iG n p g=iG n p h):g=h:=
 mul_left_inj hg hh hp.inv (mul_right_inj (hp.inv.mul hg) (hp.inv.mul hh) hp e)
theorem VE {n:Nat} {p g:List Nat} (hp:PN n p) (hg:PN n g):iG n p (iG n (dN p n) g)=g:=by
 have hbb:dN (dN p n) n=p:=by
  refine mul_left_inj hp.inv.inv hp hp.inv ?_
  rw [rF hp.inv,sN hp]
 unfold iG
 rw [hbb,←mul_assoc hp.inv (hp.mul hg) hp.inv,←mul_assoc hp.inv hp hg,sN hp,one_mul hg,mul_assoc hg hp.inv hp,sN hp,mul_one hg]
theorem lq.VF {n:Nat} {b w p:List Nat} {N M:Nat} (hb:PN n b) (hw:PN n w) (hp:PN n p) (h:lq n b w N) (k:lq n (iG n p b) (iG n p w) M):N≤M:=by
 obtain ⟨L,h1,rfl,h2⟩:=h
 obtain ⟨L',k1,rfl,k2⟩:=k
 have hn:(L.map (iG n p)).Nodup:=Jr (fun x hx y hy e=>afN hp (((h2 x).1 hx).pn hb hw) (((h2 y).1 hy).pn hb hw) e) h1
 have:=yB hn (l2:=L') fun x hx=>by
  obtain ⟨g,hg,rfl⟩:=List.mem_map.1 hx
  exact (k2 _).2 (afM hb hw hp ((h2 g).1 hg))
 simpa using this
theorem lq.conj {n:Nat} {b w p:List Nat} {N M:Nat} (hb:PN n b) (hw:PN n w) (hp:PN n p) (h:lq n b w N) (k:lq n (iG n p b) (iG n p w) M):N=M:=by
 have a:=h.VF hb hw hp k
 have c:=k.VF (wI hp hb) (wI hp hw) hp.inv (M:=N) (by
  have e1:iG n (dN p n) (iG n p b)=b:=by
   have:=VE hp.inv hb
   have hbb:dN (dN p n) n=p:=by
    refine mul_left_inj hp.inv.inv hp hp.inv ?_
    rw [rF hp.inv,sN hp]
   rwa [hbb] at this
  have e2:iG n (dN p n) (iG n p w)=w:=by
   have:=VE hp.inv hw
   have hbb:dN (dN p n) n=p:=by
    refine mul_left_inj hp.inv.inv hp hp.inv ?_
    rw [rF hp.inv,sN hp]
   rwa [hbb] at this
  rw [e1,e2]
  exact h)
 omega
end Go.Bm
