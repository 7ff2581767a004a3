/- BmL, Sp0, Sp1, Sp2, Sp3, Sp4, Sp5, Sp6, Sp7, Sp8, Sp9, SpA, SpB, SpC, SpD, SpE, SpF, SpG, SpH, SpI, SpJ, SpK, DpMa, SpL, SpM, SpN, SpO, SpP, SpQ, SpR, SpS -/
import Derived.KernelRfl
import Derived.Test.YtkapkmjofpoebaaGreatAmS
import Derived.Test.YtkapkmjofpoebaaGreatAmS2
import Derived.Test.YtkapkmjofpoebaaGreatBmS
set_option linter.unusedVariables false
set_option linter.unusedSimpArgs false
set_option linter.unusedSectionVars false
namespace Go.Bm
open Go Go.Am
theorem aqi {HA:aA}:Ext HA HA:=⟨Nat.le_refl _,fun _ _=>rfl⟩
theorem ac9 {Z:Nat→Option dh} {k:Int} {d:Value} (h:VZ Z (I k) d):d=I k:=by
 cases h with
 |plain _=>rfl
theorem aqj {ρ:Nat→Option Nat} {Z:Nat→Option dh} {k:Int} {d:Value} (h:VR ρ Z (I k) d):d=I k:=by
 cases h with
 |z h=>exact ac9 h
theorem D5 {ρ:Nat→Option Nat} {Z:Nat→Option dh} {H:BH} {HA:aA} {xs:List Int} {u:Value} (hR:Rel ρ Z H HA) (h:VR ρ Z (FI xs) u):jQ HA u xs:=by
 cases h with
 |z h=>
  unfold FI Fz at h
  generalize hm:xs.length=m at h
  generalize hcs:xs.map I=cs0 at h
  cases h with
  |plain hp=>simp [Am.plain] at hp
  | @fz l e b o bk cs ds hz h1 h2 h3 h4 h5=>
   obtain ⟨hb,hg⟩:=hR.jl _ _ hz
   subst hcs
   refine .inr ⟨b,o,bk,by rw [hm],hb,hg,by omega,fun i hi=>?_⟩
   have hd:ds[i]? =bk.cells[o+i]? :=by rw [h4,List.getElem?_take,if_pos (by omega),List.getElem?_drop]
   have hl:i<ds.length:=by rw [←h2,List.length_map];exact hi
   have:=h5 i (I (el xs i)) ds[i] (by rw [List.getElem?_map,List.getElem?_eq_getElem hi];simp [el,List.getD,hi]) (List.getElem?_eq_getElem hl)
   rw [←hd,List.getElem?_eq_getElem hl,ac9 this]
  |fz0=>exact .inl ⟨rfl,List.eq_nil_of_length_eq_zero hm⟩
theorem Me {ρ:Nat→Option Nat} {Z:Nat→Option dh} {H:BH} {HA HA':aA} {xs:List Int} {u:Value} (hR:Rel ρ Z H HA) (he:Ext HA HA') (h:jR HA.n HA'.n HA' u xs):
  ∃Z',VR ρ Z' (FI xs) u∧Rel ρ Z' H HA'∧jh ρ Z H HA ρ Z' H HA':=by
 rcases h with ⟨rfl,rfl⟩|⟨b,rest,rfl,h1,h2,h3,h4⟩
 ·exact ⟨Z, .z .fz0,⟨fun i cs hc=>by
   obtain ⟨b,bk,e1,e2,e3,e4,e5⟩:=hR.gK i cs hc
   exact ⟨b,bk,e1,by have:=he.n;omega,by rw [he.get b e2,e3],e4,e5⟩,hR.inj,hR.iW,fun b bk hz=>by
   obtain ⟨e1,e2⟩:=hR.jl b bk hz
   exact ⟨by have:=he.n;omega,by rw [he.get b e1,e2]⟩,hR.top⟩,⟨he.n,fun b hb _=>he.get b hb,fun i cs b h1 h2=> .inr ⟨i,cs,h1,h2⟩,fun _ _ h=>h,fun _ _ h=> .inl h⟩⟩
 ·have hzn: ∀c bk,Z c=some bk→c≠b:=fun c bk hc=>by have:=(hR.jl c bk hc).1;omega
  have hzx: ∀c bk,Z c=some bk→(fun c=>if c=b then some (⟨xs.map I++rest,true⟩:dh) else Z c) c=some bk:=fun c bk hc=>by
   simp only [if_neg (hzn c bk hc)];exact hc
  refine ⟨fun c=>if c=b then some ⟨xs.map I++rest,true⟩ else Z c,?_,⟨fun i cs hc=>?_,hR.inj,fun i cs c e1 e2=>?_,fun c bk hz=>?_,hR.top⟩,⟨he.n,fun b hb _=>he.get b hb,fun i cs b h1 h2=> .inr ⟨i,cs,h1,h2⟩,hzx,fun c bk hz=>?_⟩⟩
  ·refine .z (.fz (bk:=⟨xs.map I++rest,true⟩) (ds:=((xs.map I++rest).drop 0).take (xs.length*1)) (if_pos rfl) (by simp) (by simp) (by simp) rfl fun i c d k1 k2=>?_)
   rw [List.drop_zero,Nat.mul_one,List.take_append_of_le_length (by simp),List.take_of_length_le (by simp)] at k2
   rw [k1] at k2
   cases k2
   rw [List.getElem?_map,Option.map_eq_some_iff] at k1
   obtain ⟨y,_,rfl⟩:=k1
   exact .plain rfl
  ·obtain ⟨c,bk,e1,e2,e3,e4,e5⟩:=hR.gK i cs hc
   exact ⟨c,bk,e1,by omega,by rw [he.get c e2,e3],e4,e5.1,fun i c d k1 k2=>(e5.2 i c d k1 k2).mono (fun _ _ h=>h) hzx⟩
  ·obtain ⟨c',bk,f1,f2,_⟩:=hR.gK i cs e1
   rw [e2] at f1
   cases f1
   simp only [if_neg (show¬c=b by omega)]
   exact hR.iW i cs c e1 e2
  ·split at hz
   ·rename_i hcb
    cases hz
    rw [hcb]
    exact ⟨h3,h4⟩
   ·obtain ⟨e1,e2⟩:=hR.jl c bk hz
    exact ⟨by omega,by rw [he.get c e1,e2]⟩
  ·split at hz
   ·rename_i hcb
    exact .inr (.inl (by omega))
   ·exact .inl hz
section
variable {x:Bool} {g:Nat} {vals:List Value} {H:BH} {K:Value→BH→Prop} {xs:List Int} {c:Int}
theorem aqk (h: ∀ρ Z as HA,VL ρ Z vals as→Rel ρ Z H HA→Am.kP g as HA fun v' HA'=>Ext HA HA'∧ ∃u,jR HA.n HA'.n HA' u xs∧v'= .tuple ⟨[u,I c]⟩) (hK:K (.tuple ⟨[FI xs,I c]⟩) H):aJ x g vals H K:=by
 intro ρ Z as HA h1 h2
 obtain ⟨v',HA',hc,he,u,ho,rfl⟩:=h ρ Z as HA h1 h2
 obtain ⟨Z',hv,hr,hf⟩:=Me h2 he ho
 refine ⟨_,HA',hc,fun _=>he,ρ,Z',_,H,?_,hr,Nat.le_refl _,fun _ _=>rfl,hf,hK⟩
 refine .tuple rfl fun i a d k1 k2=>?_
 match i,k1,k2 with
 |0,k1,k2=>cases k1;cases k2;exact hv
 |1,k1,k2=>cases k1;cases k2;exact .z (.plain rfl)
theorem acW {w:Value} (hp: ∀Z,VZ Z w w) (h: ∀ρ Z as HA,VL ρ Z vals as→Rel ρ Z H HA→Am.kP g as HA fun v' HA'=>Ext HA HA'∧v'=w) (hK:K w H):aJ x g vals H K:=by
 intro ρ Z as HA h1 h2
 obtain ⟨v',HA',hc,he,rfl⟩:=h ρ Z as HA h1 h2
 obtain ⟨Z',_,hr,hf⟩:=Me (xs:=[]) h2 he (.inl ⟨rfl,rfl⟩)
 exact ⟨_,_,hc,fun _=>he,ρ,Z',_,H, .z (hp _),hr,Nat.le_refl _,fun _ _=>rfl,hf,hK⟩
end
theorem Rk {a b:Value} (ha:Am.plain a=true) (hb:Am.plain b=true): ∀Z,VZ Z (.tuple ⟨[a,b]⟩) (.tuple ⟨[a,b]⟩):=fun Z=> .tuple rfl fun i c d k1 k2=>by
 match i,k1,k2 with
 |0,k1,k2=>cases k1;cases k2;exact .plain ha
 |1,k1,k2=>cases k1;cases k2;exact .plain hb
theorem vl1 {ρ:Nat→Option Nat} {Z:Nat→Option dh} {a:Value} {as:List Value} (h:VL ρ Z [a] as): ∃u,as=[u]∧VR ρ Z a u:=by
 obtain ⟨h1,h2⟩:=h
 match as,h1 with
 |[u],_=>exact ⟨u,rfl,h2 0 a u rfl rfl⟩
theorem Rl {ρ:Nat→Option Nat} {Z:Nat→Option dh} {a b:Value} {as:List Value} (h:VL ρ Z [a,b] as): ∃u v,as=[u,v]∧VR ρ Z a u∧VR ρ Z b v:=by
 obtain ⟨h1,h2⟩:=h
 match as,h1 with
 |[u,v],_=>exact ⟨u,v,rfl,h2 0 a u rfl rfl,h2 1 b v rfl rfl⟩
theorem vl3 {ρ:Nat→Option Nat} {Z:Nat→Option dh} {a b c:Value} {as:List Value} (h:VL ρ Z [a,b,c] as): ∃u v w,as=[u,v,w]∧VR ρ Z a u∧VR ρ Z b v∧VR ρ Z c w:=by
 obtain ⟨h1,h2⟩:=h
 match as,h1 with
 |[u,v,w],_=>exact ⟨u,v,w,rfl,h2 0 a u rfl rfl,h2 1 b v rfl rfl,h2 2 c w rfl rfl⟩
theorem aoK {ρ:Nat→Option Nat} {Z:Nat→Option dh} {H:BH} {HA HA':aA} {xs:List Int} {b:Nat} {rest:List Value} (hR:Rel ρ Z H HA) (he:Ext HA HA') (h1:HA.n≤b) (h3:b<HA'.n) (h4:HA'.get b=some ⟨xs.map I++rest,true⟩):
  let ρ':=fun i=>if i=H.length then some b else ρ i
  let H':=H++[some (xs.map I++List.replicate rest.length .nilIface)]
  Rel ρ' Z H' HA'∧jh ρ Z H HA ρ' Z H' HA'∧ ∀i,i<H.length→ρ' i=ρ i:=by
 intro ρ' H'
 have hn:ρ' H.length=some b:=if_pos rfl
 have ho: ∀i,i≠H.length→ρ' i=ρ i:=fun i hi=>if_neg hi
 have hr: ∀i c,ρ i=some c→ρ' i=some c:=fun i c hc=>by
  rw [ho i (fun q=>by rw [q,hR.top _ (Nat.le_refl _)] at hc;cases hc),hc]
 have hb: ∀i cs,blk H' i=some cs→(i=H.length∧cs=xs.map I++List.replicate rest.length .nilIface)∨(i≠H.length∧blk H i=some cs):=fun i cs hc=>by
  rw [l7] at hc
  split at hc
  ·rename_i q
   cases hc
   exact .inl ⟨q,rfl⟩
  ·rename_i q
   exact .inr ⟨q,hc⟩
 have hold: ∀i cs c,blk H i=some cs→ρ i=some c→c≠b:=fun i cs c e1 e2=>by
  obtain ⟨c',bk,f1,f2,_⟩:=hR.gK i cs e1
  rw [e2] at f1
  cases f1
  omega
 refine ⟨⟨fun i cs hc=>?_,fun i j cs cs' c e1 e2 e3 e4=>?_,fun i cs c e1 e2=>?_,fun c bk hz=>?_,fun i hi=>?_⟩,⟨he.n,fun c hc _=>he.get c hc,fun i cs c e1 e2=>?_,fun _ _ h=>h,fun _ _ h=> .inl h⟩,fun i hi=>ho i (by omega)⟩
 ·rcases hb i cs hc with ⟨rfl,rfl⟩|⟨hi,hc⟩
  ·refine ⟨b,_,hn,h3,h4,rfl,by simp,fun k c d k1 k2=>?_⟩
   by_cases hk:k<xs.length
   ·rw [List.getElem?_append_left (by simpa using hk)] at k1 k2
    rw [k1] at k2
    cases k2
    rw [List.getElem?_map,Option.map_eq_some_iff] at k1
    obtain ⟨y,_,rfl⟩:=k1
    exact .z (.plain rfl)
   ·rw [List.getElem?_append_right (by simp;omega),List.getElem?_replicate] at k1
    split at k1
    ·cases k1
     exact .z .junk
    ·cases k1
  ·obtain ⟨c,bk,e1,e2,e3,e4,e5⟩:=hR.gK i cs hc
   exact ⟨c,bk,by rw [ho i hi,e1],by have:=he.n;omega,by rw [he.get c e2,e3],e4,e5.1,fun i c d k1 k2=>(e5.2 i c d k1 k2).mono hr fun _ _ h=>h⟩
 ·rcases hb i cs e1 with ⟨rfl,_⟩|⟨hi,e1⟩
  ·rcases hb j cs' e2 with ⟨rfl,_⟩|⟨hj,e2⟩
   ·rfl
   ·rw [hn] at e3
    rw [ho j hj] at e4
    cases e3
    exact absurd rfl (hold j cs' b e2 e4)
  ·rw [ho i hi] at e3
   rcases hb j cs' e2 with ⟨rfl,_⟩|⟨hj,e2⟩
   ·rw [hn] at e4
    cases e4
    exact absurd rfl (hold i cs b e1 e3)
   ·rw [ho j hj] at e4
    exact hR.inj i j cs cs' c e1 e2 e3 e4
 ·rcases hb i cs e1 with ⟨rfl,_⟩|⟨hi,e1⟩
  ·rw [hn] at e2
   cases e2
   cases hz:Z b with
   |none=>rfl
   |some bk=>have:=(hR.jl b bk hz).1;omega
  ·rw [ho i hi] at e2
   exact hR.iW i cs c e1 e2
 ·obtain ⟨e1,e2⟩:=hR.jl c bk hz
  exact ⟨by have:=he.n;omega,by rw [he.get c e1,e2]⟩
 ·have:H'.length=H.length+1:=by simp [H']
  rw [ho i (by omega)]
  exact hR.top i (by omega)
 ·rcases hb i cs e1 with ⟨rfl,_⟩|⟨hi,e1⟩
  ·rw [hn] at e2
   cases e2
   exact .inl h1
  ·rw [ho i hi] at e2
   exact .inr ⟨i,cs,e1,e2⟩
theorem aql {x:Bool} {g:Nat} {vals:List Value} {H:BH} {K:Value→BH→Prop} {xs:List Int} (h: ∀ρ Z as HA,VL ρ Z vals as→Rel ρ Z H HA→Am.kP g as HA fun v' HA'=>Ext HA HA'∧jR HA.n HA'.n HA' v' xs)
  (hK0:xs=[]→K (.slice none 0 0) H) (hK: ∀m,K (S H.length 0 xs.length 1) (H++[some (xs.map I++List.replicate m .nilIface)])):aJ x g vals H K:=by
 intro ρ Z as HA h1 h2
 obtain ⟨v',HA',hc,he,ho⟩:=h ρ Z as HA h1 h2
 rcases ho with ⟨rfl,rfl⟩|⟨b,rest,rfl,k1,_,k3,k4⟩
 ·obtain ⟨Z',_,hr,hf⟩:=Me (xs:=[]) h2 he (.inl ⟨rfl,rfl⟩)
  exact ⟨_,_,hc,fun _=>he,ρ,Z',_,H, .z (.plain rfl),hr,Nat.le_refl _,fun _ _=>rfl,hf,hK0 rfl⟩
 ·obtain ⟨q1,q2,q3⟩:=aoK h2 he k1 k3 k4
  exact ⟨_,_,hc,fun _=>he,_,Z,_,_, .slice (if_pos rfl),q1,by simp,q3,q2,hK _⟩
end Go.Bm
namespace Go.Am
open Go
end Go.Am
namespace Go.Am
open Go
def Poly (xs:List Int):Prop:=(∀i,i<xs.length→0≤el xs i∧el xs i≤10006)∧xs.length≤17∧(xs.length=0∨el xs (xs.length-1)≠0)
instance (xs:List Int):Decidable (Poly xs):=by unfold Poly;infer_instance
theorem vU {x a b:Int} {H:aA} {K:Value→aA→Prop} (hK:K (.bool (decide (a≤x∧x≤b))) H):kP Uj [I x,I a,I b] H K:=by
 refine vw UC ?_;simp only [wM,aG]
 refine bD fun Kr hKr=>?_;simp (disch:=omega) only [RF,RO,RC,aF,↓reduceIte,Nat.reduceEqDiff,RD];refine hKr _ _ ?_;clear hKr Kr;try simp only [RN,Bool.false_eq_true,reduceIte]
 by_cases h:a≤x
 ·refine bD fun Kr hKr=>?_;simp (disch:=omega) only [RF,RO,RC,aF,↓reduceIte,Nat.reduceEqDiff,RD,h];refine hKr _ _ ?_;clear hKr Kr;try simp only [RN,Bool.false_eq_true,reduceIte]
  refine ⟨_,rfl,?_⟩;simp only [RF,jZ,kU,aF,↓reduceIte,Nat.reduceEqDiff,h]
  simpa [h] using hK
 ·refine bD fun Kr hKr=>?_;simp (disch:=omega) only [RF,RO,RC,aF,↓reduceIte,Nat.reduceEqDiff,RD,h];refine hKr _ _ ?_;clear hKr Kr;try simp only [RN,Bool.false_eq_true,reduceIte]
  refine ⟨_,rfl,?_⟩;simp only [RF,jZ,kU,aF,↓reduceIte,Nat.reduceEqDiff,h]
  simpa [h] using hK
end Go.Am
namespace Go.Am
open Go
def md (x:Int):Int:=x%10007
def value (xs:List Int) (x:Int):Int:=xs.foldr (fun a out=>md (out*x+a)) 0
def Fit (xs:List Int):Prop:= ∀i,i<xs.length→0≤el xs i∧el xs i≤10007
end Go.Am
namespace Go.Am
open Go
theorem jQ.row {H:aA} {b o e n:Nat} {xs:List Int} (h:jQ H (S b o n e) xs) (hp:0<xs.length):n=xs.length∧e=1∧b<H.n∧H.row b o (n*1)=some (xs.map I):=by
 obtain ⟨b',o',blk,he,hb,hg,hl,hel⟩:=h.pos hp
 cases he
 refine ⟨rfl,rfl,hb,?_⟩
 simp only [aA.row,hg,Nat.mul_one]
 rw [if_pos hl]
 congr 1
 apply List.ext_getElem?
 intro i
 rw [List.getElem?_take]
 split
 ·rename_i hi
  rw [List.getElem?_drop,hel i hi]
  simp [hi,el,List.getD]
 ·rename_i hi
  rw [List.getElem?_eq_none (by simp;omega)]
def tl (xs:List Int):Nat→Nat
 |0=>0
 |n+1=>if el xs n=0 then tl xs n else n+1
def trim (xs:List Int):List Int:=xs.take (tl xs xs.length)
theorem ada (xs:List Int): ∀n,tl xs n≤n
 |0=>Nat.le_refl _
 |n+1=>by
  simp only [tl]
  split
  ·exact Nat.le_succ_of_le (ada xs n)
  ·exact Nat.le_refl _
theorem adb (xs:List Int):(trim xs).length=tl xs xs.length:=by
 rw [trim,List.length_take,Nat.min_eq_left (ada _ _)]
theorem jQ.pre {H:aA} {b o e n:Nat} {xs:List Int} (h:jQ H (S b o n e) xs) (he:e=1) {k:Nat} (hk:k≤xs.length):jQ H (S b o k 1) (xs.take k)∨(k=0∧e=1):=by
 rcases h with ⟨h,_⟩|⟨b',o',blk,heq,hb,hg,hl,hel⟩
 ·cases h
 ·cases heq
  refine .inl (.inr ⟨b,o,blk,by rw [List.length_take,Nat.min_eq_left hk],hb,hg,by rw [List.length_take];omega,fun i hi=>?_⟩)
  rw [List.length_take] at hi
  rw [hel i (by omega)]
  simp [el,List.getD,show i<k by omega]
theorem jR.pre {lo hi:Nat} {H:aA} {b n e:Nat} {xs:List Int} (h:jR lo hi H (S b 0 n e) xs) {k:Nat} (hk:k≤xs.length):jR lo hi H (S b 0 k 1) (xs.take k):=by
 rcases h with ⟨h,_⟩|⟨b',rest,heq,h1,h2,h3,h4⟩
 ·cases h
 ·cases heq
  refine .inr ⟨b,(xs.drop k).map I++rest,by rw [List.length_take,Nat.min_eq_left hk],h1,h2,h3,?_⟩
  rw [h4,←List.append_assoc,←List.map_append,List.take_append_drop]
end Go.Am
namespace Go.Am
open Go
theorem Out.refl' (lo hi:Nat) (H:aA):Out lo hi H H:=⟨Nat.le_refl _,fun _ _ _=>rfl⟩
def gen (n:Nat) (g:Nat→Int):List Int:=(List.range n).map g
theorem HY {xs:List Int} {i:Nat} (h:xs.length≤i):el xs i=0:=by simp [el,List.getD,List.getElem?_eq_none h]
theorem ade (xs:List Int) (i:Nat):el (trim xs) i=el xs i:=by
 have key: ∀n,∀i,tl xs n≤i→i<n→el xs i=0:=by
  intro n
  induction n with
  |zero=>intro i _ h;omega
  |succ n ih=>
   intro i h1 h2
   simp only [tl] at h1
   split at h1
   ·rename_i hz
    by_cases h:i=n
    ·subst h;exact hz
    ·exact ih i h1 (by omega)
   ·omega
 by_cases h:i<tl xs xs.length
 ·simp [el,trim,List.getD,h]
 ·rw [HY (by rw [adb];omega)]
  by_cases h':i<xs.length
  ·exact (key _ i (by omega) h').symm
  ·exact (HY (by omega)).symm
def adf (xs:List Int):List Int:=trim (gen (xs.length-1) fun i=>md (el xs (i+1)*((i:Int)+1)))
end Go.Am
namespace Go.Am
open Go
def RQ (xs ys:List Int) (k:Int):List Int:=trim (gen (max xs.length ys.length) fun i=>md (el xs i+k*el ys i))
theorem Fit.el {xs:List Int} (h:Fit xs) (i:Nat):0≤el xs i∧el xs i≤10007:=by
 by_cases hi:i<xs.length
 ·exact h i hi
 ·rw [HY (by omega)];omega
end Go.Am
namespace Go.Am
open Go
end Go.Am
namespace Go.Am
open Go
def cvp (x y:Nat→Int):Nat→Nat→Int
 |0,_=>0
 |i+1,n=>cvp x y i n+(if i≤n then x i*y (n-i) else 0)
def cv (x y:Nat→Int) (n:Nat):Int:=cvp x y (n+1) n
def aoL (xs ys:List Int):List Int:=if xs.length=0∨ys.length=0 then [] else trim (gen (xs.length+ys.length-1) fun n=>md (cv (el xs) (el ys) n))
end Go.Am
namespace Go.Am
open Go
def Red (xs:List Int):Prop:=(∀i,0≤el xs i∧el xs i≤10006)∧(xs.length=0∨el xs (xs.length-1)≠0)
theorem Red.ext {xs ys:List Int} (hx:Red xs) (hy:Red ys) (h: ∀i,el xs i=el ys i):xs=ys:=by
 have hl:xs.length=ys.length:=by
  rcases Nat.lt_trichotomy xs.length ys.length with hlt|heq|hgt
  ·rcases hy.2 with h0|h0
   ·omega
   ·exact absurd ((h _).symm.trans (HY (by omega))) h0
  ·exact heq
  ·rcases hx.2 with h0|h0
   ·omega
   ·exact absurd ((h _).trans (HY (by omega))) h0
 exact SS hl fun i _=>h i
theorem adg (xs:List Int): ∀n,tl xs n=0∨el xs (tl xs n-1)≠0
 |0=> .inl rfl
 |n+1=>by
  simp only [tl]
  split
  ·exact adg xs n
  ·rename_i h;exact .inr (by simpa using h)
theorem Red.trim {xs:List Int} (h: ∀i,0≤el xs i∧el xs i≤10006):Red (trim xs):=by
 refine ⟨fun i=>by rw [ade];exact h i,?_⟩
 rw [adb]
 rcases adg xs xs.length with h0|h0
 ·exact .inl h0
 ·exact .inr (by rw [ade];exact h0)
theorem Red.nil:Red []:=⟨fun i=>by simp [el], .inl rfl⟩
end Go.Am
namespace Go.Am
open Go
def adh:Nat→Nat→Int→Int→Int
 |0,_,out,_=>out
 |n+1,k,out,sq=>if k=0 then out else adh n (k/2) (if k%2=1 then md (out*sq) else out) (md (sq*sq))
def inv (x:Int):Int:=adh 14 10005 1 x
end Go.Am
namespace Go.Am
open Go
def aoM (n:Nat) (g:List Int):List Int:=List.replicate n 0++g
def top (r:List Int):Int:=el r (r.length-1)
def aoN (r g:List Int):Int:=md (top r*inv (top g))
def aoO (r g:List Int) (c:Int):List Int:=RQ r (aoM (r.length-g.length) g) (-c)
theorem Red.top {r:List Int} (h:Red r) (hp:0<r.length):1≤top r∧top r≤10006:=by
 have h1:=h.1 (r.length-1)
 rcases h.2 with h2|h2
 ·omega
 ·unfold Am.top;omega
def adi (g:List Int):Nat→List Int→List Int
 |0,r=>r
 |n+1,r=>if r.length<g.length then r else adi g n (aoO r g (aoN r g))
def rem (f g:List Int):List Int:=adi g (f.length+1) f
end Go.Am
namespace Go.Am
open Go
end Go.Am
namespace Go.Am
open Go
def adk:Nat→List Int→List Int→List Int
 |0,f,_=>f
 |n+1,f,g=>if g.length=0 then f else adk n g (rem f g)
def aoP (f g:List Int):List Int:=adk (g.length+1) f g
def monic (f:List Int):List Int:=RQ [] f (inv (top f))
def common (f g:List Int):List Int:=monic (aoP f g)
end Go.Am
namespace Go.Am
open Go
def adl (vs:List Int):Prop:= ∀i,i<vs.length→0≤el vs i∧el vs i≤10006
instance (vs:List Int):Decidable (adl vs):=by unfold adl;infer_instance
def cntF:Nat→List Int→List Int
 |0,_=>[]
 |n+1,f=>if f.length≤1 then [] else ((f.length:Int)-((common f (adf f)).length:Int))::cntF n (common f (adf f))
def counts (f:List Int):List Int:=cntF f.length f
end Go.Am
namespace Go.Am
open Go
end Go.Am
namespace Go.Am
open Go
end Go.Am
namespace Go.Am
open Go
end Go.Am
namespace Go.Am
open Go
structure Pass (lo:Nat) (H:aA) (r:Value) (one two three:List Int):Prop where
 row: ∃b p q s m1 m2 m3 rest,r=S b 0 3 1∧lo≤b∧b<H.n∧H.get b=some ⟨[p,q,s]++rest,true⟩∧jR lo m1 H p one∧jR m1 m2 H q two∧jR m2 m3 H s three∧lo≤m1∧m1≤m2∧m2≤m3∧m3≤b
end Go.Am
namespace Go.Am
open Go
def comp (f g:List Int):List Int:=f.foldr (fun a out=>RQ (aoL out g) (trim [a]) 1) []
end Go.Am
namespace Go.Am
open Go
def pw (x:Int):Nat→Int
 |0=>1
 |k+1=>md (pw x k*x)
def adn (a b:Int):Prop:=1≤a∧1≤b∧a+b≤16
instance (a b:Int):Decidable (adn a b):=by unfold adn;infer_instance
end Go.Am
namespace Go.Am
open Go
end Go.Am
namespace Go.Bm
open Go Go.Am
section
variable {x:Bool} {H:BH} {K:Value→BH→Prop} {xs ys:List Int} {a b:Int}
end
end Go.Bm
namespace Go.Am
open Go
def rowAt (xss:List (List Int)) (i:Nat):List Int:=xss.getD i []
def ado (vs:List Value) (i:Nat):Value:=vs.getD i undef
def qC (lo hi:Nat) (H:aA) (v:Value) (xss:List (List Int)):Prop:=
 (v= .slice none 0 0∧xss=[])∨ ∃(b:Nat) (vs rest:List Value) (r:Nat→Nat),v=S b 0 xss.length 1∧lo≤b∧b<hi∧b<H.n∧H.get b=some ⟨vs++rest,true⟩∧vs.length=xss.length∧(b<r 0∨r xss.length≤b)∧lo≤r 0∧r xss.length≤hi∧
  ∀i,i<xss.length→r i≤r (i+1)∧jR (r i) (r (i+1)) H (ado vs i) (rowAt xss i)
theorem RS {r:Nat→Nat} {n:Nat} (h: ∀i,i<n→r i≤r (i+1)): ∀j i,i≤j→j≤n→r i≤r j
 |0,i,hi,_=>by
  have:i=0:=by omega
  subst this;exact Nat.le_refl _
 |j+1,i,hi,hj=>by
  by_cases e:i=j+1
  ·subst e;exact Nat.le_refl _
  ·exact Nat.le_trans (RS h j i (by omega) (by omega)) (h j (by omega))
section
variable {lo hi:Nat} {H H':aA} {v:Value} {xss:List (List Int)}
theorem qC.len (h:qC lo hi H v xss): ∃a e,v= .slice a xss.length e:=by
 rcases h with ⟨rfl,rfl⟩|⟨b,vs,rest,r,rfl,_⟩
 ·exact ⟨_,_,rfl⟩
 ·exact ⟨_,_,rfl⟩
theorem qC.nil:qC lo hi H (.slice none 0 0) []:= .inl ⟨rfl,rfl⟩
theorem qC.pos (h:qC lo hi H v xss) (hp:0<xss.length): ∃(b:Nat) (vs rest:List Value) (r:Nat→Nat),v=S b 0 xss.length 1∧lo≤b∧b<hi∧b<H.n∧H.get b=some ⟨vs++rest,true⟩∧vs.length=xss.length∧(b<r 0∨r xss.length≤b)∧lo≤r 0∧r xss.length≤hi∧
  ∀i,i<xss.length→r i≤r (i+1)∧jR (r i) (r (i+1)) H (ado vs i) (rowAt xss i):=by
 rcases h with ⟨rfl,rfl⟩|h
 ·simp at hp
 ·exact h
theorem qC.ext (h:qC lo hi H v xss) (he:Ext H H'):qC lo hi H' v xss:=by
 rcases h with h|⟨b,vs,rest,r,h1,h2,h3,h4,h5,h6,h7,h8,h9,h10⟩
 ·exact .inl h
 ·exact .inr ⟨b,vs,rest,r,h1,h2,h3,Nat.lt_of_lt_of_le h4 he.n,by rw [he.get b h4];exact h5,h6,h7,h8,h9,fun i hi=>⟨(h10 i hi).1,(h10 i hi).2.ext he⟩⟩
theorem qC.weak (h:qC lo hi H v xss) {lo' hi':Nat} (hn:lo'≤lo) (hh:hi≤hi'):qC lo' hi' H v xss:=by
 rcases h with h|⟨b,vs,rest,r,h1,h2,h3,h4,h5,h6,h7,h8,h9,h10⟩
 ·exact .inl h
 ·exact .inr ⟨b,vs,rest,r,h1,Nat.le_trans hn h2,Nat.lt_of_lt_of_le h3 hh,h4,h5,h6,h7,Nat.le_trans hn h8,Nat.le_trans h9 hh,h10⟩
theorem qC.out {lo' hi':Nat} (h:qC lo hi H v xss) (he:Out lo' hi' H H') (hd:hi≤lo'∨hi'≤lo):qC lo hi H' v xss:=by
 rcases h with h|⟨b,vs,rest,r,h1,h2,h3,h4,h5,h6,h7,h8,h9,h10⟩
 ·exact .inl h
 ·refine .inr ⟨b,vs,rest,r,h1,h2,h3,Nat.lt_of_lt_of_le h4 he.n,by rw [he.get b h4 (by omega)];exact h5,h6,h7,h8,h9,fun i hi=>⟨(h10 i hi).1,(h10 i hi).2.out he ?_⟩⟩
  have m1:=RS (fun i hi=>(h10 i hi).1) i 0 (by omega) (by omega)
  have m2:=RS (fun i hi=>(h10 i hi).1) xss.length (i+1) (by omega) (Nat.le_refl _)
  omega
end
end Go.Am
namespace Go.Am
open Go
end Go.Am
namespace Go.Am
open Go
theorem Pass.own {lo:Nat} {H:aA} {v:Value} {one two three:List Int} (h:Pass lo H v one two three):qC lo H.n H v [one,two,three]:=by
 obtain ⟨b,p,q,s,m1,m2,m3,rest,rfl,h1,h2,h3,h4,h5,h6,h7,h8,h9,h10⟩:=h.row
 refine .inr ⟨b,[p,q,s],rest,fun i=>match i with|0=>lo|1=>m1|2=>m2| _=>m3,rfl,h1,h2,h2,h3,rfl, .inr h10,Nat.le_refl _,?_,fun i hi=>?_⟩
 ·show m3≤H.n
  omega
 ·match i with
  |0=>exact ⟨h7,h4⟩
  |1=>exact ⟨h8,h5⟩
  |2=>exact ⟨h9,h6⟩
  |i+3=>simp at hi;omega
end Go.Am
namespace Go.Am
open Go
def fact:Nat→Int
 |0=>1
 |n+1=>fact n*((n:Int)+1)
theorem Bq: ∀n,1≤fact n
 |0=>by decide
 |n+1=>by
  have ih:=Bq n
  have:=Int.mul_le_mul ih (show (1:Int)≤(n:Int)+1 by omega) (by omega) (by omega)
  show 1≤fact n*_
  omega
theorem H6 {n:Nat} (h:n≤17):fact n≤400000000000000:=by
 have key: ∀n,n<18→fact n≤400000000000000:=by decide+kernel
 exact key n (by omega)
def fall (n:Nat):Nat→Int
 |0=>1
 |j+1=>fall n j*((n-j:Nat):Int)
theorem RU (n:Nat): ∀j,j≤n→fall n j*fact (n-j)=fact n
 |0,_=>by simp [fall]
 |j+1,h=>by
  have ih:=RU n j (by omega)
  have e:n-j=(n-(j+1))+1:=by omega
  have e2:fact (n-j)=fact (n-(j+1))*((n-j:Nat):Int):=by
   conv=>lhs;rw [e]
   show fact (n-(j+1))*(((n-(j+1):Nat):Int)+1)=_
   congr 1
   omega
  rw [←ih,e2]
  show fall n j*((n-j:Nat):Int)*fact (n-(j+1))=_
  rw [Int.mul_assoc,Int.mul_comm ((n-j:Nat):Int)]
theorem RX (n:Nat): ∀j,j≤n→1≤fall n j
 |0,_=>by simp [fall]
 |j+1,h=>by
  have ih:=RX n j (by omega)
  have:=Int.mul_le_mul ih (show (1:Int)≤((n-j:Nat):Int) by omega) (by omega) (by omega)
  show 1≤fall n j*_
  omega
theorem aoQ {n:Nat} (h:n≤16) {j:Nat} (hj:j≤n):fall n j≤400000000000000:=by
 have h1:=RU n j hj
 have h2:=Bq (n-j)
 have h3:=RX n j hj
 have h4:=H6 (n:=n) (by omega)
 have:=Int.mul_le_mul_of_nonneg_left h2 (show 0≤fall n j by omega)
 omega
theorem acT {n:Nat} {H:aA} {K:Value→aA→Prop} (hn:n≤15) (hK:K (I (fact n)) H):kP aeH [I n] H K:=by
 refine vw agi ?_;simp only [nK,aG]
 refine bD fun Kr hKr=>?_;simp (disch:=omega) only [RF,RO,RC,aF,↓reduceIte,Nat.reduceEqDiff,RD];refine hKr _ _ ?_;clear hKr Kr;try simp only [RN,Bool.false_eq_true,reduceIte]
 refine bD fun Kr hKr=>?_;simp (disch:=omega) only [RF,RO,RC,aF,↓reduceIte,Nat.reduceEqDiff,RD];refine hKr _ _ ?_;clear hKr Kr;try simp only [RN,Bool.false_eq_true,reduceIte]
 refine bM (fun m f H'=> ∃j,j≤n∧m=n-j∧H'=H∧f 0=I ((n-j:Nat):Int)∧f 3=I (fall n j)) (n) ?_ ?_
 ·exact ⟨0,by omega,by omega,rfl,by simp [RF],by simp [RF,fall]⟩
 ·rintro m f H' R ⟨j,hj,rfl,rfl,h0,h3⟩ hN hX hR
  simp only [nK.l0,aG]
  refine bD fun Kr hKr=>?_;simp (disch:=omega) only [RF,RO,RC,aF,↓reduceIte,Nat.reduceEqDiff,RD,h0];refine hKr _ _ ?_;clear hKr Kr;try simp only [RN,Bool.false_eq_true,reduceIte]
  by_cases hlt:1<n-j
  ·refine dW (t:=true) (by simp (disch:=omega) only [RF,RO,RC,aF,↓reduceIte,Nat.reduceEqDiff,dZ,eF]) ?_;try simp only [RN,Bool.false_eq_true,reduceIte]
   (first|refine uw rfl ?_|refine uy rfl ?_);try simp only [RN,Bool.false_eq_true,reduceIte]
   have hb:=aoQ (n:=n) (by omega) (j:=j+1) (by omega)
   have hp:=RX n (j+1) (by omega)
   have RY:fall n j*((n-j:Nat):Int)=fall n (j+1):=rfl
   have hnj:((n-j:Nat):Int)-1=((n-(j+1):Nat):Int):=by omega
   refine bD fun Kr hKr=>?_;simp (disch:=omega) only [RF,RO,RC,aF,↓reduceIte,Nat.reduceEqDiff,RD,h0,h3,RY];refine hKr _ _ ?_;clear hKr Kr;try simp only [RN,Bool.false_eq_true,reduceIte]
   refine oQ fun Kr hKr=>?_;simp (disch:=omega) only [RF,RO,RC,aF,↓reduceIte,Nat.reduceEqDiff,RD,h0,hnj];refine hKr _ _ ?_;clear hKr Kr
   exact hN (n-(j+1)) _ _ (by omega) ⟨j+1,by omega,rfl,rfl,by simp [RF],by simp [RF]⟩
  ·refine dW (t:=false) (by simp (disch:=omega) only [RF,RO,RC,aF,↓reduceIte,Nat.reduceEqDiff,dZ,eF]) ?_;try simp only [RN,Bool.false_eq_true,reduceIte]
   refine hX _ _ ?_
   refine bD fun Kr hKr=>?_;simp (disch:=omega) only [RF,RO,RC,aF,↓reduceIte,Nat.reduceEqDiff,RD,h3];refine hKr _ _ ?_;clear hKr Kr;try simp only [RN,Bool.false_eq_true,reduceIte]
   refine ⟨_,rfl,?_⟩;simp only [RF,jZ,kU,aF,↓reduceIte,Nat.reduceEqDiff]
   have h:=RU n j hj
   have:fact (n-j)=1:=by
    have:n-j=0∨n-j=1:=by omega
    rcases this with h|h<;>rw [h]<;>rfl
   rw [this,Int.mul_one] at h
   rw [h]
   exact hK
theorem adp {n:Nat} {H:aA} {K:Value→aA→Prop} (hn:n≤15) (hK:K (I (fact n)) H):kP aeD [I n] H K:=by
 refine vw agc ?_;simp only [mO,aG]
 refine bD fun Kr hKr=>?_;simp (disch:=omega) only [RF,RO,RC,aF,↓reduceIte,Nat.reduceEqDiff,RD];refine hKr _ _ ?_;clear hKr Kr;try simp only [RN,Bool.false_eq_true,reduceIte]
 refine bD fun Kr hKr=>?_;simp (disch:=omega) only [RF,RO,RC,aF,↓reduceIte,Nat.reduceEqDiff,RD];refine hKr _ _ ?_;clear hKr Kr;try simp only [RN,Bool.false_eq_true,reduceIte]
 refine bD fun Kr hKr=>?_;simp (disch:=omega) only [RF,RO,RC,aF,↓reduceIte,Nat.reduceEqDiff,RD];refine hKr _ _ ?_;clear hKr Kr;try simp only [RN,Bool.false_eq_true,reduceIte]
 refine bM (fun m f H'=> ∃j,1≤j∧m=n+1-j∧(j≤n∨j=1)∧H'=H∧f 0=I n∧f 4=I ((j+1:Nat):Int)∧f 3=I (fact j)) (n) ?_ ?_
 ·exact ⟨1,by omega,by omega, .inr rfl,rfl,by simp [RF],by simp [RF],by simp [RF,fact]⟩
 ·rintro m f H' R ⟨j,hj,rfl,hjn,rfl,h0,h4,h3⟩ hN hX hR
  simp only [mO.l0,aG]
  refine bD fun Kr hKr=>?_;simp (disch:=omega) only [RF,RO,RC,aF,↓reduceIte,Nat.reduceEqDiff,RD,h0,h4];refine hKr _ _ ?_;clear hKr Kr;try simp only [RN,Bool.false_eq_true,reduceIte]
  by_cases hlt:j+1≤n
  ·refine dW (t:=true) (by simp (disch:=omega) only [RF,RO,RC,aF,↓reduceIte,Nat.reduceEqDiff,dZ,eF]) ?_;try simp only [RN,Bool.false_eq_true,reduceIte]
   (first|refine uw rfl ?_|refine uy rfl ?_);try simp only [RN,Bool.false_eq_true,reduceIte]
   have hb:=H6 (n:=j+1) (by omega)
   have hp:=Bq (j+1)
   have RY:fact j*((j+1:Nat):Int)=fact (j+1):=by show _=fact j*((j:Int)+1);congr 1
   refine bD fun Kr hKr=>?_;simp (disch:=omega) only [RF,RO,RC,aF,↓reduceIte,Nat.reduceEqDiff,RD,h3,h4,RY];refine hKr _ _ ?_;clear hKr Kr;try simp only [RN,Bool.false_eq_true,reduceIte]
   refine oQ fun Kr hKr=>?_;simp (disch:=omega) only [RF,RO,RC,aF,↓reduceIte,Nat.reduceEqDiff,RD,h4];refine hKr _ _ ?_;clear hKr Kr
   exact hN (n+1-(j+1)) _ _ (by omega) ⟨j+1,by omega,rfl, .inl (by omega),rfl,by simp [RF,h0],by simp [RF],by simp [RF]⟩
  ·refine dW (t:=false) (by simp (disch:=omega) only [RF,RO,RC,aF,↓reduceIte,Nat.reduceEqDiff,dZ,eF]) ?_;try simp only [RN,Bool.false_eq_true,reduceIte]
   refine hX _ _ ?_
   refine bD fun Kr hKr=>?_;simp (disch:=omega) only [RF,RO,RC,aF,↓reduceIte,Nat.reduceEqDiff,RD,h3];refine hKr _ _ ?_;clear hKr Kr;try simp only [RN,Bool.false_eq_true,reduceIte]
   refine ⟨_,rfl,?_⟩;simp only [RF,jZ,kU,aF,↓reduceIte,Nat.reduceEqDiff]
   have:fact j=fact n:=by
    by_cases e:j=n
    ·rw [e]
    ·have h1:j=1:=by omega
     have h2:n=0:=by omega
     rw [h1,h2];rfl
   rw [this]
   exact hK
end Go.Am
namespace Go.Am
open Go
def rn (xs:List Int):Nat→Nat
 |0=>1
 |i+1=>if el xs (i+1)=el xs i then rn xs i+1 else 1
theorem H7 (xs:List Int): ∀i,1≤rn xs i∧rn xs i≤i+1
 |0=>by simp [rn]
 |i+1=>by
  have:=H7 xs i
  simp only [rn]
  split<;>omega
def eqs (xs:List Int):Nat→Int
 |0=>1
 |i+1=>eqs xs i*(rn xs i:Int)
theorem H8 (xs:List Int): ∀n,1≤eqs xs n∧eqs xs n≤fact n
 |0=>by simp [eqs,fact]
 |n+1=>by
  have ih:=H8 xs n
  have hr:=H7 xs n
  have h1:=Int.mul_le_mul ih.1 (show (1:Int)≤(rn xs n:Int) by omega) (by omega) (by omega)
  have h2:=Int.mul_le_mul ih.2 (show (rn xs n:Int)≤(n:Int)+1 by omega) (by omega) (by have:=Bq n;omega)
  show 1≤eqs xs n*_∧eqs xs n*_≤fact n*((n:Int)+1)
  omega
theorem acU {H:aA} {v:Value} {xs:List Int} {K:Value→aA→Prop} (hx:jQ H v xs) (hl:xs.length≤16) (hK:K (I (eqs xs xs.length)) H):kP aeI [v] H K:=by
 obtain ⟨a,e,rfl⟩:=hx.len
 refine vw agj ?_;simp only [jK,aG]
 refine bD fun Kr hKr=>?_;simp (disch:=omega) only [RF,RO,RC,aF,↓reduceIte,Nat.reduceEqDiff,RD];refine hKr _ _ ?_;clear hKr Kr;try simp only [RN,Bool.false_eq_true,reduceIte]
 refine bD fun Kr hKr=>?_;simp (disch:=omega) only [RF,RO,RC,aF,↓reduceIte,Nat.reduceEqDiff,RD];refine hKr _ _ ?_;clear hKr Kr;try simp only [RN,Bool.false_eq_true,reduceIte]
 refine bD fun Kr hKr=>?_;simp (disch:=omega) only [RF,RO,RC,aF,↓reduceIte,Nat.reduceEqDiff,RD];refine hKr _ _ ?_;clear hKr Kr;try simp only [RN,Bool.false_eq_true,reduceIte]
 refine bM (fun n f H'=> ∃k,k≤xs.length∧n=xs.length-k∧H'=H∧f 0= .slice a xs.length e∧f 3=I (eqs xs k)∧f 4=I (if k=0 then 0 else (rn xs (k-1):Int))∧f 5=I k) (xs.length) ?_ ?_
 ·exact ⟨0,by omega,by omega,rfl,by simp [RF],by simp [RF,eqs],by simp [RF],by simp [RF]⟩
 ·rintro n f H' R ⟨k,hk,rfl,rfl,h0,h3,h4,h5⟩ hN hX hR
  simp only [jK.l0,aG]
  refine bD fun Kr hKr=>?_;simp (disch:=omega) only [RF,RO,RC,aF,↓reduceIte,Nat.reduceEqDiff,RD,h0,h5];refine hKr _ _ ?_;clear hKr Kr;try simp only [RN,Bool.false_eq_true,reduceIte]
  by_cases hlt:k<xs.length
  ·refine dW (t:=true) (by simp (disch:=omega) only [RF,RO,RC,aF,↓reduceIte,Nat.reduceEqDiff,dZ,eF]) ?_;try simp only [RN,Bool.false_eq_true,reduceIte]
   (first|refine uw rfl ?_|refine uy rfl ?_);try simp only [RN,Bool.false_eq_true,reduceIte]
   obtain ⟨b,o,blk,heq,hb,hg,hlen,hel⟩:=hx.pos (by omega)
   cases heq
   have hfin: ∀(f':Fr),f' 0=S b o xs.length 1→f' 3=I (eqs xs k)→f' 4=I ((rn xs k:Int)-1)→f' 5=I k→T (aj.seq jK.r7 (.seq jK.r8 jK.r4)) R f' H':=by
    intro f' h0 h3 h4 h5
    have hr:=H7 xs k
    have hb1:=H8 xs (k+1)
    have hb2:=H6 (n:=k+1) (by omega)
    have hee:eqs xs k*(rn xs k:Int)=eqs xs (k+1):=rfl
    have hr1:(rn xs k:Int)-1+1=(rn xs k:Int):=by omega
    refine bD fun Kr hKr=>?_;simp (disch:=omega) only [RF,RO,RC,aF,↓reduceIte,Nat.reduceEqDiff,RD,h4,hr1];refine hKr _ _ ?_;clear hKr Kr;try simp only [RN,Bool.false_eq_true,reduceIte]
    refine bD fun Kr hKr=>?_;simp (disch:=omega) only [RF,RO,RC,aF,↓reduceIte,Nat.reduceEqDiff,RD,h3,hee];refine hKr _ _ ?_;clear hKr Kr;try simp only [RN,Bool.false_eq_true,reduceIte]
    refine oQ fun Kr hKr=>?_;simp (disch:=omega) only [RF,RO,RC,aF,↓reduceIte,Nat.reduceEqDiff,RD,h5];refine hKr _ _ ?_;clear hKr Kr
    exact hN (xs.length-(k+1)) _ _ (by omega) ⟨k+1,by omega,rfl,rfl,by simp [RF,h0],by simp [RF],by simp [RF],by simp [RF]⟩
   by_cases hk0:k=0
   ·subst hk0
    refine bD fun Kr hKr=>?_;simp (disch:=omega) only [RF,RO,RC,aF,↓reduceIte,Nat.reduceEqDiff,RD,h5];refine hKr _ _ ?_;clear hKr Kr;try simp only [RN,Bool.false_eq_true,reduceIte]
    refine dW (t:=false) (by simp (disch:=omega) only [RF,RO,RC,aF,↓reduceIte,Nat.reduceEqDiff,dZ,eF]) ?_;try simp only [RN,Bool.false_eq_true,reduceIte]
    exact hfin _ (by simp [RF,h0]) (by simp [RF,h3]) (by simp [RF,h4,rn]) (by simp [RF,h5])
   ·obtain ⟨j,rfl⟩: ∃j,k=j+1:=⟨k-1,by omega⟩
    have hj:((j+1:Nat):Int)-1=(j:Int):=by omega
    have hjl:j<xs.length:=by omega
    have hr:=H7 xs j
    simp only [Nat.add_sub_cancel,if_neg hk0] at h4
    refine bD fun Kr hKr=>?_;simp (disch:=omega) only [RF,RO,RC,aF,↓reduceIte,Nat.reduceEqDiff,RD,h0,h5,hj,hjl,hg,hel];refine hKr _ _ ?_;clear hKr Kr;try simp only [RN,Bool.false_eq_true,reduceIte]
    by_cases hq:el xs (j+1)=el xs j
    ·refine dW (t:=false) (by simp (disch:=omega) only [RF,RO,RC,aF,↓reduceIte,Nat.reduceEqDiff,dZ,eF,hq]) ?_;try simp only [RN,Bool.false_eq_true,reduceIte]
     exact hfin _ (by simp [RF,h0]) (by simp [RF,h3]) (by simp [RF,h4,rn,hq]) (by simp [RF,h5])
    ·refine dW (t:=true) (by simp (disch:=omega) only [RF,RO,RC,aF,↓reduceIte,Nat.reduceEqDiff,dZ,eF,hq]) ?_;try simp only [RN,Bool.false_eq_true,reduceIte]
     refine bD fun Kr hKr=>?_;simp (disch:=omega) only [RF,RO,RC,aF,↓reduceIte,Nat.reduceEqDiff,RD];refine hKr _ _ ?_;clear hKr Kr;try simp only [RN,Bool.false_eq_true,reduceIte]
     exact hfin _ (by simp [RF,h0]) (by simp [RF,h3]) (by simp [RF,rn,hq]) (by simp [RF,h5])
  ·refine dW (t:=false) (by simp (disch:=omega) only [RF,RO,RC,aF,↓reduceIte,Nat.reduceEqDiff,dZ,eF]) ?_;try simp only [RN,Bool.false_eq_true,reduceIte]
   refine hX _ _ ?_
   refine bD fun Kr hKr=>?_;simp (disch:=omega) only [RF,RO,RC,aF,↓reduceIte,Nat.reduceEqDiff,RD,h3];refine hKr _ _ ?_;clear hKr Kr;try simp only [RN,Bool.false_eq_true,reduceIte]
   refine ⟨_,rfl,?_⟩;simp only [RF,jZ,kU,aF,↓reduceIte,Nat.reduceEqDiff]
   have:k=xs.length:=by omega
   subst this
   exact hK
theorem adq {H:aA} {v:Value} {xs:List Int} {K:Value→aA→Prop} (hx:jQ H v xs) (hl:xs.length≤16) (hK:K (I (eqs xs xs.length)) H):kP aeE [v] H K:=by
 obtain ⟨a,e,rfl⟩:=hx.len
 refine vw agd ?_;simp only [jE,aG]
 refine bD fun Kr hKr=>?_;simp (disch:=omega) only [RF,RO,RC,aF,↓reduceIte,Nat.reduceEqDiff,Int.reduceLT,reduceCtorEq,RD];refine hKr _ _ ?_;clear hKr Kr;try simp only [RN,Bool.false_eq_true,reduceIte]
 refine bD fun Kr hKr=>?_;simp (disch:=omega) only [RF,RO,RC,aF,↓reduceIte,Nat.reduceEqDiff,Int.reduceLT,reduceCtorEq,RD];refine hKr _ _ ?_;clear hKr Kr;try simp only [RN,Bool.false_eq_true,reduceIte]
 refine bD fun Kr hKr=>?_;simp (disch:=omega) only [RF,RO,RC,aF,↓reduceIte,Nat.reduceEqDiff,Int.reduceLT,reduceCtorEq,RD];refine hKr _ _ ?_;clear hKr Kr;try simp only [RN,Bool.false_eq_true,reduceIte]
 refine bM (fun n f H'=> ∃k,k≤xs.length∧n=xs.length-k∧H'=H∧f 0= .slice a xs.length e∧f 7= .slice a xs.length e∧f 8=I xs.length∧f 3=I (eqs xs k)∧f 4=I (if k=0 then 0 else (rn xs (k-1):Int))∧f 9=I k) (xs.length) ?_ ?_
 ·exact ⟨0,by omega,by omega,rfl,by simp [RF],by simp [RF],by simp [RF],by simp [RF,eqs],by simp [RF],by simp [RF]⟩
 ·rintro n f H' R ⟨k,hk,rfl,rfl,h0,h7,h8,h3,h4,h9⟩ hN hX hR
  simp only [jE.l0,aG]
  refine bD fun Kr hKr=>?_;simp (disch:=omega) only [RF,RO,RC,aF,↓reduceIte,Nat.reduceEqDiff,RD,h8,h9];refine hKr _ _ ?_;clear hKr Kr;try simp only [RN,Bool.false_eq_true,reduceIte]
  by_cases hlt:k<xs.length
  ·refine dW (t:=true) (by simp (disch:=omega) only [RF,RO,RC,aF,↓reduceIte,Nat.reduceEqDiff,dZ,eF]) ?_;try simp only [RN,Bool.false_eq_true,reduceIte]
   (first|refine uw rfl ?_|refine uy rfl ?_);try simp only [RN,Bool.false_eq_true,reduceIte]
   obtain ⟨b,o,blk,heq,hb,hg,hlen,hel⟩:=hx.pos (by omega)
   cases heq
   refine bD fun Kr hKr=>?_;simp (disch:=omega) only [RF,RO,RC,aF,↓reduceIte,Nat.reduceEqDiff,RD,h7,h9,hlt,hg,hel];refine hKr _ _ ?_;clear hKr Kr;try simp only [RN,Bool.false_eq_true,reduceIte]
   have hfin: ∀(f':Fr),f' 0=S b o xs.length 1→f' 7=S b o xs.length 1→f' 8=I xs.length→f' 3=I (eqs xs k)→f' 4=I (rn xs k:Int)→f' 9=I k→T (aj.seq jE.r8 jE.r9) R f' H':=by
    intro f' h0 h7 h8 h3 h4 h9
    have hb1:=H8 xs (k+1)
    have hb2:=H6 (n:=k+1) (by omega)
    have hee:eqs xs k*(rn xs k:Int)=eqs xs (k+1):=rfl
    refine bD fun Kr hKr=>?_;simp (disch:=omega) only [RF,RO,RC,aF,↓reduceIte,Nat.reduceEqDiff,RD,h3,h4,hee];refine hKr _ _ ?_;clear hKr Kr;try simp only [RN,Bool.false_eq_true,reduceIte]
    refine oQ fun Kr hKr=>?_;simp (disch:=omega) only [RF,RO,RC,aF,↓reduceIte,Nat.reduceEqDiff,RD,h9];refine hKr _ _ ?_;clear hKr Kr
    exact hN (xs.length-(k+1)) _ _ (by omega) ⟨k+1,by omega,rfl,rfl,by simp [RF,h0],by simp [RF,h7],by simp [RF,h8],by simp [RF],by simp [RF,h4],by simp [RF]⟩
   by_cases hk0:k=0
   ·subst hk0
    refine bD fun Kr hKr=>?_;simp (disch:=omega) only [RF,RO,RC,aF,↓reduceIte,Nat.reduceEqDiff,Int.reduceLT,reduceCtorEq,RD];refine hKr _ _ ?_;clear hKr Kr;try simp only [RN,Bool.false_eq_true,reduceIte]
    refine dW (t:=false) (by simp (disch:=omega) only [RF,RO,RC,aF,↓reduceIte,Nat.reduceEqDiff,dZ,eF]) ?_;try simp only [RN,Bool.false_eq_true,reduceIte]
    refine bD fun Kr hKr=>?_;simp (disch:=omega) only [RF,RO,RC,aF,↓reduceIte,Nat.reduceEqDiff,Int.reduceLT,reduceCtorEq,RD];refine hKr _ _ ?_;clear hKr Kr;try simp only [RN,Bool.false_eq_true,reduceIte]
    exact hfin _ (by simp [RF,h0]) (by simp [RF,h7]) (by simp [RF,h8]) (by simp [RF,h3]) (by simp [RF,rn]) (by simp [RF,h9])
   ·obtain ⟨j,rfl⟩: ∃j,k=j+1:=⟨k-1,by omega⟩
    have hj:((j+1:Nat):Int)-1=(j:Int):=by omega
    have hjl:j<xs.length:=by omega
    have hr:=H7 xs j
    simp only [Nat.add_sub_cancel,if_neg hk0] at h4
    refine bD fun Kr hKr=>?_;simp (disch:=omega) only [RF,RO,RC,aF,↓reduceIte,Nat.reduceEqDiff,RD,h0,hj,hjl,hg,hel];refine hKr _ _ ?_;clear hKr Kr;try simp only [RN,Bool.false_eq_true,reduceIte]
    by_cases hq:el xs (j+1)=el xs j
    ·refine dW (t:=true) (by simp (disch:=omega) only [RF,RO,RC,aF,↓reduceIte,Nat.reduceEqDiff,dZ,eF,hq]) ?_;try simp only [RN,Bool.false_eq_true,reduceIte]
     refine bD fun Kr hKr=>?_;simp (disch:=omega) only [RF,RO,RC,aF,↓reduceIte,Nat.reduceEqDiff,RD,h4];refine hKr _ _ ?_;clear hKr Kr;try simp only [RN,Bool.false_eq_true,reduceIte]
     exact hfin _ (by simp [RF,h0]) (by simp [RF,h7]) (by simp [RF,h8]) (by simp [RF,h3]) (by simp [RF,rn,hq]) (by simp [RF,h9])
    ·refine dW (t:=false) (by simp (disch:=omega) only [RF,RO,RC,aF,↓reduceIte,Nat.reduceEqDiff,dZ,eF,hq]) ?_;try simp only [RN,Bool.false_eq_true,reduceIte]
     refine bD fun Kr hKr=>?_;simp (disch:=omega) only [RF,RO,RC,aF,↓reduceIte,Nat.reduceEqDiff,Int.reduceLT,reduceCtorEq,RD];refine hKr _ _ ?_;clear hKr Kr;try simp only [RN,Bool.false_eq_true,reduceIte]
     exact hfin _ (by simp [RF,h0]) (by simp [RF,h7]) (by simp [RF,h8]) (by simp [RF,h3]) (by simp [RF,rn,hq]) (by simp [RF,h9])
  ·refine dW (t:=false) (by simp (disch:=omega) only [RF,RO,RC,aF,↓reduceIte,Nat.reduceEqDiff,dZ,eF]) ?_;try simp only [RN,Bool.false_eq_true,reduceIte]
   refine hX _ _ ?_
   refine bD fun Kr hKr=>?_;simp (disch:=omega) only [RF,RO,RC,aF,↓reduceIte,Nat.reduceEqDiff,RD,h3];refine hKr _ _ ?_;clear hKr Kr;try simp only [RN,Bool.false_eq_true,reduceIte]
   refine ⟨_,rfl,?_⟩;simp only [RF,jZ,kU,aF,↓reduceIte,Nat.reduceEqDiff]
   have:k=xs.length:=by omega
   subst this
   exact hK
end Go.Am
namespace Go.Am
open Go
def uq (xs:List Int) (k:Nat):Prop:=1≤el xs k∧el xs k≤16∧(0<k→el xs k≤el xs (k-1))
instance (xs:List Int) (k:Nat):Decidable (uq xs k):=by unfold uq;infer_instance
def Ty (xs:List Int):Prop:= ∀i,i<xs.length→uq xs i
instance (xs:List Int):Decidable (Ty xs):=by unfold Ty;infer_instance
def sm (xs:List Int):Nat→Int
 |0=>0
 |i+1=>sm xs i+el xs i
theorem sm_lo {xs:List Int} {n:Nat} (h: ∀i,i<n→uq xs i):(n:Int)≤sm xs n:=by
 induction n with
 |zero=>exact Int.le_refl _
 |succ n ih=>
  have h1:=ih fun i hi=>h i (by omega)
  have h2:=(h n (by omega)).1
  show _≤sm xs n+el xs n
  omega
theorem adr {xs:List Int} (h:Ty xs): ∀n k,k≤n→n≤xs.length→sm xs k≤sm xs n
 |0,k,hk,_=>by
  have:k=0:=by omega
  subst this;exact Int.le_refl _
 |n+1,k,hk,hn=>by
  by_cases e:k=n+1
  ·subst e;exact Int.le_refl _
  ·have h1:=adr h n k (by omega) (by omega)
   have h2:=(h n (by omega)).1
   show _≤sm xs n+el xs n
   omega
def qU (xs:List Int):Int:=if Ty xs∧sm xs xs.length≤16 then sm xs xs.length else 0
theorem Bg {H:aA} {v:Value} {xs:List Int} {K:Value→aA→Prop} (hx:jQ H v xs) (hl:xs.length≤2000000) (hK:K (I (qU xs)) H):kP TY [v] H K:=by
 obtain ⟨a,e,rfl⟩:=hx.len
 refine vw UA ?_;simp only [fO,aG]
 refine bD fun Kr hKr=>?_;simp (disch:=omega) only [RF,RO,RC,aF,↓reduceIte,Nat.reduceEqDiff,Int.reduceLT,reduceCtorEq,RD];refine hKr _ _ ?_;clear hKr Kr;try simp only [RN,Bool.false_eq_true,reduceIte]
 refine bD fun Kr hKr=>?_;simp (disch:=omega) only [RF,RO,RC,aF,↓reduceIte,Nat.reduceEqDiff,Int.reduceLT,reduceCtorEq,RD];refine hKr _ _ ?_;clear hKr Kr;try simp only [RN,Bool.false_eq_true,reduceIte]
 refine bD fun Kr hKr=>?_;simp (disch:=omega) only [RF,RO,RC,aF,↓reduceIte,Nat.reduceEqDiff,Int.reduceLT,reduceCtorEq,RD];refine hKr _ _ ?_;clear hKr Kr;try simp only [RN,Bool.false_eq_true,reduceIte]
 refine bM (fun n f H'=> ∃k,k≤xs.length∧n=xs.length-k∧H'=H∧f 0= .slice a xs.length e∧f 6= .slice a xs.length e∧f 7=I xs.length∧f 3=I (sm xs k)∧f 8=I k∧(∀i,i<k→uq xs i)∧sm xs k≤16) (xs.length) ?_ ?_
 ·exact ⟨0,by omega,by omega,rfl,by simp [RF],by simp [RF],by simp [RF],by simp [RF,sm],by simp [RF],by simp,by simp [sm]⟩
 ·rintro n f H' R ⟨k,hk,rfl,rfl,h0,h6,h7,h3,h8,hok,hs⟩ hN hX hR
  simp only [fO.l0,aG]
  have hlo:=sm_lo hok
  refine bD fun Kr hKr=>?_;simp (disch:=omega) only [RF,RO,RC,aF,↓reduceIte,Nat.reduceEqDiff,RD,h7,h8];refine hKr _ _ ?_;clear hKr Kr;try simp only [RN,Bool.false_eq_true,reduceIte]
  by_cases hlt:k<xs.length
  ·refine dW (t:=true) (by simp (disch:=omega) only [RF,RO,RC,aF,↓reduceIte,Nat.reduceEqDiff,dZ,eF]) ?_;try simp only [RN,Bool.false_eq_true,reduceIte]
   (first|refine uw rfl ?_|refine uy rfl ?_);try simp only [RN,Bool.false_eq_true,reduceIte]
   obtain ⟨b,o,blk,heq,hb,hg,hlen,hel⟩:=hx.pos (by omega)
   cases heq
   refine bD fun Kr hKr=>?_;simp (disch:=omega) only [RF,RO,RC,aF,↓reduceIte,Nat.reduceEqDiff,RD,h6,h8,hlt,hg,hel];refine hKr _ _ ?_;clear hKr Kr;try simp only [RN,Bool.false_eq_true,reduceIte]
   have hbad: ∀(c:aj) (f':Fr),¬uq xs k→T (aj.seq fO.r6 (.seq .ret c)) R f' H':=by
    intro c f' hno
    refine bD fun Kr hKr=>?_;simp (disch:=omega) only [RF,RO,RC,aF,↓reduceIte,Nat.reduceEqDiff,Int.reduceLT,reduceCtorEq,RD];refine hKr _ _ ?_;clear hKr Kr;try simp only [RN,Bool.false_eq_true,reduceIte]
    refine hR _ _ ?_
    refine ⟨_,rfl,?_⟩;simp only [RF,jZ,kU,aF,↓reduceIte,Nat.reduceEqDiff]
    have: ¬(Ty xs∧sm xs xs.length≤16):=fun h=>hno (h.1 k hlt)
    simpa only [qU,this,if_false] using hK
   have hgood: ∀f':Fr,f' 0=S b o xs.length 1→f' 6=S b o xs.length 1→f' 7=I xs.length→f' 3=I (sm xs k)→f' 8=I k→f' 5=I (el xs k)→uq xs k→T (aj.seq fO.r7 (.seq (.seq fO.r8 (.cond (.t 36) (.seq fO.r9 .ret) .skip)) fO.r10)) R f' H':=by
    intro f' h0 h6 h7 h3 h8 h5 ho
    have h1:=ho.1
    have h2:=ho.2.1
    have hss:sm xs k+el xs k=sm xs (k+1):=rfl
    refine bD fun Kr hKr=>?_;simp (disch:=omega) only [RF,RO,RC,aF,↓reduceIte,Nat.reduceEqDiff,RD,h3,h5,hss];refine hKr _ _ ?_;clear hKr Kr;try simp only [RN,Bool.false_eq_true,reduceIte]
    refine bD fun Kr hKr=>?_;simp (disch:=omega) only [RF,RO,RC,aF,↓reduceIte,Nat.reduceEqDiff,Int.reduceLT,reduceCtorEq,RD];refine hKr _ _ ?_;clear hKr Kr;try simp only [RN,Bool.false_eq_true,reduceIte]
    by_cases hbig:16<sm xs (k+1)
    ·refine dW (t:=true) (by simp (disch:=omega) only [RF,RO,RC,aF,↓reduceIte,Nat.reduceEqDiff,dZ,eF]) ?_;try simp only [RN,Bool.false_eq_true,reduceIte]
     refine bD fun Kr hKr=>?_;simp (disch:=omega) only [RF,RO,RC,aF,↓reduceIte,Nat.reduceEqDiff,Int.reduceLT,reduceCtorEq,RD];refine hKr _ _ ?_;clear hKr Kr;try simp only [RN,Bool.false_eq_true,reduceIte]
     refine hR _ _ ?_
     refine ⟨_,rfl,?_⟩;simp only [RF,jZ,kU,aF,↓reduceIte,Nat.reduceEqDiff]
     have: ¬(Ty xs∧sm xs xs.length≤16):=fun h=>by have:=adr h.1 xs.length (k+1) (by omega) (Nat.le_refl _);omega
     simpa only [qU,this,if_false] using hK
    ·refine dW (t:=false) (by simp (disch:=omega) only [RF,RO,RC,aF,↓reduceIte,Nat.reduceEqDiff,dZ,eF]) ?_;try simp only [RN,Bool.false_eq_true,reduceIte]
     refine oQ fun Kr hKr=>?_;simp (disch:=omega) only [RF,RO,RC,aF,↓reduceIte,Nat.reduceEqDiff,RD,h8];refine hKr _ _ ?_;clear hKr Kr
     refine hN (xs.length-(k+1)) _ _ (by omega) ⟨k+1,by omega,rfl,rfl,by simp [RF,h0],by simp [RF,h6],by simp [RF,h7],by simp [RF],by simp [RF],fun i hi=>?_,by omega⟩
     by_cases e:i=k
     ·subst e;exact ho
     ·exact hok i (by omega)
   by_cases c1:el xs k<1
   ·refine bD fun Kr hKr=>?_;simp (disch:=omega) only [RF,RO,RC,aF,↓reduceIte,Nat.reduceEqDiff,RD];refine hKr _ _ ?_;clear hKr Kr;try simp only [RN,Bool.false_eq_true,reduceIte]
    refine dW (t:=true) (by simp (disch:=omega) only [RF,RO,RC,aF,↓reduceIte,Nat.reduceEqDiff,dZ,eF]) ?_;try simp only [RN,Bool.false_eq_true,reduceIte]
    exact hbad _ _ fun h=>by have:=h.1;omega
   ·by_cases c2:16<el xs k
    ·refine bD fun Kr hKr=>?_;simp (disch:=omega) only [RF,RO,RC,aF,↓reduceIte,Nat.reduceEqDiff,RD];refine hKr _ _ ?_;clear hKr Kr;try simp only [RN,Bool.false_eq_true,reduceIte]
     refine dW (t:=true) (by simp (disch:=omega) only [RF,RO,RC,aF,↓reduceIte,Nat.reduceEqDiff,dZ,eF]) ?_;try simp only [RN,Bool.false_eq_true,reduceIte]
     exact hbad _ _ fun h=>by have:=h.2.1;omega
    ·by_cases hk0:k=0
     ·subst hk0
      refine bD fun Kr hKr=>?_;simp (disch:=omega) only [RF,RO,RC,aF,↓reduceIte,Nat.reduceEqDiff,Int.reduceLT,reduceCtorEq,RD];refine hKr _ _ ?_;clear hKr Kr;try simp only [RN,Bool.false_eq_true,reduceIte]
      refine dW (t:=false) (by simp (disch:=omega) only [RF,RO,RC,aF,↓reduceIte,Nat.reduceEqDiff,dZ,eF]) ?_;try simp only [RN,Bool.false_eq_true,reduceIte]
      exact hgood _ (by simp [RF,h0]) (by simp [RF,h6]) (by simp [RF,h7]) (by simp [RF,h3]) (by simp [RF,h8]) (by simp [RF]) ⟨by omega,by omega,fun h=>by omega⟩
     ·obtain ⟨j,rfl⟩: ∃j,k=j+1:=⟨k-1,by omega⟩
      have hj:((j+1:Nat):Int)-1=(j:Int):=by omega
      have hjl:j<xs.length:=by omega
      by_cases c3:el xs j<el xs (j+1)
      ·refine bD fun Kr hKr=>?_;simp (disch:=omega) only [RF,RO,RC,aF,↓reduceIte,Nat.reduceEqDiff,reduceCtorEq,RD,h0,hj,hjl,hg,hel];refine hKr _ _ ?_;clear hKr Kr;try simp only [RN,Bool.false_eq_true,reduceIte]
       refine dW (t:=true) (by simp (disch:=omega) only [RF,RO,RC,aF,↓reduceIte,Nat.reduceEqDiff,dZ,eF]) ?_;try simp only [RN,Bool.false_eq_true,reduceIte]
       exact hbad _ _ fun h=>by have:=h.2.2 (by omega);simp only [Nat.add_sub_cancel] at this;omega
      ·refine bD fun Kr hKr=>?_;simp (disch:=omega) only [RF,RO,RC,aF,↓reduceIte,Nat.reduceEqDiff,reduceCtorEq,RD,h0,hj,hjl,hg,hel];refine hKr _ _ ?_;clear hKr Kr;try simp only [RN,Bool.false_eq_true,reduceIte]
       refine dW (t:=false) (by simp (disch:=omega) only [RF,RO,RC,aF,↓reduceIte,Nat.reduceEqDiff,dZ,eF]) ?_;try simp only [RN,Bool.false_eq_true,reduceIte]
       exact hgood _ (by simp [RF,h0]) (by simp [RF,h6]) (by simp [RF,h7]) (by simp [RF,h3]) (by simp [RF,h8]) (by simp [RF]) ⟨by omega,by omega,fun h=>by simp only [Nat.add_sub_cancel];omega⟩
  ·refine dW (t:=false) (by simp (disch:=omega) only [RF,RO,RC,aF,↓reduceIte,Nat.reduceEqDiff,dZ,eF]) ?_;try simp only [RN,Bool.false_eq_true,reduceIte]
   refine hX _ _ ?_
   refine bD fun Kr hKr=>?_;simp (disch:=omega) only [RF,RO,RC,aF,↓reduceIte,Nat.reduceEqDiff,RD,h3];refine hKr _ _ ?_;clear hKr Kr;try simp only [RN,Bool.false_eq_true,reduceIte]
   refine ⟨_,rfl,?_⟩;simp only [RF,jZ,kU,aF,↓reduceIte,Nat.reduceEqDiff]
   have:k=xs.length:=by omega
   subst this
   have:Ty xs∧sm xs xs.length≤16:=⟨hok,hs⟩
   simpa only [qU,this,and_self,if_true] using hK
end Go.Am
namespace Go.Am
open Go
def lH (xs ys:List Int):Prop:=Ty xs∧Ty ys∧sm xs xs.length=sm ys ys.length∧1≤sm xs xs.length∧sm xs xs.length≤16
instance (xs ys:List Int):Decidable (lH xs ys):=by unfold lH;infer_instance
theorem aoR {xs ys:List Int}:(0<qU xs∧qU xs≤16∧qU ys=qU xs)↔lH xs ys:=by
 unfold lH qU
 by_cases h1:Ty xs∧sm xs xs.length≤16
 ·rw [if_pos h1]
  by_cases h2:Ty ys∧sm ys ys.length≤16
  ·rw [if_pos h2]
   exact ⟨fun h=>⟨h1.1,h2.1,h.2.2.symm,by omega,h1.2⟩,fun h=>⟨by omega,by omega,h.2.2.1.symm⟩⟩
  ·rw [if_neg h2]
   exact ⟨fun h=>by omega,fun h=>absurd ⟨h.2.1,by omega⟩ h2⟩
 ·rw [if_neg h1]
  exact ⟨fun h=>by omega,fun h=>absurd ⟨h.1,h.2.2.2.2⟩ h1⟩
theorem Hr {xs ys:List Int} (h:lH xs ys):1≤xs.length∧xs.length≤16∧1≤ys.length∧ys.length≤16:=by
 have h1:=sm_lo h.1
 have h2:=sm_lo h.2.1
 obtain ⟨_,_,h3,h4,h5⟩:=h
 have e1:1≤xs.length:=by
  rcases Nat.eq_zero_or_pos xs.length with e|e
  ·rw [e] at h4;simp [sm] at h4
  ·exact e
 have e2:1≤ys.length:=by
  rcases Nat.eq_zero_or_pos ys.length with e|e
  ·rw [e] at h3;simp [sm] at h3;omega
  ·exact e
 omega
theorem aoS {H:aA} {v u:Value} {xs ys:List Int} {K:Value→aA→Prop} (hx:jQ H v xs) (hl:xs.length≤2000000) (hy:jQ H u ys) (AZ:ys.length≤2000000) (hK:K (.bool (decide (lH xs ys))) H):kP TW [v,u,I 16] H K:=by
 have hiff:= @aoR xs ys
 refine vw Uy ?_;simp only [uF,aG]
 refine bD fun Kr hKr=>?_;simp (disch:=omega) only [RF,RO,RC,aF,↓reduceIte,Nat.reduceEqDiff,RD];refine hKr _ _ ?_;clear hKr Kr;try simp only [RN,Bool.false_eq_true,reduceIte]
 refine bD fun Kr hKr=>?_;simp (disch:=omega) only [RF,RO,RC,aF,↓reduceIte,Nat.reduceEqDiff,RD]
 refine Bg hx hl ?_
 simp (disch:=omega) only [RF,RO,RC,aF,↓reduceIte,Nat.reduceEqDiff,RD]
 refine hKr _ _ ?_;clear hKr Kr;(try simp only [gu,iH,iP]);try simp only [RN,Bool.false_eq_true,reduceIte]
 by_cases h1:0<qU xs
 ·by_cases h2:qU xs≤16
  ·refine bD fun Kr hKr=>?_;simp (disch:=omega) only [RF,RO,RC,aF,↓reduceIte,Nat.reduceEqDiff,RD]
   refine Bg hy AZ ?_
   by_cases h3:qU ys=qU xs
   ·simp (disch:=omega) only [RF,RO,RC,aF,↓reduceIte,Nat.reduceEqDiff,RD,h3]
    refine hKr _ _ ?_;clear hKr Kr;(try simp only [gu,iH,iP]);try simp only [RN,Bool.false_eq_true,reduceIte]
    refine ⟨_,rfl,?_⟩;simp only [RF,jZ,kU,aF,↓reduceIte,Nat.reduceEqDiff]
    have:lH xs ys:=hiff.1 ⟨h1,h2,h3⟩
    simpa [this] using hK
   ·simp (disch:=omega) only [RF,RO,RC,aF,↓reduceIte,Nat.reduceEqDiff,RD,h3]
    refine hKr _ _ ?_;clear hKr Kr;(try simp only [gu,iH,iP]);try simp only [RN,Bool.false_eq_true,reduceIte]
    refine ⟨_,rfl,?_⟩;simp only [RF,jZ,kU,aF,↓reduceIte,Nat.reduceEqDiff]
    have: ¬lH xs ys:=fun h=>h3 (hiff.2 h).2.2
    simpa [this] using hK
  ·refine bD fun Kr hKr=>?_;simp (disch:=omega) only [RF,RO,RC,aF,↓reduceIte,Nat.reduceEqDiff,RD];refine hKr _ _ ?_;clear hKr Kr;try simp only [RN,Bool.false_eq_true,reduceIte]
   refine ⟨_,rfl,?_⟩;simp only [RF,jZ,kU,aF,↓reduceIte,Nat.reduceEqDiff]
   have: ¬lH xs ys:=fun h=>h2 (hiff.2 h).2.1
   simpa [this] using hK
 ·refine bD fun Kr hKr=>?_;simp (disch:=omega) only [RF,RO,RC,aF,↓reduceIte,Nat.reduceEqDiff,RD];refine hKr _ _ ?_;clear hKr Kr;try simp only [RN,Bool.false_eq_true,reduceIte]
  refine ⟨_,rfl,?_⟩;simp only [RF,jZ,kU,aF,↓reduceIte,Nat.reduceEqDiff]
  have: ¬lH xs ys:=fun h=>h1 (hiff.2 h).1
  simpa [this] using hK
def qB (xs ys:List Int):Int:=sm xs xs.length*fact (xs.length-1)*fact (ys.length-1)
def sO (xs ys:List Int):Int:=eqs xs xs.length*eqs ys ys.length
def qo (xs ys:List Int):Int×Int:=
 if lH xs ys then if (xs.length:Int)+(ys.length:Int)=sm xs xs.length+1 then ((qB xs ys).tdiv (sO xs ys),0) else (0,0) else (0,2)
theorem ads {a b:Nat} (h:a+b≤17):fact a*fact b≤400000000000000:=by
 have key: ∀a:Nat,a<18→ ∀b:Nat,b<18→a+b≤17→fact a*fact b≤400000000000000:=by decide+kernel
 exact key a (by omega) b (by omega) h
end Go.Am
namespace Go.Am
open Go
theorem aoT {xs ys:List Int} (h:lH xs ys):qU xs=sm xs xs.length:=by
 unfold qU
 rw [if_pos ⟨h.1,h.2.2.2.2⟩]
theorem acS {xs ys:List Int} (h:lH xs ys) (hpq:(xs.length:Int)+(ys.length:Int)=sm xs xs.length+1):
  (0≤sm xs xs.length*fact (xs.length-1)∧sm xs xs.length*fact (xs.length-1)≤10000000000000000)∧(0≤qB xs ys∧qB xs ys≤10000000000000000)∧(1≤sO xs ys∧sO xs ys≤400000000000000)∧
  (0≤(qB xs ys).tdiv (sO xs ys)∧(qB xs ys).tdiv (sO xs ys)≤10000000000000000):=by
 have hl:=Hr h
 obtain ⟨_,_,h3,h4,h5⟩:=h
 have f1:=Bq (xs.length-1)
 have f2:=Bq (ys.length-1)
 have f3:=H6 (n:=xs.length-1) (by omega)
 have ft:=ads (a:=xs.length-1) (b:=ys.length-1) (by omega)
 have fq:=ads (a:=xs.length) (b:=ys.length) (by omega)
 have e1:=H8 xs xs.length
 have e2:=H8 ys ys.length
 have g1:=Bq xs.length
 have a1:0≤sm xs xs.length*fact (xs.length-1):=Int.mul_nonneg (by omega) (by omega)
 have a2:sm xs xs.length*fact (xs.length-1)≤16*400000000000000:=Int.mul_le_mul h5 f3 (by omega) (by omega)
 have b1:0≤fact (xs.length-1)*fact (ys.length-1):=Int.mul_nonneg (by omega) (by omega)
 have b2:qB xs ys=sm xs xs.length*(fact (xs.length-1)*fact (ys.length-1)):=by rw [qB,Int.mul_assoc]
 have b3:0≤qB xs ys:=by rw [b2];exact Int.mul_nonneg (by omega) b1
 have b4:qB xs ys≤16*400000000000000:=by rw [b2];exact Int.mul_le_mul h5 ft b1 (by omega)
 have d1:1*1≤sO xs ys:=Int.mul_le_mul e1.1 e2.1 (by omega) (by omega)
 have d2:sO xs ys≤fact xs.length*fact ys.length:=Int.mul_le_mul e1.2 e2.2 (by omega) (by omega)
 have q1:(qB xs ys).tdiv (sO xs ys)=qB xs ys/sO xs ys:=Int.tdiv_eq_ediv_of_nonneg b3
 have q2:0≤qB xs ys/sO xs ys:=Int.ediv_nonneg b3 (by omega)
 have q3:qB xs ys/sO xs ys≤qB xs ys:=Int.ediv_le_self _ b3
 refine ⟨⟨a1,by omega⟩,⟨b3,by omega⟩,⟨by omega,by omega⟩,?_⟩
 rw [q1]
 omega
theorem acV {α:Type} {a b:α} {D:Int} (h:1≤D):(if D=0 then a else b)=b:=if_neg (by omega)
theorem aoz {H:aA} {v u:Value} {xs ys:List Int} {K:Value→aA→Prop} (hx:jQ H v xs) (hl:xs.length≤1048576) (hy:jQ H u ys) (AZ:ys.length≤1048576)
  (hK: ∀H',Ext H H'→K (.tuple ⟨[I (qo xs ys).1,I (qo xs ys).2]⟩) H'):kP TS [v,u] H K:=by
 obtain ⟨a,e,rfl⟩:=hx.len
 obtain ⟨a',e',rfl⟩:=hy.len
 have hK':=hK H (Ext.refl' H)
 refine vw afH ?_;simp only [oz,aG]
 refine bD fun Kr hKr=>?_;simp (disch:=omega) only [RF,RO,RC,aF,↓reduceIte,Nat.reduceEqDiff,RD];refine hKr _ _ ?_;clear hKr Kr;try simp only [RN,Bool.false_eq_true,reduceIte]
 refine bD fun Kr hKr=>?_;simp (disch:=omega) only [RF,RO,RC,aF,↓reduceIte,Nat.reduceEqDiff,reduceCtorEq,RD]
 refine aoS hx (by omega) hy (by omega) ?_
 by_cases hok:lH xs ys
 ·rw [decide_eq_true hok]
  simp only [qo,hok,if_true] at hK'
  have hlen:=Hr hok
  have hb:=hok.2.2.2
  simp (disch:=omega) only [RF,RO,RC,aF,↓reduceIte,Nat.reduceEqDiff,RD]
  refine hKr _ _ ?_;clear hKr Kr;(try simp only [gu,iH,iP]);try simp only [RN,Bool.false_eq_true,reduceIte]
  refine dW (t:=false) (by simp (disch:=omega) only [RF,RO,RC,aF,↓reduceIte,Nat.reduceEqDiff,dZ,eF]) ?_;try simp only [RN,Bool.false_eq_true,reduceIte]
  refine bD fun Kr hKr=>?_;simp (disch:=omega) only [RF,RO,RC,aF,↓reduceIte,Nat.reduceEqDiff,reduceCtorEq,RD]
  refine Bg hx (by omega) ?_
  rw [aoT hok]
  simp (disch:=omega) only [RF,RO,RC,aF,↓reduceIte,Nat.reduceEqDiff,RD]
  refine hKr _ _ ?_;clear hKr Kr;(try simp only [gu,iH,iP]);try simp only [RN,Bool.false_eq_true,reduceIte]
  by_cases hpq:(xs.length:Int)+(ys.length:Int)=sm xs xs.length+1
  ·rw [if_pos hpq] at hK'
   have hc:=acS hok hpq
   have hp1:(xs.length:Int)-1=((xs.length-1:Nat):Int):=by omega
   have hq1:(ys.length:Int)-1=((ys.length-1:Nat):Int):=by omega
   refine bD fun Kr hKr=>?_;simp (disch:=omega) only [RF,RO,RC,aF,↓reduceIte,Nat.reduceEqDiff,RD];refine hKr _ _ ?_;clear hKr Kr;try simp only [RN,Bool.false_eq_true,reduceIte]
   refine dW (t:=false) (by simp (disch:=omega) only [RF,RO,RC,aF,↓reduceIte,Nat.reduceEqDiff,dZ,eF]) ?_;try simp only [RN,Bool.false_eq_true,reduceIte]
   refine bD fun Kr hKr=>?_;simp (disch:=omega) only [RF,RO,RC,aF,↓reduceIte,Nat.reduceEqDiff,RD,hp1,hq1]
   refine adp (by omega) ?_
   simp (disch:=omega) only [RF,RO,RC,aF,↓reduceIte,Nat.reduceEqDiff,RD,hp1,hq1]
   refine adp (by omega) ?_
   have hN:sm xs xs.length*fact (xs.length-1)*fact (ys.length-1)=qB xs ys:=rfl
   have hD:eqs xs xs.length*eqs ys ys.length=sO xs ys:=rfl
   simp (disch:=omega) only [RF,RO,RC,aF,↓reduceIte,Nat.reduceEqDiff,RD,hp1,hq1,hN]
   refine adq hx (by omega) ?_
   simp (disch:=omega) only [RF,RO,RC,aF,↓reduceIte,Nat.reduceEqDiff,RD,hN]
   refine adq hy (by omega) ?_
   simp (disch:=omega) only [RF,RO,RC,aF,↓reduceIte,Nat.reduceEqDiff,RD,hN,hD,acV]
   refine hKr _ _ ?_;clear hKr Kr;(try simp only [gu,iH,iP]);try simp only [RN,Bool.false_eq_true,reduceIte]
   refine ⟨_,rfl,?_⟩;simp only [RF,jZ,kU,aF,↓reduceIte,Nat.reduceEqDiff]
   exact hK'
  ·rw [if_neg hpq] at hK'
   refine bD fun Kr hKr=>?_;simp (disch:=omega) only [RF,RO,RC,aF,↓reduceIte,Nat.reduceEqDiff,RD,hpq];refine hKr _ _ ?_;clear hKr Kr;try simp only [RN,Bool.false_eq_true,reduceIte]
   refine dW (t:=true) (by simp (disch:=omega) only [RF,RO,RC,aF,↓reduceIte,Nat.reduceEqDiff,dZ,eF]) ?_;try simp only [RN,Bool.false_eq_true,reduceIte]
   refine bD fun Kr hKr=>?_;simp (disch:=omega) only [RF,RO,RC,aF,↓reduceIte,Nat.reduceEqDiff,RD];refine hKr _ _ ?_;clear hKr Kr;try simp only [RN,Bool.false_eq_true,reduceIte]
   refine ⟨_,rfl,?_⟩;simp only [RF,jZ,kU,aF,↓reduceIte,Nat.reduceEqDiff]
   exact hK'
 ·rw [decide_eq_false hok]
  simp only [qo,hok,if_false] at hK'
  simp (disch:=omega) only [RF,RO,RC,aF,↓reduceIte,Nat.reduceEqDiff,RD]
  refine hKr _ _ ?_;clear hKr Kr;(try simp only [gu,iH,iP]);try simp only [RN,Bool.false_eq_true,reduceIte]
  refine dW (t:=true) (by simp (disch:=omega) only [RF,RO,RC,aF,↓reduceIte,Nat.reduceEqDiff,dZ,eF]) ?_;try simp only [RN,Bool.false_eq_true,reduceIte]
  refine bD fun Kr hKr=>?_;simp (disch:=omega) only [RF,RO,RC,aF,↓reduceIte,Nat.reduceEqDiff,RD];refine hKr _ _ ?_;clear hKr Kr;try simp only [RN,Bool.false_eq_true,reduceIte]
  refine ⟨_,rfl,?_⟩;simp only [RF,jZ,kU,aF,↓reduceIte,Nat.reduceEqDiff]
  exact hK'
end Go.Am
