/- Dp0, Dp1, Dp2, DpCa, DpK, DpL, DpM, DpN -/
import Derived.Test.YtbpfbfbabpkceaaGreatBmS
set_option linter.unusedVariables false
set_option linter.unusedSimpArgs false
namespace Go.Bm
open Go Go.Am
structure By (m:Nat) (p:List Nat):Prop where
 len:p.length=m
 lt: ∀i,nl p i<256
theorem By.mem {m:Nat} {p:List Nat} (h:By m p): ∀x∈p,x<256:=fun x hx=>by
 obtain ⟨i,hi,rfl⟩:=List.mem_iff_getElem.1 hx
 have:=h.lt i
 simpa [nl,List.getD,hi] using this
theorem jq {p:List Nat} {i x j:Nat}:nl (p.set i x) j=if j=i∧i<p.length then x else nl p j:=by
 unfold nl
 simp only [List.getD]
 by_cases h:i=j
 ·subst h
  by_cases hi:i<p.length
  ·simp [hi]
  ·simp [List.getElem?_eq_none (by omega:p.length≤i),hi]
 ·rw [List.getElem?_set_ne h,if_neg (fun e=>h e.1.symm)]
theorem jO {p:List Bool} {i:Nat} {x:Bool} {j:Nat}:bl (p.set i x) j=if j=i∧i<p.length then x else bl p j:=by
 unfold bl
 simp only [List.getD]
 by_cases h:i=j
 ·subst h
  by_cases hi:i<p.length
  ·simp [hi]
  ·simp [List.getElem?_eq_none (by omega:p.length≤i),hi]
 ·rw [List.getElem?_set_ne h,if_neg (fun e=>h e.1.symm)]
theorem lG {n m i:Nat}:nl (List.replicate n m) i=if i<n then m else 0:=by
 unfold nl
 simp only [List.getD,List.getElem?_replicate]
 split<;>rfl
theorem zy {n i:Nat}:bl (List.replicate n false) i=false:=by
 unfold bl
 simp only [List.getD,List.getElem?_replicate]
 split<;>rfl
theorem GX {p:List Nat} {i:Nat} (h:p.length≤i):nl p i=0:=by simp [nl,List.getD,List.getElem?_eq_none h]
theorem vg {p q:List Nat} (hl:p.length=q.length) (h: ∀i,i<p.length→nl p i=nl q i):p=q:=by
 apply List.ext_getElem hl
 intro i h1 h2
 have:=h i h1
 simpa [nl,List.getD,h1,h2] using this
theorem By.set {m:Nat} {p:List Nat} (h:By m p) {i x:Nat} (hx:x<256):By m (p.set i x):=⟨by simp [h.len],fun j=>by rw [jq];split;exact hx;exact h.lt j⟩
theorem By.rep {m:Nat}:By m (List.replicate m 0):=⟨by simp,fun i=>by rw [lG];split<;>omega⟩
theorem GY {x:Bool} {a b c:Int} {H:BH} {K:Value→BH→Prop} (hK:K (.bool (decide (b≤a∧a≤c))) H):aF x Xj [I a,I b,I c] H K:=by
 refine bK (by simp only [RH]) ?_
 refine aG Yr ?_;simp only [qI,aB]
 refine aC ?_
 by_cases h:b≤a
 ·refine aA @h ?_
  refine mJ @h ?_
  exact ⟨NN.bool,by simpa [h] using hK⟩
 ·refine aA @h ?_
  refine mJ @h ?_
  exact ⟨NN.bool,by simpa [h] using hK⟩
def Perm (p:List Nat) (n:Int):Prop:=(1≤n∧n≤16)∧ ∀i:Nat,i<16→((n≤(i:Int)→nl p i=0)∧((i:Int)<n→(nl p i:Int)<n∧ ∀j,j<i→nl p j≠nl p i))
instance (p:List Nat) (n:Int):Decidable (Perm p n):=by unfold Perm;infer_instance
def PermAt (p:List Nat) (n:Int) (i:Nat):Prop:=(n≤(i:Int)→nl p i=0)∧((i:Int)<n→(nl p i:Int)<n∧ ∀j,j<i→nl p j≠nl p i)
def Met (p:List Nat) (n:Int) (k:Nat) (s:List Bool):Prop:=s.length=16∧ ∀x,bl s x=true↔ ∃i,i<k∧(i:Int)<n∧nl p i=x
theorem Met.zero {p:List Nat} {n:Int}:Met p n 0 (List.replicate 16 false):=⟨by simp,fun x=>by rw [zy];simp⟩
theorem Met.next {p:List Nat} {n:Int} {k:Nat} {s:List Bool} (h:Met p n k s) (hk:(k:Int)<n) (hx:nl p k<16):Met p n (k+1) (s.set (nl p k) true):=⟨by simp [h.1],fun x=>by
 rw [jO]
 by_cases e:x=nl p k
 ·subst e
  rw [if_pos ⟨rfl,by rw [h.1];exact hx⟩]
  exact ⟨fun _=>⟨k,by omega,hk,rfl⟩,fun _=>rfl⟩
 ·rw [if_neg (fun h=>e h.1),h.2]
  exact ⟨fun ⟨i,h1,h2,h3⟩=>⟨i,by omega,h2,h3⟩,fun ⟨i,h1,h2,h3⟩=>⟨i,by
   rcases Nat.lt_or_ge i k with q|q
   ·exact q
   ·obtain rfl:i=k:=by omega
    exact absurd h3.symm e,h2,h3⟩⟩⟩
theorem Met.skip {p:List Nat} {n:Int} {k:Nat} {s:List Bool} (h:Met p n k s) (hk: ¬(k:Int)<n):Met p n (k+1) s:=⟨h.1,fun x=>by
 rw [h.2]
 exact ⟨fun ⟨i,h1,h2,h3⟩=>⟨i,by omega,h2,h3⟩,fun ⟨i,h1,h2,h3⟩=>⟨i,by
  rcases Nat.lt_or_ge i k with q|q
  ·exact q
  ·obtain rfl:i=k:=by omega
   exact absurd h2 hk,h2,h3⟩⟩⟩
end Go.Bm
namespace Go.Bm
open Go Go.Am
theorem Ov {x:Bool} {p:List Nat} {n:Int} {H:BH} {K:Value→BH→Prop} (hp:By 16 p) (hK:K (.bool (decide (Perm p n))) H):aF x X4 [PL p,I n] H K:=by
 have hlen:=hp.len
 refine bK (by simp only [RH]) ?_
 refine aG Zl ?_;simp only [fF,aB]
 refine aC ?_
 refine eP fun Kr hKr=>?_
 refine GY ?_
 refine aS ?_
 refine aO hKr ?_
 refine bI (¬(1≤n∧n≤16)) (fun hc=>?_) fun hc=>?_
 ·refine aC ?_
  refine aV ?_
  exact ⟨NN.bool,by simpa [Perm,hc] using hK⟩
 have hc':1≤n∧n≤16:=by omega
 refine aC ?_
 refine aC ?_
 refine aW (fun m f H'=> ∃k s,k≤16∧m=16-k∧Met p n k s∧(∀i,i<k→PermAt p n i)∧f 1=I n∧f 2=P 0 0∧f 5=P 1 0∧f 6=I k∧H'=[some (p.map N8),some (s.map B)]) (16) ?_ ?_
 ·refine ⟨_,_,Gh.refl,0,List.replicate 16 false,by omega,by omega,Met.zero,by omega,by simp [RA,↓reduceIte,Nat.reduceEqDiff],by simp [RA,↓reduceIte,Nat.reduceEqDiff],by simp [RA,↓reduceIte,Nat.reduceEqDiff],by simp [RA,↓reduceIte,Nat.reduceEqDiff],by simp [RA,↓reduceIte,Nat.reduceEqDiff]⟩
 ·rintro m f H' R ⟨k,s,hk,rfl,hm,hat,h1,h2,h5,h6,rfl⟩ hN hX hR hE
  simp only [fF.l0,aB]
  refine aA @h6 ?_
  refine bI (k<16) (fun hc=>?_) fun hc=>?_
  ·have hlt:=hp.lt k
   have hsl:=hm.1
   have hnext: ∀f' s',f' 1=I n→f' 2=P 0 0→f' 5=P 1 0→f' 6=I k→Met p n (k+1) s'→PermAt p n k→T 0 fF.r6 R f' [some (p.map N8),some (s'.map B)]:=by
    intro f' s' h1 h2 h5 h6 hm' hat'
    refine bM @h6 ?_
    refine hN (16-(k+1)) _ _ _ _ (by omega) Gh.refl ⟨k+1,s',by omega,rfl,hm',fun i hi=>?_,by simp [RA,↓reduceIte,Nat.reduceEqDiff,h1],by simp [RA,↓reduceIte,Nat.reduceEqDiff,h2],by simp [RA,↓reduceIte,Nat.reduceEqDiff,h5],by simp [RA,↓reduceIte,Nat.reduceEqDiff],rfl⟩
    rcases Nat.lt_or_ge i k with h|h
    ·exact hat i h
    ·obtain rfl:i=k:=by omega
     exact hat'
   refine dD ?_
   refine dD ?_
   refine aA (aH @h1 @h6) ?_
   refine bI (n≤k) (fun hc=>?_) fun hc=>?_
   ·refine aA (bP @h2 @h6 @hlen) ?_
    refine bI (nl p k≠0) (fun hc=>?_) fun hc=>?_
    ·refine aC ?_
     refine hR _ _ ?_
     refine aV ?_
     refine ⟨NN.bool,?_⟩
     have: ¬Perm p n:=fun h=>hc ((h.2 k (by omega)).1 (by omega))
     simpa [this] using hK
    ·refine jQ ?_
     exact hnext _ s (by simp [RA,↓reduceIte,Nat.reduceEqDiff,h1]) (by simp [RA,↓reduceIte,Nat.reduceEqDiff,h2]) (by simp [RA,↓reduceIte,Nat.reduceEqDiff,h5]) (by simp [RA,↓reduceIte,Nat.reduceEqDiff,h6]) (hm.skip (by omega)) ⟨fun _=>by omega,fun h=>by omega⟩
   ·by_cases hb:n≤nl p k
    ·refine aA (iy @h1 @h2 @h6 @hb @hlen) ?_
     refine jy ?_
     refine aC ?_
     refine hR _ _ ?_
     refine aV ?_
     refine ⟨NN.bool,?_⟩
     have: ¬Perm p n:=fun h=>by have:=((h.2 k (by omega)).2 (by omega)).1;omega
     simpa [this] using hK
    ·refine aA (dh (dh @h1 @h2 @h5 @h6) @hb @hsl @hlen) ?_
     refine bI (bl s (nl p k)=true) (fun hc=>?_) fun hc=>?_
     ·refine aC ?_
      refine hR _ _ ?_
      refine aV ?_
      refine ⟨NN.bool,?_⟩
      obtain ⟨i,hi1,hi2,hi3⟩:=(hm.2 _).1 hc
      have: ¬Perm p n:=fun h=>((h.2 k (by omega)).2 (by omega)).2 i hi1 hi3
      simpa [this] using hK
     ·refine aA (iy @h2 @h5 @h6 @hsl @hlen) ?_
      refine hnext _ (s.set (nl p k) true) (by simp [RA,↓reduceIte,Nat.reduceEqDiff,h1]) (by simp [RA,↓reduceIte,Nat.reduceEqDiff,h2]) (by simp [RA,↓reduceIte,Nat.reduceEqDiff,h5]) (by simp [RA,↓reduceIte,Nat.reduceEqDiff,h6]) (hm.next (by omega) (by omega)) ⟨fun h=>by omega,fun _=>⟨by omega,fun j hj e=>hc ((hm.2 _).2 ⟨j,hj,by omega,e⟩)⟩⟩
  ·refine hX _ _ ?_
   refine aC ?_
   refine aV ?_
   refine ⟨NN.bool,?_⟩
   have:Perm p n:=⟨hc',fun i hi=>hat i (by omega)⟩
   simpa [this] using hK
theorem Perm.lt {p:List Nat} {n:Nat} (h:Perm p n) {i:Nat} (hi:i<n):nl p i<n:=by have:=((h.2 i (by have:=h.1;omega)).2 (by omega)).1;omega
theorem Perm.jM {p:List Nat} {n:Nat} (h:Perm p n) (hl:p.length=16) (i:Nat):nl p i<16:=by
 have h1:=h.1
 rcases Nat.lt_or_ge i n with hi|hi
 ·have:=h.lt hi;omega
 ·rcases Nat.lt_or_ge i 16 with h2|h2
  ·rw [(h.2 i h2).1 (by omega)];omega
  ·rw [GX (by omega)];omega
def fU (p q:List Nat):Nat→List Nat
 |0=>List.replicate 16 0
 |k+1=>(fU p q k).set k (nl q (nl p k))
def iZ (p:List Nat):Nat→List Nat
 |0=>List.replicate 16 0
 |k+1=>(iZ p k).set (nl p k) k
theorem tN {p q:List Nat} {k:Nat}:(fU p q k).length=16:=by
 induction k with
 |zero=>simp [fU]
 |succ k ih=>simp [fU,ih]
theorem rV {p:List Nat} {k:Nat}:(iZ p k).length=16:=by
 induction k with
 |zero=>simp [iZ]
 |succ k ih=>simp [iZ,ih]
theorem vP {p q:List Nat} {k i:Nat} (hk:k≤16):nl (fU p q k) i=if i<k then nl q (nl p i) else 0:=by
 induction k with
 |zero=>simp only [fU,lG];split<;>simp
 |succ k ih=>
  simp only [fU,jq,tN]
  rw [ih (by omega)]
  by_cases h:i=k
  ·subst h;simp [show i<16 by omega]
  ·simp only [h,false_and,if_false]
   split<;>split<;>first|rfl|omega
theorem OX {p q:List Nat} {k:Nat} (hq:By 16 q) (hk:k≤16):By 16 (fU p q k):=⟨tN,fun i=>by rw [vP hk];split;exact hq.lt _;omega⟩
theorem adB {p:List Nat} {k:Nat} (hk:k≤16):By 16 (iZ p k):=by
 induction k with
 |zero=>exact By.rep
 |succ k ih=>exact (ih (by omega)).set (by omega)
theorem adC {x:Bool} {p q:List Nat} {n:Nat} {H:BH} {K:Value→BH→Prop} (hp:By 16 p) (hq:By 16 q) (hn:n≤16) (tV: ∀i,nl p i<16) (hK:K (PL (fU p q n)) H):aF x XC [PL p,PL q,I n] H K:=by
 have hlen:=hp.len
 have hlen':=hq.len
 refine bK (by simp only [RH]) ?_
 refine aG YO ?_;simp only [jI,aB]
 refine aC ?_
 refine aC ?_
 refine aC ?_
 refine aW (fun m f H'=> ∃k,k≤n∧m=n-k∧f 2=I n∧f 3=P 0 0∧f 4=P 1 0∧f 6=P 2 0∧f 7=P 3 0∧f 8=I k∧H'=[some (p.map N8),some (q.map N8),some (List.replicate 16 (.int .u8 0)),some ((fU p q k).map N8)]) (n) ?_ ?_
 ·refine ⟨_,_,Gh.refl,0,by omega,by omega,by simp [RA,↓reduceIte,Nat.reduceEqDiff],by simp [RA,↓reduceIte,Nat.reduceEqDiff],by simp [RA,↓reduceIte,Nat.reduceEqDiff],by simp [RA,↓reduceIte,Nat.reduceEqDiff],by simp [RA,↓reduceIte,Nat.reduceEqDiff],by simp [RA,↓reduceIte,Nat.reduceEqDiff],by simp [RA,↓reduceIte,Nat.reduceEqDiff,fU]⟩
 ·rintro m f H' R ⟨k,hk,rfl,h2,h3,h4,h6,h7,h8,rfl⟩ hN hX hR hE
  simp only [jI.l0,aB]
  refine aA (aH @h2 @h8) ?_
  refine bI (k<n) (fun hc=>?_) fun hc=>?_
  ·have hlk:= @tN p q k
   have hpk:=tV k
   refine dD ?_
   refine aA (dh (dh @h3 @h4 @h7 @h8) @hlen @hlen' @hlk) ?_
   refine bM @h8 ?_
   refine hN (n-(k+1)) _ _ _ _ (by omega) Gh.refl ⟨k+1,by omega,rfl,by simp [RA,↓reduceIte,Nat.reduceEqDiff,h2],by simp [RA,↓reduceIte,Nat.reduceEqDiff,h3],by simp [RA,↓reduceIte,Nat.reduceEqDiff,h4],by simp [RA,↓reduceIte,Nat.reduceEqDiff,h6],by simp [RA,↓reduceIte,Nat.reduceEqDiff,h7],by simp [RA,↓reduceIte,Nat.reduceEqDiff],rfl⟩
  ·refine hX _ _ ?_
   obtain rfl:k=n:=by omega
   have hlk:= @tN p q k
   refine aA (bP @h6 @h7 @hlk) ?_
   refine mJ (aH @h6 @hlk) ?_
   exact ⟨jr (by (simp only [RH])),hK⟩
theorem adD {x:Bool} {p q:List Nat} {n:Nat} {H:BH} {K:Value→BH→Prop} (hp:By 16 p) (hq:By 16 q) (hn:n≤16) (tV: ∀i,nl p i<16) (hK:K (PL (fU p q n)) H):aF x XZ [PL p,PL q,I n] H K:=by
 have hlen:=hp.len
 have hlen':=hq.len
 refine bK (by simp only [RH]) ?_
 refine aG Ze ?_;simp only [jk,aB]
 refine aC ?_
 refine aC ?_
 refine aC ?_
 refine aW (fun m f H'=> ∃k,k≤n∧m=n-k∧f 10=I n∧f 3=P 0 0∧f 4=P 1 0∧f 6=P 2 0∧f 7=P 3 0∧f 11=I k∧H'=[some (p.map N8),some (q.map N8),some (List.replicate 16 (.int .u8 0)),some ((fU p q k).map N8)]) (n) ?_ ?_
 ·refine ⟨_,_,Gh.refl,0,by omega,by omega,by simp [RA,↓reduceIte,Nat.reduceEqDiff],by simp [RA,↓reduceIte,Nat.reduceEqDiff],by simp [RA,↓reduceIte,Nat.reduceEqDiff],by simp [RA,↓reduceIte,Nat.reduceEqDiff],by simp [RA,↓reduceIte,Nat.reduceEqDiff],by simp [RA,↓reduceIte,Nat.reduceEqDiff],by simp [RA,↓reduceIte,Nat.reduceEqDiff,fU]⟩
 ·rintro m f H' R ⟨k,hk,rfl,h2,h3,h4,h6,h7,h8,rfl⟩ hN hX hR hE
  simp only [jk.l0,aB]
  refine aA (aH @h2 @h8) ?_
  refine bI (k<n) (fun hc=>?_) fun hc=>?_
  ·have hlk:= @tN p q k
   have hpk:=tV k
   refine dD ?_
   refine aA @h8 ?_
   refine aA (dh (dh @h3 @h4 @h7 @h8) @hlen @hlen' @hlk) ?_
   refine bM @h8 ?_
   refine hN (n-(k+1)) _ _ _ _ (by omega) Gh.refl ⟨k+1,by omega,rfl,by simp [RA,↓reduceIte,Nat.reduceEqDiff,h2],by simp [RA,↓reduceIte,Nat.reduceEqDiff,h3],by simp [RA,↓reduceIte,Nat.reduceEqDiff,h4],by simp [RA,↓reduceIte,Nat.reduceEqDiff,h6],by simp [RA,↓reduceIte,Nat.reduceEqDiff,h7],by simp [RA,↓reduceIte,Nat.reduceEqDiff],rfl⟩
  ·refine hX _ _ ?_
   obtain rfl:k=n:=by omega
   have hlk:= @tN p q k
   refine aA (bP @h6 @h7 @hlk) ?_
   refine mJ (aH @h6 @hlk) ?_
   exact ⟨jr (by (simp only [RH])),hK⟩
theorem adE {x:Bool} {p:List Nat} {n:Nat} {H:BH} {K:Value→BH→Prop} (hp:By 16 p) (hn:n≤16) (tV: ∀i,nl p i<16) (hK:K (PL (iZ p n)) H):aF x XA [PL p,I n] H K:=by
 have hlen:=hp.len
 refine bK (by simp only [RH]) ?_
 refine aG YN ?_;simp only [jH,aB]
 refine aC ?_
 refine aC ?_
 refine aC ?_
 refine aW (fun m f H'=> ∃k,k≤n∧m=n-k∧f 1=I n∧f 2=P 0 0∧f 4=P 1 0∧f 5=P 2 0∧f 6=I k∧H'=[some (p.map N8),some (List.replicate 16 (.int .u8 0)),some ((iZ p k).map N8)]) (n) ?_ ?_
 ·refine ⟨_,_,Gh.refl,0,by omega,by omega,by simp [RA,↓reduceIte,Nat.reduceEqDiff],by simp [RA,↓reduceIte,Nat.reduceEqDiff],by simp [RA,↓reduceIte,Nat.reduceEqDiff],by simp [RA,↓reduceIte,Nat.reduceEqDiff],by simp [RA,↓reduceIte,Nat.reduceEqDiff],by simp [RA,↓reduceIte,Nat.reduceEqDiff,iZ]⟩
 ·rintro m f H' R ⟨k,hk,rfl,h1,h2,h4,h5,h6,rfl⟩ hN hX hR hE
  simp only [jH.l0,aB]
  refine aA (aH @h1 @h6) ?_
  refine bI (k<n) (fun hc=>?_) fun hc=>?_
  ·have hlk:= @rV p k
   have hpk:=tV k
   refine dD ?_
   refine aA (nN @h2 @h4 @h5 @h6 @hlen @hlk) ?_
   refine bM @h6 ?_
   refine hN (n-(k+1)) _ _ _ _ (by omega) Gh.refl ⟨k+1,by omega,rfl,by simp [RA,↓reduceIte,Nat.reduceEqDiff,h1],by simp [RA,↓reduceIte,Nat.reduceEqDiff,h2],by simp [RA,↓reduceIte,Nat.reduceEqDiff,h4],by simp [RA,↓reduceIte,Nat.reduceEqDiff,h5],by simp [RA,↓reduceIte,Nat.reduceEqDiff],rfl⟩
  ·refine hX _ _ ?_
   obtain rfl:k=n:=by omega
   have hlk:= @rV p k
   refine aA (bP @h4 @h5 @hlk) ?_
   refine mJ (aH @h4 @hlk) ?_
   exact ⟨jr (by (simp only [RH])),hK⟩
theorem adF {x:Bool} {p:List Nat} {n:Nat} {H:BH} {K:Value→BH→Prop} (hp:By 16 p) (hn:n≤16) (tV: ∀i,nl p i<16) (hK:K (PL (iZ p n)) H):aF x XY [PL p,I n] H K:=by
 have hlen:=hp.len
 refine bK (by simp only [RH]) ?_
 refine aG Zd ?_;simp only [ji,aB]
 refine aC ?_
 refine aC ?_
 refine aC ?_
 refine aW (fun m f H'=> ∃k,k≤n∧m=n-k∧f 8=I n∧f 2=P 0 0∧f 4=P 1 0∧f 5=P 2 0∧f 9=I k∧H'=[some (p.map N8),some (List.replicate 16 (.int .u8 0)),some ((iZ p k).map N8)]) (n) ?_ ?_
 ·refine ⟨_,_,Gh.refl,0,by omega,by omega,by simp [RA,↓reduceIte,Nat.reduceEqDiff],by simp [RA,↓reduceIte,Nat.reduceEqDiff],by simp [RA,↓reduceIte,Nat.reduceEqDiff],by simp [RA,↓reduceIte,Nat.reduceEqDiff],by simp [RA,↓reduceIte,Nat.reduceEqDiff],by simp [RA,↓reduceIte,Nat.reduceEqDiff,iZ]⟩
 ·rintro m f H' R ⟨k,hk,rfl,h1,h2,h4,h5,h6,rfl⟩ hN hX hR hE
  simp only [ji.l0,aB]
  refine aA (aH @h1 @h6) ?_
  refine bI (k<n) (fun hc=>?_) fun hc=>?_
  ·have hlk:= @rV p k
   have hpk:=tV k
   refine dD ?_
   refine aA @h6 ?_
   refine aA (nN @h2 @h4 @h5 @h6 @hlen @hlk) ?_
   refine bM @h6 ?_
   refine hN (n-(k+1)) _ _ _ _ (by omega) Gh.refl ⟨k+1,by omega,rfl,by simp [RA,↓reduceIte,Nat.reduceEqDiff,h1],by simp [RA,↓reduceIte,Nat.reduceEqDiff,h2],by simp [RA,↓reduceIte,Nat.reduceEqDiff,h4],by simp [RA,↓reduceIte,Nat.reduceEqDiff,h5],by simp [RA,↓reduceIte,Nat.reduceEqDiff],rfl⟩
  ·refine hX _ _ ?_
   obtain rfl:k=n:=by omega
   have hlk:= @rV p k
   refine aA (bP @h4 @h5 @hlk) ?_
   refine mJ (aH @h4 @hlk) ?_
   exact ⟨jr (by (simp only [RH])),hK⟩
abbrev DC (n:Int) (b w:List Nat):List Value:=I n::(b.map N8++w.map N8)
abbrev DV (n:Int) (b w:List Nat):Value:=aggL (DC n b w)
theorem oh {n:Int} {b w:List Nat}:getN none (DC n b w) 0=some (I n):=rfl
theorem sO {n:Int} {b w:List Nat} (hb:b.length=16):getN (some 16) (DC n b w) 1=some (PL b):=by
 rw [tJ (by simp [hb])]
 simp [List.take_append_of_le_length,hb]
theorem sN {n:Int} {b w:List Nat} (hb:b.length=16) (hw:w.length=16):getN (some 16) (DC n b w) 17=some (PL w):=by
 rw [tJ (by simp [hb,hw])]
 simp [List.drop_append,hb,hw]
 rw [List.take_of_length_le (by simp [hw])]
theorem adG {n:Nat} {cs:List Value} (h:cs.length=n):getN (some n) cs 0=some (aggL cs):=by
 rw [tJ (by omega),List.drop_zero,List.take_of_length_le (by omega)]
theorem adx {n:Int} {b w:List Nat} (hb:b.length=16) (hw:w.length=16):getN (some 33) (DC n b w) 0=some (DV n b w):=adG (by simp [hb,hw])
def jR (b w:List Nat) (n:Nat):List Nat:=iZ (fU b w n) n
theorem OY {p q:List Nat} {k i:Nat} (hq: ∀i,nl q i<16) (hk:k≤16):nl (fU p q k) i<16:=by rw [vP hk];split;exact hq _;omega
theorem OZ {x:Bool} {b w:List Nat} {n:Nat} {H:BH} {K:Value→BH→Prop} (hb:By 16 b) (hw:By 16 w) (hn:n≤16) (hb16: ∀i,nl b i<16) (hw16: ∀i,nl w i<16) (hK:K (PL (jR b w n)) H):aF x Xm [DV n b w] H K:=by
 have hlb:=hb.len
 have fG:=hw.len
 refine bK (by simp only [RH]) ?_
 refine aG Yw ?_;simp only [qK,aB]
 refine aC ?_
 refine dF (bP @oh @sO @sN) fun Kr hKr=>?_
 refine adC hb hw hn hb16 ?_
 refine gU @oh ?_
 refine adE (OX hw hn) hn (fun i=>OY hw16 hn) ?_
 have hl:= @rV (fU b w n) n
 refine aS ?_
 refine aO hKr ?_
 refine mJ @hl ?_
 exact ⟨jr (by (simp only [RH])),hK⟩
theorem O1 {x:Bool} {b w:List Nat} {n:Nat} {H:BH} {K:Value→BH→Prop} (hb:By 16 b) (hw:By 16 w) (hn:n≤16) (hb16: ∀i,nl b i<16) (hw16: ∀i,nl w i<16) (hK:K (PL (jR b w n)) H):aF x XG [DV n b w] H K:=by
 have hlb:=hb.len
 have fG:=hw.len
 refine bK (by simp only [RH]) ?_
 refine aG YU ?_;simp only [qP,aB]
 refine aC ?_
 refine dF (bP @oh @sO @sN) fun Kr hKr=>?_
 refine adD hb hw hn hb16 ?_
 refine gU @oh ?_
 refine adF (OX hw hn) hn (fun i=>OY hw16 hn) ?_
 have hl:= @rV (fU b w n) n
 refine aS ?_
 refine aO hKr ?_
 refine mJ @hl ?_
 exact ⟨jr (by (simp only [RH])),hK⟩
end Go.Bm
namespace Go.Bm
open Go Go.Am
abbrev BS:=List Bool×List Nat
def visit (st:BS) (y:Nat):BS:=if bl st.1 y=true then st else (st.1.set y true,st.2++[y])
def gY (ls:List (List Nat)) (x:Nat) (st:BS):BS:=ls.foldl (fun st p=>visit st (nl p x)) st
def aN (ls:List (List Nat)) (st:BS):Nat→BS
 |0=>st
 |i+1=>if i<(aN ls st i).2.length then gY ls (nl (aN ls st i).2 i) (aN ls st i) else aN ls st i
structure Bi (m:Nat) (st:BS):Prop where
 len:st.1.length=m
 lt: ∀i,i<st.2.length→nl st.2 i<m
 cnt:st.2.length≤st.1.count true
theorem Bi.le {m:Nat} {st:BS} (h:Bi m st):st.2.length≤m:=by
 have:=List.count_le_length (a:=true) (l:=st.1)
 have:=h.cnt
 have:=h.len
 omega
theorem mO {p q:List Nat} {i:Nat}:nl (p++q) i=if i<p.length then nl p i else nl q (i-p.length):=by
 unfold nl
 simp only [List.getD]
 split
 ·rename_i h;rw [List.getElem?_append_left h]
 ·rename_i h;rw [List.getElem?_append_right (by omega)]
theorem yH {y:Nat} {i:Nat} (h:i<1):nl [y] i=y:=by
 obtain rfl:i=0:=by omega
 rfl
theorem qo {s:List Bool} {y:Nat} (hy:y<s.length) (h:bl s y=false):(s.set y true).count true=s.count true+1:=by
 rw [List.count_set hy]
 have:s[y]=false:=by simpa [bl,List.getD,hy] using h
 simp [this]
theorem Bi.visit {m:Nat} {st:BS} (h:Bi m st) {y:Nat} (hy:y<m):Bi m (visit st y):=by
 unfold Bm.visit
 split
 ·exact h
 ·rename_i hb
  refine ⟨by simp [h.len],fun i hi=>?_,?_⟩
  ·simp only [List.length_append,List.length_singleton] at hi
   simp only [mO]
   split
   ·exact h.lt i (by assumption)
   ·rw [yH (by omega)];exact hy
  ·simp only [List.length_append,List.length_singleton]
   rw [qo (by rw [h.len];exact hy) (by simpa using hb)]
   have:=h.cnt
   omega
theorem Bi.round {m:Nat} {x:Nat}: ∀{ls:List (List Nat)} {st:BS},Bi m st→(∀p∈ls,nl p x<m)→Bi m (gY ls x st)
 |[],st,h,_=>h
 |p::ls,st,h,hp=>Bi.round (ls:=ls) (h.visit (hp p (by simp))) fun q hq=>hp q (by simp [hq])
theorem Bi.aN {m:Nat} {ls:List (List Nat)} {st:BS} (h:Bi m st) (hp: ∀p∈ls,∀i,nl p i<m): ∀i,Bi m (aN ls st i)
 |0=>h
 |i+1=>by
  simp only [Bm.aN]
  split
  ·exact (Bi.aN h hp i).round fun p hq=>hp p hq _
  ·exact Bi.aN h hp i
theorem O4 {st:BS} {y:Nat}: ∃q,(visit st y).2=st.2++q:=by
 unfold visit
 split
 ·exact ⟨[],by simp⟩
 ·exact ⟨[y],rfl⟩
theorem rG {x:Nat}: ∀{ls:List (List Nat)} {st:BS},∃q,(gY ls x st).2=st.2++q
 |[],st=>⟨[],by simp [gY]⟩
 |p::ls,st=>by
  obtain ⟨q,hq⟩:= @O4 st (nl p x)
  obtain ⟨q',hq'⟩:=rG (x:=x) (ls:=ls) (st:=visit st (nl p x))
  exact ⟨q++q',by show (gY ls x (visit st (nl p x))).2=_;rw [hq',hq,List.append_assoc]⟩
theorem vC {ls:List (List Nat)} {st:BS} {i:Nat} (h:(aN ls st i).2.length≤i): ∀j,i≤j→aN ls st j=aN ls st i
 |0,hj=>by
  obtain rfl:i=0:=by omega
  rfl
 |j+1,hj=>by
  rcases Nat.lt_or_ge j i with h1|h1
  ·obtain rfl:i=j+1:=by omega
   rfl
  ·have ih:=vC h j h1
   simp only [aN]
   rw [ih,if_neg (by omega)]
theorem CB {ls:List (List Nat)} {x j:Nat} {st:BS} (h:j<ls.length):gY (ls.take (j+1)) x st=visit (gY (ls.take j) x st) (nl (ls.getD j []) x):=by
 have:ls.take (j+1)=ls.take j++[ls.getD j []]:=by
  rw [List.take_add_one]
  simp [List.getD,h]
 rw [this]
 simp [gY,List.foldl_append]
def st0 (m:Nat):BS:=((List.replicate m false).set 0 true,[0])
theorem Bi.st0 {m:Nat} (hm:0<m):Bi m (st0 m):=⟨by simp [Bm.st0],fun i hi=>by rw [show (Bm.st0 m).2=[0] from rfl,yH (by simpa [Bm.st0] using hi)];exact hm,by
 show 1≤_
 have:((List.replicate m false).set 0 true).count true=(List.replicate m false).count true+1:=qo (by simpa using hm) zy
 show 1≤((List.replicate m false).set 0 true).count true
 omega⟩
def reach (b w:List Nat):BS:=aN [b,w] (st0 16) 16
theorem adv {x:Bool} {b w:List Nat} {n:Int} {H:BH} {K:Value→BH→Prop} (hb:By 16 b) (hw:By 16 w) (hb16: ∀i,nl b i<16) (hw16: ∀i,nl w i<16)
  (hK:K (.bool (decide (((reach b w).2.length:Int)=n))) H):aF x X5 [I n,PL b,PL w] H K:=by
 have hlb:=hb.len
 have fG:=hw.len
 have hall: ∀p∈[b,w],∀i,nl p i<16:=by simp;exact ⟨hb16,hw16⟩
 refine bK (by simp only [RH]) ?_
 refine aG Zm ?_;simp only [eu,aB]
 refine aC ?_
 refine aC ?_
 refine aA @FK ?_
 refine aC ?_
 refine aW (fun m f H'=> ∃i,i≤16∧m=16-i∧i≤(aN [b,w] (st0 16) i).2.length∧f 0=I n∧f 4=P 0 0∧f 5=P 1 0∧f 7=P 3 0∧f 8=S 2 0 (aN [b,w] (st0 16) i).2.length 1∧f 9=I i∧H'=[some (b.map N8),some (w.map N8),some ((aN [b,w] (st0 16) i).2.map N8),some ((aN [b,w] (st0 16) i).1.map B)]) (16) ?_ ?_
 ·refine ⟨_,_,Gh.refl,0,by omega,by omega,by omega,ah,ah,ah,ah,ah,ah,?_⟩
  simp [aN,st0]<;>rfl
 ·rintro m f H' R ⟨i,hi,rfl,hil,h0,h4,h5,h7,h8,h9,rfl⟩ hN hX hR hE
  simp only [eu.l1,aB]
  have hB:=(Bi.st0 (m:=16) (by omega)).aN hall i
  generalize hst:aN [b,w] (st0 16) i=st at hil h8 hB
  have hle:=hB.le
  have hsl:=hB.len
  refine aA (aH @h8 @h9) ?_
  refine bI (i<st.2.length) (fun hc=>?_) fun hc=>?_
  ·have hx:=hB.lt i hc
   refine dD ?_
   refine aA (nN @h4 @h5 @h8 @h9 @hlb @fG) ?_
   obtain ⟨nx,Dw⟩: ∃nx,nx=[nl b (nl st.2 i),nl w (nl st.2 i)]:=⟨_,rfl⟩
   have GZ:nx.length=2:=by rw [Dw];rfl
   refine aC ?_
   refine aW (fun m f H'=> ∃j st',j≤2∧m=2-j∧st'=gY ([b,w].take j) (nl st.2 i) st∧f 0=I n∧f 4=P 0 0∧f 5=P 1 0∧f 7=P 3 0∧f 8=S 2 0 st'.2.length 1∧f 9=I i∧f 10=S 4 0 2 1∧f 11=I j∧H'=[some (b.map N8),some (w.map N8),some (st'.2.map N8),some (st'.1.map B),some (nx.map N8)]) (2) ?_ ?_
   ·refine ⟨_,_,Gh.refl,0,st,by omega,by omega,rfl,ah,ah,ah,ah,ah,ah,ah,ah,by rw [Dw];rfl⟩
   ·clear h0 h4 h5 h7 h8 h9
    rintro m f H' R2 ⟨j,st',hj,rfl,hst',h0,h4,h5,h7,h8,h9,h10,h11,rfl⟩ iT hX2 hR2 hE2
    simp only [eu.l0,aB]
    refine aA @h11 ?_
    have hB':Bi 16 st':=by rw [hst'];exact hB.round fun p hp=>hall p (List.mem_of_mem_take hp) _
    have hle':=hB'.le
    have oq:=hB'.len
    refine bI (j<2) (fun hc=>?_) fun hc=>?_
    ·have hy:nl nx j=nl ([b,w].getD j []) (nl st.2 i):=by
      rw [Dw]
      have:j=0∨j=1:=by omega
      rcases this with rfl|rfl<;>rfl
     have hyl:nl nx j<16:=by
      rw [Dw]
      have:j=0∨j=1:=by omega
      rcases this with rfl|rfl
      ·exact hb16 _
      ·exact hw16 _
     have hnx:=CB (ls:=[b,w]) (x:=nl st.2 i) (st:=st) (show j<[b,w].length from hc)
     rw [←hst',←hy] at hnx
     obtain ⟨y,ou⟩: ∃y,nl nx j=y:=⟨_,rfl⟩
     rw [ou] at hyl hnx
     have hnext: ∀f' st2 (c1 c2:Option (List Value)),f' 0=I n→f' 4=P 0 0→f' 5=P 1 0→f' 7=P 3 0→f' 8=S 2 0 st2.2.length 1→f' 9=I i→f' 10=S 4 0 2 1→f' 11=I j→st2=visit st' y→
       T 0 eu.r9 R2 f' [some (b.map N8),some (w.map N8),some (st2.2.map N8),some (st2.1.map B),some (nx.map N8)]:=by
      intro f' st2 c1 c2 h0 h4 h5 h7 h8 h9 h10 h11 hs2
      refine bM @h11 ?_
      exact iT (2-(j+1)) _ _ _ _ (by omega) Gh.refl ⟨j+1,st2,by omega,rfl,by rw [hnx,hs2],ah,ah,ah,ah,ah,ah,ah,ah,rfl⟩
     refine dD ?_
     refine aA (nN @h7 @h10 @h11 @GZ @oq @ou) ?_
     refine bI (¬bl st'.1 y=true) (fun hc=>?_) fun hc=>?_
     ·refine aA (nN @h7 @h10 @h11 @GZ @oq @ou) ?_
      refine aA (iy @h8 @h10 @h11 @GZ @ou) ?_
      refine jT (Gh.nrm [0,1,6,3,4] rfl rfl Dh) ?_
      refine hnext _ (st'.1.set y true,st'.2++[y]) none none ah ah ah ah ah ah ah ah ?_
      rw [visit,if_neg hc]
     ·refine jQ ?_
      refine hnext _ st' none none ah ah ah ah ah ah ah ah ?_
      rw [visit,if_pos (by simpa using hc)]
    ·refine hX2 _ _ ?_
     obtain rfl:j=2:=by omega
     have hst2:st'=aN [b,w] (st0 16) (i+1):=by
      rw [hst',aN,hst,if_pos (by assumption)]
      rfl
     obtain ⟨q,hq⟩:= @rG (nl st.2 i) ([b,w].take 2) st
     have hlq:i+1≤st'.2.length:=by rw [hst',hq];simp;omega
     refine bM @h9 ?_
     refine hN (16-(i+1)) _ _ _ _ (by omega) (Gh.nrm [0,1,2,3] rfl rfl Dh) ⟨i+1,by omega,rfl,by rw [←hst2];exact hlq,ah,ah,ah,ah,?_,ah,?_⟩
     ·rw [←hst2]
      exact ah
     ·rw [←hst2];rfl
  ·refine hX _ _ ?_
   refine aA (aH @h0 @h8) ?_
   refine aV ?_
   refine ⟨NN.bool,?_⟩
   have hs:reach b w=st:=by rw [reach,vC (i:=i) (by rw [hst];omega) 16 hi,hst]
   rw [hs] at hK
   exact hK
end Go.Bm
namespace Go.Bm
open Go Go.Am
abbrev WS:=List Bool×List Nat×Nat
def qE (p:List Nat) (st:WS):WS:=if bl st.1 st.2.2=true then st else (st.1.set st.2.2 true,st.2.1++[st.2.2],nl p st.2.2)
def wk (p:List Nat) (st:WS):Nat→WS
 |0=>st
 |j+1=>qE p (wk p st j)
theorem GN {p:List Nat} {st:WS} {i:Nat} (h:bl (wk p st i).1 (wk p st i).2.2=true): ∀j,i≤j→wk p st j=wk p st i
 |0,hj=>by
  obtain rfl:i=0:=by omega
  rfl
 |j+1,hj=>by
  rcases Nat.lt_or_ge j i with h1|h1
  ·obtain rfl:i=j+1:=by omega
   rfl
  ·have ih:=GN h j h1
   simp only [wk]
   rw [ih,qE,if_pos h]
def jU (p:List Nat) (m:Nat):Nat→List Bool×List (List Nat)
 |0=>(List.replicate 16 false,[])
 |k+1=>if bl (jU p m k).1 k=true then jU p m k else ((wk p ((jU p m k).1,[],k) m).1,(jU p m k).2++[(wk p ((jU p m k).1,[],k) m).2.1])
structure tX (p:List Nat) (n:Nat) (c:List Nat):Prop where
 ne:0<c.length
 lt: ∀x∈c,x<n
 fM:c.Nodup
 step: ∀j,j+1<c.length→nl p (nl c j)=nl c (j+1)
 last:nl p (nl c (c.length-1))=nl c 0
 least: ∀x∈c,nl c 0≤x
theorem dK {c:List Nat} {j:Nat} (h:j<c.length):nl c j∈c:=by simp [nl,List.getD,h]
theorem lY {c:List Nat} {x:Nat} (h:x∈c): ∃j,j<c.length∧nl c j=x:=by
 obtain ⟨i,hi,rfl⟩:=List.mem_iff_getElem.1 h
 exact ⟨i,hi,by simp [nl,List.getD,hi]⟩
theorem oD {c:List Nat} (h:c.Nodup) {i j:Nat} (hi:i<c.length) (hj:j<c.length) (he:nl c i=nl c j):i=j:=by
 have h':=List.pairwise_iff_getElem.1 h
 have e: ∀k (hk:k<c.length),nl c k=c[k]:=fun k hk=>by simp [nl,List.getD,hk]
 rcases Nat.lt_trichotomy i j with h1|h1|h1
 ·exact absurd (by rw [←e i hi,←e j hj];exact he) (h' i j hi hj h1)
 ·exact h1
 ·exact absurd (by rw [←e i hi,←e j hj];exact he.symm) (h' j i hj hi h1)
theorem Perm.inj {p:List Nat} {n:Nat} (h:Perm p n) {i j:Nat} (hi:i<n) (hj:j<n) (he:nl p i=nl p j):i=j:=by
 have h1:=h.1
 rcases Nat.lt_trichotomy i j with h2|h2|h2
 ·exact absurd he (((h.2 j (by omega)).2 (by omega)).2 i h2)
 ·exact h2
 ·exact absurd he.symm (((h.2 i (by omega)).2 (by omega)).2 j h2)
structure kY (p:List Nat) (n:Nat) (s0:List Bool) (i:Nat) (j:Nat) (st:WS):Prop where
 len:st.1.length=16
 at_:st.2.2<n
 new:bl s0 st.2.2=false
 mem: ∀x,bl st.1 x=true↔bl s0 x=true∨x∈st.2.1
 lt: ∀x∈st.2.1,x<n∧bl s0 x=false
 fM:st.2.1.Nodup
 cnt:st.1.count true=s0.count true+st.2.1.length
 step: ∀t,t+1<st.2.1.length→nl p (nl st.2.1 t)=nl st.2.1 (t+1)
 st0:st.2.1=[]→st.2.2=i
 st1:0<st.2.1.length→nl st.2.1 0=i∧nl p (nl st.2.1 (st.2.1.length-1))=st.2.2
 go:st.2.1.length=j∨bl st.1 st.2.2=true
theorem kY.wk {p:List Nat} {n:Nat} (hp:Perm p n) {s0:List Bool} {i:Nat} (hl:s0.length=16) (hi:i<n) (h0:bl s0 i=false) (hinv: ∀x,x<n→bl s0 (nl p x)=bl s0 x): ∀j,kY p n s0 i j (wk p (s0,[],i) j)
 |0=>by
  refine ⟨hl,hi,h0,fun x=>?_,?_,?_,?_,?_,?_,?_,?_⟩<;>simp [Bm.wk]
 |j+1=>by
  have ih:=kY.wk hp hl hi h0 hinv j
  have hn:=hp.1
  simp only [Bm.wk]
  generalize Bm.wk p (s0,[],i) j=st at ih⊢
  obtain ⟨s,l,k⟩:=st
  have h1:=ih.len
  have h2:=ih.at_
  have h3:=ih.new
  have h4:=ih.mem
  have h5:=ih.lt
  have h6:=ih.fM
  have h7:=ih.cnt
  have h8:=ih.step
  have h9:=ih.st0
  have h10:=ih.st1
  have h11:=ih.go
  simp only at h1 h2 h3 h4 h5 h6 h7 h8 h9 h10 h11
  unfold qE
  by_cases hb:bl s k=true
  ·rw [if_pos hb]
   exact ⟨h1,h2,h3,h4,h5,h6,h7,h8,h9,h10, .inr hb⟩
  ·rw [if_neg hb]
   have hkl:k∉l:=fun h=>hb ((h4 k).2 (.inr h))
   have hk:(l++[k]).length=l.length+1:=by simp
   refine ⟨by simpa using h1,hp.lt h2,by rw [hinv k h2];exact h3,fun x=>?_,fun x hx=>?_,?_,?_,fun t ht=>?_,fun h=>by simp at h,fun _=>?_, .inl ?_⟩
   ·show bl (s.set k true) x=true↔bl s0 x=true∨x∈l++[k]
    rw [jO]
    by_cases e:x=k
    ·subst e
     rw [if_pos ⟨rfl,by omega⟩]
     simp
    ·rw [if_neg (fun h=>e h.1),h4 x]
     simp [e]
   ·rcases List.mem_append.1 hx with h|h
    ·exact h5 x h
    ·rw [List.mem_singleton] at h
     subst h
     exact ⟨h2,h3⟩
   ·show (l++[k]).Nodup
    rw [List.nodup_append]
    exact ⟨h6,by simp,fun a ha b hb=>by
     rw [List.mem_singleton] at hb
     subst hb
     exact fun e=>hkl (e▸ha)⟩
   ·show (s.set k true).count true=s0.count true+(l++[k]).length
    rw [qo (by omega) (by simpa using hb),h7,hk]
    omega
   ·show nl p (nl (l++[k]) t)=nl (l++[k]) (t+1)
    have ht:t+1<l.length+1:=by rw [←hk];exact ht
    rw [mO,mO,if_pos (by omega)]
    by_cases e:t+1<l.length
    ·rw [if_pos e]
     exact h8 t e
    ·rw [if_neg e,yH (by omega),show t=l.length-1 by omega]
     exact (h10 (by omega)).2
   ·show nl (l++[k]) 0=i∧nl p (nl (l++[k]) ((l++[k]).length-1))=nl p k
    rw [hk,Nat.add_sub_cancel]
    refine ⟨?_,by rw [mO,if_neg (by omega),Nat.sub_self];rfl⟩
    rw [mO]
    split
    ·rename_i h
     exact (h10 h).1
    ·rename_i h
     have:l=[]:=List.eq_nil_of_length_eq_zero (by omega)
     subst this
     exact h9 rfl
   ·show (l++[k]).length=j+1
    rw [hk]
    rcases h11 with h|h
    ·omega
    ·exact absurd h hb
theorem kY.done {p:List Nat} {n m:Nat} (hm:m=16) (hp:Perm p n) {s0:List Bool} {i:Nat} (hl:s0.length=16) (hi:i<n) (h0:bl s0 i=false) (hinv: ∀x,x<n→bl s0 (nl p x)=bl s0 x):
  bl (Bm.wk p (s0,[],i) m).1 (Bm.wk p (s0,[],i) m).2.2=true:=by
 have h16:=kY.wk hp hl hi h0 hinv m
 have h17:=kY.wk hp hl hi h0 hinv (m+1)
 rcases h16.go with h|h
 ·cases hb:bl (Bm.wk p (s0,[],i) m).1 (Bm.wk p (s0,[],i) m).2.2 with
  |true=>rfl
  |false=>
   have e:Bm.wk p (s0,[],i) (m+1)=qE p (Bm.wk p (s0,[],i) m):=rfl
   rw [qE,if_neg (by simp [hb])] at e
   have h1:=h17.cnt
   have h2:=List.count_le_length (a:=true) (l:=(Bm.wk p (s0,[],i) (m+1)).1)
   have h3:=h17.len
   have h4:(Bm.wk p (s0,[],i) (m+1)).2.1.length=m+1:=by rw [e];simp [h]
   omega
 ·exact h
theorem kY.aQ {p:List Nat} {n m:Nat} (hm:m=16) (hp:Perm p n) {s0:List Bool} {i:Nat} (hl:s0.length=16) (hi:i<n) (h0:bl s0 i=false) (hinv: ∀x,x<n→bl s0 (nl p x)=bl s0 x) (hup: ∀x,x<i→bl s0 x=true):
  tX p n (Bm.wk p (s0,[],i) m).2.1∧nl (Bm.wk p (s0,[],i) m).2.1 0=i:=by
 have h:=kY.wk hp hl hi h0 hinv m
 have hd:=kY.done hm hp hl hi h0 hinv
 generalize Bm.wk p (s0,[],i) m=st at h hd⊢
 obtain ⟨s,l,k⟩:=st
 have hkl:k∈l:=by
  rcases (h.mem k).1 hd with h1|h1
  ·exact absurd h1 (by have:=h.new;simp only at this;simp [this])
  ·exact h1
 have hne:0<l.length:=List.length_pos_of_mem hkl
 obtain ⟨hz,hla⟩:=h.st1 hne
 simp only at hz hla
 obtain ⟨j,hj,hje⟩:=lY hkl
 have hlt: ∀t,t<l.length→nl l t<n:=fun t ht=>(h.lt _ (dK ht)).1
 have hj0:j=0:=by
  rcases Nat.eq_zero_or_pos j with h1|h1
  ·exact h1
  ·exfalso
   have h2:=h.step (j-1) (by show j-1+1<l.length;omega)
   simp only at h2
   rw [show j-1+1=j by omega,hje,←hla] at h2
   have h3:=hp.inj (hlt _ (by omega)) (hlt _ (by omega)) h2
   have h4:=oD h.fM (by show j-1<l.length;omega) (by show l.length-1<l.length;omega) h3
   omega
 subst hj0
 refine ⟨⟨hne,fun x hx=>(h.lt x hx).1,h.fM,h.step,by rw [hla];exact hje.symm,fun x hx=>?_⟩,hz⟩
 rw [hz]
 rcases Nat.lt_or_ge x i with h1|h1
 ·have h2:=(h.lt x hx).2
  rw [hup x h1] at h2
  cases h2
 ·exact h1
theorem tX.fwd {p:List Nat} {n:Nat} {c:List Nat} (h:tX p n c) {x:Nat} (hx:x∈c):nl p x∈c:=by
 obtain ⟨j,hj,rfl⟩:=lY hx
 by_cases e:j+1<c.length
 ·rw [h.step j e]
  exact dK e
 ·rw [show j=c.length-1 by omega,h.last]
  exact dK h.ne
theorem tX.bwd {p:List Nat} {n:Nat} {c:List Nat} (hp:Perm p n) (h:tX p n c) {x:Nat} (hx:x<n) (hm:nl p x∈c):x∈c:=by
 obtain ⟨j,hj,hje⟩:=lY hm
 by_cases e:j=0
 ·subst e
  rw [←h.last] at hje
  have:=hp.inj (h.lt _ (dK (by have:=h.ne;omega))) hx hje
  rw [←this]
  exact dK (by have:=h.ne;omega)
 ·have h2:=h.step (j-1) (by omega)
  rw [show j-1+1=j by omega,hje] at h2
  have:=hp.inj (h.lt _ (dK (by omega))) hx h2
  rw [←this]
  exact dK (by omega)
structure oG (p:List Nat) (n i:Nat) (sc:List Bool×List (List Nat)):Prop where
 len:sc.1.length=16
 mem: ∀x,bl sc.1 x=true↔ ∃c∈sc.2,x∈c
 inv: ∀x,x<n→bl sc.1 (nl p x)=bl sc.1 x
 aQ: ∀c∈sc.2,tX p n c
 cnt:sc.1.count true=sc.2.flatten.length
 fM:sc.2.flatten.Nodup
 upto: ∀x,x<i→bl sc.1 x=true
 hd: ∀c∈sc.2,nl c 0<i
 num:sc.2.length≤i
theorem oG.all {p:List Nat} {n m:Nat} (hm:m=16) (hp:Perm p n): ∀{i:Nat},i≤n→oG p n i (jU p m i)
 |0,_=>by
  have h0: ∀x,bl (List.replicate 16 false) x=false:=fun x=>zy
  rw [show jU p m 0=(List.replicate 16 false,[]) from rfl]
  have hno: ∀c:List Nat,c∉([]:List (List Nat)):=fun c=>List.not_mem_nil
  have hc0:(List.replicate 16 false).count true=0:=rfl
  exact ⟨List.length_replicate,fun x=>⟨fun h=>absurd ((h0 x).symm.trans h) Bool.false_ne_true,fun ⟨c,h,_⟩=>absurd h (hno c)⟩,fun x _=>(h0 _).trans (h0 x).symm,fun c h=>absurd h (hno c),hc0,List.nodup_nil,fun x h=>absurd h (Nat.not_lt_zero x),fun c h=>absurd h (hno c),Nat.le_refl _⟩
 |i+1,hi=>by
  have ih:=oG.all hm hp (i:=i) (by omega)
  have hn:=hp.1
  simp only [jU]
  generalize jU p m i=sc at ih⊢
  by_cases hb:bl sc.1 i=true
  ·rw [if_pos hb]
   exact ⟨ih.len,ih.mem,ih.inv,ih.aQ,ih.cnt,ih.fM,fun x hx=>by
    by_cases e:x=i
    ·rw [e];exact hb
    ·exact ih.upto x (by omega),fun c hc=>by have:=ih.hd c hc;omega,by have:=ih.num;omega⟩
  ·rw [if_neg hb]
   have h0:bl sc.1 i=false:=by simpa using hb
   have hw:=kY.wk hp ih.len (show i<n by omega) h0 ih.inv m
   obtain ⟨hc,hz⟩:=kY.aQ hm hp ih.len (show i<n by omega) h0 ih.inv ih.upto
   generalize Bm.wk p (sc.1,[],i) m=st at hw hc hz⊢
   obtain ⟨s,l,k⟩:=st
   have hm:=hw.mem
   have hlt:=hw.lt
   have hwc:=hw.cnt
   simp only at hc hz hm hlt hwc⊢
   have hil:i∈l:=by rw [←hz];exact dK hc.ne
   refine ⟨hw.len,fun x=>?_,fun x hx=>?_,fun c hc'=>?_,?_,?_,fun x hx=>?_,fun c hc'=>?_,by simp;exact ih.num⟩
   ·show bl s x=true↔_
    rw [hm x,ih.mem x]
    simp only [List.mem_append,List.mem_singleton]
    constructor
    ·rintro (⟨c,h1,h2⟩|h)
     ·exact ⟨c, .inl h1,h2⟩
     ·exact ⟨l, .inr rfl,h⟩
    ·rintro ⟨c,h1|rfl,h2⟩
     ·exact .inl ⟨c,h1,h2⟩
     ·exact .inr h2
   ·show bl s (nl p x)=bl s x
    have key:bl s (nl p x)=true↔bl s x=true:=by
     rw [hm,hm,ih.inv x hx]
     constructor
     ·rintro (h|h)
      ·exact .inl h
      ·exact .inr (hc.bwd hp hx h)
     ·rintro (h|h)
      ·exact .inl h
      ·exact .inr (hc.fwd h)
    exact Bool.eq_iff_iff.2 key
   ·rcases List.mem_append.1 hc' with h|h
    ·exact ih.aQ c h
    ·rw [List.mem_singleton] at h
     subst h
     exact hc
   ·show s.count true=(sc.2++[l]).flatten.length
    rw [hwc,ih.cnt]
    simp
   ·show (sc.2++[l]).flatten.Nodup
    rw [List.flatten_append,List.nodup_append]
    refine ⟨ih.fM,by simpa using hw.fM,fun a ha b hb'=>?_⟩
    have adH:b∈l:=by simpa using hb'
    rintro rfl
    obtain ⟨c,h1,h2⟩:=List.mem_flatten.1 ha
    have h3:=(ih.mem a).2 ⟨c,h1,h2⟩
    rw [(hlt a adH).2] at h3
    cases h3
   ·show bl s x=true
    rw [hm]
    by_cases e:x=i
    ·rw [e];exact .inr hil
    ·exact .inl (ih.upto x (by omega))
   ·rcases List.mem_append.1 hc' with h|h
    ·have:=ih.hd c h;omega
    ·rw [List.mem_singleton] at h
     subst h
     omega
def aQ (p:List Nat) (n:Nat):List (List Nat):=(jU p 16 n).2
section
variable {p:List Nat} {n:Nat}
theorem vT (hp:Perm p n) {x:Nat} (hx:x<n): ∃c∈aQ p n,x∈c:=((oG.all rfl hp (Nat.le_refl n)).mem x).1 ((oG.all rfl hp (Nat.le_refl n)).upto x hx)
theorem lZ (hp:Perm p n) {c:List Nat} (h:c∈aQ p n):tX p n c:=(oG.all rfl hp (Nat.le_refl n)).aQ c h
theorem tq (hp:Perm p n):(aQ p n).length≤n:=(oG.all rfl hp (Nat.le_refl n)).num
theorem adp (hp:Perm p n) {c:List Nat} (h:c∈aQ p n):1≤c.length∧c.length≤n:=by
 have hc:=lZ hp h
 refine ⟨hc.ne,?_⟩
 have: ∀(m:Nat) (c:List Nat),c.Nodup→(∀x∈c,x<m)→c.length≤m:=by
  intro m
  induction m with
  |zero=>
   intro c _ hc
   cases c with
   |nil=>simp
   |cons a c=>exact absurd (hc a (by simp)) (by omega)
  |succ m ih=>
   intro c hn hc
   have h1:=ih (c.erase m) (hn.erase m) fun x hx=>by
    have h2:=hc x (List.mem_of_mem_erase hx)
    have h3:x≠m:=fun e=>by
     subst e
     exact (List.Nodup.not_mem_erase hn) hx
    omega
   have h4:=List.length_erase (a:=m) (l:=c)
   split at h4<;>omega
 exact this n c hc.fM hc.lt
end
end Go.Bm
namespace Go.Bm
open Go Go.Am
theorem O5 {p:List Int} {i j:Nat} {x:Int}:el (p.set i x) j=if j=i∧i<p.length then x else el p j:=by
 unfold el
 simp only [List.getD]
 by_cases h:i=j
 ·subst h
  by_cases hi:i<p.length
  ·simp [hi]
  ·simp [List.getElem?_eq_none (by omega:p.length≤i),hi]
 ·rw [List.getElem?_set_ne h,if_neg (fun e=>h e.1.symm)]
def swp (p:List Int) (i j:Nat):List Int:=(p.set i (el p j)).set j (el p i)
theorem O6 {p:List Int} {i j:Nat}:(swp p i j).length=p.length:=by simp [swp]
theorem kZ {p:List Int} {i j k:Nat} (hi:i<p.length) (hj:j<p.length):el (swp p i j) k=if k=j then el p i else if k=i then el p j else el p k:=by
 unfold swp
 rw [O5,O5]
 by_cases h:k=j
 ·rw [if_pos ⟨h,by simpa using hj⟩,if_pos h]
 ·rw [if_neg (fun e=>h e.1),if_neg h]
  by_cases h2:k=i
  ·rw [if_pos ⟨h2,hi⟩,if_pos h2]
  ·rw [if_neg (fun e=>h2 e.1),if_neg h2]
theorem adI {p:List Int} {i j:Nat} (hi:i<p.length) (hj:j<p.length):(swp p i j).Perm p:=by
 rw [List.perm_iff_count]
 intro a
 unfold swp
 rw [List.count_set (by simpa using hj),List.count_set hi]
 have e1:p[i]=el p i:=by simp [el,List.getD,hi]
 have e2:p[j]=el p j:=by simp [el,List.getD,hj]
 have e3:(p.set i (el p j))[j]'(by simpa using hj)=el p j:=by
  rw [List.getElem_set]
  split
  ·rfl
  ·exact e2
 rw [e3,e1]
 have c1:(el p i==a)=true→0<p.count a:=fun h=>by
  rw [List.count_pos_iff,←beq_iff_eq.1 h,←e1];exact List.getElem_mem hi
 by_cases h1:(el p i==a)=true<;>by_cases h2:(el p j==a)=true<;>simp only [h1,h2,if_true,if_false,Bool.false_eq_true]<;>first|omega|(have:=c1 h1;omega)
structure Sg (a b:Nat) (p q:List Int):Prop where
 len:q.length=p.length
 out: ∀i,i<a∨b≤i→el q i=el p i
 src: ∀i,a≤i→i<b→ ∃j,a≤j∧j<b∧el q i=el p j
 perm:q.Perm p
theorem Sg.refl {a b:Nat} {p:List Int}:Sg a b p p:=⟨rfl,fun _ _=>rfl,fun i h1 h2=>⟨i,h1,h2,rfl⟩, .refl _⟩
theorem Sg.trans {a b:Nat} {p q r:List Int} (h:Sg a b p q) (k:Sg a b q r):Sg a b p r:=⟨k.len.trans h.len,fun i hi=>(k.out i hi).trans (h.out i hi),fun i h1 h2=>by
 obtain ⟨j,j1,j2,j3⟩:=k.src i h1 h2
 obtain ⟨l,l1,l2,l3⟩:=h.src j j1 j2
 exact ⟨l,l1,l2,j3.trans l3⟩,k.perm.trans h.perm⟩
theorem Sg.mono {a b a' b':Nat} {p q:List Int} (h:Sg a b p q) (ha:a'≤a) (hb:b≤b'):Sg a' b' p q:=⟨h.len,fun i hi=>h.out i (by omega),fun i h1 h2=>by
 by_cases hi:a≤i∧i<b
 ·obtain ⟨j,j1,j2,j3⟩:=h.src i hi.1 hi.2
  exact ⟨j,by omega,by omega,j3⟩
 ·exact ⟨i,h1,h2,h.out i (by omega)⟩,h.perm⟩
theorem Sg.swp {a b i j:Nat} {p:List Int} (h1:a≤i) (h2:i<b) (h3:a≤j) (h4:j<b) (hb:b≤p.length):Sg a b p (swp p i j):=⟨O6,fun k hk=>by
 rw [kZ (by omega) (by omega),if_neg (by omega),if_neg (by omega)],fun k k1 k2=>by
 rw [kZ (by omega) (by omega)]
 split
 ·exact ⟨i,h1,h2,rfl⟩
 ·split
  ·exact ⟨j,h3,h4,rfl⟩
  ·exact ⟨k,k1,k2,rfl⟩,adI (by omega) (by omega)⟩
def l7 (a b:Nat) (p:List Int):Prop:= ∀i j,a≤i→i≤j→j<b→el p i≤el p j
theorem l7.one {a:Nat} {p:List Int}:l7 a (a+1) p:=fun i j h1 h2 h3=>by
 obtain rfl:i=j:=by omega
 exact Int.le_refl _
theorem adJ {x:Bool} {a:Int} {H:BH} {K:Value→BH→Prop} (hK:K (.bool false) H):aF x BK [I a] H K:=by
 refine bK (by simp only [RH]) ?_
 refine aG KU ?_;simp only [oU,aB]
 refine aC ?_
 refine aC ?_
 refine aV ?_
 exact ⟨NN.bool,by simpa using hK⟩
theorem o8 {x:Bool} {a b:Int} {H:BH} {K:Value→BH→Prop} (hK:K (.bool (decide (a<b))) H):aF x Yk [I a,I b] H K:=by
 refine bK (by simp only [RH]) ?_
 refine aG ZF ?_;simp only [qY,aB]
 refine aC ?_
 refine eP fun Kr hKr=>?_
 refine adJ ?_
 refine aS ?_
 refine aO hKr ?_
 refine aV ?_
 exact ⟨NN.bool,hK⟩
theorem tH {k:Nat} {a:ACode} {Q:Ex→Fr→BH→Prop} {f:Fr} {H:BH} (h:T k (.seq a .skip) Q f H):T k a Q f H:=by
 intro ρ Z fA HA hk h1 h2
 obtain ⟨ex,eU,HA',h3,h4⟩:=h ρ Z fA HA hk h1 h2
 refine ⟨ex,eU,HA',?_,h4⟩
 cases h3 with
 |seqN ha hb=>cases hb;exact ha
 |seqX ha _=>exact ha
theorem ade {p:List Int} {a b:Nat} {K:Value→BH→Prop} (hp:p.length≤1000) (hb:b≤p.length) (ha:a≤b) (hK: ∀q,Sg a b p q→l7 a b q→K (.tuple ⟨[]⟩) [some (q.map I)]):
  aF false Yf [S 0 0 p.length 1,I a,I b] [some (p.map I)] K:=by
 refine aG Zz ?_;simp only [iR,aB]
 refine aC ?_
 refine tH ?_
 refine aW (fun m f H'=> ∃(i:Nat) (q:List Int),a+1≤i∧(i≤b∨i=a+1)∧m=b-i∧Sg a b p q∧l7 a i q∧f 0=S 0 0 p.length 1∧f 1=I a∧f 2=I b∧f 6=I i∧H'=[some (q.map I)]) (b-(a+1)) ?_ ?_
 ·exact ⟨_,_,Gh.refl,a+1,p,by omega,by omega,by omega, .refl,l7.one,ah,ah,ah,ah,rfl⟩
 ·rintro m f H' R ⟨i,q,hi1,hi2,rfl,hq,hs,g0,g1,g2,g6,rfl⟩ hN hX hR hE
  simp only [iR.l1,aB]
  refine aA (aH @g2 @g6) ?_
  refine bI (i<b) (fun hc=>?_) fun hc=>?_
  ·refine dD ?_
   refine aA @g6 ?_
   refine aW (fun m f H'=> ∃(j:Nat) (r:List Int),a≤j∧j≤i∧j=m∧Sg a b p r∧(∀x y,a≤x→x<y→y≤i→y≠j→el r x≤el r y)∧f 0=S 0 0 p.length 1∧f 1=I a∧f 2=I b∧f 6=I i∧f 7=I j∧H'=[some (r.map I)]) (i) ?_ ?_
   ·exact ⟨_,_,Gh.refl,i,q,by omega,by omega,by omega,hq,fun x y h1 h2 h3 h4=>hs x y h1 (by omega) (by omega),ah,ah,ah,ah,ah,rfl⟩
   ·clear g0 g1 g2 g6
    rintro m f H' R2 ⟨j,r,hj1,hj2,rfl,hr,hall,g0,g1,g2,g6,g7,rfl⟩ iT hX2 hR2 hE2
    simp only [iR.l0,aB]
    have hrl:=hr.len
    have hdone: ∀f',f' 0=S 0 0 p.length 1→f' 1=I a→f' 2=I b→f' 6=I i→(j=a∨el r (j-1)≤el r j)→T 1 iR.r2 R f' [some (r.map I)]:=by
     intro f' g0 g1 g2 g6 hfin
     refine bM @g6 ?_
     refine hN (b-(i+1)) _ _ _ _ (by omega) Gh.refl ⟨i+1,r,by omega,by omega,rfl,hr,fun x y h1 h2 h3=>?_,ah,ah,ah,ah,rfl⟩
     rcases Nat.lt_or_ge x y with h|h
     ·by_cases hy:y=j
      ·subst hy
       rcases hfin with hfin|hfin
       ·omega
       ·rcases Nat.lt_or_ge x (y-1) with h'|h'
        ·exact Int.le_trans (hall x (y-1) h1 h' (by omega) (by omega)) hfin
        ·obtain rfl:x=y-1:=by omega
         exact hfin
      ·exact hall x y h1 h (by omega) hy
     ·obtain rfl:x=y:=by omega
      exact Int.le_refl _
    by_cases hja:j=a
    ·refine aA (bP @g1 @g7 @hja) ?_
     refine bV ?_
     refine hX2 _ _ ?_
     exact hdone _ ah ah ah ah (.inl hja)
    ·have hlt:a<j:=by omega
     have G5:(j:Int)-1=((j-1:Nat):Int):=by omega
     refine dF (nN @g0 @g1 @g7 @hlt @G5 @hrl) fun Kr hKr=>?_
     refine o8 ?_
     refine aS ?_
     refine aO hKr ?_
     refine bI (el r j<el r (j-1)) (fun hc=>?_) fun hc=>?_
     ·have hrs:(r.set j (el r (j-1))).length=p.length:=by simp [hrl]
      refine dD ?_
      refine aA (dh @g0 @g7 @G5 @hrl) ?_
      refine bM (aH @g7 @G5) ?_
      have hsw:(r.set j (el r (j-1))).set (j-1) (el r j)=swp r j (j-1):=rfl
      refine iT (j-1) _ _ _ _ (by omega) Gh.refl ⟨j-1,swp r j (j-1),by omega,by omega,rfl,hr.trans (.swp (by omega) (by omega) (by omega) (by omega) (by omega)),fun x y h1 h2 h3 h4=>?_,ah,ah,ah,ah,ah,rfl⟩
      rw [kZ (by omega) (by omega),kZ (by omega) (by omega)]
      by_cases hyj:y=j
      ·rw [if_neg (by omega: ¬y=j-1),if_pos hyj]
       by_cases hxj:x=j-1
       ·rw [if_pos hxj];omega
       ·rw [if_neg hxj,if_neg (by omega)]
        exact hall x (j-1) h1 (by omega) (by omega) (by omega)
      ·rw [if_neg h4,if_neg hyj]
       by_cases hxj:x=j-1
       ·rw [if_pos hxj]
        exact hall j y (by omega) (by omega) h3 hyj
       ·rw [if_neg hxj]
        by_cases O7:x=j
        ·rw [if_pos O7]
         exact hall (j-1) y (by omega) (by omega) h3 hyj
        ·rw [if_neg O7]
         exact hall x y h1 h2 h3 hyj
     ·refine hX2 _ _ ?_
      exact hdone _ ah ah ah ah (.inr (by omega))
  ·refine hX _ _ ?_
   refine pJ ?_
   refine aV ?_
   refine hK q hq fun x y h1 h2 h3=>?_
   rcases hi2 with h|h
   ·exact hs x y h1 h2 (by omega)
   ·obtain rfl:x=y:=by omega
    exact Int.le_refl _
end Go.Bm
namespace Go.Bm
open Go Go.Am
section
variable {k:Nat} {Q:Ex→Fr→BH→Prop} {f:Fr} {H:BH}
theorem tY {id:Nat} {a rest:ACode} (J:Nat→Fr→BH→Prop) (P:Fr→BH→Prop) (n:Nat) (h0: ∃f1 H1,Gh k f H f1 H1∧J n f1 H1)
  (hr: ∀n f H (R:Ex→Fr→BH→Prop),J n f H→(∀m f' H' f1 H1,m<n→Gh k f' H' f1 H1→J m f1 H1→R .normal f' H')→(∀f' H',P f' H'→R (.exit id) f' H')→(∀f' H',Q .ret f' H'→R .ret f' H')→T k a R f H)
  (hp: ∀f H,P f H→T k rest Q f H):T k (.seq (.block id (.loop a)) rest) Q f H:=
 aW J n h0 fun n f H R hJ hN hX hR hE=>hr n f H R hJ hN (fun f' H' h=>hX f' H' (hp f' H' h)) hR
end
structure PI (p q:List Int) (v:Int) (a b i j:Nat):Prop where
 sg:Sg a b p q
 lo:a+1≤i
 ij:i≤j+1
 jb:j<b
 ge:a≤j
 va:el q a=v
 lt: ∀x,a<x→x<i→el q x<v
 gt: ∀x,j<x→x<b→v≤el q x
section
variable {p q:List Int} {v:Int} {a b i j:Nat}
theorem PI.up (h:PI p q v a b i j) (hij:i≤j) (hx:el q i<v):PI p q v a b (i+1) j:=⟨h.sg,by have:=h.lo;omega,by omega,h.jb,h.ge,h.va,fun x h1 h2=>by
 rcases Nat.lt_or_ge x i with h3|h3
 ·exact h.lt x h1 h3
 ·obtain rfl:x=i:=by omega
  exact hx,h.gt⟩
theorem PI.dn (h:PI p q v a b i j) (hij:i≤j) (hx: ¬el q j<v):PI p q v a b i (j-1):=⟨h.sg,h.lo,by have:=h.lo;omega,by have:=h.jb;omega,by have:=h.lo;omega,h.va,h.lt,fun x h1 h2=>by
 rcases Nat.lt_or_ge j x with h3|h3
 ·exact h.gt x h3 h2
 ·obtain rfl:x=j:=by have:=h.lo;omega
  omega⟩
theorem PI.keep (h:PI p q v a b i j) (hs:j<i∨ ¬(el q i<v)) (hij:i≤j):j-1<i∨ ¬(el q i<v):=by
 rcases hs with hs|hs
 ·omega
 ·exact .inr hs
theorem PI.ex (h:PI p q v a b i j) (hb:b≤p.length) (h1:i<j) (h2: ¬el q i<v) (h3:el q j<v):PI p (swp q i j) v a b (i+1) (j-1):=by
 have hl:=h.sg.len
 have lo:=h.lo
 have jb:=h.jb
 refine ⟨h.sg.trans (.swp (by omega) (by omega) (by omega) (by omega) (by omega)),by omega,by omega,by omega,by omega,?_,fun x x1 x2=>?_,fun x x1 x2=>?_⟩
 ·rw [kZ (by omega) (by omega),if_neg (by omega),if_neg (by omega)];exact h.va
 ·rw [kZ (by omega) (by omega),if_neg (by omega)]
  split
  ·exact h3
  ·exact h.lt x x1 (by omega)
 ·rw [kZ (by omega) (by omega)]
  split
  ·omega
  ·rw [if_neg (by omega)]
   exact h.gt x (by omega) x2
theorem PI.fin (h:PI p q v a b i j) (hb:b≤p.length) (h1:j<i):Sg a b p (swp q j a)∧(∀x,a≤x→x<j→el (swp q j a) x≤el (swp q j a) j)∧(∀x,j<x→x<b→el (swp q j a) j≤el (swp q j a) x):=by
 have hl:=h.sg.len
 have lo:=h.lo
 have jb:=h.jb
 have ge:=h.ge
 have ij:=h.ij
 have ej:el (swp q j a) j=v:=by
  rw [kZ (by omega) (by omega)]
  split
  ·rename_i e;rw [e];exact h.va
  ·rw [if_pos rfl];exact h.va
 refine ⟨h.sg.trans (.swp (by omega) (by omega) (by omega) (by omega) (by omega)),fun x x1 x2=>?_,fun x x1 x2=>?_⟩
 ·rw [ej,kZ (by omega) (by omega)]
  split
  ·exact Int.le_of_lt (h.lt j (by omega) (by omega))
  ·rw [if_neg (by omega)]
   exact Int.le_of_lt (h.lt x (by omega) (by omega))
 ·rw [ej,kZ (by omega) (by omega),if_neg (by omega),if_neg (by omega)]
  exact h.gt x x1 x2
end
structure jV (p q:List Int) (v:Int) (a b i j:Nat):Prop where
 sg:Sg a b p q
 lo:a+1≤i
 ij:i≤j+1
 jb:j<b
 ge:a≤j
 va:el q a=v
 lt: ∀x,a<x→x<i→el q x≤v
 gt: ∀x,j<x→x<b→v<el q x
section
variable {p q:List Int} {v:Int} {a b i j:Nat}
theorem jV.upE (h:jV p q v a b i j) (hij:i≤j) (hx: ¬v<el q i):jV p q v a b (i+1) j:=⟨h.sg,by have:=h.lo;omega,by omega,h.jb,h.ge,h.va,fun x h1 h2=>by
 rcases Nat.lt_or_ge x i with h3|h3
 ·exact h.lt x h1 h3
 ·obtain rfl:x=i:=by omega
  omega,h.gt⟩
theorem jV.dnE (h:jV p q v a b i j) (hij:i≤j) (hx:v<el q j):jV p q v a b i (j-1):=⟨h.sg,h.lo,by have:=h.lo;omega,by have:=h.jb;omega,by have:=h.lo;omega,h.va,h.lt,fun x h1 h2=>by
 rcases Nat.lt_or_ge j x with h3|h3
 ·exact h.gt x h3 h2
 ·obtain rfl:x=j:=by have:=h.lo;omega
  exact hx⟩
theorem jV.adK (h:jV p q v a b i j) (hs:j<i∨ ¬(¬v<el q i)) (hij:i≤j):j-1<i∨ ¬(¬v<el q i):=by
 rcases hs with hs|hs
 ·omega
 ·exact .inr hs
theorem jV.exE (h:jV p q v a b i j) (hb:b≤p.length) (h1:i<j) (h2:v<el q i) (h3: ¬v<el q j):jV p (swp q i j) v a b (i+1) (j-1):=by
 have hl:=h.sg.len
 have lo:=h.lo
 have jb:=h.jb
 refine ⟨h.sg.trans (.swp (by omega) (by omega) (by omega) (by omega) (by omega)),by omega,by omega,by omega,by omega,?_,fun x x1 x2=>?_,fun x x1 x2=>?_⟩
 ·rw [kZ (by omega) (by omega),if_neg (by omega),if_neg (by omega)];exact h.va
 ·rw [kZ (by omega) (by omega),if_neg (by omega)]
  split
  ·omega
  ·exact h.lt x x1 (by omega)
 ·rw [kZ (by omega) (by omega)]
  split
  ·exact h2
  ·rw [if_neg (by omega)]
   exact h.gt x (by omega) x2
end
theorem PI.start {p:List Int} {a b t:Nat} (hb:b≤p.length) (h1:a≤t) (h2:t<b):PI p (swp p a t) (el p t) a b (a+1) (b-1):=⟨.swp (by omega) (by omega) (by omega) (by omega) hb,by omega,by omega,by omega,by omega,by
 rw [kZ (by omega) (by omega)]
 split
 ·rename_i e;rw [e]
 ·rw [if_pos rfl],fun x x1 x2=>by omega,fun x x1 x2=>by omega⟩
theorem jV.start {p:List Int} {a b t:Nat} (hb:b≤p.length) (h1:a≤t) (h2:t<b):jV p (swp p a t) (el p t) a b (a+1) (b-1):=⟨.swp (by omega) (by omega) (by omega) (by omega) hb,by omega,by omega,by omega,by omega,by
 rw [kZ (by omega) (by omega)]
 split
 ·rename_i e;rw [e]
 ·rw [if_pos rfl],fun x x1 x2=>by omega,fun x x1 x2=>by omega⟩
theorem adk {p:List Int} {a b t:Nat} {K:Value→BH→Prop} (hpl:p.length≤1000) (hb:b≤p.length) (h1:a≤t) (h2:t<b)
  (hK: ∀q mid al,Sg a b p q→a≤mid→mid<b→(∀x,a≤x→x<mid→el q x≤el q mid)→(∀x,mid<x→x<b→el q mid≤el q x)→K (.tuple ⟨[I (mid:Nat), .bool al]⟩) [some (q.map I)]):
  aF false Ym [S 0 0 p.length 1,I a,I b,I t] [some (p.map I)] K:=by
 have hp0:=PI.start hb h1 h2
 have hps:(p.set a (el p t)).length=p.length:=by simp
 have hb1:(b:Int)-1=((b-1:Nat):Int):=by omega
 have ha1:(a:Int)+1=((a+1:Nat):Int):=by omega
 refine aG ZH ?_;simp only [bg,aB]
 refine aC ?_
 refine aA @hps ?_
 refine aA (aH @hb1 @ha1) ?_
 have hsw:(p.set a (el p t)).set t (el p a)=swp p a t:=rfl
 rw [hsw]
 generalize el p t=v at hp0
 generalize swp p a t=q at hp0
 clear hsw hps
 obtain ⟨i0,hi0⟩: ∃i0,i0=a+1:=⟨_,rfl⟩
 obtain ⟨j,hj⟩: ∃j,j=b-1:=⟨_,rfl⟩
 rw [←hi0,←hj] at hp0
 rw [←hi0] at ha1
 rw [←hj] at hb1
 simp only [←hi0,←hj]
 clear hi0 hj
 refine tY (fun m f H'=> ∃i,i0≤i∧PI p q v a b i j∧m=j+1-i∧f 0=S 0 0 p.length 1∧f 1=I a∧f 10=I i∧f 11=I j∧H'=[some (q.map I)]) (fun f H'=> ∃i,i0≤i∧PI p q v a b i j∧(j<i∨ ¬(el q i<v))∧f 0=S 0 0 p.length 1∧f 1=I a∧f 10=I i∧f 11=I j∧H'=[some (q.map I)]) (j+1-i0) ?_ ?_ ?_
 ·exact ⟨_,_,Gh.refl,i0,Nat.le_refl _,hp0,rfl,ah,ah,ah,ah,rfl⟩
 ·clear hp0 ha1 hb1
  rintro m f H' R2 ⟨i,hi0,hp,rfl,g0,g1,g10,g11,rfl⟩ iT hX2 hR2
  simp only [bg.l0,aB]
  have bD:=hp.sg.len
  have hge:=hp.ge
  have hjb:=hp.jb
  have hva:=hp.va
  have hlo:=hp.lo
  by_cases hij:i≤j
  ·refine dF (dh (dh @g0 @g1 @g10 @g11) @hij @bD @hva) fun Kr hKr=>?_
   refine o8 ?_
   refine aS ?_
   refine aO hKr ?_
   refine bI (el q i<v) (fun hc=>?_) fun hc=>?_
   ·refine dD ?_
    refine bM @g10 ?_
    exact iT (j+1-(i+1)) _ _ _ _ (by omega) Gh.refl ⟨i+1,by omega,hp.up hij hc,rfl,ah,ah,ah,ah,rfl⟩
   ·refine hX2 _ _ ⟨i,hi0,hp, .inr (by first|exact hc|exact fun h=>h hc|exact fun h=>hc h),ah,ah,ah,ah,rfl⟩
  ·refine aA (bP @g10 @g11 @hij) ?_
   refine bV ?_
   refine hX2 _ _ ⟨i,hi0,hp, .inl (by omega),ah,ah,ah,ah,rfl⟩
 ·clear hp0 ha1 hb1
  rintro f H' ⟨i,hi0,hp0,hs,g0,g1,g10,g11,rfl⟩
  clear hi0
  obtain ⟨j0,hj0⟩: ∃j0,j0=j:=⟨_,rfl⟩
  rw [←hj0] at hp0 g11 hs
  clear hj0 j
  refine tY (fun m f H'=> ∃j,j≤j0∧PI p q v a b i j∧j=m∧(j<i∨ ¬(el q i<v))∧f 0=S 0 0 p.length 1∧f 1=I a∧f 10=I i∧f 11=I j∧H'=[some (q.map I)]) (fun f H'=> ∃j,j≤j0∧PI p q v a b i j∧(j<i∨ ¬(el q i<v))∧(j<i∨ ¬(¬el q j<v))∧f 0=S 0 0 p.length 1∧f 1=I a∧f 10=I i∧f 11=I j∧H'=[some (q.map I)]) (j0) ?_ ?_ ?_
  ·exact ⟨_,_,Gh.refl,j0,Nat.le_refl _,hp0,rfl,hs,ah,ah,ah,ah,rfl⟩
  ·clear hp0 g0 g1 g10 g11 hs
   rintro m f H' R2 ⟨j,hj0,hp,rfl,hs,g0,g1,g10,g11,rfl⟩ iT hX2 hR2
   simp only [bg.l1,aB]
   have bD:=hp.sg.len
   have hge:=hp.ge
   have hjb:=hp.jb
   have hva:=hp.va
   have hlo:=hp.lo
   by_cases hij:i≤j
   ·refine dF (dh (dh @g0 @g1 @g10 @g11) @hij @bD @hva) fun Kr hKr=>?_
    refine o8 ?_
    refine aS ?_
    refine aO hKr ?_
    refine bI (¬el q j<v) (fun hc=>?_) fun hc=>?_
    ·refine dD ?_
     have hj1:(j:Int)-1=((j-1:Nat):Int):=by omega
     refine bM (aH @g11 @hj1) ?_
     exact iT (j-1) _ _ _ _ (by omega) Gh.refl ⟨j-1,by omega,hp.dn hij hc,rfl,hp.keep hs hij,ah,ah,ah,ah,rfl⟩
    ·refine hX2 _ _ ⟨j,hj0,hp,hs, .inr (by first|exact hc|exact fun h=>h hc|exact fun h=>hc h),ah,ah,ah,ah,rfl⟩
   ·refine aA (bP @g10 @g11 @hij) ?_
    refine bV ?_
    refine hX2 _ _ ⟨j,hj0,hp,hs, .inl (by omega),ah,ah,ah,ah,rfl⟩
  ·clear hp0 g0 g1 g10 g11 hs
   rintro f H' ⟨j,hj0,hp,hs,hs2,g0,g1,g10,g11,rfl⟩
   have bD:=hp.sg.len
   have hge:=hp.ge
   have hjb:=hp.jb
   have hva:=hp.va
   have hlo:=hp.lo
   refine jQ ?_
   refine aA (aH @g10 @g11) ?_
   refine bI (j<i) (fun hc=>?_) fun hc=>?_
   ·have kX:(q.set j (el q a)).length=p.length:=by simp [bD]
    refine aA (iy @g0 @g1 @g11 @bD @kX) ?_
    refine aA @g11 ?_
    refine aV ?_
    obtain ⟨r1,r2,r3⟩:=hp.fin hb hc
    exact hK (swp q j a) j true r1 (by omega) (by omega) r2 r3
   ·have hq1: ¬el q i<v:=by rcases hs with h|h;omega;exact h
    have hq2:el q j<v:=by rcases hs2 with h|h;omega;omega
    have hij:i<j:=by
     rcases Nat.lt_or_ge i j with h|h
     ·exact h
     ·have:i=j:=by omega
      subst this
      exact absurd hq2 hq1
    have kX:(q.set i (el q j)).length=p.length:=by simp [bD]
    have hj1:(j:Int)-1=((j-1:Nat):Int):=by omega
    have hi1:(i:Int)+1=((i+1:Nat):Int):=by omega
    have hp':=hp.ex hb hij hq1 hq2
    have vZ:(q.set i (el q j)).set j (el q i)=swp q i j:=rfl
    refine aA (iy @g0 @g10 @g11 @bD @kX) ?_
    refine aA (aH @g10 @hi1) ?_
    refine aA (aH @g11 @hj1) ?_
    rw [vZ]
    refine aW (fun m f H'=> ∃(q:List Int) (i j:Nat),PI p q v a b i j∧m=j+1-i∧f 0=S 0 0 p.length 1∧f 1=I a∧f 10=I i∧f 11=I j∧H'=[some (q.map I)]) (j-1+1-(i+1)) ?_ ?_
    ·exact ⟨_,_,Gh.refl,swp q i j,i+1,j-1,hp',rfl,ah,ah,ah,ah,rfl⟩
    ·clear bD hge hjb hva hlo hc hq1 hq2 hij kX hj1 hi1 hp' vZ hp hs hs2 g0 g1 g10 g11 hj0
     rintro m f H' R ⟨q,i0,j,hp0,rfl,g0,g1,g10,g11,rfl⟩ hN hX hR hE
     simp only [bg.l4,aB]
     refine dD ?_
     refine tY (fun m f H'=> ∃i,i0≤i∧PI p q v a b i j∧m=j+1-i∧f 0=S 0 0 p.length 1∧f 1=I a∧f 10=I i∧f 11=I j∧H'=[some (q.map I)]) (fun f H'=> ∃i,i0≤i∧PI p q v a b i j∧(j<i∨ ¬(el q i<v))∧f 0=S 0 0 p.length 1∧f 1=I a∧f 10=I i∧f 11=I j∧H'=[some (q.map I)]) (j+1-i0) ?_ ?_ ?_
     ·exact ⟨_,_,Gh.refl,i0,Nat.le_refl _,hp0,rfl,ah,ah,ah,ah,rfl⟩
     ·clear g0 g1 g10 g11
      rintro m f H' R2 ⟨i,hi0,hp,rfl,g0,g1,g10,g11,rfl⟩ iT hX2 hR2
      simp only [bg.l2,aB]
      have bD:=hp.sg.len
      have hge:=hp.ge
      have hjb:=hp.jb
      have hva:=hp.va
      have hlo:=hp.lo
      by_cases hij:i≤j
      ·refine dF (dh (dh @g0 @g1 @g10 @g11) @hij @bD @hva) fun Kr hKr=>?_
       refine o8 ?_
       refine aS ?_
       refine aO hKr ?_
       refine bI (el q i<v) (fun hc=>?_) fun hc=>?_
       ·refine dD ?_
        refine bM @g10 ?_
        exact iT (j+1-(i+1)) _ _ _ _ (by omega) Gh.refl ⟨i+1,by omega,hp.up hij hc,rfl,ah,ah,ah,ah,rfl⟩
       ·refine hX2 _ _ ⟨i,hi0,hp, .inr (by first|exact hc|exact fun h=>h hc|exact fun h=>hc h),ah,ah,ah,ah,rfl⟩
      ·refine aA (bP @g10 @g11 @hij) ?_
       refine bV ?_
       refine hX2 _ _ ⟨i,hi0,hp, .inl (by omega),ah,ah,ah,ah,rfl⟩
     ·clear g0 g1 g10 g11
      rintro f H' ⟨i,hi0,hp1,hs,g0,g1,g10,g11,rfl⟩
      obtain ⟨j0,tZ⟩: ∃j0,j0=j:=⟨_,rfl⟩
      rw [←tZ] at hp1 g11 hs
      rw [←tZ] at hN
      clear hp0 tZ j
      refine tY (fun m f H'=> ∃j,j≤j0∧PI p q v a b i j∧j=m∧(j<i∨ ¬(el q i<v))∧f 0=S 0 0 p.length 1∧f 1=I a∧f 10=I i∧f 11=I j∧H'=[some (q.map I)]) (fun f H'=> ∃j,j≤j0∧PI p q v a b i j∧(j<i∨ ¬(el q i<v))∧(j<i∨ ¬(¬el q j<v))∧f 0=S 0 0 p.length 1∧f 1=I a∧f 10=I i∧f 11=I j∧H'=[some (q.map I)]) (j0) ?_ ?_ ?_
      ·exact ⟨_,_,Gh.refl,j0,Nat.le_refl _,hp1,rfl,hs,ah,ah,ah,ah,rfl⟩
      ·clear g0 g1 g10 g11 hs
       rintro m f H' R2 ⟨j,hj0,hp,rfl,hs,g0,g1,g10,g11,rfl⟩ iT hX2 hR2
       simp only [bg.l3,aB]
       have bD:=hp.sg.len
       have hge:=hp.ge
       have hjb:=hp.jb
       have hva:=hp.va
       have hlo:=hp.lo
       by_cases hij:i≤j
       ·refine dF (dh (dh @g0 @g1 @g10 @g11) @hij @bD @hva) fun Kr hKr=>?_
        refine o8 ?_
        refine aS ?_
        refine aO hKr ?_
        refine bI (¬el q j<v) (fun hc=>?_) fun hc=>?_
        ·refine dD ?_
         have hj1:(j:Int)-1=((j-1:Nat):Int):=by omega
         refine bM (aH @g11 @hj1) ?_
         exact iT (j-1) _ _ _ _ (by omega) Gh.refl ⟨j-1,by omega,hp.dn hij hc,rfl,hp.keep hs hij,ah,ah,ah,ah,rfl⟩
        ·refine hX2 _ _ ⟨j,hj0,hp,hs, .inr (by first|exact hc|exact fun h=>h hc|exact fun h=>hc h),ah,ah,ah,ah,rfl⟩
       ·refine aA (bP @g10 @g11 @hij) ?_
        refine bV ?_
        refine hX2 _ _ ⟨j,hj0,hp,hs, .inl (by omega),ah,ah,ah,ah,rfl⟩
      ·clear g0 g1 g10 g11 hs
       rintro f H' ⟨j,hj0,hp,hs,hs2,g0,g1,g10,g11,rfl⟩
       have bD:=hp.sg.len
       have hge:=hp.ge
       have hjb:=hp.jb
       have hva:=hp.va
       have hlo:=hp.lo
       refine jQ ?_
       refine aA (aH @g10 @g11) ?_
       refine bI (j<i) (fun hc=>?_) fun hc=>?_
       ·refine hX _ _ ?_
        have kX:(q.set j (el q a)).length=p.length:=by simp [bD]
        refine aA (iy @g0 @g1 @g11 @bD @kX) ?_
        refine aA @g11 ?_
        refine aV ?_
        obtain ⟨r1,r2,r3⟩:=hp.fin hb hc
        exact hK (swp q j a) j false r1 (by omega) (by omega) r2 r3
       ·have hq1: ¬el q i<v:=by rcases hs with h|h;omega;exact h
        have hq2:el q j<v:=by rcases hs2 with h|h;omega;omega
        have hij:i<j:=by
         rcases Nat.lt_or_ge i j with h|h
         ·exact h
         ·have:i=j:=by omega
          subst this
          exact absurd hq2 hq1
        have kX:(q.set i (el q j)).length=p.length:=by simp [bD]
        have hj1:(j:Int)-1=((j-1:Nat):Int):=by omega
        have hi1:(i:Int)+1=((i+1:Nat):Int):=by omega
        have hp':=hp.ex hb hij hq1 hq2
        have vZ:(q.set i (el q j)).set j (el q i)=swp q i j:=rfl
        refine aA (iy @g0 @g10 @g11 @bD @kX) ?_
        rw [vZ]
        refine aA (aH @g10 @hi1) ?_
        refine bM (aH @g11 @hj1) ?_
        exact hN (j-1+1-(i+1)) _ _ _ _ (by omega) Gh.refl ⟨swp q i j,i+1,j-1,hp',rfl,ah,ah,ah,ah,rfl⟩
end Go.Bm
namespace Go.Bm
open Go Go.Am
theorem adi {p:List Int} {a b t:Nat} {K:Value→BH→Prop} (hpl:p.length≤1000) (hb:b≤p.length) (h1:a≤t) (h2:t<b) (hge: ∀x,a≤x→x<b→el p t≤el p x)
  (hK: ∀q mid,Sg a b p q→a<mid→mid≤b→(∀x,a≤x→x<mid→el q x=el p t)→(∀x,a≤x→x<b→el p t≤el q x)→K (I (mid:Nat)) [some (q.map I)]):
  aF false Yl [S 0 0 p.length 1,I a,I b,I t] [some (p.map I)] K:=by
 have hp0:=jV.start hb h1 h2
 have hps:(p.set a (el p t)).length=p.length:=by simp
 have hb1:(b:Int)-1=((b-1:Nat):Int):=by omega
 have ha1:(a:Int)+1=((a+1:Nat):Int):=by omega
 have hfin: ∀q i j,jV p q (el p t) a b i j→j<i→K (I (i:Nat)) [some (q.map I)]:=by
  intro q i j hp hji
  have h3:=hp.lo
  have h4:=hp.ij
  have h5:=hp.jb
  have hall: ∀x,a≤x→x<b→el p t≤el q x:=fun x x1 x2=>by
   obtain ⟨y,y1,y2,y3⟩:=hp.sg.src x x1 x2
   rw [y3]
   exact hge y y1 y2
  refine hK q i hp.sg (by omega) (by omega) (fun x x1 x2=>?_) hall
  rcases Nat.lt_or_ge a x with h|h
  ·have:=hp.lt x h x2
   have:=hall x x1 (by omega)
   omega
  ·obtain rfl:x=a:=by omega
   exact hp.va
 refine aG ZG ?_;simp only [eX,aB]
 refine aC ?_
 refine aA @hps ?_
 refine aA (aH @hb1 @ha1) ?_
 have hsw:(p.set a (el p t)).set t (el p a)=swp p a t:=rfl
 rw [hsw]
 clear hge hK
 generalize el p t=v at hp0 hfin
 generalize swp p a t=q at hp0
 clear hsw hps
 refine aW (fun m f H'=> ∃(q:List Int) (i j:Nat),jV p q v a b i j∧m=j+1-i∧f 0=S 0 0 p.length 1∧f 1=I a∧f 9=I i∧f 10=I j∧H'=[some (q.map I)]) (b-1+1-(a+1)) ?_ ?_
 ·exact ⟨_,_,Gh.refl,q,a+1,b-1,hp0,rfl,ah,ah,ah,ah,rfl⟩
 ·clear hp0 ha1 hb1 q
  rintro m f H' R ⟨q,i0,j,hp0,rfl,g0,g1,g9,g10,rfl⟩ hN hX hR hE
  simp only [eX.l2,aB]
  refine dD ?_
  refine tY (fun m f H'=> ∃i,i0≤i∧jV p q v a b i j∧m=j+1-i∧f 0=S 0 0 p.length 1∧f 1=I a∧f 9=I i∧f 10=I j∧H'=[some (q.map I)]) (fun f H'=> ∃i,i0≤i∧jV p q v a b i j∧(j<i∨ ¬(¬v<el q i))∧f 0=S 0 0 p.length 1∧f 1=I a∧f 9=I i∧f 10=I j∧H'=[some (q.map I)]) (j+1-i0) ?_ ?_ ?_
  ·exact ⟨_,_,Gh.refl,i0,Nat.le_refl _,hp0,rfl,ah,ah,ah,ah,rfl⟩
  ·clear g0 g1 g9 g10
   rintro m f H' R2 ⟨i,hi0,hp,rfl,g0,g1,g9,g10,rfl⟩ iT hX2 hR2
   simp only [eX.l0,aB]
   have bD:=hp.sg.len
   have hge:=hp.ge
   have hjb:=hp.jb
   have hva:=hp.va
   have hlo:=hp.lo
   by_cases hij:i≤j
   ·refine dF (dh (dh @g0 @g1 @g9 @g10) @hij @bD @hva) fun Kr hKr=>?_
    refine o8 ?_
    refine aS ?_
    refine aO hKr ?_
    refine bI (¬v<el q i) (fun hc=>?_) fun hc=>?_
    ·refine dD ?_
     refine bM @g9 ?_
     exact iT (j+1-(i+1)) _ _ _ _ (by omega) Gh.refl ⟨i+1,by omega,hp.upE hij hc,rfl,ah,ah,ah,ah,rfl⟩
    ·refine hX2 _ _ ⟨i,hi0,hp, .inr (by first|exact hc|exact fun h=>h hc|exact fun h=>hc h),ah,ah,ah,ah,rfl⟩
   ·refine aA (bP @g9 @g10 @hij) ?_
    refine bV ?_
    refine hX2 _ _ ⟨i,hi0,hp, .inl (by omega),ah,ah,ah,ah,rfl⟩
  ·clear g0 g1 g9 g10
   rintro f H' ⟨i,hi0,hp1,hs,g0,g1,g9,g10,rfl⟩
   obtain ⟨j0,tZ⟩: ∃j0,j0=j:=⟨_,rfl⟩
   rw [←tZ] at hp1 g10 hs
   rw [←tZ] at hN
   clear hp0 tZ j
   refine tY (fun m f H'=> ∃j,j≤j0∧jV p q v a b i j∧j=m∧(j<i∨ ¬(¬v<el q i))∧f 0=S 0 0 p.length 1∧f 1=I a∧f 9=I i∧f 10=I j∧H'=[some (q.map I)]) (fun f H'=> ∃j,j≤j0∧jV p q v a b i j∧(j<i∨ ¬(¬v<el q i))∧(j<i∨ ¬(v<el q j))∧f 0=S 0 0 p.length 1∧f 1=I a∧f 9=I i∧f 10=I j∧H'=[some (q.map I)]) (j0) ?_ ?_ ?_
   ·exact ⟨_,_,Gh.refl,j0,Nat.le_refl _,hp1,rfl,hs,ah,ah,ah,ah,rfl⟩
   ·clear g0 g1 g9 g10 hs
    rintro m f H' R2 ⟨j,hj0,hp,rfl,hs,g0,g1,g9,g10,rfl⟩ iT hX2 hR2
    simp only [eX.l1,aB]
    have bD:=hp.sg.len
    have hge:=hp.ge
    have hjb:=hp.jb
    have hva:=hp.va
    have hlo:=hp.lo
    by_cases hij:i≤j
    ·refine dF (dh (dh @g0 @g1 @g9 @g10) @hij @bD @hva) fun Kr hKr=>?_
     refine o8 ?_
     refine aS ?_
     refine aO hKr ?_
     refine bI (v<el q j) (fun hc=>?_) fun hc=>?_
     ·refine dD ?_
      have hj1:(j:Int)-1=((j-1:Nat):Int):=by omega
      refine bM (aH @g10 @hj1) ?_
      exact iT (j-1) _ _ _ _ (by omega) Gh.refl ⟨j-1,by omega,hp.dnE hij hc,rfl,hp.adK hs hij,ah,ah,ah,ah,rfl⟩
     ·refine hX2 _ _ ⟨j,hj0,hp,hs, .inr (by first|exact hc|exact fun h=>h hc|exact fun h=>hc h),ah,ah,ah,ah,rfl⟩
    ·refine aA (bP @g9 @g10 @hij) ?_
     refine bV ?_
     refine hX2 _ _ ⟨j,hj0,hp,hs, .inl (by omega),ah,ah,ah,ah,rfl⟩
   ·clear g0 g1 g9 g10 hs
    rintro f H' ⟨j,hj0,hp,hs,hs2,g0,g1,g9,g10,rfl⟩
    have bD:=hp.sg.len
    have hge:=hp.ge
    have hjb:=hp.jb
    have hva:=hp.va
    have hlo:=hp.lo
    refine jQ ?_
    refine aA (aH @g9 @g10) ?_
    refine bI (j<i) (fun hc=>?_) fun hc=>?_
    ·refine hX _ _ ?_
     refine aA @g9 ?_
     refine aV ?_
     exact hfin q i j hp hc
    ·have hq1:v<el q i:=by rcases hs with h|h;omega;omega
     have hq2: ¬v<el q j:=by rcases hs2 with h|h;omega;exact h
     have hij:i<j:=by
      rcases Nat.lt_or_ge i j with h|h
      ·exact h
      ·have:i=j:=by omega
       subst this
       exact absurd hq1 hq2
     have kX:(q.set i (el q j)).length=p.length:=by simp [bD]
     have hj1:(j:Int)-1=((j-1:Nat):Int):=by omega
     have hi1:(i:Int)+1=((i+1:Nat):Int):=by omega
     have hp':=hp.exE hb hij hq1 hq2
     have vZ:(q.set i (el q j)).set j (el q i)=swp q i j:=rfl
     refine aA (iy @g0 @g9 @g10 @bD @kX) ?_
     rw [vZ]
     refine aA (aH @g9 @hi1) ?_
     refine bM (aH @g10 @hj1) ?_
     exact hN (j-1+1-(i+1)) _ _ _ _ (by omega) Gh.refl ⟨swp q i j,i+1,j-1,hp',rfl,ah,ah,ah,ah,rfl⟩
end Go.Bm
namespace Go.Bm
open Go Go.Am
theorem adg {p:List Int} {a b:Nat} {K:Value→BH→Prop} (hpl:p.length≤1000) (hb:b≤p.length) (hab:a<b) (hK: ∀q,Sg a b p q→K (.tuple ⟨[]⟩) [some (q.map I)]):
  aF false Yi [S 0 0 p.length 1,I a,I b] [some (p.map I)] K:=by
 have hb1:(b:Int)-1=((b-1:Nat):Int):=by omega
 refine aG ZC ?_;simp only [ku,aB]
 refine aC ?_
 refine aA @hb1 ?_
 refine tH ?_
 refine aW (fun m f H'=> ∃(q:List Int) (i j:Nat),Sg a b p q∧a≤i∧i≤j+1∧j<b∧m=j+1-i∧f 0=S 0 0 p.length 1∧f 6=I i∧f 7=I j∧H'=[some (q.map I)]) (b-1+1-a) ?_ ?_
 ·exact ⟨_,_,Gh.refl,p,a,b-1, .refl,by omega,by omega,by omega,rfl,ah,ah,ah,rfl⟩
 ·rintro m f H' R ⟨q,i,j,hq,h1,h2,h3,rfl,g0,g6,g7,rfl⟩ hN hX hR hE
  simp only [ku.l0,aB]
  have bD:=hq.len
  refine aA (aH @g6 @g7) ?_
  refine bI (i<j) (fun hc=>?_) fun hc=>?_
  ·have kX:(q.set i (el q j)).length=p.length:=by simp [bD]
   have hj1:(j:Int)-1=((j-1:Nat):Int):=by omega
   have hi1:(i:Int)+1=((i+1:Nat):Int):=by omega
   have hsw:(q.set i (el q j)).set j (el q i)=swp q i j:=rfl
   refine dD ?_
   refine aA (iy @g0 @g6 @g7 @bD @kX) ?_
   rw [hsw]
   refine aA (aH @g6 @hi1) ?_
   refine bM (aH @g7 @hj1) ?_
   exact hN (j-1+1-(i+1)) _ _ _ _ (by omega) Gh.refl ⟨swp q i j,i+1,j-1,hq.trans (.swp (by omega) (by omega) (by omega) (by omega) (by omega)),by omega,by omega,by omega,rfl,ah,ah,ah,rfl⟩
  ·refine hX _ _ ?_
   refine pJ ?_
   refine aV ?_
   exact hK q hq
theorem ado {p:List Int} {K:Value→BH→Prop} (hpl:p.length≤1000) (hK:K (.tuple ⟨[]⟩) [some (p.reverse.map I)]):
  aF false Ya [S 0 0 p.length 1] [some (p.map I)] K:=by
 refine aG Zu ?_;simp only [lF,aB]
 refine aC ?_
 refine tH ?_
 refine aW (fun m f H'=> ∃(q:List Int) (i:Nat) (j:Int),q.length=p.length∧j=(p.length:Int)-1-i∧2*(i:Int)≤p.length+1∧(∀x,x<p.length→el q x=if x<i∨p.length≤x+i then el p (p.length-1-x) else el p x)∧m=p.length-i∧f 0=S 0 0 p.length 1∧f 2=I i∧f 3=I j∧H'=[some (q.map I)]) (p.length) ?_ ?_
 ·refine ⟨_,_,Gh.refl,p,0,(p.length:Int)-1,rfl,by omega,by omega,fun x hx=>?_,rfl,ah,ah,ah,rfl⟩
  rw [if_neg (by omega)]
 ·rintro m f H' R ⟨q,i,j,bD,hj,h2,hq,rfl,g0,g2,g3,rfl⟩ hN hX hR hE
  simp only [lF.l0,aB]
  refine aA (aH @g2 @g3) ?_
  refine bI ((i:Int)<j) (fun hc=>?_) fun hc=>?_
  ·obtain ⟨k,rfl⟩: ∃k:Nat,j=k:=⟨j.toNat,by omega⟩
   have kX:(q.set i (el q k)).length=p.length:=by simp [bD]
   have hsw:(q.set i (el q k)).set k (el q i)=swp q i k:=rfl
   refine dD ?_
   refine aA (iy @g0 @g2 @g3 @bD @kX) ?_
   rw [hsw]
   refine bM (aH @g2 @g3) ?_
   refine hN (p.length-(i+1)) _ _ _ _ (by omega) Gh.refl ⟨swp q i k,i+1,(k:Int)-1,by rw [O6,bD],by omega,by omega,fun x hx=>?_,rfl,ah,ah,ah,rfl⟩
   rw [kZ (by omega) (by omega)]
   split
   ·rw [hq i (by omega),if_neg (by omega),if_pos (by omega)]
    congr 1
    omega
   ·split
    ·rw [hq k (by omega),if_neg (by omega),if_pos (by omega)]
     congr 1
     omega
    ·rw [hq x hx]
     by_cases hc2:x<i∨p.length≤x+i
     ·rw [if_pos hc2,if_pos (by omega)]
     ·rw [if_neg hc2,if_neg (by omega)]
  ·refine hX _ _ ?_
   refine pJ ?_
   refine aV ?_
   have:q=p.reverse:=WX (by simp [bD]) fun x hx=>by
    have e:el p.reverse x=el p (p.length-1-x):=by
     simp only [el,List.getD]
     rw [List.getElem?_reverse (by omega)]
    rw [e,hq x (by omega)]
    split
    ·rfl
    ·congr 1
     omega
   rw [this]
   exact hK
theorem vU {v:Value}:getN none [v] 0=some v:=rfl
theorem adL {H:BH} {b:Nat} {v:Value} {k:IntKind} {n:Int}:dV (some [v]) H b 0 1 (.int k n)=some (undef,H.set b (some [.int k n])):=rfl
theorem G6 {p:List Int} {a b:Nat} {s:Nat} {K:Value→BH→Prop} (hpl:p.length≤1000) (ha:a<p.length) (hb:b<p.length) (hs:s≤1000)
  (hK: ∀(x y s':Nat),(x=a∧y=b)∨(x=b∧y=a)→s'≤s+1→K (.tuple ⟨[I x,I y]⟩) [some (p.map I),some [I s']]):
  aF false Yo [S 0 0 p.length 1,I a,I b,P 1 0] [some (p.map I),some [I s]] K:=by
 have hs1:(s:Int)+1=((s+1:Nat):Int):=by omega
 refine aG ZJ ?_;simp only [lU,aB]
 refine aC ?_
 refine eP fun Kr hKr=>?_
 refine o8 ?_
 refine aS ?_
 refine aO hKr ?_
 refine bI (el p b<el p a) (fun hc=>?_) fun hc=>?_
 ·refine aA (bP @vU @adL @hs1) ?_
  refine aC ?_
  refine aV ?_
  exact hK b a (s+1) (.inr ⟨rfl,rfl⟩) (by omega)
 ·refine aC ?_
  refine aV ?_
  exact hK a b s (.inl ⟨rfl,rfl⟩) (by omega)
theorem adM {p:List Int} {a b c:Nat} {s:Nat} {K:Value→BH→Prop} (hpl:p.length≤1000) (ha:a<p.length) (hb:b<p.length) (hc:c<p.length) (hs:s≤900)
  (hK: ∀(x s':Nat),x=a∨x=b∨x=c→s'≤s+3→K (I x) [some (p.map I),some [I s']]):
  aF false Yn [S 0 0 p.length 1,I a,I b,I c,P 1 0] [some (p.map I),some [I s]] K:=by
 refine aG ZI ?_;simp only [lS,aB]
 refine aC ?_
 refine eP fun Kr hKr=>?_
 refine G6 hpl ha hb (by omega) ?_
 intro a1 b1 s1 h1 hs1
 have ha1:a1<p.length:=by omega
 have hb1:b1<p.length:=by omega
 refine aS ?_
 refine aO hKr ?_
 refine eP fun Kr hKr=>?_
 refine G6 hpl hb1 hc (by omega) ?_
 intro b2 c2 s2 h2 hs2
 have hb2:b2<p.length:=by omega
 refine aS ?_
 refine aO hKr ?_
 refine eP fun Kr hKr=>?_
 refine G6 hpl ha1 hb2 (by omega) ?_
 intro a3 b3 s3 h3 hs3
 refine aS ?_
 refine aO hKr ?_
 refine aC ?_
 refine aV ?_
 exact hK b3 s3 (by omega) (by omega)
theorem adf {p:List Int} {a b:Nat} {K:Value→BH→Prop} (hpl:p.length≤1000) (hb:b≤p.length) (h8:a+8≤b) (h50:b<a+50)
  (hK: ∀(x:Nat) (h:Int),a≤x→x<b→K (.tuple ⟨[I x,I h]⟩) [some (p.map I)]):
  aF false Yh [S 0 0 p.length 1,I a,I b] [some (p.map I)] K:=by
 obtain ⟨l,hl⟩: ∃l,l=b-a:=⟨_,rfl⟩
 have hbl:(b:Int)-(a:Int)=(l:Int):=by omega
 have hd:(l:Int).tdiv 4=((l/4:Nat):Int):=(Int.ofNat_tdiv l 4).symm
 obtain ⟨q,hq⟩: ∃q,q=l/4:=⟨_,rfl⟩
 rw [←hq] at hd
 have e1:(a:Int)+(q:Int)*1=((a+q:Nat):Int):=by omega
 have e2:(a:Int)+(q:Int)*2=((a+q*2:Nat):Int):=by omega
 have e3:(a:Int)+(q:Int)*3=((a+q*3:Nat):Int):=by omega
 have e4:(q:Int)*1=q:=by omega
 have e5:(a:Int)+(q:Int)=((a+q:Nat):Int):=by omega
 refine aG ZB ?_;simp only [dU,aB]
 refine aC ?_
 refine aA @hbl ?_
 refine aC ?_
 refine aA (dh @hd @e1 @e4 @e5) ?_
 refine aA (aH @hd @e2) ?_
 refine aA (aH @hd @e3) ?_
 refine aC ?_
 refine jy ?_
 refine aC ?_
 refine bV ?_
 refine eP fun Kr hKr=>?_
 refine adM (s:=0) hpl (by omega) (by omega) (by omega) (by omega) ?_
 intro x s' hx hs'
 refine aS ?_
 refine aO hKr ?_
 refine aA @vU ?_
 refine dD ?_
 refine aC ?_
 refine GK (s'=0) (fun hc=>?_) fun hc=>?_
 ·refine aC ?_
  refine bZ (by simp (disch:=omega) only [RA,↓reduceIte,Nat.reduceEqDiff,RD,resAll,resOf];rfl) (aY.nrm [0] rfl rfl (by simp only [RH]) (by simp only [tup,RH])) ?_;simp only [tup]
  exact hK x 1 (by omega) (by omega)
 ·refine aC ?_
  refine jX (t:=false) (by simp (disch:=omega) only [RA,↓reduceIte,Nat.reduceEqDiff,RD]) ?_;(try simp only [RN,reduceIte]);try refine aj rfl ?_
  refine aC ?_
  refine bZ (by simp (disch:=omega) only [RA,↓reduceIte,Nat.reduceEqDiff,RD,resAll,resOf];rfl) (aY.nrm [0] rfl rfl (by simp only [RH]) (by simp only [tup,RH])) ?_;simp only [tup]
  exact hK x 0 (by omega) (by omega)
theorem adh {p:List Int} {a b:Nat} {K:Value→BH→Prop} (hpl:p.length≤1000) (hb:b≤p.length) (hab:a<b) (h50:b<a+50) (hK: ∀r,(r=true→l7 a b p)→K (.bool r) [some (p.map I)]):
  aF false Yj [S 0 0 p.length 1,I a,I b] [some (p.map I)] K:=by
 have ha1:(a:Int)+1=((a+1:Nat):Int):=by omega
 have hl1:(b:Int)-(a:Int)=((b-a:Nat):Int):=by omega
 refine aG ZE ?_;simp only [bC,aB]
 refine aC ?_
 refine aA @ha1 ?_
 refine aC ?_
 refine aW (fun m f H'=>m=1∧f 0=S 0 0 p.length 1∧f 1=I a∧f 2=I b∧f 7=I (a+1:Nat)∧f 8=I 0∧H'=[some (p.map I)]) (1) ?_ ?_
 ·exact ⟨_,_,Gh.refl,rfl,ah,ah,ah,ah,ah,rfl⟩
 ·rintro m f H' R ⟨rfl,g0,g1,g2,g7,g8,rfl⟩ hN hX hR hE
  simp only [bC.l3,aB]
  refine aA @g8 ?_
  refine jy ?_
  refine dD ?_
  refine tY (fun m f H'=> ∃i:Nat,a+1≤i∧i≤b∧l7 a i p∧m=b-i∧f 0=S 0 0 p.length 1∧f 1=I a∧f 2=I b∧f 7=I i∧H'=[some (p.map I)]) (fun f H'=> ∃i:Nat,a+1≤i∧i≤b∧l7 a i p∧f 0=S 0 0 p.length 1∧f 1=I a∧f 2=I b∧f 7=I i∧H'=[some (p.map I)]) (b-(a+1)) ?_ ?_ ?_
  ·exact ⟨_,_,Gh.refl,a+1,by omega,by omega, .one,rfl,ah,ah,ah,ah,rfl⟩
  ·clear g0 g1 g2 g7 g8
   rintro m f H' R2 ⟨i,hi1,hi2,hs,rfl,g0,g1,g2,g7,rfl⟩ iT hX2 hR2
   simp only [bC.l0,aB]
   by_cases hib:i<b
   ·have adN:(i:Int)-1=((i-1:Nat):Int):=by omega
    have adO:(i:Int)+1=((i+1:Nat):Int):=by omega
    refine dF (iy @g0 @g2 @g7 @hib @adN) fun Kr hKr=>?_
    refine o8 ?_
    refine aS ?_
    refine aO hKr ?_
    refine bI (¬el p i<el p (i-1)) (fun hc=>?_) fun hc=>?_
    ·refine dD ?_
     refine bM (aH @g7 @adO) ?_
     refine iT (b-(i+1)) _ _ _ _ (by omega) Gh.refl ⟨i+1,by omega,by omega,fun x y h1 h2 h3=>?_,rfl,ah,ah,ah,ah,rfl⟩
     rcases Nat.lt_or_ge y i with h|h
     ·exact hs x y h1 h2 h
     ·obtain rfl:y=i:=by omega
      rcases Nat.lt_or_ge x y with h'|h'
      ·exact Int.le_trans (hs x (y-1) h1 (by omega) (by omega)) (by omega)
      ·obtain rfl:x=y:=by omega
       exact Int.le_refl _
    ·exact hX2 _ _ ⟨i,by omega,by omega,hs,ah,ah,ah,ah,rfl⟩
   ·refine aA (bP @g2 @g7 @hib) ?_
    refine bV ?_
    exact hX2 _ _ ⟨i,by omega,by omega,hs,ah,ah,ah,ah,rfl⟩
  ·clear g0 g1 g2 g7 g8
   rintro f H' ⟨i,hi1,hi2,hs,g0,g1,g2,g7,rfl⟩
   refine jQ ?_
   refine aA (aH @g2 @g7) ?_
   refine bI (i=b) (fun hc=>?_) fun hc=>?_
   ·refine aC ?_
    refine hR _ _ ?_
    refine aV ?_
    subst hc
    exact hK true fun _=>hs
   ·refine aA (bP @g1 @g2 @hl1) ?_
    refine jy ?_
    refine aC ?_
    refine hR _ _ ?_
    refine aV ?_
    exact hK false fun h=>by cases h
end Go.Bm
