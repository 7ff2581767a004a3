/- Dp0, Dp1, Dp2, Dp3, Dp4, DpCa, DpCc, DpCd -/
import Derived.Test.YtkapkmjofpoebaaGreatBmS
set_option linter.unusedVariables false
set_option linter.unusedSimpArgs false
namespace Go.Bm
open Go Go.Am
structure By (m:Nat) (p:List Nat):Prop where
 len:p.length=m
 lt: ∀i,nl p i<256
theorem By.mem {m:Nat} {p:List Nat} (h:By m p): ∀x∈p,x<256:=fun x hx=>by
 obtain ⟨i,hi,rfl⟩:=List.mem_iff_getElem.1 hx
 have:=h.lt i
 simpa [nl,List.getD,hi] using this
theorem rW {p:List Nat} {i x j:Nat}:nl (p.set i x) j=if j=i∧i<p.length then x else nl p j:=by
 unfold nl
 simp only [List.getD]
 by_cases h:i=j
 ·subst h
  by_cases hi:i<p.length
  ·simp [hi]
  ·simp [List.getElem?_eq_none (by omega:p.length≤i),hi]
 ·rw [List.getElem?_set_ne h,if_neg (fun e=>h e.1.symm)]
theorem y7 {p:List Bool} {i:Nat} {x:Bool} {j:Nat}:bl (p.set i x) j=if j=i∧i<p.length then x else bl p j:=by
 unfold bl
 simp only [List.getD]
 by_cases h:i=j
 ·subst h
  by_cases hi:i<p.length
  ·simp [hi]
  ·simp [List.getElem?_eq_none (by omega:p.length≤i),hi]
 ·rw [List.getElem?_set_ne h,if_neg (fun e=>h e.1.symm)]
theorem xk {n m i:Nat}:nl (List.replicate n m) i=if i<n then m else 0:=by
 unfold nl
 simp only [List.getD,List.getElem?_replicate]
 split<;>rfl
theorem J6 {n i:Nat}:bl (List.replicate n false) i=false:=by
 unfold bl
 simp only [List.getD,List.getElem?_replicate]
 split<;>rfl
theorem VY {p:List Nat} {i:Nat} (h:p.length≤i):nl p i=0:=by simp [nl,List.getD,List.getElem?_eq_none h]
theorem By.set {m:Nat} {p:List Nat} (h:By m p) {i x:Nat} (hx:x<256):By m (p.set i x):=⟨by simp [h.len],fun j=>by rw [rW];split;exact hx;exact h.lt j⟩
theorem By.rep {m:Nat}:By m (List.replicate m 0):=⟨by simp,fun i=>by rw [xk];split<;>omega⟩
theorem vU {x:Bool} {a b c:Int} {H:BH} {K:Value→BH→Prop} (hK:K (.bool (decide (b≤a∧a≤c))) H):aJ x Uj [I a,I b,I c] H K:=by
 refine dw (by simp only [RH]) ?_
 refine bf UC ?_;simp only [wM,aG]
 refine aB ?_
 by_cases h:b≤a
 ·refine au @h ?_
  refine lD @h ?_
  exact ⟨NN.bool,by simpa [h] using hK⟩
 ·refine au @h ?_
  refine lD @h ?_
  exact ⟨NN.bool,by simpa [h] using hK⟩
theorem alx {x:Bool} {a:Int} {H:BH} {K:Value→BH→Prop} (hK:K (.bool (decide (1≤a∧a≤16))) H):aJ x ae8 [I a] H K:=by
 refine dw (by simp only [RH]) ?_
 refine bf agU ?_;simp only [yF,aG]
 refine aB ?_
 by_cases h:1≤a
 ·refine au @h ?_
  refine lD @h ?_
  exact ⟨NN.bool,by simpa [h] using hK⟩
 ·refine au @h ?_
  refine lD @h ?_
  exact ⟨NN.bool,by simpa [h] using hK⟩
def Perm (p:List Nat) (n:Int):Prop:=(1≤n∧n≤16)∧ ∀i:Nat,i<16→((n≤(i:Int)→nl p i=0)∧((i:Int)<n→(nl p i:Int)<n∧ ∀j,j<i→nl p j≠nl p i))
instance (p:List Nat) (n:Int):Decidable (Perm p n):=by unfold Perm;infer_instance
def PermAt (p:List Nat) (n:Int) (i:Nat):Prop:=(n≤(i:Int)→nl p i=0)∧((i:Int)<n→(nl p i:Int)<n∧ ∀j,j<i→nl p j≠nl p i)
def Met (p:List Nat) (n:Int) (k:Nat) (s:List Bool):Prop:=s.length=16∧ ∀x,bl s x=true↔ ∃i,i<k∧(i:Int)<n∧nl p i=x
theorem Met.zero {p:List Nat} {n:Int}:Met p n 0 (List.replicate 16 false):=⟨by simp,fun x=>by rw [J6];simp⟩
theorem Met.next {p:List Nat} {n:Int} {k:Nat} {s:List Bool} (h:Met p n k s) (hk:(k:Int)<n) (hx:nl p k<16):Met p n (k+1) (s.set (nl p k) true):=⟨by simp [h.1],fun x=>by
 rw [y7]
 by_cases e:x=nl p k
 ·subst e
  rw [if_pos ⟨rfl,by rw [h.1];exact hx⟩]
  exact ⟨fun _=>⟨k,by omega,hk,rfl⟩,fun _=>rfl⟩
 ·rw [if_neg (fun h=>e h.1),h.2]
  exact ⟨fun ⟨i,h1,h2,h3⟩=>⟨i,by omega,h2,h3⟩,fun ⟨i,h1,h2,h3⟩=>⟨i,by
   rcases Nat.lt_or_ge i k with q|q
   ·exact q
   ·obtain rfl:i=k:=by omega
    exact absurd h3.symm e,h2,h3⟩⟩⟩
theorem Met.skip {p:List Nat} {n:Int} {k:Nat} {s:List Bool} (h:Met p n k s) (hk: ¬(k:Int)<n):Met p n (k+1) s:=⟨h.1,fun x=>by
 rw [h.2]
 exact ⟨fun ⟨i,h1,h2,h3⟩=>⟨i,by omega,h2,h3⟩,fun ⟨i,h1,h2,h3⟩=>⟨i,by
  rcases Nat.lt_or_ge i k with q|q
  ·exact q
  ·obtain rfl:i=k:=by omega
   exact absurd h2 hk,h2,h3⟩⟩⟩
theorem Pj {x:Bool} {p:List Nat} {n:Int} {H:BH} {K:Value→BH→Prop} (hp:By 16 p) (hK:K (.bool (decide (Perm p n))) H):aJ x aeR [PL p,I n] H K:=by
 have hlen:=hp.len
 refine dw (by simp only [RH]) ?_
 refine bf agx ?_;simp only [iD,aG]
 refine aB ?_
 refine dB fun Kr hKr=>?_
 refine alx ?_
 refine aO ?_
 refine aI hKr ?_
 refine aV (¬(1≤n∧n≤16)) (fun hc=>?_) fun hc=>?_
 ·refine aB ?_
  refine aU ?_
  exact ⟨NN.bool,by simpa [Perm,hc] using hK⟩
 have hc':1≤n∧n≤16:=by omega
 refine aB ?_
 refine aB ?_
 refine bM (fun m f H'=> ∃k s,k≤16∧m=16-k∧Met p n k s∧(∀i,i<k→PermAt p n i)∧f 1=I n∧f 5=P 1 0∧f 12=PL p∧f 13=I k∧H'=[some (p.map N8),some (s.map B)]) (16) ?_ ?_
 ·refine ⟨_,_,Gh.refl,0,List.replicate 16 false,by omega,by omega,Met.zero,by omega,by simp [RA,↓reduceIte,Nat.reduceEqDiff],by simp [RA,↓reduceIte,Nat.reduceEqDiff],by simp [RA,↓reduceIte,Nat.reduceEqDiff],by simp [RA,↓reduceIte,Nat.reduceEqDiff],by simp [RA,↓reduceIte,Nat.reduceEqDiff]⟩
 ·rintro m f H' R ⟨k,s,hk,rfl,hm,hat,h1,h5,h12,h13,rfl⟩ hN hX hR hE
  simp only [iD.l0,aG]
  refine au @h13 ?_
  refine aV (k<16) (fun hc=>?_) fun hc=>?_
  ·have hlt:=hp.lt k
   have hnext: ∀f' s',f' 1=I n→f' 5=P 1 0→f' 12=PL p→f' 13=I k→Met p n (k+1) s'→PermAt p n k→T 0 iD.r13 R f' [some (p.map N8),some (s'.map B)]:=by
    intro f' s' h1 h5 h12 h13 hm' hat'
    refine bI @h13 ?_
    refine hN (16-(k+1)) _ _ _ _ (by omega) Gh.refl ⟨k+1,s',by omega,rfl,hm',fun i hi=>?_,by simp [RA,↓reduceIte,Nat.reduceEqDiff,h1],by simp [RA,↓reduceIte,Nat.reduceEqDiff,h5],by simp [RA,↓reduceIte,Nat.reduceEqDiff,h12],by simp [RA,↓reduceIte,Nat.reduceEqDiff],rfl⟩
    rcases Nat.lt_or_ge i k with h|h
    ·exact hat i h
    ·obtain rfl:i=k:=by omega
     exact hat'
   refine yY ?_
   refine au (aX @h12 @h13 @hlen) ?_
   refine au @h1 ?_
   refine aV (n≤k) (fun hc=>?_) fun hc=>?_
   ·refine aB ?_
    refine aV (nl p k≠0) (fun hc=>?_) fun hc=>?_
    ·refine aB ?_
     refine hR _ _ ?_
     refine aU ?_
     refine ⟨NN.bool,?_⟩
     have: ¬Perm p n:=fun h=>hc ((h.2 k (by omega)).1 (by omega))
     simpa [this] using hK
    ·refine iE ?_
     refine lq ?_
     exact hnext _ s (by simp [RA,↓reduceIte,Nat.reduceEqDiff,h1]) (by simp [RA,↓reduceIte,Nat.reduceEqDiff,h5]) (by simp [RA,↓reduceIte,Nat.reduceEqDiff,h12]) (by simp [RA,↓reduceIte,Nat.reduceEqDiff,h13]) (hm.skip (by omega)) ⟨fun _=>by omega,fun h=>by omega⟩
   ·by_cases hb:n≤nl p k
    ·refine au (aC @h1 @hb) ?_
     refine dI ?_
     refine aB ?_
     refine hR _ _ ?_
     refine aU ?_
     refine ⟨NN.bool,?_⟩
     have: ¬Perm p n:=fun h=>by have:=((h.2 k (by omega)).2 (by omega)).1;omega
     simpa [this] using hK
    ·have hsl:=hm.1
     refine au (bG @h1 @h5 @hb @hsl) ?_
     refine aV (bl s (nl p k)=true) (fun hc=>?_) fun hc=>?_
     ·refine aB ?_
      refine hR _ _ ?_
      refine aU ?_
      refine ⟨NN.bool,?_⟩
      obtain ⟨i,hi1,hi2,hi3⟩:=(hm.2 _).1 hc
      have: ¬Perm p n:=fun h=>((h.2 k (by omega)).2 (by omega)).2 i hi1 hi3
      simpa [this] using hK
     ·refine bI (aC @h5 @hsl) ?_
      refine lq ?_
      refine hnext _ (s.set (nl p k) true) (by simp [RA,↓reduceIte,Nat.reduceEqDiff,h1]) (by simp [RA,↓reduceIte,Nat.reduceEqDiff,h5]) (by simp [RA,↓reduceIte,Nat.reduceEqDiff,h12]) (by simp [RA,↓reduceIte,Nat.reduceEqDiff,h13]) (hm.next (by omega) (by omega)) ⟨fun h=>by omega,fun _=>⟨by omega,fun j hj e=>hc ((hm.2 _).2 ⟨j,hj,by omega,e⟩)⟩⟩
  ·refine hX _ _ ?_
   refine aB ?_
   refine aU ?_
   refine ⟨NN.bool,?_⟩
   have:Perm p n:=⟨hc',fun i hi=>hat i (by omega)⟩
   simpa [this] using hK
end Go.Bm
namespace Go.Bm
open Go Go.Am
theorem ZP {x:Bool} {p:List Nat} {n:Int} {H:BH} {K:Value→BH→Prop} (hp:By 16 p) (hK:K (.bool (decide (Perm p n))) H):aJ x ae3 [PL p,I n] H K:=by
 have hlen:=hp.len
 refine dw (by simp only [RH]) ?_
 refine bf agP ?_;simp only [iR,aG]
 refine aB ?_
 refine dB fun Kr hKr=>?_
 refine vU ?_
 refine aO ?_
 refine aI hKr ?_
 refine aV (¬(1≤n∧n≤16)) (fun hc=>?_) fun hc=>?_
 ·refine aB ?_
  refine aU ?_
  exact ⟨NN.bool,by simpa [Perm,hc] using hK⟩
 have hc':1≤n∧n≤16:=by omega
 refine aB ?_
 refine aB ?_
 refine bM (fun m f H'=> ∃k s,k≤16∧m=16-k∧Met p n k s∧(∀i,i<k→PermAt p n i)∧f 1=I n∧f 2=P 0 0∧f 5=P 1 0∧f 6=I k∧H'=[some (p.map N8),some (s.map B)]) (16) ?_ ?_
 ·refine ⟨_,_,Gh.refl,0,List.replicate 16 false,by omega,by omega,Met.zero,by omega,by simp [RA,↓reduceIte,Nat.reduceEqDiff],by simp [RA,↓reduceIte,Nat.reduceEqDiff],by simp [RA,↓reduceIte,Nat.reduceEqDiff],by simp [RA,↓reduceIte,Nat.reduceEqDiff],by simp [RA,↓reduceIte,Nat.reduceEqDiff]⟩
 ·rintro m f H' R ⟨k,s,hk,rfl,hm,hat,h1,h2,h5,h6,rfl⟩ hN hX hR hE
  simp only [iR.l0,aG]
  refine au @h6 ?_
  refine aV (k<16) (fun hc=>?_) fun hc=>?_
  ·have hlt:=hp.lt k
   have hsl:=hm.1
   have hnext: ∀f' s',f' 1=I n→f' 2=P 0 0→f' 5=P 1 0→f' 6=I k→Met p n (k+1) s'→PermAt p n k→T 0 iR.r6 R f' [some (p.map N8),some (s'.map B)]:=by
    intro f' s' h1 h2 h5 h6 hm' hat'
    refine bI @h6 ?_
    refine hN (16-(k+1)) _ _ _ _ (by omega) Gh.refl ⟨k+1,s',by omega,rfl,hm',fun i hi=>?_,by simp [RA,↓reduceIte,Nat.reduceEqDiff,h1],by simp [RA,↓reduceIte,Nat.reduceEqDiff,h2],by simp [RA,↓reduceIte,Nat.reduceEqDiff,h5],by simp [RA,↓reduceIte,Nat.reduceEqDiff],rfl⟩
    rcases Nat.lt_or_ge i k with h|h
    ·exact hat i h
    ·obtain rfl:i=k:=by omega
     exact hat'
   refine bK ?_
   refine bK ?_
   refine au (aC @h1 @h6) ?_
   refine aV (n≤k) (fun hc=>?_) fun hc=>?_
   ·refine au (aX @h2 @h6 @hlen) ?_
    refine aV (nl p k≠0) (fun hc=>?_) fun hc=>?_
    ·refine aB ?_
     refine hR _ _ ?_
     refine aU ?_
     refine ⟨NN.bool,?_⟩
     have: ¬Perm p n:=fun h=>hc ((h.2 k (by omega)).1 (by omega))
     simpa [this] using hK
    ·refine iE ?_
     exact hnext _ s (by simp [RA,↓reduceIte,Nat.reduceEqDiff,h1]) (by simp [RA,↓reduceIte,Nat.reduceEqDiff,h2]) (by simp [RA,↓reduceIte,Nat.reduceEqDiff,h5]) (by simp [RA,↓reduceIte,Nat.reduceEqDiff,h6]) (hm.skip (by omega)) ⟨fun _=>by omega,fun h=>by omega⟩
   ·by_cases hb:n≤nl p k
    ·refine au (jk @h1 @h2 @h6 @hb @hlen) ?_
     refine dI ?_
     refine aB ?_
     refine hR _ _ ?_
     refine aU ?_
     refine ⟨NN.bool,?_⟩
     have: ¬Perm p n:=fun h=>by have:=((h.2 k (by omega)).2 (by omega)).1;omega
     simpa [this] using hK
    ·refine au (bG (bG @h1 @h2 @h5 @h6) @hb @hsl @hlen) ?_
     refine aV (bl s (nl p k)=true) (fun hc=>?_) fun hc=>?_
     ·refine aB ?_
      refine hR _ _ ?_
      refine aU ?_
      refine ⟨NN.bool,?_⟩
      obtain ⟨i,hi1,hi2,hi3⟩:=(hm.2 _).1 hc
      have: ¬Perm p n:=fun h=>((h.2 k (by omega)).2 (by omega)).2 i hi1 hi3
      simpa [this] using hK
     ·refine au (jk @h2 @h5 @h6 @hsl @hlen) ?_
      refine hnext _ (s.set (nl p k) true) (by simp [RA,↓reduceIte,Nat.reduceEqDiff,h1]) (by simp [RA,↓reduceIte,Nat.reduceEqDiff,h2]) (by simp [RA,↓reduceIte,Nat.reduceEqDiff,h5]) (by simp [RA,↓reduceIte,Nat.reduceEqDiff,h6]) (hm.next (by omega) (by omega)) ⟨fun h=>by omega,fun _=>⟨by omega,fun j hj e=>hc ((hm.2 _).2 ⟨j,hj,by omega,e⟩)⟩⟩
  ·refine hX _ _ ?_
   refine aB ?_
   refine aU ?_
   refine ⟨NN.bool,?_⟩
   have:Perm p n:=⟨hc',fun i hi=>hat i (by omega)⟩
   simpa [this] using hK
theorem Perm.lt {p:List Nat} {n:Nat} (h:Perm p n) {i:Nat} (hi:i<n):nl p i<n:=by have:=((h.2 i (by have:=h.1;omega)).2 (by omega)).1;omega
theorem Perm.qM {p:List Nat} {n:Nat} (h:Perm p n) (hl:p.length=16) (i:Nat):nl p i<16:=by
 have h1:=h.1
 rcases Nat.lt_or_ge i n with hi|hi
 ·have:=h.lt hi;omega
 ·rcases Nat.lt_or_ge i 16 with h2|h2
  ·rw [(h.2 i h2).1 (by omega)];omega
  ·rw [VY (by omega)];omega
def nV (p q:List Nat):Nat→List Nat
 |0=>List.replicate 16 0
 |k+1=>(nV p q k).set k (nl q (nl p k))
def oH (p:List Nat):Nat→List Nat
 |0=>List.replicate 16 0
 |k+1=>(oH p k).set (nl p k) k
theorem CV {p q:List Nat} {k:Nat}:(nV p q k).length=16:=by
 induction k with
 |zero=>simp [nV]
 |succ k ih=>simp [nV,ih]
theorem Aw {p:List Nat} {k:Nat}:(oH p k).length=16:=by
 induction k with
 |zero=>simp [oH]
 |succ k ih=>simp [oH,ih]
theorem FY {p q:List Nat} {k i:Nat} (hk:k≤16):nl (nV p q k) i=if i<k then nl q (nl p i) else 0:=by
 induction k with
 |zero=>simp only [nV,xk];split<;>simp
 |succ k ih=>
  simp only [nV,rW,CV]
  rw [ih (by omega)]
  by_cases h:i=k
  ·subst h;simp [show i<16 by omega]
  ·simp only [h,false_and,if_false]
   split<;>split<;>first|rfl|omega
theorem ZQ {p q:List Nat} {k:Nat} (hq:By 16 q) (hk:k≤16):By 16 (nV p q k):=⟨CV,fun i=>by rw [FY hk];split;exact hq.lt _;omega⟩
theorem aly {p:List Nat} {k:Nat} (hk:k≤16):By 16 (oH p k):=by
 induction k with
 |zero=>exact By.rep
 |succ k ih=>exact (ih (by omega)).set (by omega)
theorem alz {x:Bool} {p q:List Nat} {n:Nat} {H:BH} {K:Value→BH→Prop} (hp:By 16 p) (hq:By 16 q) (hn:n≤16) (uS: ∀i,nl p i<16) (hK:K (PL (nV p q n)) H):aJ x afq [PL p,PL q,I n] H K:=by
 have hlen:=hp.len
 have hlen':=hq.len
 refine dw (by simp only [RH]) ?_
 refine bf ahh ?_;simp only [mY,aG]
 refine aB ?_
 refine aB ?_
 refine aB ?_
 refine bM (fun m f H'=> ∃k,k≤n∧m=n-k∧f 2=I n∧f 3=P 0 0∧f 4=P 1 0∧f 6=P 2 0∧f 7=P 3 0∧f 8=I k∧H'=[some (p.map N8),some (q.map N8),some (List.replicate 16 (.int .u8 0)),some ((nV p q k).map N8)]) (n) ?_ ?_
 ·refine ⟨_,_,Gh.refl,0,by omega,by omega,by simp [RA,↓reduceIte,Nat.reduceEqDiff],by simp [RA,↓reduceIte,Nat.reduceEqDiff],by simp [RA,↓reduceIte,Nat.reduceEqDiff],by simp [RA,↓reduceIte,Nat.reduceEqDiff],by simp [RA,↓reduceIte,Nat.reduceEqDiff],by simp [RA,↓reduceIte,Nat.reduceEqDiff],by simp [RA,↓reduceIte,Nat.reduceEqDiff,nV]⟩
 ·rintro m f H' R ⟨k,hk,rfl,h2,h3,h4,h6,h7,h8,rfl⟩ hN hX hR hE
  simp only [mY.l0,aG]
  refine au (aC @h2 @h8) ?_
  refine aV (k<n) (fun hc=>?_) fun hc=>?_
  ·have hlk:= @CV p q k
   have hpk:=uS k
   refine bK ?_
   refine au (bG (bG @h3 @h4 @h7 @h8) @hlen @hlen' @hlk) ?_
   refine bI @h8 ?_
   refine hN (n-(k+1)) _ _ _ _ (by omega) Gh.refl ⟨k+1,by omega,rfl,by simp [RA,↓reduceIte,Nat.reduceEqDiff,h2],by simp [RA,↓reduceIte,Nat.reduceEqDiff,h3],by simp [RA,↓reduceIte,Nat.reduceEqDiff,h4],by simp [RA,↓reduceIte,Nat.reduceEqDiff,h6],by simp [RA,↓reduceIte,Nat.reduceEqDiff,h7],by simp [RA,↓reduceIte,Nat.reduceEqDiff],rfl⟩
  ·refine hX _ _ ?_
   obtain rfl:k=n:=by omega
   have hlk:= @CV p q k
   refine au (aX @h6 @h7 @hlk) ?_
   refine lD (aC @h6 @hlk) ?_
   exact ⟨oG (by (simp only [RH])),hK⟩
theorem alA {x:Bool} {p q:List Nat} {n:Nat} {H:BH} {K:Value→BH→Prop} (hp:By 16 p) (hq:By 16 q) (hn:n≤16) (uS: ∀i,nl p i<16) (hK:K (PL (nV p q n)) H):aJ x afc [PL p,PL q,I n] H K:=by
 have hlen:=hp.len
 have hlen':=hq.len
 refine dw (by simp only [RH]) ?_
 refine bf ag1 ?_;simp only [lT,aG]
 refine aB ?_
 refine aB ?_
 refine aB ?_
 refine bM (fun m f H'=> ∃k,k≤n∧m=n-k∧f 10=I n∧f 3=P 0 0∧f 4=P 1 0∧f 6=P 2 0∧f 7=P 3 0∧f 11=I k∧H'=[some (p.map N8),some (q.map N8),some (List.replicate 16 (.int .u8 0)),some ((nV p q k).map N8)]) (n) ?_ ?_
 ·refine ⟨_,_,Gh.refl,0,by omega,by omega,by simp [RA,↓reduceIte,Nat.reduceEqDiff],by simp [RA,↓reduceIte,Nat.reduceEqDiff],by simp [RA,↓reduceIte,Nat.reduceEqDiff],by simp [RA,↓reduceIte,Nat.reduceEqDiff],by simp [RA,↓reduceIte,Nat.reduceEqDiff],by simp [RA,↓reduceIte,Nat.reduceEqDiff],by simp [RA,↓reduceIte,Nat.reduceEqDiff,nV]⟩
 ·rintro m f H' R ⟨k,hk,rfl,h2,h3,h4,h6,h7,h8,rfl⟩ hN hX hR hE
  simp only [lT.l0,aG]
  refine au (aC @h2 @h8) ?_
  refine aV (k<n) (fun hc=>?_) fun hc=>?_
  ·have hlk:= @CV p q k
   have hpk:=uS k
   refine bK ?_
   refine au @h8 ?_
   refine au (bG (bG @h3 @h4 @h7 @h8) @hlen @hlen' @hlk) ?_
   refine bI @h8 ?_
   refine hN (n-(k+1)) _ _ _ _ (by omega) Gh.refl ⟨k+1,by omega,rfl,by simp [RA,↓reduceIte,Nat.reduceEqDiff,h2],by simp [RA,↓reduceIte,Nat.reduceEqDiff,h3],by simp [RA,↓reduceIte,Nat.reduceEqDiff,h4],by simp [RA,↓reduceIte,Nat.reduceEqDiff,h6],by simp [RA,↓reduceIte,Nat.reduceEqDiff,h7],by simp [RA,↓reduceIte,Nat.reduceEqDiff],rfl⟩
  ·refine hX _ _ ?_
   obtain rfl:k=n:=by omega
   have hlk:= @CV p q k
   refine au (aX @h6 @h7 @hlk) ?_
   refine lD (aC @h6 @hlk) ?_
   exact ⟨oG (by (simp only [RH])),hK⟩
theorem alB {x:Bool} {p:List Nat} {n:Nat} {H:BH} {K:Value→BH→Prop} (hp:By 16 p) (hn:n≤16) (uS: ∀i,nl p i<16) (hK:K (PL (oH p n)) H):aJ x afp [PL p,I n] H K:=by
 have hlen:=hp.len
 refine dw (by simp only [RH]) ?_
 refine bf ahg ?_;simp only [mX,aG]
 refine aB ?_
 refine aB ?_
 refine aB ?_
 refine bM (fun m f H'=> ∃k,k≤n∧m=n-k∧f 1=I n∧f 2=P 0 0∧f 4=P 1 0∧f 5=P 2 0∧f 6=I k∧H'=[some (p.map N8),some (List.replicate 16 (.int .u8 0)),some ((oH p k).map N8)]) (n) ?_ ?_
 ·refine ⟨_,_,Gh.refl,0,by omega,by omega,by simp [RA,↓reduceIte,Nat.reduceEqDiff],by simp [RA,↓reduceIte,Nat.reduceEqDiff],by simp [RA,↓reduceIte,Nat.reduceEqDiff],by simp [RA,↓reduceIte,Nat.reduceEqDiff],by simp [RA,↓reduceIte,Nat.reduceEqDiff],by simp [RA,↓reduceIte,Nat.reduceEqDiff,oH]⟩
 ·rintro m f H' R ⟨k,hk,rfl,h1,h2,h4,h5,h6,rfl⟩ hN hX hR hE
  simp only [mX.l0,aG]
  refine au (aC @h1 @h6) ?_
  refine aV (k<n) (fun hc=>?_) fun hc=>?_
  ·have hlk:= @Aw p k
   have hpk:=uS k
   refine bK ?_
   refine au (jM @h2 @h4 @h5 @h6 @hlen @hlk) ?_
   refine bI @h6 ?_
   refine hN (n-(k+1)) _ _ _ _ (by omega) Gh.refl ⟨k+1,by omega,rfl,by simp [RA,↓reduceIte,Nat.reduceEqDiff,h1],by simp [RA,↓reduceIte,Nat.reduceEqDiff,h2],by simp [RA,↓reduceIte,Nat.reduceEqDiff,h4],by simp [RA,↓reduceIte,Nat.reduceEqDiff,h5],by simp [RA,↓reduceIte,Nat.reduceEqDiff],rfl⟩
  ·refine hX _ _ ?_
   obtain rfl:k=n:=by omega
   have hlk:= @Aw p k
   refine au (aX @h4 @h5 @hlk) ?_
   refine lD (aC @h4 @hlk) ?_
   exact ⟨oG (by (simp only [RH])),hK⟩
theorem alC {x:Bool} {p:List Nat} {n:Nat} {H:BH} {K:Value→BH→Prop} (hp:By 16 p) (hn:n≤16) (uS: ∀i,nl p i<16) (hK:K (PL (oH p n)) H):aJ x afb [PL p,I n] H K:=by
 have hlen:=hp.len
 refine dw (by simp only [RH]) ?_
 refine bf ag0 ?_;simp only [lS,aG]
 refine aB ?_
 refine aB ?_
 refine aB ?_
 refine bM (fun m f H'=> ∃k,k≤n∧m=n-k∧f 8=I n∧f 2=P 0 0∧f 4=P 1 0∧f 5=P 2 0∧f 9=I k∧H'=[some (p.map N8),some (List.replicate 16 (.int .u8 0)),some ((oH p k).map N8)]) (n) ?_ ?_
 ·refine ⟨_,_,Gh.refl,0,by omega,by omega,by simp [RA,↓reduceIte,Nat.reduceEqDiff],by simp [RA,↓reduceIte,Nat.reduceEqDiff],by simp [RA,↓reduceIte,Nat.reduceEqDiff],by simp [RA,↓reduceIte,Nat.reduceEqDiff],by simp [RA,↓reduceIte,Nat.reduceEqDiff],by simp [RA,↓reduceIte,Nat.reduceEqDiff,oH]⟩
 ·rintro m f H' R ⟨k,hk,rfl,h1,h2,h4,h5,h6,rfl⟩ hN hX hR hE
  simp only [lS.l0,aG]
  refine au (aC @h1 @h6) ?_
  refine aV (k<n) (fun hc=>?_) fun hc=>?_
  ·have hlk:= @Aw p k
   have hpk:=uS k
   refine bK ?_
   refine au @h6 ?_
   refine au (jM @h2 @h4 @h5 @h6 @hlen @hlk) ?_
   refine bI @h6 ?_
   refine hN (n-(k+1)) _ _ _ _ (by omega) Gh.refl ⟨k+1,by omega,rfl,by simp [RA,↓reduceIte,Nat.reduceEqDiff,h1],by simp [RA,↓reduceIte,Nat.reduceEqDiff,h2],by simp [RA,↓reduceIte,Nat.reduceEqDiff,h4],by simp [RA,↓reduceIte,Nat.reduceEqDiff,h5],by simp [RA,↓reduceIte,Nat.reduceEqDiff],rfl⟩
  ·refine hX _ _ ?_
   obtain rfl:k=n:=by omega
   have hlk:= @Aw p k
   refine au (aX @h4 @h5 @hlk) ?_
   refine lD (aC @h4 @hlk) ?_
   exact ⟨oG (by (simp only [RH])),hK⟩
abbrev DC (n:Int) (b w:List Nat):List Value:=I n::(b.map N8++w.map N8)
abbrev DV (n:Int) (b w:List Nat):Value:=eY (DC n b w)
theorem vV {n:Int} {b w:List Nat}:bV none (DC n b w) 0=some (I n):=rfl
theorem y8 {n:Int} {b w:List Nat} (hb:b.length=16):bV (some 16) (DC n b w) 1=some (PL b):=by
 rw [Ai (by simp [hb])]
 simp [List.take_append_of_le_length,hb]
theorem y9 {n:Int} {b w:List Nat} (hb:b.length=16) (hw:w.length=16):bV (some 16) (DC n b w) 17=some (PL w):=by
 rw [Ai (by simp [hb,hw])]
 simp [List.drop_append,hb,hw]
 rw [List.take_of_length_le (by simp [hw])]
theorem alD {n:Nat} {cs:List Value} (h:cs.length=n):bV (some n) cs 0=some (eY cs):=by
 rw [Ai (by omega),List.drop_zero,List.take_of_length_le (by omega)]
theorem alE {n:Int} {b w:List Nat} (hb:b.length=16) (hw:w.length=16):bV (some 33) (DC n b w) 0=some (DV n b w):=alD (by simp [hb,hw])
def uT (b w:List Nat) (n:Nat):List Nat:=oH (nV b w n) n
theorem ZR {p q:List Nat} {k i:Nat} (hq: ∀i,nl q i<16) (hk:k≤16):nl (nV p q k) i<16:=by rw [FY hk];split;exact hq _;omega
theorem alF {x:Bool} {b w:List Nat} {n:Nat} {H:BH} {K:Value→BH→Prop} (hb:By 16 b) (hw:By 16 w) (hn:n≤16) (hb16: ∀i,nl b i<16) (hw16: ∀i,nl w i<16) (hK:K (PL (uT b w n)) H):aJ x afj [DV n b w] H K:=by
 have hlb:=hb.len
 have cZ:=hw.len
 refine dw (by simp only [RH]) ?_
 refine bf aha ?_;simp only [yH,aG]
 refine aB ?_
 refine aY (aX @vV @y8 @y9) fun Kr hKr=>?_
 refine alz hb hw hn hb16 ?_
 refine bP @vV ?_
 refine alB (ZQ hw hn) hn (fun i=>ZR hw16 hn) ?_
 have hl:= @Aw (nV b w n) n
 refine aO ?_
 refine aI hKr ?_
 refine lD @hl ?_
 exact ⟨oG (by (simp only [RH])),hK⟩
theorem alG {x:Bool} {b w:List Nat} {n:Nat} {H:BH} {K:Value→BH→Prop} (hb:By 16 b) (hw:By 16 w) (hn:n≤16) (hb16: ∀i,nl b i<16) (hw16: ∀i,nl w i<16) (hK:K (PL (uT b w n)) H):aJ x aeV [DV n b w] H K:=by
 have hlb:=hb.len
 have cZ:=hw.len
 refine dw (by simp only [RH]) ?_
 refine bf agF ?_;simp only [yB,aG]
 refine aB ?_
 refine aY (aX @vV @y8 @y9) fun Kr hKr=>?_
 refine alA hb hw hn hb16 ?_
 refine bP @vV ?_
 refine alC (ZQ hw hn) hn (fun i=>ZR hw16 hn) ?_
 have hl:= @Aw (nV b w n) n
 refine aO ?_
 refine aI hKr ?_
 refine lD @hl ?_
 exact ⟨oG (by (simp only [RH])),hK⟩
end Go.Bm
namespace Go.Bm
open Go Go.Am
abbrev BS:=List Bool×List Nat
def visit (st:BS) (y:Nat):BS:=if bl st.1 y=true then st else (st.1.set y true,st.2++[y])
def oI (ls:List (List Nat)) (x:Nat) (st:BS):BS:=ls.foldl (fun st p=>visit st (nl p x)) st
def dX (ls:List (List Nat)) (st:BS):Nat→BS
 |0=>st
 |i+1=>if i<(dX ls st i).2.length then oI ls (nl (dX ls st i).2 i) (dX ls st i) else dX ls st i
structure Bi (m:Nat) (st:BS):Prop where
 len:st.1.length=m
 lt: ∀i,i<st.2.length→nl st.2 i<m
 cnt:st.2.length≤st.1.count true
theorem Bi.le {m:Nat} {st:BS} (h:Bi m st):st.2.length≤m:=by
 have:=List.count_le_length (a:=true) (l:=st.1)
 have:=h.cnt
 have:=h.len
 omega
theorem xq {p q:List Nat} {i:Nat}:nl (p++q) i=if i<p.length then nl p i else nl q (i-p.length):=by
 unfold nl
 simp only [List.getD]
 split
 ·rename_i h;rw [List.getElem?_append_left h]
 ·rename_i h;rw [List.getElem?_append_right (by omega)]
theorem Pm {y:Nat} {i:Nat} (h:i<1):nl [y] i=y:=by
 obtain rfl:i=0:=by omega
 rfl
theorem Pn {s:List Bool} {y:Nat} (hy:y<s.length) (h:bl s y=false):(s.set y true).count true=s.count true+1:=by
 rw [List.count_set hy]
 have:s[y]=false:=by simpa [bl,List.getD,hy] using h
 simp [this]
theorem Bi.visit {m:Nat} {st:BS} (h:Bi m st) {y:Nat} (hy:y<m):Bi m (visit st y):=by
 unfold Bm.visit
 split
 ·exact h
 ·rename_i hb
  refine ⟨by simp [h.len],fun i hi=>?_,?_⟩
  ·simp only [List.length_append,List.length_singleton] at hi
   simp only [xq]
   split
   ·exact h.lt i (by assumption)
   ·rw [Pm (by omega)];exact hy
  ·simp only [List.length_append,List.length_singleton]
   rw [Pn (by rw [h.len];exact hy) (by simpa using hb)]
   have:=h.cnt
   omega
theorem Bi.round {m:Nat} {x:Nat}: ∀{ls:List (List Nat)} {st:BS},Bi m st→(∀p∈ls,nl p x<m)→Bi m (oI ls x st)
 |[],st,h,_=>h
 |p::ls,st,h,hp=>Bi.round (ls:=ls) (h.visit (hp p (by simp))) fun q hq=>hp q (by simp [hq])
theorem Bi.dX {m:Nat} {ls:List (List Nat)} {st:BS} (h:Bi m st) (hp: ∀p∈ls,∀i,nl p i<m): ∀i,Bi m (dX ls st i)
 |0=>h
 |i+1=>by
  simp only [Bm.dX]
  split
  ·exact (Bi.dX h hp i).round fun p hq=>hp p hq _
  ·exact Bi.dX h hp i
theorem alH {st:BS} {y:Nat}: ∃q,(visit st y).2=st.2++q:=by
 unfold visit
 split
 ·exact ⟨[],by simp⟩
 ·exact ⟨[y],rfl⟩
theorem J7 {x:Nat}: ∀{ls:List (List Nat)} {st:BS},∃q,(oI ls x st).2=st.2++q
 |[],st=>⟨[],by simp [oI]⟩
 |p::ls,st=>by
  obtain ⟨q,hq⟩:= @alH st (nl p x)
  obtain ⟨q',hq'⟩:=J7 (x:=x) (ls:=ls) (st:=visit st (nl p x))
  exact ⟨q++q',by show (oI ls x (visit st (nl p x))).2=_;rw [hq',hq,List.append_assoc]⟩
theorem Po {ls:List (List Nat)} {st:BS} {i:Nat} (h:(dX ls st i).2.length≤i): ∀j,i≤j→dX ls st j=dX ls st i
 |0,hj=>by
  obtain rfl:i=0:=by omega
  rfl
 |j+1,hj=>by
  rcases Nat.lt_or_ge j i with h1|h1
  ·obtain rfl:i=j+1:=by omega
   rfl
  ·have ih:=Po h j h1
   simp only [dX]
   rw [ih,if_neg (by omega)]
theorem ZT {ls:List (List Nat)} {x j:Nat} {st:BS} (h:j<ls.length):oI (ls.take (j+1)) x st=visit (oI (ls.take j) x st) (nl (ls.getD j []) x):=by
 have:ls.take (j+1)=ls.take j++[ls.getD j []]:=by
  rw [List.take_add_one]
  simp [List.getD,h]
 rw [this]
 simp [oI,List.foldl_append]
def st0 (m:Nat):BS:=((List.replicate m false).set 0 true,[0])
theorem Bi.st0 {m:Nat} (hm:0<m):Bi m (st0 m):=⟨by simp [Bm.st0],fun i hi=>by rw [show (Bm.st0 m).2=[0] from rfl,Pm (by simpa [Bm.st0] using hi)];exact hm,by
 show 1≤_
 have:((List.replicate m false).set 0 true).count true=(List.replicate m false).count true+1:=Pn (by simpa using hm) J6
 show 1≤((List.replicate m false).set 0 true).count true
 omega⟩
def reach (b w:List Nat):BS:=dX [b,w] (st0 16) 16
theorem alI {x:Bool} {b w:List Nat} {n:Int} {H:BH} {K:Value→BH→Prop} (hb:By 16 b) (hw:By 16 w) (hb16: ∀i,nl b i<16) (hw16: ∀i,nl w i<16)
  (hK:K (.bool (decide (((reach b w).2.length:Int)=n))) H):aJ x ae4 [I n,PL b,PL w] H K:=by
 have hlb:=hb.len
 have cZ:=hw.len
 have hall: ∀p∈[b,w],∀i,nl p i<16:=by simp;exact ⟨hb16,hw16⟩
 refine dw (by simp only [RH]) ?_
 refine bf agQ ?_;simp only [iy,aG]
 refine aB ?_
 refine aB ?_
 refine au @ak5 ?_
 refine aB ?_
 refine bM (fun m f H'=> ∃i,i≤16∧m=16-i∧i≤(dX [b,w] (st0 16) i).2.length∧f 0=I n∧f 4=P 0 0∧f 5=P 1 0∧f 7=P 3 0∧f 8=S 2 0 (dX [b,w] (st0 16) i).2.length 1∧f 9=I i∧H'=[some (b.map N8),some (w.map N8),some ((dX [b,w] (st0 16) i).2.map N8),some ((dX [b,w] (st0 16) i).1.map B)]) (16) ?_ ?_
 ·refine ⟨_,_,Gh.refl,0,by omega,by omega,by omega,ah,ah,ah,ah,ah,ah,?_⟩
  simp [dX,st0]<;>rfl
 ·rintro m f H' R ⟨i,hi,rfl,hil,h0,h4,h5,h7,h8,h9,rfl⟩ hN hX hR hE
  simp only [iy.l1,aG]
  have hB:=(Bi.st0 (m:=16) (by omega)).dX hall i
  generalize hst:dX [b,w] (st0 16) i=st at hil h8 hB
  have hle:=hB.le
  have hsl:=hB.len
  refine au (aC @h8 @h9) ?_
  refine aV (i<st.2.length) (fun hc=>?_) fun hc=>?_
  ·have hx:=hB.lt i hc
   refine bK ?_
   refine au (jM @h4 @h5 @h8 @h9 @hlb @cZ) ?_
   obtain ⟨nx,J8⟩: ∃nx,nx=[nl b (nl st.2 i),nl w (nl st.2 i)]:=⟨_,rfl⟩
   have Pq:nx.length=2:=by rw [J8];rfl
   refine aB ?_
   refine bM (fun m f H'=> ∃j st',j≤2∧m=2-j∧st'=oI ([b,w].take j) (nl st.2 i) st∧f 0=I n∧f 4=P 0 0∧f 5=P 1 0∧f 7=P 3 0∧f 8=S 2 0 st'.2.length 1∧f 9=I i∧f 10=S 4 0 2 1∧f 11=I j∧H'=[some (b.map N8),some (w.map N8),some (st'.2.map N8),some (st'.1.map B),some (nx.map N8)]) (2) ?_ ?_
   ·refine ⟨_,_,Gh.refl,0,st,by omega,by omega,rfl,ah,ah,ah,ah,ah,ah,ah,ah,by rw [J8];rfl⟩
   ·clear h0 h4 h5 h7 h8 h9
    rintro m f H' R2 ⟨j,st',hj,rfl,hst',h0,h4,h5,h7,h8,h9,h10,h11,rfl⟩ iG hX2 hR2 hE2
    simp only [iy.l0,aG]
    refine au @h11 ?_
    have hB':Bi 16 st':=by rw [hst'];exact hB.round fun p hp=>hall p (List.mem_of_mem_take hp) _
    have hle':=hB'.le
    have FZ:=hB'.len
    refine aV (j<2) (fun hc=>?_) fun hc=>?_
    ·have hy:nl nx j=nl ([b,w].getD j []) (nl st.2 i):=by
      rw [J8]
      have:j=0∨j=1:=by omega
      rcases this with rfl|rfl<;>rfl
     have hyl:nl nx j<16:=by
      rw [J8]
      have:j=0∨j=1:=by omega
      rcases this with rfl|rfl
      ·exact hb16 _
      ·exact hw16 _
     have hnx:=ZT (ls:=[b,w]) (x:=nl st.2 i) (st:=st) (show j<[b,w].length from hc)
     rw [←hst',←hy] at hnx
     obtain ⟨y,Az⟩: ∃y,nl nx j=y:=⟨_,rfl⟩
     rw [Az] at hyl hnx
     have hnext: ∀f' st2 (c1 c2:Option (List Value)),f' 0=I n→f' 4=P 0 0→f' 5=P 1 0→f' 7=P 3 0→f' 8=S 2 0 st2.2.length 1→f' 9=I i→f' 10=S 4 0 2 1→f' 11=I j→st2=visit st' y→
       T 0 iy.r9 R2 f' [some (b.map N8),some (w.map N8),some (st2.2.map N8),some (st2.1.map B),some (nx.map N8)]:=by
      intro f' st2 c1 c2 h0 h4 h5 h7 h8 h9 h10 h11 hs2
      refine bI @h11 ?_
      exact iG (2-(j+1)) _ _ _ _ (by omega) Gh.refl ⟨j+1,st2,by omega,rfl,by rw [hnx,hs2],ah,ah,ah,ah,ah,ah,ah,ah,rfl⟩
     refine bK ?_
     refine au (jM @h7 @h10 @h11 @Pq @FZ @Az) ?_
     refine aV (¬bl st'.1 y=true) (fun hc=>?_) fun hc=>?_
     ·refine au (jM @h7 @h10 @h11 @Pq @FZ @Az) ?_
      refine au (jk @h8 @h10 @h11 @Pq @Az) ?_
      refine jO (Gh.nrm [0,1,6,3,4] rfl rfl FQ) ?_
      refine hnext _ (st'.1.set y true,st'.2++[y]) none none ah ah ah ah ah ah ah ah ?_
      rw [visit,if_neg hc]
     ·refine iE ?_
      refine hnext _ st' none none ah ah ah ah ah ah ah ah ?_
      rw [visit,if_pos (by simpa using hc)]
    ·refine hX2 _ _ ?_
     obtain rfl:j=2:=by omega
     have hst2:st'=dX [b,w] (st0 16) (i+1):=by
      rw [hst',dX,hst,if_pos (by assumption)]
      rfl
     obtain ⟨q,hq⟩:= @J7 (nl st.2 i) ([b,w].take 2) st
     have hlq:i+1≤st'.2.length:=by rw [hst',hq];simp;omega
     refine bI @h9 ?_
     refine hN (16-(i+1)) _ _ _ _ (by omega) (Gh.nrm [0,1,2,3] rfl rfl FQ) ⟨i+1,by omega,rfl,by rw [←hst2];exact hlq,ah,ah,ah,ah,?_,ah,?_⟩
     ·rw [←hst2]
      exact ah
     ·rw [←hst2];rfl
  ·refine hX _ _ ?_
   refine au (aC @h0 @h8) ?_
   refine aU ?_
   refine ⟨NN.bool,?_⟩
   have hs:reach b w=st:=by rw [reach,Po (i:=i) (by rw [hst];omega) 16 hi,hst]
   rw [hs] at hK
   exact hK
end Go.Bm
namespace Go.Bm
open Go Go.Am
abbrev zf (m:Nat) (ls:List (List Nat)):Value:=Fz ls.length m (ls.flatten.map N8)
theorem ZU {α:Type} {m:Nat}: ∀{ls:List (List α)} {j:Nat},(∀p∈ls,p.length=m)→j<ls.length→ ∃r,ls.flatten.drop (j*m)=ls.getD j []++r
 |p::ls,0,h,_=>⟨ls.flatten,by simp⟩
 |p::ls,j+1,h,hj=>by
  obtain ⟨r,hr⟩:=ZU (ls:=ls) (j:=j) (fun q hq=>h q (by simp [hq])) (by simpa using hj)
  refine ⟨r,?_⟩
  have hp:p.length=m:=h p (by simp)
  rw [List.flatten_cons,Nat.succ_mul,Nat.add_comm,List.drop_append,List.drop_eq_nil_of_le (by omega)]
  simp only [List.nil_append,hp]
  rw [show m+j*m-m=j*m by omega,hr]
  simp [List.getD]
theorem ZV {α:Type} {m:Nat}: ∀{ls:List (List α)},(∀p∈ls,p.length=m)→ls.flatten.length=ls.length*m
 |[],_=>by simp
 |p::ls,h=>by rw [List.flatten_cons,List.length_append,ZV fun q hq=>h q (by simp [hq]),h p (by simp),List.length_cons,Nat.succ_mul];omega
theorem getD_mem {α:Type} {ls:List α} {d:α} {j:Nat} (h:j<ls.length):ls.getD j d∈ls:=by simp [List.getD,h]
theorem alJ {m j:Nat} {ls:List (List Nat)} (h: ∀p∈ls,p.length=m) (hj:j<ls.length):bV (some m) (ls.flatten.map N8) (j*m)=some (PL (ls.getD j [])):=by
 obtain ⟨r,hr⟩:=ZU h hj
 have hl:=h _ (getD_mem (d:=[]) hj)
 have hf:=ZV h
 have:(j+1)*m≤ls.length*m:=Nat.mul_le_mul_right _ hj
 rw [Nat.succ_mul] at this
 generalize ls.getD j []=q at hr hl⊢
 rw [Ai (by rw [List.length_map,hf];omega),←List.map_drop,hr,List.map_append,List.take_append_of_le_length (by simp [hl]),List.take_of_length_le (by simp [hl])]
theorem alK {b w:List Nat} {m:Nat} {v:Value} (hb:b.length=m) (hw:w.length=m):dG (fB (List.replicate m v) 2) [(0,m,PL b),(m,m,PL w)]=some (b.map N8++w.map N8):=by
 simp [dG,fB,iq,hb,hw,splice,List.take_append,List.drop_append]
theorem alL {x:Bool} {ls:List (List Nat)} {n:Int} {H:BH} {K:Value→BH→Prop} (hll:ls.length≤1000) (hl: ∀p∈ls,p.length=16) (F5: ∀p∈ls,∀i,nl p i<16)
  (hK:K (I (dX ls (st0 16) 16).2.length) H):aJ x ae5 [I n,zf 16 ls] H K:=by
 refine dw (by simp only [RH]) ?_
 refine bf agR ?_;simp only [gX,aG]
 refine aB ?_
 refine aB ?_
 refine aB ?_
 refine aB ?_
 refine bM (fun m f H'=> ∃i,i≤16∧m=16-i∧i≤(dX ls (st0 16) i).2.length∧f 1=zf 16 ls∧f 5=P 0 0∧f 6=S 1 0 (dX ls (st0 16) i).2.length 1∧f 7=I i∧H'=[some ((dX ls (st0 16) i).1.map B),some ((dX ls (st0 16) i).2.map N8)]) (16) ?_ ?_
 ·refine ⟨_,_,Gh.refl,0,by omega,by omega,by omega,ah,ah,ah,ah,?_⟩
  simp [dX,st0]<;>rfl
 ·rintro m f H' R ⟨i,hi,rfl,hil,h1,h5,h6,h7,rfl⟩ hN hX hR hE
  simp only [gX.l1,aG]
  have hB:=(Bi.st0 (m:=16) (by omega)).dX F5 i
  generalize hst:dX ls (st0 16) i=st at hil h6 hB
  have hle:=hB.le
  have hsl:=hB.len
  refine au (aC @h6 @h7) ?_
  refine aV (i<st.2.length) (fun hc=>?_) fun hc=>?_
  ·have hx:=hB.lt i hc
   refine bK ?_
   refine au @h1 ?_
   refine bM (fun m f H'=> ∃j st',j≤ls.length∧m=ls.length-j∧st'=oI (ls.take j) (nl st.2 i) st∧f 1=zf 16 ls∧f 5=P 0 0∧f 6=S 1 0 st'.2.length 1∧f 7=I i∧f 19=zf 16 ls∧f 20=I ls.length∧f 21=I j∧H'=[some (st'.1.map B),some (st'.2.map N8)]) (ls.length) ?_ ?_
   ·refine ⟨_,_,Gh.refl,0,st,by omega,by omega,rfl,ah,ah,ah,ah,ah,ah,ah,rfl⟩
   ·clear h1 h5 h6 h7
    rintro m f H' R2 ⟨j,st',hj,rfl,hst',h1,h5,h6,h7,h19,h20,h21,rfl⟩ iG hX2 hR2 hE2
    simp only [gX.l0,aG]
    refine au (aC @h20 @h21) ?_
    have hB':Bi 16 st':=by rw [hst'];exact hB.round fun p hp=>F5 p (List.mem_of_mem_take hp) _
    have hle':=hB'.le
    have FZ:=hB'.len
    refine aV (j<ls.length) (fun hc=>?_) fun hc=>?_
    ·obtain ⟨q,hq⟩:= @J7 (nl st.2 i) (ls.take j) st
     rw [←hst'] at hq
     have hxi:nl st'.2 i=nl st.2 i:=by rw [hq,xq,if_pos (by assumption)]
     have ZW:i<st'.2.length:=by rw [hq];simp;omega
     have hnx:=ZT (ls:=ls) (x:=nl st.2 i) (st:=st) hc
     rw [←hst'] at hnx
     have hpl:=hl _ (getD_mem (d:=[]) hc)
     have hyl:=F5 _ (getD_mem (d:=[]) hc) (nl st.2 i)
     obtain ⟨pj,ZX⟩: ∃pj,ls.getD j []=pj:=⟨_,rfl⟩
     rw [ZX] at hnx hpl hyl
     obtain ⟨y,Az⟩: ∃y,nl pj (nl st.2 i)=y:=⟨_,rfl⟩
     rw [Az] at hyl hnx
     have hnext: ∀f' st2,f' 1=zf 16 ls→f' 5=P 0 0→f' 6=S 1 0 st2.2.length 1→f' 7=I i→f' 19=zf 16 ls→f' 20=I ls.length→f' 21=I j→st2=visit st' y→
       T 0 gX.r13 R2 f' [some (st2.1.map B),some (st2.2.map N8)]:=by
      intro f' st2 h1 h5 h6 h7 h19 h20 h21 hs2
      refine bI @h21 ?_
      exact iG (ls.length-(j+1)) _ _ _ _ (by omega) Gh.refl ⟨j+1,st2,by omega,rfl,by rw [hnx,hs2],ah,ah,ah,ah,ah,ah,ah,rfl⟩
     refine bK ?_
     refine au (bG @h19 @h21 (alJ hl hc) @ZX) ?_
     refine au (jk @h6 @h7 @hxi @hpl @Az) ?_
     refine au (aC @h5 @FZ) ?_
     refine aV (¬bl st'.1 y=true) (fun hc=>?_) fun hc=>?_
     ·refine au (aC @h5 @FZ) ?_
      refine au @h6 ?_
      refine jO (Gh.nrm [0,4] rfl rfl FQ) ?_
      refine hnext _ (st'.1.set y true,st'.2++[y]) ah ah ah ah ah ah ah ?_
      rw [visit,if_neg hc]
     ·refine iE ?_
      refine jO (Gh.nrm [0,1] rfl rfl FQ) ?_
      refine hnext _ st' ah ah ah ah ah ah ah ?_
      rw [visit,if_pos (by simpa using hc)]
    ·refine hX2 _ _ ?_
     obtain rfl:j=ls.length:=by omega
     have hst2:st'=dX ls (st0 16) (i+1):=by
      rw [hst',dX,hst,if_pos (by assumption),List.take_length]
     obtain ⟨q,hq⟩:= @J7 (nl st.2 i) (ls.take ls.length) st
     have hlq:i+1≤st'.2.length:=by rw [hst',hq];simp;omega
     refine bI @h7 ?_
     refine hN (16-(i+1)) _ _ _ _ (by omega) Gh.refl ⟨i+1,by omega,rfl,by rw [←hst2];exact hlq,ah,ah,?_,ah,?_⟩
     ·rw [←hst2]
      exact ah
     ·rw [←hst2]
  ·refine hX _ _ ?_
   refine au @h6 ?_
   refine aU ?_
   refine ⟨NN.int,?_⟩
   have hs:dX ls (st0 16) 16=st:=by rw [Po (i:=i) (by rw [hst];omega) 16 hi,hst]
   rw [hs] at hK
   exact hK
def bC (n:Int) (b w:List Nat):Prop:=Perm b n∧Perm w n∧((reach b w).2.length:Int)=n
instance (n:Int) (b w:List Nat):Decidable (bC n b w):=by unfold bC;infer_instance
theorem Perm.J9 {p:List Nat} {n:Int} (h:Perm p n) (hl:p.length=16) (i:Nat):nl p i<16:=by
 obtain ⟨m,rfl⟩:=Int.eq_ofNat_of_zero_le (show 0≤n by have:=h.1;omega)
 exact h.qM hl i
theorem F6 {x:Bool} {n:Int} {b w:List Nat} {H:BH} {K:Value→BH→Prop} (hb:By 16 b) (hw:By 16 w) (hK:K (.bool (decide (bC n b w))) H):aJ x aeJ [DV n b w] H K:=by
 have hlb:=hb.len
 have cZ:=hw.len
 refine dw (by simp only [RH]) ?_
 refine bf agl ?_;simp only [yx,aG]
 refine aB ?_
 refine aY (aC @vV @y8) fun Kr hKr=>?_
 refine ZP hb ?_
 by_cases h1:Perm b n
 ·rw [decide_eq_true h1]
  refine bP (aC @vV @y9) ?_
  refine ZP hw ?_
  by_cases h2:Perm w n
  ·rw [decide_eq_true h2]
   refine bP (aX @vV @y9 @y8) ?_
   refine alI hb hw (h1.J9 hb.len) (h2.J9 hw.len) ?_
   refine aO ?_
   refine aI hKr ?_
   refine aU ?_
   exact ⟨NN.bool,by simpa [bC,h1,h2] using hK⟩
  ·rw [decide_eq_false h2]
   refine aO ?_
   refine aI hKr ?_
   refine aU ?_
   exact ⟨NN.bool,by simpa [bC,h1,h2] using hK⟩
 ·rw [decide_eq_false h1]
  refine aO ?_
  refine aI hKr ?_
  refine aU ?_
  exact ⟨NN.bool,by simpa [bC,h1] using hK⟩
theorem alM {m:Nat} {b w:List Nat}:Fz 2 m (b.map N8++w.map N8)=zf m [b,w]:=by simp [zf]
theorem ZY {x:Bool} {n:Int} {b w:List Nat} {H:BH} {K:Value→BH→Prop} (hb:By 16 b) (hw:By 16 w) (hK:K (.bool (decide (bC n b w))) H):aJ x aeK [DV n b w] H K:=by
 have hlb:=hb.len
 have cZ:=hw.len
 refine dw (by simp only [RH]) ?_
 refine bf agp ?_;simp only [vF,aG]
 refine aB ?_
 refine au @vV ?_
 refine aY @y8 fun Kr hKr=>?_
 refine Pj hb ?_
 by_cases h1:Perm b n
 ·rw [decide_eq_true h1]
  refine bP @y9 ?_
  refine Pj hw ?_
  by_cases h2:Perm w n
  ·rw [decide_eq_true h2]
   simp (disch:=omega) only [RA,↓reduceIte,Nat.reduceEqDiff,Nat.reduceMul,Nat.reduceLeDiff,RD,y9,y8,alK hlb cZ]
   have h32:2*16=(b.map N8++w.map N8).length:=by simp [hlb,cZ]
   refine rU 1 rfl (by simp only [RH]) ?_;simp only [RZ,kS h32]
   rw [alM]
   refine alL (by simp) (by simp [hlb,cZ]) (by simp;exact ⟨h1.J9 hb.len,h2.J9 hw.len⟩) ?_
   refine aO ?_
   refine aI hKr ?_
   refine aU ?_
   exact ⟨NN.bool,by simpa [bC,h1,h2,reach] using hK⟩
  ·rw [decide_eq_false h2]
   refine aO ?_
   refine aI hKr ?_
   refine aU ?_
   exact ⟨NN.bool,by simpa [bC,h1,h2] using hK⟩
 ·rw [decide_eq_false h1]
  refine aO ?_
  refine aI hKr ?_
  refine aU ?_
  exact ⟨NN.bool,by simpa [bC,h1] using hK⟩
end Go.Bm
namespace Go.Bm
open Go Go.Am
def dF:List Nat:=List.replicate 16 0
theorem kM:dF.length=16:=by simp [dF]
theorem dz:(Value.int .i64 0::List.replicate 32 (Value.int .u8 0))=DC 0 dF dF:=by rfl
theorem alN {n:Int} {b w:List Nat}:(DC n b w).all Am.plain=true:=by
 simp only [DC,List.all_cons,List.all_append,Bool.and_eq_true]
 exact ⟨rfl,all_map fun _=>rfl,all_map fun _=>rfl⟩
theorem Ko {b:List Nat}:(b.map N8).all Am.plain=true:=all_map fun _=>rfl
theorem alO {n:Int} {b w:List Nat}:(DC n b w).all jV=true:=by
 simp only [DC,List.all_cons,List.all_append,Bool.and_eq_true]
 exact ⟨rfl,Ak,Ak⟩
theorem Kq {n:Int} {b w:List Nat} (hb:b.length=16) (hw:w.length=16):(DC n b w).length=33:=by simp [hb,hw]
theorem l9 {n:Int} {b w:List Nat}:aT (DC n b w):= .cons .int (.append (.map fun _=> .int) (.map fun _=> .int))
section
variable {H:BH} {i:Nat} {n m:Int} {b w b' w' p:List Nat}
theorem Z4 (hb:b.length=16) (hw:w.length=16) (hb':b'.length=16) (hw':w'.length=16):fQ (some (DC n b w)) H i 0 33 (eY (DC m b' w'))=some (undef,H.set i (some (DC m b' w'))):=by
 rw [wZ (Kq hb' hw') alO (by rw [Kq hb hw];omega),FK (by rw [Kq hb hw,Kq hb' hw'])]
theorem Z5:fQ (some (DC n b w)) H i 0 1 (.int .i64 m)=some (undef,H.set i (some (DC m b w))):=by
 rw [Aj (by simp),FH]
theorem F7 {α:Type} {g:α→Value} {x y:List α} {pre post:List Value} (h:x.length=y.length):splice (pre++(x.map g++post)) pre.length (y.map g)=pre++(y.map g++post):=by
 simp only [splice]
 rw [List.take_append_of_le_length (by omega),List.take_of_length_le (by omega)]
 rw [List.drop_append,List.drop_eq_nil_of_le (by omega),List.nil_append]
 rw [show pre.length+(List.map g y).length-pre.length=(List.map g x).length by simp [h]]
 rw [List.drop_append,List.drop_eq_nil_of_le (by omega)]
 simp
theorem Z7 {α:Type} {g:α→Value} {x:List α} {y:α} {k:Nat} {pre post:List Value} (h:k<x.length):splice (pre++(x.map g++post)) (pre.length+k) [g y]=pre++((x.set k y).map g++post):=by
 simp only [splice,List.length_singleton]
 rw [List.take_append,List.take_of_length_le (l:=pre) (by omega),show pre.length+k-pre.length=k by omega,List.take_append_of_le_length (by simp;omega)]
 rw [List.drop_append,List.drop_eq_nil_of_le (as:=pre) (by omega),show pre.length+k+1-pre.length=k+1 by omega,List.drop_append_of_le_length (by simp;omega)]
 rw [List.set_eq_take_append_cons_drop]
 simp [h,List.map_take,List.map_drop]
theorem Z8 {α:Type} {g:α→Value} {x:List α} {k:Nat} {d:α} {pre post:List Value} (h:k<x.length):bV none (pre++(x.map g++post)) (pre.length+k)=some (g (x.getD k d)):=by
 simp only [bV]
 rw [List.getElem?_append_right (by omega),show pre.length+k-pre.length=k by omega,List.getElem?_append_left (by simpa using h)]
 simp [List.getD,h]
theorem Z9 (hb:b.length=16) (hp:p.length=16):fQ (some (DC n b w)) H i 1 16 (eY (p.map N8))=some (undef,H.set i (some (DC n p w))):=by
 rw [wZ (by simpa using hp) Ak (by simp [hb])]
 have:=F7 (g:=N8) (x:=b) (y:=p) (pre:=[I n]) (post:=w.map N8) (by omega)
 simp only [List.length_cons,List.length_nil,List.length_map,List.cons_append,List.nil_append,List.append_nil,Nat.zero_add] at this
 rw [show splice (DC n b w) 1 (p.map N8)=DC n p w from this]
theorem aac (hb:b.length=16) (hw:w.length=16) (hp:p.length=16):fQ (some (DC n b w)) H i 17 16 (eY (p.map N8))=some (undef,H.set i (some (DC n b p))):=by
 rw [wZ (by simpa using hp) Ak (by simp [hb,hw])]
 have:=F7 (g:=N8) (x:=w) (y:=p) (pre:=I n::b.map N8) (post:=[]) (by omega)
 simp only [List.length_cons,List.length_nil,List.length_map,List.cons_append,List.nil_append,List.append_nil,Nat.zero_add,hb] at this
 rw [show splice (DC n b w) 17 (p.map N8)=DC n b p from this]
theorem Kt {k x:Nat} (h:k<b.length):fQ (some (DC n b w)) H i (1+k) 1 (.int .u8 (x:Int))=some (undef,H.set i (some (DC n (b.set k x) w))):=by
 rw [Aj (by simp;omega)]
 have:=Z7 (g:=N8) (x:=b) (y:=x) (k:=k) (pre:=[I n]) (post:=w.map N8) h
 simp only [List.length_cons,List.length_nil,List.length_map,List.cons_append,List.nil_append,List.append_nil,Nat.zero_add] at this
 rw [show splice (DC n b w) (1+k) [N8 x]=DC n (b.set k x) w from this]
theorem Pv {k x:Nat} (hb:b.length=16) (h:k<w.length):fQ (some (DC n b w)) H i (17+k) 1 (.int .u8 (x:Int))=some (undef,H.set i (some (DC n b (w.set k x)))):=by
 rw [Aj (by simp;omega)]
 have:=Z7 (g:=N8) (x:=w) (y:=x) (k:=k) (pre:=I n::b.map N8) (post:=[]) h
 simp only [List.length_cons,List.length_nil,List.length_map,List.cons_append,List.nil_append,List.append_nil,Nat.zero_add,hb] at this
 rw [show splice (DC n b w) (17+k) [N8 x]=DC n b (w.set k x) from this]
theorem Px {k:Nat} (h:k<b.length):bV none (DC n b w) (1+k)=some (N8 (nl b k)):=by
 have:=Z8 (g:=N8) (x:=b) (k:=k) (d:=0) (pre:=[I n]) (post:=w.map N8) h
 simp only [List.length_cons,List.length_nil,List.length_map,List.cons_append,List.nil_append,List.append_nil,Nat.zero_add] at this
 exact this
theorem aad {k:Nat} (hb:b.length=16) (h:k<w.length):bV none (DC n b w) (17+k)=some (N8 (nl w k)):=by
 have:=Z8 (g:=N8) (x:=w) (k:=k) (d:=0) (pre:=I n::b.map N8) (post:=[]) h
 simp only [List.length_cons,List.length_nil,List.length_map,List.cons_append,List.nil_append,List.append_nil,Nat.zero_add,hb] at this
 exact this
theorem aae:dG (DC n b w) [(0,1, .int .i64 m)]=some (DC m b w):=by
 simp [dG,iq,splice]
theorem aaf {b' w':List Nat} (hb:b.length=16) (hw:w.length=16) (hb':b'.length=16) (hw':w'.length=16):dG (DC n b w) [(0,1, .int .i64 m),(1,16,PL b'),(17,16,PL w')]=some (DC m b' w'):=by
 simp only [dG,JQ,JR,List.length_singleton,List.length_map]
 rw [if_pos ⟨trivial,by simp⟩,FH,if_pos ⟨hb',by simp [hb]⟩]
 have h1:=F7 (g:=N8) (x:=b) (y:=b') (pre:=[I m]) (post:=w.map N8) (by omega)
 simp only [List.length_singleton,List.cons_append,List.nil_append] at h1
 rw [h1,if_pos ⟨hw',by simp [hb',hw]⟩]
 have h2:=F7 (g:=N8) (x:=w) (y:=w') (pre:=I m::b'.map N8) (post:=[]) (by omega)
 simp only [List.length_cons,List.length_map,hb',List.append_nil,List.cons_append] at h2
 rw [h2]
theorem aag (hb:b.length=16) (hw:w.length=16) (hw':w'.length=16):dG (DC n b w) [(0,1, .int .i64 m),(17,16,PL w')]=some (DC m b w'):=by
 simp only [dG,JQ,JR,List.length_singleton,List.length_map]
 rw [if_pos ⟨trivial,by simp⟩,FH,if_pos ⟨hw',by simp [hb,hw]⟩]
 have h2:=F7 (g:=N8) (x:=w) (y:=w') (pre:=I m::b.map N8) (post:=[]) (by omega)
 simp only [List.length_cons,List.length_map,hb,List.append_nil,List.cons_append] at h2
 rw [h2]
theorem aah (hb:b.length=16) (hw:w.length=16):bV (some 33) (DC n b w) 0=some (eY (DC n b w)):=alE hb hw
theorem fC:NN (eY (DC n b w)):=NN.agg l9
end
theorem aai {b w:List Nat}:(b.map N8++w.map N8).all Am.plain=true:=by rw [List.all_append,Ko,Ko];rfl
theorem aH:(type_of% @dz)∧(type_of% @aai)∧(type_of% @Ko)∧(type_of% @kM)∧(type_of% @Z5)∧(type_of% @vV)∧(type_of% @aae):=⟨@dz, @aai, @Ko, @kM, @Z5, @vV, @aae⟩
theorem aK:(type_of% @Z4)∧(type_of% @Z9)∧(type_of% @aac)∧(type_of% @Kt)∧(type_of% @Pv)∧(type_of% @y8)∧(type_of% @y9)∧(type_of% @Px)∧(type_of% @aad)∧(type_of% @aaf)∧(type_of% @aag)∧(type_of% @aah):=⟨@Z4, @Z9, @aac, @Kt, @Pv, @y8, @y9, @Px, @aad, @aaf, @aag, @aah⟩
theorem bC.n0 {n:Int} {b w:List Nat} (h:bC n b w): ∃m:Nat,n=m∧1≤m∧m≤16:=by
 have:=h.1.1
 exact ⟨n.toNat,by omega,by omega,by omega⟩
end Go.Bm
namespace Go.Bm
open Go Go.Am
abbrev WS:=List Bool×List Nat×Nat
def xu (p:List Nat) (st:WS):WS:=if bl st.1 st.2.2=true then st else (st.1.set st.2.2 true,st.2.1++[st.2.2],nl p st.2.2)
def wk (p:List Nat) (st:WS):Nat→WS
 |0=>st
 |j+1=>xu p (wk p st j)
theorem Py {p:List Nat} {st:WS} {i:Nat} (h:bl (wk p st i).1 (wk p st i).2.2=true): ∀j,i≤j→wk p st j=wk p st i
 |0,hj=>by
  obtain rfl:i=0:=by omega
  rfl
 |j+1,hj=>by
  rcases Nat.lt_or_ge j i with h1|h1
  ·obtain rfl:i=j+1:=by omega
   rfl
  ·have ih:=Py h j h1
   simp only [wk]
   rw [ih,xu,if_pos h]
def mg (p:List Nat) (m:Nat):Nat→List Bool×List (List Nat)
 |0=>(List.replicate 16 false,[])
 |k+1=>if bl (mg p m k).1 k=true then mg p m k else ((wk p ((mg p m k).1,[],k) m).1,(mg p m k).2++[(wk p ((mg p m k).1,[],k) m).2.1])
structure xw (p:List Nat) (n:Nat) (c:List Nat):Prop where
 ne:0<c.length
 lt: ∀x∈c,x<n
 jX:c.Nodup
 step: ∀j,j+1<c.length→nl p (nl c j)=nl c (j+1)
 last:nl p (nl c (c.length-1))=nl c 0
 least: ∀x∈c,nl c 0≤x
theorem iM {c:List Nat} {j:Nat} (h:j<c.length):nl c j∈c:=by simp [nl,List.getD,h]
theorem uU {c:List Nat} {x:Nat} (h:x∈c): ∃j,j<c.length∧nl c j=x:=by
 obtain ⟨i,hi,rfl⟩:=List.mem_iff_getElem.1 h
 exact ⟨i,hi,by simp [nl,List.getD,hi]⟩
theorem alP {c:List Nat} (h:c.Nodup) {i j:Nat} (hi:i<c.length) (hj:j<c.length) (he:nl c i=nl c j):i=j:=by
 have h':=List.pairwise_iff_getElem.1 h
 have e: ∀k (hk:k<c.length),nl c k=c[k]:=fun k hk=>by simp [nl,List.getD,hk]
 rcases Nat.lt_trichotomy i j with h1|h1|h1
 ·exact absurd (by rw [←e i hi,←e j hj];exact he) (h' i j hi hj h1)
 ·exact h1
 ·exact absurd (by rw [←e i hi,←e j hj];exact he.symm) (h' j i hj hi h1)
theorem Perm.inj {p:List Nat} {n:Nat} (h:Perm p n) {i j:Nat} (hi:i<n) (hj:j<n) (he:nl p i=nl p j):i=j:=by
 have h1:=h.1
 rcases Nat.lt_trichotomy i j with h2|h2|h2
 ·exact absurd he (((h.2 j (by omega)).2 (by omega)).2 i h2)
 ·exact h2
 ·exact absurd he.symm (((h.2 i (by omega)).2 (by omega)).2 j h2)
structure qj (p:List Nat) (n:Nat) (s0:List Bool) (i:Nat) (j:Nat) (st:WS):Prop where
 len:st.1.length=16
 at_:st.2.2<n
 new:bl s0 st.2.2=false
 mem: ∀x,bl st.1 x=true↔bl s0 x=true∨x∈st.2.1
 lt: ∀x∈st.2.1,x<n∧bl s0 x=false
 jX:st.2.1.Nodup
 cnt:st.1.count true=s0.count true+st.2.1.length
 step: ∀t,t+1<st.2.1.length→nl p (nl st.2.1 t)=nl st.2.1 (t+1)
 st0:st.2.1=[]→st.2.2=i
 st1:0<st.2.1.length→nl st.2.1 0=i∧nl p (nl st.2.1 (st.2.1.length-1))=st.2.2
 go:st.2.1.length=j∨bl st.1 st.2.2=true
theorem qj.wk {p:List Nat} {n:Nat} (hp:Perm p n) {s0:List Bool} {i:Nat} (hl:s0.length=16) (hi:i<n) (h0:bl s0 i=false) (hinv: ∀x,x<n→bl s0 (nl p x)=bl s0 x): ∀j,qj p n s0 i j (wk p (s0,[],i) j)
 |0=>by
  refine ⟨hl,hi,h0,fun x=>?_,?_,?_,?_,?_,?_,?_,?_⟩<;>simp [Bm.wk]
 |j+1=>by
  have ih:=qj.wk hp hl hi h0 hinv j
  have hn:=hp.1
  simp only [Bm.wk]
  generalize Bm.wk p (s0,[],i) j=st at ih⊢
  obtain ⟨s,l,k⟩:=st
  have h1:=ih.len
  have h2:=ih.at_
  have h3:=ih.new
  have h4:=ih.mem
  have h5:=ih.lt
  have h6:=ih.jX
  have h7:=ih.cnt
  have h8:=ih.step
  have h9:=ih.st0
  have h10:=ih.st1
  have h11:=ih.go
  simp only at h1 h2 h3 h4 h5 h6 h7 h8 h9 h10 h11
  unfold xu
  by_cases hb:bl s k=true
  ·rw [if_pos hb]
   exact ⟨h1,h2,h3,h4,h5,h6,h7,h8,h9,h10, .inr hb⟩
  ·rw [if_neg hb]
   have hkl:k∉l:=fun h=>hb ((h4 k).2 (.inr h))
   have hk:(l++[k]).length=l.length+1:=by simp
   refine ⟨by simpa using h1,hp.lt h2,by rw [hinv k h2];exact h3,fun x=>?_,fun x hx=>?_,?_,?_,fun t ht=>?_,fun h=>by simp at h,fun _=>?_, .inl ?_⟩
   ·show bl (s.set k true) x=true↔bl s0 x=true∨x∈l++[k]
    rw [y7]
    by_cases e:x=k
    ·subst e
     rw [if_pos ⟨rfl,by omega⟩]
     simp
    ·rw [if_neg (fun h=>e h.1),h4 x]
     simp [e]
   ·rcases List.mem_append.1 hx with h|h
    ·exact h5 x h
    ·rw [List.mem_singleton] at h
     subst h
     exact ⟨h2,h3⟩
   ·show (l++[k]).Nodup
    rw [List.nodup_append]
    exact ⟨h6,by simp,fun a ha b hb=>by
     rw [List.mem_singleton] at hb
     subst hb
     exact fun e=>hkl (e▸ha)⟩
   ·show (s.set k true).count true=s0.count true+(l++[k]).length
    rw [Pn (by omega) (by simpa using hb),h7,hk]
    omega
   ·show nl p (nl (l++[k]) t)=nl (l++[k]) (t+1)
    have ht:t+1<l.length+1:=by rw [←hk];exact ht
    rw [xq,xq,if_pos (by omega)]
    by_cases e:t+1<l.length
    ·rw [if_pos e]
     exact h8 t e
    ·rw [if_neg e,Pm (by omega),show t=l.length-1 by omega]
     exact (h10 (by omega)).2
   ·show nl (l++[k]) 0=i∧nl p (nl (l++[k]) ((l++[k]).length-1))=nl p k
    rw [hk,Nat.add_sub_cancel]
    refine ⟨?_,by rw [xq,if_neg (by omega),Nat.sub_self];rfl⟩
    rw [xq]
    split
    ·rename_i h
     exact (h10 h).1
    ·rename_i h
     have:l=[]:=List.eq_nil_of_length_eq_zero (by omega)
     subst this
     exact h9 rfl
   ·show (l++[k]).length=j+1
    rw [hk]
    rcases h11 with h|h
    ·omega
    ·exact absurd h hb
theorem qj.done {p:List Nat} {n m:Nat} (hm:m=16) (hp:Perm p n) {s0:List Bool} {i:Nat} (hl:s0.length=16) (hi:i<n) (h0:bl s0 i=false) (hinv: ∀x,x<n→bl s0 (nl p x)=bl s0 x):
  bl (Bm.wk p (s0,[],i) m).1 (Bm.wk p (s0,[],i) m).2.2=true:=by
 have h16:=qj.wk hp hl hi h0 hinv m
 have h17:=qj.wk hp hl hi h0 hinv (m+1)
 rcases h16.go with h|h
 ·cases hb:bl (Bm.wk p (s0,[],i) m).1 (Bm.wk p (s0,[],i) m).2.2 with
  |true=>rfl
  |false=>
   have e:Bm.wk p (s0,[],i) (m+1)=xu p (Bm.wk p (s0,[],i) m):=rfl
   rw [xu,if_neg (by simp [hb])] at e
   have h1:=h17.cnt
   have h2:=List.count_le_length (a:=true) (l:=(Bm.wk p (s0,[],i) (m+1)).1)
   have h3:=h17.len
   have h4:(Bm.wk p (s0,[],i) (m+1)).2.1.length=m+1:=by rw [e];simp [h]
   omega
 ·exact h
theorem qj.aP {p:List Nat} {n m:Nat} (hm:m=16) (hp:Perm p n) {s0:List Bool} {i:Nat} (hl:s0.length=16) (hi:i<n) (h0:bl s0 i=false) (hinv: ∀x,x<n→bl s0 (nl p x)=bl s0 x) (hup: ∀x,x<i→bl s0 x=true):
  xw p n (Bm.wk p (s0,[],i) m).2.1∧nl (Bm.wk p (s0,[],i) m).2.1 0=i:=by
 have h:=qj.wk hp hl hi h0 hinv m
 have hd:=qj.done hm hp hl hi h0 hinv
 generalize Bm.wk p (s0,[],i) m=st at h hd⊢
 obtain ⟨s,l,k⟩:=st
 have hkl:k∈l:=by
  rcases (h.mem k).1 hd with h1|h1
  ·exact absurd h1 (by have:=h.new;simp only at this;simp [this])
  ·exact h1
 have hne:0<l.length:=List.length_pos_of_mem hkl
 obtain ⟨hz,hla⟩:=h.st1 hne
 simp only at hz hla
 obtain ⟨j,hj,hje⟩:=uU hkl
 have hlt: ∀t,t<l.length→nl l t<n:=fun t ht=>(h.lt _ (iM ht)).1
 have hj0:j=0:=by
  rcases Nat.eq_zero_or_pos j with h1|h1
  ·exact h1
  ·exfalso
   have h2:=h.step (j-1) (by show j-1+1<l.length;omega)
   simp only at h2
   rw [show j-1+1=j by omega,hje,←hla] at h2
   have h3:=hp.inj (hlt _ (by omega)) (hlt _ (by omega)) h2
   have h4:=alP h.jX (by show j-1<l.length;omega) (by show l.length-1<l.length;omega) h3
   omega
 subst hj0
 refine ⟨⟨hne,fun x hx=>(h.lt x hx).1,h.jX,h.step,by rw [hla];exact hje.symm,fun x hx=>?_⟩,hz⟩
 rw [hz]
 rcases Nat.lt_or_ge x i with h1|h1
 ·have h2:=(h.lt x hx).2
  rw [hup x h1] at h2
  cases h2
 ·exact h1
theorem xw.fwd {p:List Nat} {n:Nat} {c:List Nat} (h:xw p n c) {x:Nat} (hx:x∈c):nl p x∈c:=by
 obtain ⟨j,hj,rfl⟩:=uU hx
 by_cases e:j+1<c.length
 ·rw [h.step j e]
  exact iM e
 ·rw [show j=c.length-1 by omega,h.last]
  exact iM h.ne
theorem xw.bwd {p:List Nat} {n:Nat} {c:List Nat} (hp:Perm p n) (h:xw p n c) {x:Nat} (hx:x<n) (hm:nl p x∈c):x∈c:=by
 obtain ⟨j,hj,hje⟩:=uU hm
 by_cases e:j=0
 ·subst e
  rw [←h.last] at hje
  have:=hp.inj (h.lt _ (iM (by have:=h.ne;omega))) hx hje
  rw [←this]
  exact iM (by have:=h.ne;omega)
 ·have h2:=h.step (j-1) (by omega)
  rw [show j-1+1=j by omega,hje] at h2
  have:=hp.inj (h.lt _ (iM (by omega))) hx h2
  rw [←this]
  exact iM (by omega)
structure rX (p:List Nat) (n i:Nat) (sc:List Bool×List (List Nat)):Prop where
 len:sc.1.length=16
 mem: ∀x,bl sc.1 x=true↔ ∃c∈sc.2,x∈c
 inv: ∀x,x<n→bl sc.1 (nl p x)=bl sc.1 x
 aP: ∀c∈sc.2,xw p n c
 cnt:sc.1.count true=sc.2.flatten.length
 jX:sc.2.flatten.Nodup
 upto: ∀x,x<i→bl sc.1 x=true
 hd: ∀c∈sc.2,nl c 0<i
 num:sc.2.length≤i
theorem rX.all {p:List Nat} {n m:Nat} (hm:m=16) (hp:Perm p n): ∀{i:Nat},i≤n→rX p n i (mg p m i)
 |0,_=>by
  have h0: ∀x,bl (List.replicate 16 false) x=false:=fun x=>J6
  rw [show mg p m 0=(List.replicate 16 false,[]) from rfl]
  have hno: ∀c:List Nat,c∉([]:List (List Nat)):=fun c=>List.not_mem_nil
  have hc0:(List.replicate 16 false).count true=0:=rfl
  exact ⟨List.length_replicate,fun x=>⟨fun h=>absurd ((h0 x).symm.trans h) Bool.false_ne_true,fun ⟨c,h,_⟩=>absurd h (hno c)⟩,fun x _=>(h0 _).trans (h0 x).symm,fun c h=>absurd h (hno c),hc0,List.nodup_nil,fun x h=>absurd h (Nat.not_lt_zero x),fun c h=>absurd h (hno c),Nat.le_refl _⟩
 |i+1,hi=>by
  have ih:=rX.all hm hp (i:=i) (by omega)
  have hn:=hp.1
  simp only [mg]
  generalize mg p m i=sc at ih⊢
  by_cases hb:bl sc.1 i=true
  ·rw [if_pos hb]
   exact ⟨ih.len,ih.mem,ih.inv,ih.aP,ih.cnt,ih.jX,fun x hx=>by
    by_cases e:x=i
    ·rw [e];exact hb
    ·exact ih.upto x (by omega),fun c hc=>by have:=ih.hd c hc;omega,by have:=ih.num;omega⟩
  ·rw [if_neg hb]
   have h0:bl sc.1 i=false:=by simpa using hb
   have hw:=qj.wk hp ih.len (show i<n by omega) h0 ih.inv m
   obtain ⟨hc,hz⟩:=qj.aP hm hp ih.len (show i<n by omega) h0 ih.inv ih.upto
   generalize Bm.wk p (sc.1,[],i) m=st at hw hc hz⊢
   obtain ⟨s,l,k⟩:=st
   have hm:=hw.mem
   have hlt:=hw.lt
   have hwc:=hw.cnt
   simp only at hc hz hm hlt hwc⊢
   have hil:i∈l:=by rw [←hz];exact iM hc.ne
   refine ⟨hw.len,fun x=>?_,fun x hx=>?_,fun c hc'=>?_,?_,?_,fun x hx=>?_,fun c hc'=>?_,by simp;exact ih.num⟩
   ·show bl s x=true↔_
    rw [hm x,ih.mem x]
    simp only [List.mem_append,List.mem_singleton]
    constructor
    ·rintro (⟨c,h1,h2⟩|h)
     ·exact ⟨c, .inl h1,h2⟩
     ·exact ⟨l, .inr rfl,h⟩
    ·rintro ⟨c,h1|rfl,h2⟩
     ·exact .inl ⟨c,h1,h2⟩
     ·exact .inr h2
   ·show bl s (nl p x)=bl s x
    have key:bl s (nl p x)=true↔bl s x=true:=by
     rw [hm,hm,ih.inv x hx]
     constructor
     ·rintro (h|h)
      ·exact .inl h
      ·exact .inr (hc.bwd hp hx h)
     ·rintro (h|h)
      ·exact .inl h
      ·exact .inr (hc.fwd h)
    exact Bool.eq_iff_iff.2 key
   ·rcases List.mem_append.1 hc' with h|h
    ·exact ih.aP c h
    ·rw [List.mem_singleton] at h
     subst h
     exact hc
   ·show s.count true=(sc.2++[l]).flatten.length
    rw [hwc,ih.cnt]
    simp
   ·show (sc.2++[l]).flatten.Nodup
    rw [List.flatten_append,List.nodup_append]
    refine ⟨ih.jX,by simpa using hw.jX,fun a ha b hb'=>?_⟩
    have alQ:b∈l:=by simpa using hb'
    rintro rfl
    obtain ⟨c,h1,h2⟩:=List.mem_flatten.1 ha
    have h3:=(ih.mem a).2 ⟨c,h1,h2⟩
    rw [(hlt a alQ).2] at h3
    cases h3
   ·show bl s x=true
    rw [hm]
    by_cases e:x=i
    ·rw [e];exact .inr hil
    ·exact .inl (ih.upto x (by omega))
   ·rcases List.mem_append.1 hc' with h|h
    ·have:=ih.hd c h;omega
    ·rw [List.mem_singleton] at h
     subst h
     omega
def aP (p:List Nat) (n:Nat):List (List Nat):=(mg p 16 n).2
section
variable {p:List Nat} {n:Nat}
theorem zh (hp:Perm p n) {x:Nat} (hx:x<n): ∃c∈aP p n,x∈c:=((rX.all rfl hp (Nat.le_refl n)).mem x).1 ((rX.all rfl hp (Nat.le_refl n)).upto x hx)
theorem oJ (hp:Perm p n) {c:List Nat} (h:c∈aP p n):xw p n c:=(rX.all rfl hp (Nat.le_refl n)).aP c h
theorem xA (hp:Perm p n):(aP p n).length≤n:=(rX.all rfl hp (Nat.le_refl n)).num
theorem alR {hp:Perm p n}:aP p n≠[]:=by
 obtain ⟨c,h,_⟩:=zh hp (show 0<n by have:=hp.1;omega)
 intro e
 rw [e] at h
 cases h
theorem Ku (hp:Perm p n) {c:List Nat} (h:c∈aP p n):1≤c.length∧c.length≤n:=by
 have hc:=oJ hp h
 refine ⟨hc.ne,?_⟩
 have: ∀(m:Nat) (c:List Nat),c.Nodup→(∀x∈c,x<m)→c.length≤m:=by
  intro m
  induction m with
  |zero=>
   intro c _ hc
   cases c with
   |nil=>simp
   |cons a c=>exact absurd (hc a (by simp)) (by omega)
  |succ m ih=>
   intro c hn hc
   have h1:=ih (c.erase m) (hn.erase m) fun x hx=>by
    have h2:=hc x (List.mem_of_mem_erase hx)
    have h3:x≠m:=fun e=>by
     subst e
     exact (List.Nodup.not_mem_erase hn) hx
    omega
   have h4:=List.length_erase (a:=m) (l:=c)
   split at h4<;>omega
 exact this n c hc.jX hc.lt
end
end Go.Bm
namespace Go.Bm
open Go Go.Am
def AA:List Bool:=List.replicate 16 false
theorem Pz {x:Nat}:bl AA x=false:=J6
theorem Kv:AA.length=16:=by simp [AA]
def stA (x:Nat):BS:=(AA.set x true,[x])
structure qN (ls:List (List Nat)) (n x d:Nat) (st:BS):Prop where
 len:st.1.length=16
 mem: ∀y,bl st.1 y=true↔y∈st.2
 jX:st.2.Nodup
 lt: ∀y∈st.2,y<n
 pre: ∃r,st.2=x::r
 le:d≤st.2.length
 done: ∀j,j<d→ ∀p∈ls,nl p (nl st.2 j)∈st.2
theorem qN.visit {ls:List (List Nat)} {n x d y:Nat} {st:BS} (hn:n≤16) (h:qN ls n x d st) (hy:y<n):qN ls n x d (Bm.visit st y)∧(∃q,(Bm.visit st y).2=st.2++q)∧y∈(Bm.visit st y).2:=by
 unfold Bm.visit
 by_cases hb:bl st.1 y=true
 ·rw [if_pos hb]
  exact ⟨h,⟨[],by simp⟩,(h.mem y).1 hb⟩
 ·rw [if_neg hb]
  have hny:y∉st.2:=fun hm=>hb ((h.mem y).2 hm)
  refine ⟨⟨by simpa using h.len,fun z=>?_,?_,fun z hz=>?_,?_,?_,fun j hj1 p hp=>?_⟩,⟨[y],rfl⟩,by simp⟩
  ·show bl (st.1.set y true) z=true↔z∈st.2++[y]
   rw [y7]
   by_cases e:z=y
   ·subst e
    rw [if_pos ⟨rfl,by have:=h.len;omega⟩]
    simp
   ·rw [if_neg (fun k=>e k.1),h.mem z]
    simp [e]
  ·show (st.2++[y]).Nodup
   rw [List.nodup_append]
   exact ⟨h.jX,by simp,fun a ha b hb=>by
    rw [List.mem_singleton] at hb
    subst hb
    exact fun e=>hny (e▸ha)⟩
  ·rcases List.mem_append.1 hz with k|k
   ·exact h.lt z k
   ·rw [List.mem_singleton] at k
    omega
  ·obtain ⟨r,hr⟩:=h.pre
   exact ⟨r++[y],by show st.2++[y]=_;rw [hr];rfl⟩
  ·show d≤(st.2++[y]).length
   have:=h.le
   simp
   omega
  ·show nl p (nl (st.2++[y]) j)∈st.2++[y]
   rw [xq,if_pos (by have:=h.le;omega)]
   exact List.mem_append_left _ (h.done j hj1 p hp)
theorem qN.round {ls:List (List Nat)} {n x d z:Nat} (hn:n≤16): ∀{l2:List (List Nat)} {st:BS},qN ls n x d st→(∀p∈l2,nl p z<n)→qN ls n x d (oI l2 z st)∧(∃q,(oI l2 z st).2=st.2++q)∧ ∀p∈l2,nl p z∈(oI l2 z st).2
 |[],st,h,_=>⟨h,⟨[],by simp [oI]⟩,by simp⟩
 |p::l2,st,h,hp=>by
  obtain ⟨h1,⟨q1,h2⟩,h3⟩:=h.visit hn (hp p (by simp))
  obtain ⟨h4,⟨q2,h5⟩,h6⟩:=qN.round hn (l2:=l2) h1 fun q hq=>hp q (by simp [hq])
  have e:oI (p::l2) z st=oI l2 z (Bm.visit st (nl p z)):=rfl
  rw [e]
  refine ⟨h4,⟨q1++q2,by rw [h5,h2,List.append_assoc]⟩,fun q hq=>?_⟩
  rcases List.mem_cons.1 hq with rfl|hq
  ·rw [h5]
   exact List.mem_append_left _ h3
  ·exact h6 q hq
theorem qN.dX {ls:List (List Nat)} {n x:Nat} {st:BS} (hn:n≤16) (hl: ∀p∈ls,∀y,y<n→nl p y<n) (h:qN ls n x 0 st): ∀i,qN ls n x (min i (Bm.dX ls st i).2.length) (Bm.dX ls st i)
 |0=>by rw [Nat.zero_min];exact h
 |i+1=>by
  have ih:=qN.dX hn hl h i
  simp only [Bm.dX]
  generalize Bm.dX ls st i=s at ih⊢
  by_cases hi:i<s.2.length
  ·rw [if_pos hi]
   rw [Nat.min_eq_left (by omega)] at ih
   obtain ⟨h1,⟨q,h2⟩,h3⟩:=ih.round hn (z:=nl s.2 i) (l2:=ls) fun p hp=>hl p hp _ (ih.lt _ (iM hi))
   have hlen:i+1≤(oI ls (nl s.2 i) s).2.length:=by rw [h2];simp;omega
   rw [Nat.min_eq_left hlen]
   refine ⟨h1.len,h1.mem,h1.jX,h1.lt,h1.pre,hlen,fun j hj p hp=>?_⟩
   by_cases e:j=i
   ·subst e
    have:nl (oI ls (nl s.2 j) s).2 j=nl s.2 j:=by rw [h2,xq,if_pos hi]
    rw [this]
    exact h3 p hp
   ·exact h1.done j (by omega) p hp
  ·rw [if_neg hi]
   rw [Nat.min_eq_right (by omega)] at ih
   rw [Nat.min_eq_right (by omega)]
   exact ih
theorem qN.start {ls:List (List Nat)} {n x:Nat} (hn:n≤16) (hx:x<n):qN ls n x 0 (stA x):=by
 refine ⟨by simp [stA,Kv],fun y=>?_,by simp [stA],fun y hy=>?_,⟨[],rfl⟩,Nat.zero_le _,fun j hj=>by omega⟩
 ·show bl (AA.set x true) y=true↔y∈[x]
  rw [y7,Kv,Pz]
  by_cases e:y=x
  ·rw [if_pos ⟨e,by omega⟩];simp [e]
  ·rw [if_neg (fun k=>e k.1)];simp [e]
 ·rw [show (stA x).2=[x] from rfl,List.mem_singleton] at hy
  omega
theorem xB {n:Nat} {l:List Nat} (h:l.Nodup) (hl: ∀x∈l,x<n):l.length≤n:=by
 have:=List.Nodup.length_le_of_subset h (l₂:=List.range n) fun x hx=>List.mem_range.2 (hl x hx)
 simpa using this
theorem alS {n:Nat} {l:List Nat} (h:l.Nodup) (hl: ∀x∈l,x<n) (hn:n≤l.length) {x:Nat} (hx:x<n):x∈l:=by
 apply Classical.byContradiction
 intro hxl
 have:=xB (n:=n) (l:=x::l) (List.nodup_cons.2 ⟨hxl,h⟩) (by
  intro y hy
  rcases List.mem_cons.1 hy with rfl|hy
  ·exact hx
  ·exact hl y hy)
 rw [List.length_cons] at this
 omega
def ord (b w:List Nat) (x:Nat):List Nat:=(dX [b,w] (stA x) 16).2
section
variable {b w:List Nat} {n:Nat}
theorem Kw (hb:Perm b n) (hw:Perm w n) {x:Nat} (hx:x<n):qN [b,w] n x (ord b w x).length (dX [b,w] (stA x) 16):=by
 have hn:=hb.1
 have h:=(qN.start (ls:=[b,w]) (x:=x) (n:=n) (by omega) hx).dX (by omega) (by
  intro p hp y hy
  simp only [List.mem_cons,List.not_mem_nil,or_false] at hp
  rcases hp with rfl|rfl
  ·exact hb.lt hy
  ·exact hw.lt hy) 16
 have h16:=xB h.jX h.lt
 rw [Nat.min_eq_right (by omega)] at h
 exact h
theorem aaj (hb:Perm b n) (hw:Perm w n) {x:Nat} (hx:x<n): ∀y∈ord b w x,nl b y∈ord b w x∧nl w y∈ord b w x:=fun y hy=>by
 have h:=Kw hb hw hx
 obtain ⟨j,hj,rfl⟩:=uU hy
 exact ⟨h.done j hj b (by simp),h.done j hj w (by simp)⟩
theorem Ky {p:List Nat} (hp:Perm p n) {S:Nat→Prop} (hS: ∀x,x<n→S x→S (nl p x)) {x:Nat} (hx:x<n) (h:S (nl p x)):S x:=by
 obtain ⟨c,hc,hxc⟩:=zh hp hx
 have hi:=oJ hp hc
 obtain ⟨j,hj,hje⟩:=uU (hi.fwd hxc)
 have hup: ∀d,j+d<c.length→S (nl c (j+d)):=by
  intro d
  induction d with
  |zero=>intro _;rw [Nat.add_zero,hje];exact h
  |succ d ih=>
   intro hd
   rw [←Nat.add_assoc,←hi.step (j+d) (by omega)]
   exact hS _ (hi.lt _ (iM (by omega))) (ih (by omega))
 have h0:S (nl c 0):=by
  rw [←hi.last]
  have:=hup (c.length-1-j) (by omega)
  rw [show j+(c.length-1-j)=c.length-1 by omega] at this
  exact hS _ (hi.lt _ (iM (by omega))) this
 have hall: ∀k,k<c.length→S (nl c k):=by
  intro k
  induction k with
  |zero=>intro _;exact h0
  |succ k ih=>
   intro hk
   rw [←hi.step k hk]
   exact hS _ (hi.lt _ (iM (by omega))) (ih (by omega))
 obtain ⟨k,hk,rfl⟩:=uU hxc
 exact hall k hk
theorem bC.reach (h:bC n b w) {y:Nat} (hy:y<n):y∈ord b w 0:=by
 obtain ⟨hb,hw,hr⟩:=h
 have hn:=hb.1
 have h1:=Kw hb hw (x:=0) (by omega)
 refine alS h1.jX h1.lt ?_ hy
 have:(Bm.reach b w).2.length=n:=by omega
 have e:(dX [b,w] (stA 0) 16).2.length=n:=this
 omega
theorem bC.ind (h:bC n b w) (S:Nat→Prop) (s1: ∀z,z<n→S z→S (nl b z)) (s2: ∀z,z<n→S z→S (nl w z)) (s0:S 0): ∀z,z<n→S z:=by
 obtain ⟨hb,hw,hr⟩:=id h
 have hn:=hb.1
 intro z hz
 have hcl: ∀i,∀z∈(dX [b,w] (stA 0) i).2,z<n∧S z:=by
  have hv: ∀(st:BS) (y:Nat),(∀z∈st.2,z<n∧S z)→y<n→S y→ ∀z∈(visit st y).2,z<n∧S z:=by
   intro st y h1 h2 h3 z hz
   unfold visit at hz
   split at hz
   ·exact h1 z hz
   ·rcases List.mem_append.1 hz with k|k
    ·exact h1 z k
    ·rw [List.mem_singleton] at k
     subst k
     exact ⟨h2,h3⟩
  intro i
  induction i with
  |zero=>
   intro z hz
   have:z=0:=by simpa [dX,stA] using hz
   subst this
   exact ⟨by omega,s0⟩
  |succ i ih=>
   simp only [dX]
   split
   ·rename_i hi
    obtain ⟨hz1,hz2⟩:=ih _ (iM hi)
    exact hv _ _ (hv _ _ ih (hb.lt hz1) (s1 _ hz1 hz2)) (hw.lt hz1) (s2 _ hz1 hz2)
   ·exact ih
 exact (hcl 16 z (h.reach hz)).2
theorem bC.all (h:bC n b w) {x y:Nat} (hx:x<n) (hy:y<n):y∈ord b w x:=by
 obtain ⟨hb,hw,hr⟩:=id h
 have hn:=hb.1
 have h0:=h.ind
 have hx0:(ord b w x)=(ord b w x):=rfl
 have hfw:=aaj hb hw hx
 have key: ∀z,z<n→(z∈ord b w x↔0∈ord b w x):=by
  refine h0 _ ?_ ?_ Iff.rfl
  ·intro z hz hS
   rw [←hS]
   exact ⟨Ky hb (S:=fun z=>z∈ord b w x) (fun z _ h=>(hfw z h).1) hz,fun h=>(hfw z h).1⟩
  ·intro z hz hS
   rw [←hS]
   exact ⟨Ky hw (S:=fun z=>z∈ord b w x) (fun z _ h=>(hfw z h).2) hz,fun h=>(hfw z h).2⟩
 have hxx:x∈ord b w x:=by
  obtain ⟨r,hr⟩:=(Kw hb hw hx).pre
  rw [ord,hr]
  simp
 exact (key y hy).2 ((key x hx).1 hxx)
def rG (p nm:List Nat):Nat→List Nat
 |0=>List.replicate 16 0
 |k+1=>(rG p nm k).set (nl nm k) (nl nm (nl p k))
theorem aak {p nm:List Nat} {k:Nat}:(rG p nm k).length=16:=by
 induction k with
 |zero=>simp [rG]
 |succ k ih=>simp [rG,ih]
end
section
variable {b w b' w':List Nat} {n:Nat}
structure Iso (n:Nat) (b w b' w':List Nat) (φ:Nat→Nat):Prop where
 lt: ∀y,y<n→φ y<n
 inj: ∀y z,y<n→z<n→φ y=φ z→y=z
 b: ∀y,y<n→nl b' (φ y)=φ (nl b y)
 w: ∀y,y<n→nl w' (φ y)=φ (nl w y)
structure F8 (n:Nat) (φ:Nat→Nat) (st st':BS):Prop where
 ord:st'.2=st.2.map φ
 lt: ∀y∈st.2,y<n
 met: ∀y,y<n→bl st'.1 (φ y)=bl st.1 y
 len:st.1.length=16∧st'.1.length=16
theorem F8.visit {φ:Nat→Nat} {st st':BS} {y:Nat} (hn:n≤16) (hl: ∀y,y<n→φ y<n) (hinj: ∀y z,y<n→z<n→φ y=φ z→y=z) (h:F8 n φ st st') (hy:y<n):F8 n φ (Bm.visit st y) (Bm.visit st' (φ y)):=by
 unfold Bm.visit
 rw [h.met y hy]
 by_cases hb:bl st.1 y=true
 ·rw [if_pos hb,if_pos hb];exact h
 ·rw [if_neg hb,if_neg hb]
  refine ⟨by simp [h.ord],fun z hz=>?_,fun z hz=>?_,by simpa using h.len⟩
  ·rcases List.mem_append.1 hz with k|k
   ·exact h.lt z k
   ·rw [List.mem_singleton] at k;omega
  ·show bl (st'.1.set (φ y) true) (φ z)=bl (st.1.set y true) z
   have:=hl y hy
   rw [y7,y7,h.len.1,h.len.2,h.met z hz]
   by_cases e:z=y
   ·subst e;rw [if_pos ⟨rfl,by omega⟩,if_pos ⟨rfl,by omega⟩]
   ·rw [if_neg (fun k=>e (hinj _ _ hz hy k.1)),if_neg (fun k=>e k.1)]
theorem alT {φ:Nat→Nat} {l:List Nat} {i:Nat} (h:i<l.length):nl (l.map φ) i=φ (nl l i):=by simp [nl,List.getD,h]
theorem Iso.ord {φ:Nat→Nat} (hn:n≤16) (hb:Perm b n) (hw:Perm w n) (h:Iso n b w b' w' φ) {x:Nat} (hx:x<n):Bm.ord b' w' (φ x)=(Bm.ord b w x).map φ:=by
 have key: ∀i,F8 n φ (dX [b,w] (stA x) i) (dX [b',w'] (stA (φ x)) i):=by
  intro i
  induction i with
  |zero=>
   refine ⟨rfl,fun y hy=>?_,fun y hy=>?_,by simp [dX,stA,Kv]⟩
   ·have:y=x:=by simpa [dX,stA] using hy
    omega
   ·show bl (AA.set (φ x) true) (φ y)=bl (AA.set x true) y
    have:=h.lt x hx
    rw [y7,y7,Kv,Pz,Pz]
    by_cases e:y=x
    ·subst e;rw [if_pos ⟨rfl,by omega⟩,if_pos ⟨rfl,by omega⟩]
    ·rw [if_neg (fun k=>e (h.inj _ _ hy hx k.1)),if_neg (fun k=>e k.1)]
  |succ i ih=>
   simp only [dX]
   generalize dX [b,w] (stA x) i=st at ih⊢
   generalize dX [b',w'] (stA (φ x)) i=st' at ih⊢
   have hle:st'.2.length=st.2.length:=by rw [ih.ord,List.length_map]
   rw [hle]
   by_cases hi:i<st.2.length
   ·rw [if_pos hi,if_pos hi]
    have e:nl st'.2 i=φ (nl st.2 i):=by rw [ih.ord,alT hi]
    rw [e]
    generalize hz:nl st.2 i=z
    have hz1:z<n:=by rw [←hz];exact ih.lt _ (iM hi)
    show F8 n φ (Bm.visit (Bm.visit st (nl b z)) (nl w z)) (Bm.visit (Bm.visit st' (nl b' (φ z))) (nl w' (φ z)))
    rw [h.b z hz1,h.w z hz1]
    exact (ih.visit hn h.lt h.inj (hb.lt hz1)).visit hn h.lt h.inj (hw.lt hz1)
   ·rw [if_neg hi,if_neg hi]
    exact ih
 exact (key 16).ord
end
abbrev L2:=List Nat×List Nat
def lt2 (x y:L2):Prop:=x.1<y.1∨(x.1=y.1∧x.2<y.2)
instance (x y:L2):Decidable (lt2 x y):=by unfold lt2;infer_instance
section
variable {b w b' w':List Nat} {n:Nat}
end
end Go.Bm
namespace Go.Bm
open Go Go.Am
section
variable {p b w:List Nat} {n:Nat}
theorem Perm.aal (hp:Perm p n) {y:Nat} (hy:y<n): ∃x,x<n∧nl p x=y:=by
 obtain ⟨c,hc,hyc⟩:=zh hp hy
 have hi:=oJ hp hc
 obtain ⟨j,hj,rfl⟩:=uU hyc
 by_cases e:j=0
 ·subst e
  exact ⟨_,hi.lt _ (iM (by omega)),hi.last⟩
 ·have:=hi.step (j-1) (by omega)
  rw [show j-1+1=j by omega] at this
  exact ⟨_,hi.lt _ (iM (by omega)),this⟩
theorem PD (hp:Perm p n): ∀{k i:Nat},k≤n→i<k→nl (oH p k) (nl p i)=i
 |0,_,_,h=>by omega
 |k+1,i,hk,hi=>by
  have hn:=hp.1
  rw [oH,rW,Aw]
  by_cases e:i=k
  ·subst e
   rw [if_pos ⟨rfl,by have:=hp.lt (show i<n by omega);omega⟩]
  ·rw [if_neg (fun h=>e (hp.inj (by omega) (by omega) h.1)),PD hp (by omega) (by omega)]
theorem aam (hp:Perm p n) {i:Nat} (hi:n≤i): ∀{k:Nat},k≤n→nl (oH p k) i=0
 |0,_=>by simp only [oH,xk];split<;>rfl
 |k+1,hk=>by
  have:=hp.lt (show k<n by omega)
  rw [oH,rW,if_neg (by omega),aam hp hi (by omega)]
theorem Perm.back (hp:Perm p n):Perm (oH p n) n:=by
 refine ⟨hp.1,fun i _=>⟨fun h=>aam hp (by omega) (Nat.le_refl _),fun h=>?_⟩⟩
 obtain ⟨x,hx,rfl⟩:=hp.aal (show i<n by omega)
 rw [PD hp (Nat.le_refl _) hx]
 refine ⟨by omega,fun j hj=>?_⟩
 obtain ⟨y,hy,rfl⟩:=hp.aal (show j<n by omega)
 rw [PD hp (Nat.le_refl _) hy]
 intro e
 subst e
 omega
end
end Go.Bm
