/- Dp0, Dp1, Dp2, Dp3, Dp4 -/
import Derived.Test.YtkapkmjofpoebaaBmS
set_option linter.unusedVariables false
set_option linter.unusedSimpArgs false
namespace Go.Bm
open Go Go.Am
structure By (m:Nat) (p:List Nat):Prop where
 len:p.length=m
 lt: ∀i,nl p i<256
theorem By.mem {m:Nat} {p:List Nat} (h:By m p): ∀x∈p,x<256:=fun x hx=>by
 obtain ⟨i,hi,rfl⟩:=List.mem_iff_getElem.1 hx
 have:=h.lt i
 simpa [nl,List.getD,hi] using this
theorem jI {p:List Nat} {i x j:Nat}:nl (p.set i x) j=if j=i∧i<p.length then x else nl p j:=by
 unfold nl
 simp only [List.getD]
 by_cases h:i=j
 ·subst h
  by_cases hi:i<p.length
  ·simp [hi]
  ·simp [List.getElem?_eq_none (by omega:p.length≤i),hi]
 ·rw [List.getElem?_set_ne h,if_neg (fun e=>h e.1.symm)]
theorem jh {p:List Bool} {i:Nat} {x:Bool} {j:Nat}:bl (p.set i x) j=if j=i∧i<p.length then x else bl p j:=by
 unfold bl
 simp only [List.getD]
 by_cases h:i=j
 ·subst h
  by_cases hi:i<p.length
  ·simp [hi]
  ·simp [List.getElem?_eq_none (by omega:p.length≤i),hi]
 ·rw [List.getElem?_set_ne h,if_neg (fun e=>h e.1.symm)]
theorem qw {n m i:Nat}:nl (List.replicate n m) i=if i<n then m else 0:=by
 unfold nl
 simp only [List.getD,List.getElem?_replicate]
 split<;>rfl
theorem xQ {n i:Nat}:bl (List.replicate n false) i=false:=by
 unfold bl
 simp only [List.getD,List.getElem?_replicate]
 split<;>rfl
theorem Hg {p:List Nat} {i:Nat} (h:p.length≤i):nl p i=0:=by simp [nl,List.getD,List.getElem?_eq_none h]
theorem IV {p q:List Nat} (hl:p.length=q.length) (h: ∀i,i<p.length→nl p i=nl q i):p=q:=by
 apply List.ext_getElem hl
 intro i h1 h2
 have:=h i h1
 simpa [nl,List.getD,h1,h2] using this
theorem By.set {m:Nat} {p:List Nat} (h:By m p) {i x:Nat} (hx:x<256):By m (p.set i x):=⟨by simp [h.len],fun j=>by rw [jI];split;exact hx;exact h.lt j⟩
theorem By.rep {m:Nat}:By m (List.replicate m 0):=⟨by simp,fun i=>by rw [qw];split<;>omega⟩
theorem aeM {x:Bool} {a b c:Int} {H:BH} {K:Value→BH→Prop} (hK:K (.bool (decide (b≤a∧a≤c))) H):aQ x YZ [I a,I b,I c] H K:=by
 refine dR (by simp only [RH]) ?_
 refine bF aan ?_;simp only [tZ,aI]
 refine au fun Kr hKr=>?_;simp (disch:=omega) only [RA,↓reduceIte,Nat.reduceEqDiff,RD];refine hKr _ _ ?_;clear hKr Kr;(try simp only [RN,reduceIte]);try refine ah rfl ?_
 by_cases h:b≤a
 ·refine au fun Kr hKr=>?_;simp (disch:=omega) only [RA,↓reduceIte,Nat.reduceEqDiff,RD,h];refine hKr _ _ ?_;clear hKr Kr;(try simp only [RN,reduceIte]);try refine ah rfl ?_
  refine aS (by simp (disch:=omega) only [RA,↓reduceIte,Nat.reduceEqDiff,RD,aG,aO,h];rfl) aC.refl ?_;simp only [aH]
  exact ⟨NN.bool,by simpa [h] using hK⟩
 ·refine au fun Kr hKr=>?_;simp (disch:=omega) only [RA,↓reduceIte,Nat.reduceEqDiff,RD,h];refine hKr _ _ ?_;clear hKr Kr;(try simp only [RN,reduceIte]);try refine ah rfl ?_
  refine aS (by simp (disch:=omega) only [RA,↓reduceIte,Nat.reduceEqDiff,RD,aG,aO,h];rfl) aC.refl ?_;simp only [aH]
  exact ⟨NN.bool,by simpa [h] using hK⟩
theorem aeN {x:Bool} {a:Int} {H:BH} {K:Value→BH→Prop} (hK:K (.bool (decide (1≤a∧a≤16))) H):aQ x Ze [I a] H K:=by
 refine dR (by simp only [RH]) ?_
 refine bF aaJ ?_;simp only [um,aI]
 refine au fun Kr hKr=>?_;simp (disch:=omega) only [RA,↓reduceIte,Nat.reduceEqDiff,RD];refine hKr _ _ ?_;clear hKr Kr;(try simp only [RN,reduceIte]);try refine ah rfl ?_
 by_cases h:1≤a
 ·refine au fun Kr hKr=>?_;simp (disch:=omega) only [RA,↓reduceIte,Nat.reduceEqDiff,RD,h];refine hKr _ _ ?_;clear hKr Kr;(try simp only [RN,reduceIte]);try refine ah rfl ?_
  refine aS (by simp (disch:=omega) only [RA,↓reduceIte,Nat.reduceEqDiff,RD,aG,aO,h];rfl) aC.refl ?_;simp only [aH]
  exact ⟨NN.bool,by simpa [h] using hK⟩
 ·refine au fun Kr hKr=>?_;simp (disch:=omega) only [RA,↓reduceIte,Nat.reduceEqDiff,RD,h];refine hKr _ _ ?_;clear hKr Kr;(try simp only [RN,reduceIte]);try refine ah rfl ?_
  refine aS (by simp (disch:=omega) only [RA,↓reduceIte,Nat.reduceEqDiff,RD,aG,aO,h];rfl) aC.refl ?_;simp only [aH]
  exact ⟨NN.bool,by simpa [h] using hK⟩
def Perm (p:List Nat) (n:Int):Prop:=(1≤n∧n≤16)∧ ∀i:Nat,i<16→((n≤(i:Int)→nl p i=0)∧((i:Int)<n→(nl p i:Int)<n∧ ∀j,j<i→nl p j≠nl p i))
instance (p:List Nat) (n:Int):Decidable (Perm p n):=by unfold Perm;infer_instance
def PermAt (p:List Nat) (n:Int) (i:Nat):Prop:=(n≤(i:Int)→nl p i=0)∧((i:Int)<n→(nl p i:Int)<n∧ ∀j,j<i→nl p j≠nl p i)
def Met (p:List Nat) (n:Int) (k:Nat) (s:List Bool):Prop:=s.length=16∧ ∀x,bl s x=true↔ ∃i,i<k∧(i:Int)<n∧nl p i=x
theorem Met.zero {p:List Nat} {n:Int}:Met p n 0 (List.replicate 16 false):=⟨by simp,fun x=>by rw [xQ];simp⟩
theorem Met.next {p:List Nat} {n:Int} {k:Nat} {s:List Bool} (h:Met p n k s) (hk:(k:Int)<n) (hx:nl p k<16):Met p n (k+1) (s.set (nl p k) true):=⟨by simp [h.1],fun x=>by
 rw [jh]
 by_cases e:x=nl p k
 ·subst e
  rw [if_pos ⟨rfl,by rw [h.1];exact hx⟩]
  exact ⟨fun _=>⟨k,by omega,hk,rfl⟩,fun _=>rfl⟩
 ·rw [if_neg (fun h=>e h.1),h.2]
  exact ⟨fun ⟨i,h1,h2,h3⟩=>⟨i,by omega,h2,h3⟩,fun ⟨i,h1,h2,h3⟩=>⟨i,by
   rcases Nat.lt_or_ge i k with q|q
   ·exact q
   ·obtain rfl:i=k:=by omega
    exact absurd h3.symm e,h2,h3⟩⟩⟩
theorem Met.skip {p:List Nat} {n:Int} {k:Nat} {s:List Bool} (h:Met p n k s) (hk: ¬(k:Int)<n):Met p n (k+1) s:=⟨h.1,fun x=>by
 rw [h.2]
 exact ⟨fun ⟨i,h1,h2,h3⟩=>⟨i,by omega,h2,h3⟩,fun ⟨i,h1,h2,h3⟩=>⟨i,by
  rcases Nat.lt_or_ge i k with q|q
  ·exact q
  ·obtain rfl:i=k:=by omega
   exact absurd h2 hk,h2,h3⟩⟩⟩
theorem Ut {x:Bool} {p:List Nat} {n:Int} {H:BH} {K:Value→BH→Prop} (hp:By 16 p) (hK:K (.bool (decide (Perm p n))) H):aQ x Y2 [PL p,I n] H K:=by
 have hlen:=hp.len
 refine dR (by simp only [RH]) ?_
 refine bF aas ?_;simp only [fK,aI]
 refine au fun Kr hKr=>?_;simp (disch:=omega) only [RA,↓reduceIte,Nat.reduceEqDiff,RD];refine hKr _ _ ?_;clear hKr Kr;(try simp only [RN,reduceIte]);try refine ah rfl ?_
 refine au fun Kr hKr=>?_;simp (disch:=omega) only [RA,↓reduceIte,Nat.reduceEqDiff,RD]
 refine aeN ?_
 simp (disch:=omega) only [RA,↓reduceIte,Nat.reduceEqDiff,RD]
 refine hKr _ _ ?_;clear hKr Kr;(try simp only [aK,aP,aN]);(try simp only [RN,reduceIte]);try refine ah rfl ?_
 refine aX (p:= ¬(1≤n∧n≤16)) (by simp only [RA,↓reduceIte,Nat.reduceEqDiff]<;>rfl) (by (try simp only [RB])<;>first|done|exact Iff.rfl|omega|simp) (fun hc=>?_) (fun hc=>?_)<;>(try simp only [RN,reduceIte])<;>(try refine ah rfl ?_)
 ·refine au fun Kr hKr=>?_;simp (disch:=omega) only [RA,↓reduceIte,Nat.reduceEqDiff,RD];refine hKr _ _ ?_;clear hKr Kr;(try simp only [RN,reduceIte]);try refine ah rfl ?_
  refine aS (by simp (disch:=omega) only [RA,↓reduceIte,Nat.reduceEqDiff,RD,aG,aO];rfl) aC.refl ?_;simp only [aH]
  exact ⟨NN.bool,by simpa [Perm,hc] using hK⟩
 have hc':1≤n∧n≤16:=by omega
 refine au fun Kr hKr=>?_;simp (disch:=omega) only [RA,↓reduceIte,Nat.reduceEqDiff,RD];refine hKr _ _ ?_;clear hKr Kr;(try simp only [RN,reduceIte]);try refine ah rfl ?_
 refine au fun Kr hKr=>?_;simp (disch:=omega) only [RA,↓reduceIte,Nat.reduceEqDiff,RD];refine hKr _ _ ?_;clear hKr Kr;(try simp only [RN,reduceIte]);try refine ah rfl ?_
 refine bU (fun m f H'=> ∃k s,k≤16∧m=16-k∧Met p n k s∧(∀i,i<k→PermAt p n i)∧f 1=I n∧f 5=P 1 0∧f 12=PL p∧f 13=I k∧H'=[some (p.map N8),some (s.map B)]) (16) ?_ ?_
 ·refine ⟨_,_,Gh.refl,0,List.replicate 16 false,by omega,by omega,Met.zero,by omega,by simp [RA,↓reduceIte,Nat.reduceEqDiff],by simp [RA,↓reduceIte,Nat.reduceEqDiff],by simp [RA,↓reduceIte,Nat.reduceEqDiff],by simp [RA,↓reduceIte,Nat.reduceEqDiff],by simp [RA,↓reduceIte,Nat.reduceEqDiff]⟩
 ·rintro m f H' R ⟨k,s,hk,rfl,hm,hat,h1,h5,h12,h13,rfl⟩ hN hX hR hE
  simp only [fK.l0,aI]
  refine au fun Kr hKr=>?_;simp (disch:=omega) only [RA,↓reduceIte,Nat.reduceEqDiff,RD,h13];refine hKr _ _ ?_;clear hKr Kr;(try simp only [RN,reduceIte]);try refine ah rfl ?_
  refine aX (p:=k<16) (by simp only [RA,↓reduceIte,Nat.reduceEqDiff]<;>rfl) (by (try simp only [RB])<;>first|done|exact Iff.rfl|omega|simp) (fun hc=>?_) (fun hc=>?_)<;>(try simp only [RN,reduceIte])<;>(try refine ah rfl ?_)
  ·have hlt:=hp.lt k
   have hnext: ∀f' s',f' 1=I n→f' 5=P 1 0→f' 12=PL p→f' 13=I k→Met p n (k+1) s'→PermAt p n k→T 0 fK.r13 R f' [some (p.map N8),some (s'.map B)]:=by
    intro f' s' h1 h5 h12 h13 hm' hat'
    refine bH fun Kr hKr=>?_;simp (disch:=omega) only [RA,↓reduceIte,Nat.reduceEqDiff,RD,h13];refine hKr _ _ ?_;clear hKr Kr
    refine hN (16-(k+1)) _ _ _ _ (by omega) Gh.refl ⟨k+1,s',by omega,rfl,hm',fun i hi=>?_,by simp [RA,↓reduceIte,Nat.reduceEqDiff,h1],by simp [RA,↓reduceIte,Nat.reduceEqDiff,h5],by simp [RA,↓reduceIte,Nat.reduceEqDiff,h12],by simp [RA,↓reduceIte,Nat.reduceEqDiff],rfl⟩
    rcases Nat.lt_or_ge i k with h|h
    ·exact hat i h
    ·obtain rfl:i=k:=by omega
     exact hat'
   refine lV (ou ?_);(try simp only [RN,reduceIte]);try refine ah rfl ?_
   refine au fun Kr hKr=>?_;simp (disch:=omega) only [RA,↓reduceIte,Nat.reduceEqDiff,RD,h12,h13,hlen];refine hKr _ _ ?_;clear hKr Kr;(try simp only [RN,reduceIte]);try refine ah rfl ?_
   refine au fun Kr hKr=>?_;simp (disch:=omega) only [RA,↓reduceIte,Nat.reduceEqDiff,RD,h1];refine hKr _ _ ?_;clear hKr Kr;(try simp only [RN,reduceIte]);try refine ah rfl ?_
   refine aX (p:=n≤k) (by simp only [RA,↓reduceIte,Nat.reduceEqDiff]<;>rfl) (by (try simp only [RB])<;>first|done|exact Iff.rfl|omega|simp) (fun hc=>?_) (fun hc=>?_)<;>(try simp only [RN,reduceIte])<;>(try refine ah rfl ?_)
   ·refine au fun Kr hKr=>?_;simp (disch:=omega) only [RA,↓reduceIte,Nat.reduceEqDiff,RD];refine hKr _ _ ?_;clear hKr Kr;(try simp only [RN,reduceIte]);try refine ah rfl ?_
    refine aX (p:=nl p k≠0) (by simp only [RA,↓reduceIte,Nat.reduceEqDiff]<;>rfl) (by (try simp only [RB])<;>first|done|exact Iff.rfl|omega|simp) (fun hc=>?_) (fun hc=>?_)<;>(try simp only [RN,reduceIte])<;>(try refine ah rfl ?_)
    ·refine au fun Kr hKr=>?_;simp (disch:=omega) only [RA,↓reduceIte,Nat.reduceEqDiff,RD];refine hKr _ _ ?_;clear hKr Kr;(try simp only [RN,reduceIte]);try refine ah rfl ?_
     refine hR _ _ ?_
     refine aS (by simp (disch:=omega) only [RA,↓reduceIte,Nat.reduceEqDiff,RD,aG,aO];rfl) aC.refl ?_;simp only [aH]
     refine ⟨NN.bool,?_⟩
     have: ¬Perm p n:=fun h=>hc ((h.2 k (by omega)).1 (by omega))
     simpa [this] using hK
    ·(try simp only [RN,reduceIte]);try refine ah rfl ?_
     simp only [aK,aP,aN,if_true]
     exact hnext _ s (by simp [RA,↓reduceIte,Nat.reduceEqDiff,h1]) (by simp [RA,↓reduceIte,Nat.reduceEqDiff,h5]) (by simp [RA,↓reduceIte,Nat.reduceEqDiff,h12]) (by simp [RA,↓reduceIte,Nat.reduceEqDiff,h13]) (hm.skip (by omega)) ⟨fun _=>by omega,fun h=>by omega⟩
   ·by_cases hb:n≤nl p k
    ·refine au fun Kr hKr=>?_;simp (disch:=omega) only [RA,↓reduceIte,Nat.reduceEqDiff,RD,h1,hb];refine hKr _ _ ?_;clear hKr Kr;(try simp only [RN,reduceIte]);try refine ah rfl ?_
     refine dG (t:=true) (by simp (disch:=omega) only [RA,↓reduceIte,Nat.reduceEqDiff,RD]) ?_;(try simp only [RN,reduceIte]);try refine ah rfl ?_
     refine au fun Kr hKr=>?_;simp (disch:=omega) only [RA,↓reduceIte,Nat.reduceEqDiff,RD];refine hKr _ _ ?_;clear hKr Kr;(try simp only [RN,reduceIte]);try refine ah rfl ?_
     refine hR _ _ ?_
     refine aS (by simp (disch:=omega) only [RA,↓reduceIte,Nat.reduceEqDiff,RD,aG,aO];rfl) aC.refl ?_;simp only [aH]
     refine ⟨NN.bool,?_⟩
     have: ¬Perm p n:=fun h=>by have:=((h.2 k (by omega)).2 (by omega)).1;omega
     simpa [this] using hK
    ·have hsl:=hm.1
     refine au fun Kr hKr=>?_;simp (disch:=omega) only [RA,↓reduceIte,Nat.reduceEqDiff,RD,h1,h5,hb,hsl];refine hKr _ _ ?_;clear hKr Kr;(try simp only [RN,reduceIte]);try refine ah rfl ?_
     refine aX (p:=bl s (nl p k)=true) (by simp only [RA,↓reduceIte,Nat.reduceEqDiff]<;>rfl) (by (try simp only [RB])<;>first|done|exact Iff.rfl|omega|simp) (fun hc=>?_) (fun hc=>?_)<;>(try simp only [RN,reduceIte])<;>(try refine ah rfl ?_)
     ·refine au fun Kr hKr=>?_;simp (disch:=omega) only [RA,↓reduceIte,Nat.reduceEqDiff,RD];refine hKr _ _ ?_;clear hKr Kr;(try simp only [RN,reduceIte]);try refine ah rfl ?_
      refine hR _ _ ?_
      refine aS (by simp (disch:=omega) only [RA,↓reduceIte,Nat.reduceEqDiff,RD,aG,aO];rfl) aC.refl ?_;simp only [aH]
      refine ⟨NN.bool,?_⟩
      obtain ⟨i,hi1,hi2,hi3⟩:=(hm.2 _).1 hc
      have: ¬Perm p n:=fun h=>((h.2 k (by omega)).2 (by omega)).2 i hi1 hi3
      simpa [this] using hK
     ·refine bH fun Kr hKr=>?_;simp (disch:=omega) only [RA,↓reduceIte,Nat.reduceEqDiff,RD,h5,hsl];refine hKr _ _ ?_;clear hKr Kr
      simp only [aK,aP,aN,if_true]
      refine hnext _ (s.set (nl p k) true) (by simp [RA,↓reduceIte,Nat.reduceEqDiff,h1]) (by simp [RA,↓reduceIte,Nat.reduceEqDiff,h5]) (by simp [RA,↓reduceIte,Nat.reduceEqDiff,h12]) (by simp [RA,↓reduceIte,Nat.reduceEqDiff,h13]) (hm.next (by omega) (by omega)) ⟨fun h=>by omega,fun _=>⟨by omega,fun j hj e=>hc ((hm.2 _).2 ⟨j,hj,by omega,e⟩)⟩⟩
  ·refine hX _ _ ?_
   refine au fun Kr hKr=>?_;simp (disch:=omega) only [RA,↓reduceIte,Nat.reduceEqDiff,RD];refine hKr _ _ ?_;clear hKr Kr;(try simp only [RN,reduceIte]);try refine ah rfl ?_
   refine aS (by simp (disch:=omega) only [RA,↓reduceIte,Nat.reduceEqDiff,RD,aG,aO];rfl) aC.refl ?_;simp only [aH]
   refine ⟨NN.bool,?_⟩
   have:Perm p n:=⟨hc',fun i hi=>hat i (by omega)⟩
   simpa [this] using hK
end Go.Bm
namespace Go.Bm
open Go Go.Am
theorem Uu {x:Bool} {p:List Nat} {n:Int} {H:BH} {K:Value→BH→Prop} (hp:By 16 p) (hK:K (.bool (decide (Perm p n))) H):aQ x Y4 [PL p,I n] H K:=by
 have hlen:=hp.len
 refine dR (by simp only [RH]) ?_
 refine bF aav ?_;simp only [fZ,aI]
 refine au fun Kr hKr=>?_;simp (disch:=omega) only [RA,↓reduceIte,Nat.reduceEqDiff,RD];refine hKr _ _ ?_;clear hKr Kr;(try simp only [RN,reduceIte]);try refine ah rfl ?_
 refine au fun Kr hKr=>?_;simp (disch:=omega) only [RA,↓reduceIte,Nat.reduceEqDiff,RD]
 refine aeM ?_
 simp (disch:=omega) only [RA,↓reduceIte,Nat.reduceEqDiff,RD]
 refine hKr _ _ ?_;clear hKr Kr;(try simp only [aK,aP,aN]);(try simp only [RN,reduceIte]);try refine ah rfl ?_
 refine aX (p:= ¬(1≤n∧n≤16)) (by simp only [RA,↓reduceIte,Nat.reduceEqDiff]<;>rfl) (by (try simp only [RB])<;>first|done|exact Iff.rfl|omega|simp) (fun hc=>?_) (fun hc=>?_)<;>(try simp only [RN,reduceIte])<;>(try refine ah rfl ?_)
 ·refine au fun Kr hKr=>?_;simp (disch:=omega) only [RA,↓reduceIte,Nat.reduceEqDiff,RD];refine hKr _ _ ?_;clear hKr Kr;(try simp only [RN,reduceIte]);try refine ah rfl ?_
  refine aS (by simp (disch:=omega) only [RA,↓reduceIte,Nat.reduceEqDiff,RD,aG,aO];rfl) aC.refl ?_;simp only [aH]
  exact ⟨NN.bool,by simpa [Perm,hc] using hK⟩
 have hc':1≤n∧n≤16:=by omega
 refine au fun Kr hKr=>?_;simp (disch:=omega) only [RA,↓reduceIte,Nat.reduceEqDiff,RD];refine hKr _ _ ?_;clear hKr Kr;(try simp only [RN,reduceIte]);try refine ah rfl ?_
 refine au fun Kr hKr=>?_;simp (disch:=omega) only [RA,↓reduceIte,Nat.reduceEqDiff,RD];refine hKr _ _ ?_;clear hKr Kr;(try simp only [RN,reduceIte]);try refine ah rfl ?_
 refine bU (fun m f H'=> ∃k s,k≤16∧m=16-k∧Met p n k s∧(∀i,i<k→PermAt p n i)∧f 1=I n∧f 2=P 0 0∧f 5=P 1 0∧f 6=I k∧H'=[some (p.map N8),some (s.map B)]) (16) ?_ ?_
 ·refine ⟨_,_,Gh.refl,0,List.replicate 16 false,by omega,by omega,Met.zero,by omega,by simp [RA,↓reduceIte,Nat.reduceEqDiff],by simp [RA,↓reduceIte,Nat.reduceEqDiff],by simp [RA,↓reduceIte,Nat.reduceEqDiff],by simp [RA,↓reduceIte,Nat.reduceEqDiff],by simp [RA,↓reduceIte,Nat.reduceEqDiff]⟩
 ·rintro m f H' R ⟨k,s,hk,rfl,hm,hat,h1,h2,h5,h6,rfl⟩ hN hX hR hE
  simp only [fZ.l0,aI]
  refine au fun Kr hKr=>?_;simp (disch:=omega) only [RA,↓reduceIte,Nat.reduceEqDiff,RD,h6];refine hKr _ _ ?_;clear hKr Kr;(try simp only [RN,reduceIte]);try refine ah rfl ?_
  refine aX (p:=k<16) (by simp only [RA,↓reduceIte,Nat.reduceEqDiff]<;>rfl) (by (try simp only [RB])<;>first|done|exact Iff.rfl|omega|simp) (fun hc=>?_) (fun hc=>?_)<;>(try simp only [RN,reduceIte])<;>(try refine ah rfl ?_)
  ·have hlt:=hp.lt k
   have hsl:=hm.1
   have hnext: ∀f' s',f' 1=I n→f' 2=P 0 0→f' 5=P 1 0→f' 6=I k→Met p n (k+1) s'→PermAt p n k→T 0 fZ.r6 R f' [some (p.map N8),some (s'.map B)]:=by
    intro f' s' h1 h2 h5 h6 hm' hat'
    refine bH fun Kr hKr=>?_;simp (disch:=omega) only [RA,↓reduceIte,Nat.reduceEqDiff,RD,h6];refine hKr _ _ ?_;clear hKr Kr
    refine hN (16-(k+1)) _ _ _ _ (by omega) Gh.refl ⟨k+1,s',by omega,rfl,hm',fun i hi=>?_,by simp [RA,↓reduceIte,Nat.reduceEqDiff,h1],by simp [RA,↓reduceIte,Nat.reduceEqDiff,h2],by simp [RA,↓reduceIte,Nat.reduceEqDiff,h5],by simp [RA,↓reduceIte,Nat.reduceEqDiff],rfl⟩
    rcases Nat.lt_or_ge i k with h|h
    ·exact hat i h
    ·obtain rfl:i=k:=by omega
     exact hat'
   (first|refine bP rfl ?_|refine bQ rfl ?_);(try simp only [RN,reduceIte]);try refine ah rfl ?_
   (first|refine bP rfl ?_|refine bQ rfl ?_);(try simp only [RN,reduceIte]);try refine ah rfl ?_
   refine au fun Kr hKr=>?_;simp (disch:=omega) only [RA,↓reduceIte,Nat.reduceEqDiff,RD,h1,h6];refine hKr _ _ ?_;clear hKr Kr;(try simp only [RN,reduceIte]);try refine ah rfl ?_
   refine aX (p:=n≤k) (by simp only [RA,↓reduceIte,Nat.reduceEqDiff]<;>rfl) (by (try simp only [RB])<;>first|done|exact Iff.rfl|omega|simp) (fun hc=>?_) (fun hc=>?_)<;>(try simp only [RN,reduceIte])<;>(try refine ah rfl ?_)
   ·refine au fun Kr hKr=>?_;simp (disch:=omega) only [RA,↓reduceIte,Nat.reduceEqDiff,RD,h2,h6,hlen];refine hKr _ _ ?_;clear hKr Kr;(try simp only [RN,reduceIte]);try refine ah rfl ?_
    refine aX (p:=nl p k≠0) (by simp only [RA,↓reduceIte,Nat.reduceEqDiff]<;>rfl) (by (try simp only [RB])<;>first|done|exact Iff.rfl|omega|simp) (fun hc=>?_) (fun hc=>?_)<;>(try simp only [RN,reduceIte])<;>(try refine ah rfl ?_)
    ·refine au fun Kr hKr=>?_;simp (disch:=omega) only [RA,↓reduceIte,Nat.reduceEqDiff,RD];refine hKr _ _ ?_;clear hKr Kr;(try simp only [RN,reduceIte]);try refine ah rfl ?_
     refine hR _ _ ?_
     refine aS (by simp (disch:=omega) only [RA,↓reduceIte,Nat.reduceEqDiff,RD,aG,aO];rfl) aC.refl ?_;simp only [aH]
     refine ⟨NN.bool,?_⟩
     have: ¬Perm p n:=fun h=>hc ((h.2 k (by omega)).1 (by omega))
     simpa [this] using hK
    ·(try simp only [RN,reduceIte]);try refine ah rfl ?_
     exact hnext _ s (by simp [RA,↓reduceIte,Nat.reduceEqDiff,h1]) (by simp [RA,↓reduceIte,Nat.reduceEqDiff,h2]) (by simp [RA,↓reduceIte,Nat.reduceEqDiff,h5]) (by simp [RA,↓reduceIte,Nat.reduceEqDiff,h6]) (hm.skip (by omega)) ⟨fun _=>by omega,fun h=>by omega⟩
   ·by_cases hb:n≤nl p k
    ·refine au fun Kr hKr=>?_;simp (disch:=omega) only [RA,↓reduceIte,Nat.reduceEqDiff,RD,h1,h2,h6,hb,hlen];refine hKr _ _ ?_;clear hKr Kr;(try simp only [RN,reduceIte]);try refine ah rfl ?_
     refine dG (t:=true) (by simp (disch:=omega) only [RA,↓reduceIte,Nat.reduceEqDiff,RD]) ?_;(try simp only [RN,reduceIte]);try refine ah rfl ?_
     refine au fun Kr hKr=>?_;simp (disch:=omega) only [RA,↓reduceIte,Nat.reduceEqDiff,RD];refine hKr _ _ ?_;clear hKr Kr;(try simp only [RN,reduceIte]);try refine ah rfl ?_
     refine hR _ _ ?_
     refine aS (by simp (disch:=omega) only [RA,↓reduceIte,Nat.reduceEqDiff,RD,aG,aO];rfl) aC.refl ?_;simp only [aH]
     refine ⟨NN.bool,?_⟩
     have: ¬Perm p n:=fun h=>by have:=((h.2 k (by omega)).2 (by omega)).1;omega
     simpa [this] using hK
    ·refine au fun Kr hKr=>?_;simp (disch:=omega) only [RA,↓reduceIte,Nat.reduceEqDiff,RD,h1,h2,h5,h6,hb,hsl,hlen];refine hKr _ _ ?_;clear hKr Kr;(try simp only [RN,reduceIte]);try refine ah rfl ?_
     refine aX (p:=bl s (nl p k)=true) (by simp only [RA,↓reduceIte,Nat.reduceEqDiff]<;>rfl) (by (try simp only [RB])<;>first|done|exact Iff.rfl|omega|simp) (fun hc=>?_) (fun hc=>?_)<;>(try simp only [RN,reduceIte])<;>(try refine ah rfl ?_)
     ·refine au fun Kr hKr=>?_;simp (disch:=omega) only [RA,↓reduceIte,Nat.reduceEqDiff,RD];refine hKr _ _ ?_;clear hKr Kr;(try simp only [RN,reduceIte]);try refine ah rfl ?_
      refine hR _ _ ?_
      refine aS (by simp (disch:=omega) only [RA,↓reduceIte,Nat.reduceEqDiff,RD,aG,aO];rfl) aC.refl ?_;simp only [aH]
      refine ⟨NN.bool,?_⟩
      obtain ⟨i,hi1,hi2,hi3⟩:=(hm.2 _).1 hc
      have: ¬Perm p n:=fun h=>((h.2 k (by omega)).2 (by omega)).2 i hi1 hi3
      simpa [this] using hK
     ·refine au fun Kr hKr=>?_;simp (disch:=omega) only [RA,↓reduceIte,Nat.reduceEqDiff,RD,h2,h5,h6,hsl,hlen];refine hKr _ _ ?_;clear hKr Kr;(try simp only [RN,reduceIte]);try refine ah rfl ?_
      refine hnext _ (s.set (nl p k) true) (by simp [RA,↓reduceIte,Nat.reduceEqDiff,h1]) (by simp [RA,↓reduceIte,Nat.reduceEqDiff,h2]) (by simp [RA,↓reduceIte,Nat.reduceEqDiff,h5]) (by simp [RA,↓reduceIte,Nat.reduceEqDiff,h6]) (hm.next (by omega) (by omega)) ⟨fun h=>by omega,fun _=>⟨by omega,fun j hj e=>hc ((hm.2 _).2 ⟨j,hj,by omega,e⟩)⟩⟩
  ·refine hX _ _ ?_
   refine au fun Kr hKr=>?_;simp (disch:=omega) only [RA,↓reduceIte,Nat.reduceEqDiff,RD];refine hKr _ _ ?_;clear hKr Kr;(try simp only [RN,reduceIte]);try refine ah rfl ?_
   refine aS (by simp (disch:=omega) only [RA,↓reduceIte,Nat.reduceEqDiff,RD,aG,aO];rfl) aC.refl ?_;simp only [aH]
   refine ⟨NN.bool,?_⟩
   have:Perm p n:=⟨hc',fun i hi=>hat i (by omega)⟩
   simpa [this] using hK
theorem Perm.lt {p:List Nat} {n:Nat} (h:Perm p n) {i:Nat} (hi:i<n):nl p i<n:=by have:=((h.2 i (by have:=h.1;omega)).2 (by omega)).1;omega
theorem Perm.kN {p:List Nat} {n:Nat} (h:Perm p n) (hl:p.length=16) (i:Nat):nl p i<16:=by
 have h1:=h.1
 rcases Nat.lt_or_ge i n with hi|hi
 ·have:=h.lt hi;omega
 ·rcases Nat.lt_or_ge i 16 with h2|h2
  ·rw [(h.2 i h2).1 (by omega)];omega
  ·rw [Hg (by omega)];omega
def bG (p q:List Nat):Nat→List Nat
 |0=>List.replicate 16 0
 |k+1=>(bG p q k).set k (nl q (nl p k))
def dN (p:List Nat):Nat→List Nat
 |0=>List.replicate 16 0
 |k+1=>(dN p k).set (nl p k) k
theorem qx {p q:List Nat} {k:Nat}:(bG p q k).length=16:=by
 induction k with
 |zero=>simp [bG]
 |succ k ih=>simp [bG,ih]
theorem uT {p:List Nat} {k:Nat}:(dN p k).length=16:=by
 induction k with
 |zero=>simp [dN]
 |succ k ih=>simp [dN,ih]
theorem uU {p q:List Nat} {k i:Nat} (hk:k≤16):nl (bG p q k) i=if i<k then nl q (nl p i) else 0:=by
 induction k with
 |zero=>simp only [bG,qw];split<;>simp
 |succ k ih=>
  simp only [bG,jI,qx]
  rw [ih (by omega)]
  by_cases h:i=k
  ·subst h;simp [show i<16 by omega]
  ·simp only [h,false_and,if_false]
   split<;>split<;>first|rfl|omega
theorem Uw {p q:List Nat} {k:Nat} (hq:By 16 q) (hk:k≤16):By 16 (bG p q k):=⟨qx,fun i=>by rw [uU hk];split;exact hq.lt _;omega⟩
theorem Ux {p:List Nat} {k:Nat} (hk:k≤16):By 16 (dN p k):=by
 induction k with
 |zero=>exact By.rep
 |succ k ih=>exact (ih (by omega)).set (by omega)
theorem aeO {x:Bool} {p q:List Nat} {n:Nat} {H:BH} {K:Value→BH→Prop} (hp:By 16 p) (hq:By 16 q) (hn:n≤16) (wE: ∀i,nl p i<16) (hK:K (PL (bG p q n)) H):aQ x Zi [PL p,PL q,I n] H K:=by
 have hlen:=hp.len
 have hlen':=hq.len
 refine dR (by simp only [RH]) ?_
 refine bF aaO ?_;simp only [jP,aI]
 refine au fun Kr hKr=>?_;simp (disch:=omega) only [RA,↓reduceIte,Nat.reduceEqDiff,RD];refine hKr _ _ ?_;clear hKr Kr;(try simp only [RN,reduceIte]);try refine ah rfl ?_
 refine au fun Kr hKr=>?_;simp (disch:=omega) only [RA,↓reduceIte,Nat.reduceEqDiff,RD];refine hKr _ _ ?_;clear hKr Kr;(try simp only [RN,reduceIte]);try refine ah rfl ?_
 refine au fun Kr hKr=>?_;simp (disch:=omega) only [RA,↓reduceIte,Nat.reduceEqDiff,RD];refine hKr _ _ ?_;clear hKr Kr;(try simp only [RN,reduceIte]);try refine ah rfl ?_
 refine bU (fun m f H'=> ∃k,k≤n∧m=n-k∧f 2=I n∧f 3=P 0 0∧f 4=P 1 0∧f 6=P 2 0∧f 7=P 3 0∧f 8=I k∧H'=[some (p.map N8),some (q.map N8),some (List.replicate 16 (.int .u8 0)),some ((bG p q k).map N8)]) (n) ?_ ?_
 ·refine ⟨_,_,Gh.refl,0,by omega,by omega,by simp [RA,↓reduceIte,Nat.reduceEqDiff],by simp [RA,↓reduceIte,Nat.reduceEqDiff],by simp [RA,↓reduceIte,Nat.reduceEqDiff],by simp [RA,↓reduceIte,Nat.reduceEqDiff],by simp [RA,↓reduceIte,Nat.reduceEqDiff],by simp [RA,↓reduceIte,Nat.reduceEqDiff],by simp [RA,↓reduceIte,Nat.reduceEqDiff,bG]⟩
 ·rintro m f H' R ⟨k,hk,rfl,h2,h3,h4,h6,h7,h8,rfl⟩ hN hX hR hE
  simp only [jP.l0,aI]
  refine au fun Kr hKr=>?_;simp (disch:=omega) only [RA,↓reduceIte,Nat.reduceEqDiff,RD,h2,h8];refine hKr _ _ ?_;clear hKr Kr;(try simp only [RN,reduceIte]);try refine ah rfl ?_
  refine aX (p:=k<n) (by simp only [RA,↓reduceIte,Nat.reduceEqDiff]<;>rfl) (by (try simp only [RB])<;>first|done|exact Iff.rfl|omega|simp) (fun hc=>?_) (fun hc=>?_)<;>(try simp only [RN,reduceIte])<;>(try refine ah rfl ?_)
  ·have hlk:= @qx p q k
   have hpk:=wE k
   (first|refine bP rfl ?_|refine bQ rfl ?_);(try simp only [RN,reduceIte]);try refine ah rfl ?_
   refine au fun Kr hKr=>?_;simp (disch:=omega) only [RA,↓reduceIte,Nat.reduceEqDiff,RD,h3,h4,h7,h8,hlen,hlen',hlk];refine hKr _ _ ?_;clear hKr Kr;(try simp only [RN,reduceIte]);try refine ah rfl ?_
   refine bH fun Kr hKr=>?_;simp (disch:=omega) only [RA,↓reduceIte,Nat.reduceEqDiff,RD,h8];refine hKr _ _ ?_;clear hKr Kr
   refine hN (n-(k+1)) _ _ _ _ (by omega) Gh.refl ⟨k+1,by omega,rfl,by simp [RA,↓reduceIte,Nat.reduceEqDiff,h2],by simp [RA,↓reduceIte,Nat.reduceEqDiff,h3],by simp [RA,↓reduceIte,Nat.reduceEqDiff,h4],by simp [RA,↓reduceIte,Nat.reduceEqDiff,h6],by simp [RA,↓reduceIte,Nat.reduceEqDiff,h7],by simp [RA,↓reduceIte,Nat.reduceEqDiff],rfl⟩
  ·refine hX _ _ ?_
   obtain rfl:k=n:=by omega
   have hlk:= @qx p q k
   refine au fun Kr hKr=>?_;simp (disch:=omega) only [RA,↓reduceIte,Nat.reduceEqDiff,RD,h6,h7,hlk];refine hKr _ _ ?_;clear hKr Kr;(try simp only [RN,reduceIte]);try refine ah rfl ?_
   refine aS (by simp (disch:=omega) only [RA,↓reduceIte,Nat.reduceEqDiff,RD,aG,aO,h6,hlk];rfl) aC.refl ?_;simp only [aH]
   exact ⟨kM (by (simp only [RH])),hK⟩
theorem EG {x:Bool} {p q:List Nat} {n:Nat} {H:BH} {K:Value→BH→Prop} (hp:By 16 p) (hq:By 16 q) (hn:n≤16) (wE: ∀i,nl p i<16) (hK:K (PL (bG p q n)) H):aQ x Zb [PL p,PL q,I n] H K:=by
 have hlen:=hp.len
 have hlen':=hq.len
 refine dR (by simp only [RH]) ?_
 refine bF aaE ?_;simp only [jy,aI]
 refine au fun Kr hKr=>?_;simp (disch:=omega) only [RA,↓reduceIte,Nat.reduceEqDiff,RD];refine hKr _ _ ?_;clear hKr Kr;(try simp only [RN,reduceIte]);try refine ah rfl ?_
 refine au fun Kr hKr=>?_;simp (disch:=omega) only [RA,↓reduceIte,Nat.reduceEqDiff,RD];refine hKr _ _ ?_;clear hKr Kr;(try simp only [RN,reduceIte]);try refine ah rfl ?_
 refine au fun Kr hKr=>?_;simp (disch:=omega) only [RA,↓reduceIte,Nat.reduceEqDiff,RD];refine hKr _ _ ?_;clear hKr Kr;(try simp only [RN,reduceIte]);try refine ah rfl ?_
 refine bU (fun m f H'=> ∃k,k≤n∧m=n-k∧f 10=I n∧f 3=P 0 0∧f 4=P 1 0∧f 6=P 2 0∧f 7=P 3 0∧f 11=I k∧H'=[some (p.map N8),some (q.map N8),some (List.replicate 16 (.int .u8 0)),some ((bG p q k).map N8)]) (n) ?_ ?_
 ·refine ⟨_,_,Gh.refl,0,by omega,by omega,by simp [RA,↓reduceIte,Nat.reduceEqDiff],by simp [RA,↓reduceIte,Nat.reduceEqDiff],by simp [RA,↓reduceIte,Nat.reduceEqDiff],by simp [RA,↓reduceIte,Nat.reduceEqDiff],by simp [RA,↓reduceIte,Nat.reduceEqDiff],by simp [RA,↓reduceIte,Nat.reduceEqDiff],by simp [RA,↓reduceIte,Nat.reduceEqDiff,bG]⟩
 ·rintro m f H' R ⟨k,hk,rfl,h2,h3,h4,h6,h7,h8,rfl⟩ hN hX hR hE
  simp only [jy.l0,aI]
  refine au fun Kr hKr=>?_;simp (disch:=omega) only [RA,↓reduceIte,Nat.reduceEqDiff,RD,h2,h8];refine hKr _ _ ?_;clear hKr Kr;(try simp only [RN,reduceIte]);try refine ah rfl ?_
  refine aX (p:=k<n) (by simp only [RA,↓reduceIte,Nat.reduceEqDiff]<;>rfl) (by (try simp only [RB])<;>first|done|exact Iff.rfl|omega|simp) (fun hc=>?_) (fun hc=>?_)<;>(try simp only [RN,reduceIte])<;>(try refine ah rfl ?_)
  ·have hlk:= @qx p q k
   have hpk:=wE k
   (first|refine bP rfl ?_|refine bQ rfl ?_);(try simp only [RN,reduceIte]);try refine ah rfl ?_
   refine au fun Kr hKr=>?_;simp (disch:=omega) only [RA,↓reduceIte,Nat.reduceEqDiff,RD,h8];refine hKr _ _ ?_;clear hKr Kr;(try simp only [RN,reduceIte]);try refine ah rfl ?_
   refine au fun Kr hKr=>?_;simp (disch:=omega) only [RA,↓reduceIte,Nat.reduceEqDiff,RD,h3,h4,h7,h8,hlen,hlen',hlk];refine hKr _ _ ?_;clear hKr Kr;(try simp only [RN,reduceIte]);try refine ah rfl ?_
   refine bH fun Kr hKr=>?_;simp (disch:=omega) only [RA,↓reduceIte,Nat.reduceEqDiff,RD,h8];refine hKr _ _ ?_;clear hKr Kr
   refine hN (n-(k+1)) _ _ _ _ (by omega) Gh.refl ⟨k+1,by omega,rfl,by simp [RA,↓reduceIte,Nat.reduceEqDiff,h2],by simp [RA,↓reduceIte,Nat.reduceEqDiff,h3],by simp [RA,↓reduceIte,Nat.reduceEqDiff,h4],by simp [RA,↓reduceIte,Nat.reduceEqDiff,h6],by simp [RA,↓reduceIte,Nat.reduceEqDiff,h7],by simp [RA,↓reduceIte,Nat.reduceEqDiff],rfl⟩
  ·refine hX _ _ ?_
   obtain rfl:k=n:=by omega
   have hlk:= @qx p q k
   refine au fun Kr hKr=>?_;simp (disch:=omega) only [RA,↓reduceIte,Nat.reduceEqDiff,RD,h6,h7,hlk];refine hKr _ _ ?_;clear hKr Kr;(try simp only [RN,reduceIte]);try refine ah rfl ?_
   refine aS (by simp (disch:=omega) only [RA,↓reduceIte,Nat.reduceEqDiff,RD,aG,aO,h6,hlk];rfl) aC.refl ?_;simp only [aH]
   exact ⟨kM (by (simp only [RH])),hK⟩
theorem aeP {x:Bool} {p:List Nat} {n:Nat} {H:BH} {K:Value→BH→Prop} (hp:By 16 p) (hn:n≤16) (wE: ∀i,nl p i<16) (hK:K (PL (dN p n)) H):aQ x Zh [PL p,I n] H K:=by
 have hlen:=hp.len
 refine dR (by simp only [RH]) ?_
 refine bF aaN ?_;simp only [jO,aI]
 refine au fun Kr hKr=>?_;simp (disch:=omega) only [RA,↓reduceIte,Nat.reduceEqDiff,RD];refine hKr _ _ ?_;clear hKr Kr;(try simp only [RN,reduceIte]);try refine ah rfl ?_
 refine au fun Kr hKr=>?_;simp (disch:=omega) only [RA,↓reduceIte,Nat.reduceEqDiff,RD];refine hKr _ _ ?_;clear hKr Kr;(try simp only [RN,reduceIte]);try refine ah rfl ?_
 refine au fun Kr hKr=>?_;simp (disch:=omega) only [RA,↓reduceIte,Nat.reduceEqDiff,RD];refine hKr _ _ ?_;clear hKr Kr;(try simp only [RN,reduceIte]);try refine ah rfl ?_
 refine bU (fun m f H'=> ∃k,k≤n∧m=n-k∧f 1=I n∧f 2=P 0 0∧f 4=P 1 0∧f 5=P 2 0∧f 6=I k∧H'=[some (p.map N8),some (List.replicate 16 (.int .u8 0)),some ((dN p k).map N8)]) (n) ?_ ?_
 ·refine ⟨_,_,Gh.refl,0,by omega,by omega,by simp [RA,↓reduceIte,Nat.reduceEqDiff],by simp [RA,↓reduceIte,Nat.reduceEqDiff],by simp [RA,↓reduceIte,Nat.reduceEqDiff],by simp [RA,↓reduceIte,Nat.reduceEqDiff],by simp [RA,↓reduceIte,Nat.reduceEqDiff],by simp [RA,↓reduceIte,Nat.reduceEqDiff,dN]⟩
 ·rintro m f H' R ⟨k,hk,rfl,h1,h2,h4,h5,h6,rfl⟩ hN hX hR hE
  simp only [jO.l0,aI]
  refine au fun Kr hKr=>?_;simp (disch:=omega) only [RA,↓reduceIte,Nat.reduceEqDiff,RD,h1,h6];refine hKr _ _ ?_;clear hKr Kr;(try simp only [RN,reduceIte]);try refine ah rfl ?_
  refine aX (p:=k<n) (by simp only [RA,↓reduceIte,Nat.reduceEqDiff]<;>rfl) (by (try simp only [RB])<;>first|done|exact Iff.rfl|omega|simp) (fun hc=>?_) (fun hc=>?_)<;>(try simp only [RN,reduceIte])<;>(try refine ah rfl ?_)
  ·have hlk:= @uT p k
   have hpk:=wE k
   (first|refine bP rfl ?_|refine bQ rfl ?_);(try simp only [RN,reduceIte]);try refine ah rfl ?_
   refine au fun Kr hKr=>?_;simp (disch:=omega) only [RA,↓reduceIte,Nat.reduceEqDiff,RD,h2,h4,h5,h6,hlen,hlk];refine hKr _ _ ?_;clear hKr Kr;(try simp only [RN,reduceIte]);try refine ah rfl ?_
   refine bH fun Kr hKr=>?_;simp (disch:=omega) only [RA,↓reduceIte,Nat.reduceEqDiff,RD,h6];refine hKr _ _ ?_;clear hKr Kr
   refine hN (n-(k+1)) _ _ _ _ (by omega) Gh.refl ⟨k+1,by omega,rfl,by simp [RA,↓reduceIte,Nat.reduceEqDiff,h1],by simp [RA,↓reduceIte,Nat.reduceEqDiff,h2],by simp [RA,↓reduceIte,Nat.reduceEqDiff,h4],by simp [RA,↓reduceIte,Nat.reduceEqDiff,h5],by simp [RA,↓reduceIte,Nat.reduceEqDiff],rfl⟩
  ·refine hX _ _ ?_
   obtain rfl:k=n:=by omega
   have hlk:= @uT p k
   refine au fun Kr hKr=>?_;simp (disch:=omega) only [RA,↓reduceIte,Nat.reduceEqDiff,RD,h4,h5,hlk];refine hKr _ _ ?_;clear hKr Kr;(try simp only [RN,reduceIte]);try refine ah rfl ?_
   refine aS (by simp (disch:=omega) only [RA,↓reduceIte,Nat.reduceEqDiff,RD,aG,aO,h4,hlk];rfl) aC.refl ?_;simp only [aH]
   exact ⟨kM (by (simp only [RH])),hK⟩
theorem Uy {x:Bool} {p:List Nat} {n:Nat} {H:BH} {K:Value→BH→Prop} (hp:By 16 p) (hn:n≤16) (wE: ∀i,nl p i<16) (hK:K (PL (dN p n)) H):aQ x Za [PL p,I n] H K:=by
 have hlen:=hp.len
 refine dR (by simp only [RH]) ?_
 refine bF aaD ?_;simp only [jw,aI]
 refine au fun Kr hKr=>?_;simp (disch:=omega) only [RA,↓reduceIte,Nat.reduceEqDiff,RD];refine hKr _ _ ?_;clear hKr Kr;(try simp only [RN,reduceIte]);try refine ah rfl ?_
 refine au fun Kr hKr=>?_;simp (disch:=omega) only [RA,↓reduceIte,Nat.reduceEqDiff,RD];refine hKr _ _ ?_;clear hKr Kr;(try simp only [RN,reduceIte]);try refine ah rfl ?_
 refine au fun Kr hKr=>?_;simp (disch:=omega) only [RA,↓reduceIte,Nat.reduceEqDiff,RD];refine hKr _ _ ?_;clear hKr Kr;(try simp only [RN,reduceIte]);try refine ah rfl ?_
 refine bU (fun m f H'=> ∃k,k≤n∧m=n-k∧f 8=I n∧f 2=P 0 0∧f 4=P 1 0∧f 5=P 2 0∧f 9=I k∧H'=[some (p.map N8),some (List.replicate 16 (.int .u8 0)),some ((dN p k).map N8)]) (n) ?_ ?_
 ·refine ⟨_,_,Gh.refl,0,by omega,by omega,by simp [RA,↓reduceIte,Nat.reduceEqDiff],by simp [RA,↓reduceIte,Nat.reduceEqDiff],by simp [RA,↓reduceIte,Nat.reduceEqDiff],by simp [RA,↓reduceIte,Nat.reduceEqDiff],by simp [RA,↓reduceIte,Nat.reduceEqDiff],by simp [RA,↓reduceIte,Nat.reduceEqDiff,dN]⟩
 ·rintro m f H' R ⟨k,hk,rfl,h1,h2,h4,h5,h6,rfl⟩ hN hX hR hE
  simp only [jw.l0,aI]
  refine au fun Kr hKr=>?_;simp (disch:=omega) only [RA,↓reduceIte,Nat.reduceEqDiff,RD,h1,h6];refine hKr _ _ ?_;clear hKr Kr;(try simp only [RN,reduceIte]);try refine ah rfl ?_
  refine aX (p:=k<n) (by simp only [RA,↓reduceIte,Nat.reduceEqDiff]<;>rfl) (by (try simp only [RB])<;>first|done|exact Iff.rfl|omega|simp) (fun hc=>?_) (fun hc=>?_)<;>(try simp only [RN,reduceIte])<;>(try refine ah rfl ?_)
  ·have hlk:= @uT p k
   have hpk:=wE k
   (first|refine bP rfl ?_|refine bQ rfl ?_);(try simp only [RN,reduceIte]);try refine ah rfl ?_
   refine au fun Kr hKr=>?_;simp (disch:=omega) only [RA,↓reduceIte,Nat.reduceEqDiff,RD,h6];refine hKr _ _ ?_;clear hKr Kr;(try simp only [RN,reduceIte]);try refine ah rfl ?_
   refine au fun Kr hKr=>?_;simp (disch:=omega) only [RA,↓reduceIte,Nat.reduceEqDiff,RD,h2,h4,h5,h6,hlen,hlk];refine hKr _ _ ?_;clear hKr Kr;(try simp only [RN,reduceIte]);try refine ah rfl ?_
   refine bH fun Kr hKr=>?_;simp (disch:=omega) only [RA,↓reduceIte,Nat.reduceEqDiff,RD,h6];refine hKr _ _ ?_;clear hKr Kr
   refine hN (n-(k+1)) _ _ _ _ (by omega) Gh.refl ⟨k+1,by omega,rfl,by simp [RA,↓reduceIte,Nat.reduceEqDiff,h1],by simp [RA,↓reduceIte,Nat.reduceEqDiff,h2],by simp [RA,↓reduceIte,Nat.reduceEqDiff,h4],by simp [RA,↓reduceIte,Nat.reduceEqDiff,h5],by simp [RA,↓reduceIte,Nat.reduceEqDiff],rfl⟩
  ·refine hX _ _ ?_
   obtain rfl:k=n:=by omega
   have hlk:= @uT p k
   refine au fun Kr hKr=>?_;simp (disch:=omega) only [RA,↓reduceIte,Nat.reduceEqDiff,RD,h4,h5,hlk];refine hKr _ _ ?_;clear hKr Kr;(try simp only [RN,reduceIte]);try refine ah rfl ?_
   refine aS (by simp (disch:=omega) only [RA,↓reduceIte,Nat.reduceEqDiff,RD,aG,aO,h4,hlk];rfl) aC.refl ?_;simp only [aH]
   exact ⟨kM (by (simp only [RH])),hK⟩
abbrev DC (n:Int) (b w:List Nat):List Value:=I n::(b.map N8++w.map N8)
abbrev DV (n:Int) (b w:List Nat):Value:=bJ (DC n b w)
theorem qU {n:Int} {b w:List Nat}:aY none (DC n b w) 0=some (I n):=rfl
theorem uV {n:Int} {b w:List Nat} (hb:b.length=16):aY (some 16) (DC n b w) 1=some (PL b):=by
 rw [rX (by simp [hb])]
 simp [List.take_append_of_le_length,hb]
theorem uX {n:Int} {b w:List Nat} (hb:b.length=16) (hw:w.length=16):aY (some 16) (DC n b w) 17=some (PL w):=by
 rw [rX (by simp [hb,hw])]
 simp [List.drop_append,hb,hw]
 rw [List.take_of_length_le (by simp [hw])]
theorem Uz {n:Nat} {cs:List Value} (h:cs.length=n):aY (some n) cs 0=some (bJ cs):=by
 rw [rX (by omega),List.drop_zero,List.take_of_length_le (by omega)]
theorem aeQ {n:Int} {b w:List Nat} (hb:b.length=16) (hw:w.length=16):aY (some 33) (DC n b w) 0=some (DV n b w):=Uz (by simp [hb,hw])
def eH (b w:List Nat) (n:Nat):List Nat:=dN (bG b w n) n
theorem UA {p q:List Nat} {k i:Nat} (hq: ∀i,nl q i<16) (hk:k≤16):nl (bG p q k) i<16:=by rw [uU hk];split;exact hq _;omega
theorem aeR {x:Bool} {b w:List Nat} {n:Nat} {H:BH} {K:Value→BH→Prop} (hb:By 16 b) (hw:By 16 w) (hn:n≤16) (hb16: ∀i,nl b i<16) (hw16: ∀i,nl w i<16) (hK:K (PL (eH b w n)) H):aQ x Y6 [DV n b w] H K:=by
 have hlb:=hb.len
 have dI:=hw.len
 refine dR (by simp only [RH]) ?_
 refine bF aay ?_;simp only [ug,aI]
 refine au fun Kr hKr=>?_;simp (disch:=omega) only [RA,↓reduceIte,Nat.reduceEqDiff,RD];refine hKr _ _ ?_;clear hKr Kr;(try simp only [RN,reduceIte]);try refine ah rfl ?_
 refine au fun Kr hKr=>?_;simp (disch:=omega) only [RA,↓reduceIte,Nat.reduceEqDiff,RD,qU,uV,uX]
 refine aeO hb hw hn hb16 ?_
 simp (disch:=omega) only [RA,↓reduceIte,Nat.reduceEqDiff,RD,qU]
 refine aeP (Uw hw hn) hn (fun i=>UA hw16 hn) ?_
 have hl:= @uT (bG b w n) n
 simp (disch:=omega) only [RA,↓reduceIte,Nat.reduceEqDiff,RD]
 refine hKr _ _ ?_;clear hKr Kr;(try simp only [aK,aP,aN]);(try simp only [RN,reduceIte]);try refine ah rfl ?_
 refine aS (by simp (disch:=omega) only [RA,↓reduceIte,Nat.reduceEqDiff,RD,aG,aO,hl];rfl) aC.refl ?_;simp only [aH]
 exact ⟨kM (by (simp only [RH])),hK⟩
theorem UC {x:Bool} {b w:List Nat} {n:Nat} {H:BH} {K:Value→BH→Prop} (hb:By 16 b) (hw:By 16 w) (hn:n≤16) (hb16: ∀i,nl b i<16) (hw16: ∀i,nl w i<16) (hK:K (PL (eH b w n)) H):aQ x YU [DV n b w] H K:=by
 have hlb:=hb.len
 have dI:=hw.len
 refine dR (by simp only [RH]) ?_
 refine bF aai ?_;simp only [tX,aI]
 refine au fun Kr hKr=>?_;simp (disch:=omega) only [RA,↓reduceIte,Nat.reduceEqDiff,RD];refine hKr _ _ ?_;clear hKr Kr;(try simp only [RN,reduceIte]);try refine ah rfl ?_
 refine au fun Kr hKr=>?_;simp (disch:=omega) only [RA,↓reduceIte,Nat.reduceEqDiff,RD,qU,uV,uX]
 refine EG hb hw hn hb16 ?_
 simp (disch:=omega) only [RA,↓reduceIte,Nat.reduceEqDiff,RD,qU]
 refine Uy (Uw hw hn) hn (fun i=>UA hw16 hn) ?_
 have hl:= @uT (bG b w n) n
 simp (disch:=omega) only [RA,↓reduceIte,Nat.reduceEqDiff,RD]
 refine hKr _ _ ?_;clear hKr Kr;(try simp only [aK,aP,aN]);(try simp only [RN,reduceIte]);try refine ah rfl ?_
 refine aS (by simp (disch:=omega) only [RA,↓reduceIte,Nat.reduceEqDiff,RD,aG,aO,hl];rfl) aC.refl ?_;simp only [aH]
 exact ⟨kM (by (simp only [RH])),hK⟩
end Go.Bm
namespace Go.Bm
open Go Go.Am
abbrev BS:=List Bool×List Nat
def visit (st:BS) (y:Nat):BS:=if bl st.1 y=true then st else (st.1.set y true,st.2++[y])
def iJ (ls:List (List Nat)) (x:Nat) (st:BS):BS:=ls.foldl (fun st p=>visit st (nl p x)) st
def bf (ls:List (List Nat)) (st:BS):Nat→BS
 |0=>st
 |i+1=>if i<(bf ls st i).2.length then iJ ls (nl (bf ls st i).2 i) (bf ls st i) else bf ls st i
structure Bi (m:Nat) (st:BS):Prop where
 len:st.1.length=m
 lt: ∀i,i<st.2.length→nl st.2 i<m
 cnt:st.2.length≤st.1.count true
theorem Bi.le {m:Nat} {st:BS} (h:Bi m st):st.2.length≤m:=by
 have:=List.count_le_length (a:=true) (l:=st.1)
 have:=h.cnt
 have:=h.len
 omega
theorem oW {p q:List Nat} {i:Nat}:nl (p++q) i=if i<p.length then nl p i else nl q (i-p.length):=by
 unfold nl
 simp only [List.getD]
 split
 ·rename_i h;rw [List.getElem?_append_left h]
 ·rename_i h;rw [List.getElem?_append_right (by omega)]
theorem AO {y:Nat} {i:Nat} (h:i<1):nl [y] i=y:=by
 obtain rfl:i=0:=by omega
 rfl
theorem rY {s:List Bool} {y:Nat} (hy:y<s.length) (h:bl s y=false):(s.set y true).count true=s.count true+1:=by
 rw [List.count_set hy]
 have:s[y]=false:=by simpa [bl,List.getD,hy] using h
 simp [this]
theorem Bi.visit {m:Nat} {st:BS} (h:Bi m st) {y:Nat} (hy:y<m):Bi m (visit st y):=by
 unfold Bm.visit
 split
 ·exact h
 ·rename_i hb
  refine ⟨by simp [h.len],fun i hi=>?_,?_⟩
  ·simp only [List.length_append,List.length_singleton] at hi
   simp only [oW]
   split
   ·exact h.lt i (by assumption)
   ·rw [AO (by omega)];exact hy
  ·simp only [List.length_append,List.length_singleton]
   rw [rY (by rw [h.len];exact hy) (by simpa using hb)]
   have:=h.cnt
   omega
theorem Bi.round {m:Nat} {x:Nat}: ∀{ls:List (List Nat)} {st:BS},Bi m st→(∀p∈ls,nl p x<m)→Bi m (iJ ls x st)
 |[],st,h,_=>h
 |p::ls,st,h,hp=>Bi.round (ls:=ls) (h.visit (hp p (by simp))) fun q hq=>hp q (by simp [hq])
theorem Bi.bf {m:Nat} {ls:List (List Nat)} {st:BS} (h:Bi m st) (hp: ∀p∈ls,∀i,nl p i<m): ∀i,Bi m (bf ls st i)
 |0=>h
 |i+1=>by
  simp only [Bm.bf]
  split
  ·exact (Bi.bf h hp i).round fun p hq=>hp p hq _
  ·exact Bi.bf h hp i
theorem UD {st:BS} {y:Nat}: ∃q,(visit st y).2=st.2++q:=by
 unfold visit
 split
 ·exact ⟨[],by simp⟩
 ·exact ⟨[y],rfl⟩
theorem uY {x:Nat}: ∀{ls:List (List Nat)} {st:BS},∃q,(iJ ls x st).2=st.2++q
 |[],st=>⟨[],by simp [iJ]⟩
 |p::ls,st=>by
  obtain ⟨q,hq⟩:= @UD st (nl p x)
  obtain ⟨q',hq'⟩:=uY (x:=x) (ls:=ls) (st:=visit st (nl p x))
  exact ⟨q++q',by show (iJ ls x (visit st (nl p x))).2=_;rw [hq',hq,List.append_assoc]⟩
theorem xR {ls:List (List Nat)} {st:BS} {i:Nat} (h:(bf ls st i).2.length≤i): ∀j,i≤j→bf ls st j=bf ls st i
 |0,hj=>by
  obtain rfl:i=0:=by omega
  rfl
 |j+1,hj=>by
  rcases Nat.lt_or_ge j i with h1|h1
  ·obtain rfl:i=j+1:=by omega
   rfl
  ·have ih:=xR h j h1
   simp only [bf]
   rw [ih,if_neg (by omega)]
theorem EH {ls:List (List Nat)} {x j:Nat} {st:BS} (h:j<ls.length):iJ (ls.take (j+1)) x st=visit (iJ (ls.take j) x st) (nl (ls.getD j []) x):=by
 have:ls.take (j+1)=ls.take j++[ls.getD j []]:=by
  rw [List.take_add_one]
  simp [List.getD,h]
 rw [this]
 simp [iJ,List.foldl_append]
def st0 (m:Nat):BS:=((List.replicate m false).set 0 true,[0])
theorem Bi.st0 {m:Nat} (hm:0<m):Bi m (st0 m):=⟨by simp [Bm.st0],fun i hi=>by rw [show (Bm.st0 m).2=[0] from rfl,AO (by simpa [Bm.st0] using hi)];exact hm,by
 show 1≤_
 have:((List.replicate m false).set 0 true).count true=(List.replicate m false).count true+1:=rY (by simpa using hm) xQ
 show 1≤((List.replicate m false).set 0 true).count true
 omega⟩
def reach (b w:List Nat):BS:=bf [b,w] (st0 16) 16
theorem aeS {x:Bool} {b w:List Nat} {n:Int} {H:BH} {K:Value→BH→Prop} (hb:By 16 b) (hw:By 16 w) (hb16: ∀i,nl b i<16) (hw16: ∀i,nl w i<16)
  (hK:K (.bool (decide (((reach b w).2.length:Int)=n))) H):aQ x Y5 [I n,PL b,PL w] H K:=by
 have hlb:=hb.len
 have dI:=hw.len
 have hall: ∀p∈[b,w],∀i,nl p i<16:=by simp;exact ⟨hb16,hw16⟩
 refine dR (by simp only [RH]) ?_
 refine bF aaw ?_;simp only [fG,aI]
 refine au fun Kr hKr=>?_;simp (disch:=omega) only [RA,↓reduceIte,Nat.reduceEqDiff,Nat.reduceAdd,Nat.reduceLeDiff,RD];refine hKr _ _ ?_;clear hKr Kr;(try simp only [RN,reduceIte]);try refine ah rfl ?_
 refine au fun Kr hKr=>?_;simp (disch:=omega) only [RA,↓reduceIte,Nat.reduceEqDiff,Nat.reduceAdd,Nat.reduceLeDiff,RD];refine hKr _ _ ?_;clear hKr Kr;(try simp only [RN,reduceIte]);try refine ah rfl ?_
 refine au fun Kr hKr=>?_;simp (disch:=omega) only [RA,↓reduceIte,Nat.reduceEqDiff,RD,SX];refine hKr _ _ ?_;clear hKr Kr;(try simp only [RN,reduceIte]);try refine ah rfl ?_
 refine au fun Kr hKr=>?_;simp (disch:=omega) only [RA,↓reduceIte,Nat.reduceEqDiff,Nat.reduceAdd,Nat.reduceLeDiff,RD];refine hKr _ _ ?_;clear hKr Kr;(try simp only [RN,reduceIte]);try refine ah rfl ?_
 refine bU (fun m f H'=> ∃i,i≤16∧m=16-i∧i≤(bf [b,w] (st0 16) i).2.length∧f 0=I n∧f 4=P 0 0∧f 5=P 1 0∧f 7=P 3 0∧f 8=S 2 0 (bf [b,w] (st0 16) i).2.length 1∧f 9=I i∧H'=[some (b.map N8),some (w.map N8),some ((bf [b,w] (st0 16) i).2.map N8),some ((bf [b,w] (st0 16) i).1.map B)]) (16) ?_ ?_
 ·refine ⟨_,_,Gh.refl,0,by omega,by omega,by omega,?_,?_,?_,?_,?_,?_,?_⟩
  any_goals (simp (disch:=omega) only [RA,↓reduceIte,Nat.reduceEqDiff,reduceCtorEq,RD,RE, *]<;>rfl)
  simp [bf,st0]<;>rfl
 ·rintro m f H' R ⟨i,hi,rfl,hil,h0,h4,h5,h7,h8,h9,rfl⟩ hN hX hR hE
  simp only [fG.l1,aI]
  have hB:=(Bi.st0 (m:=16) (by omega)).bf hall i
  generalize hst:bf [b,w] (st0 16) i=st at hil h8 hB
  have hle:=hB.le
  have hsl:=hB.len
  refine au fun Kr hKr=>?_;simp (disch:=omega) only [RA,↓reduceIte,Nat.reduceEqDiff,RD,h8,h9];refine hKr _ _ ?_;clear hKr Kr;(try simp only [RN,reduceIte]);try refine ah rfl ?_
  refine aX (p:=i<st.2.length) (by simp only [RA,↓reduceIte,Nat.reduceEqDiff]<;>rfl) (by (try simp only [RB])<;>first|done|exact Iff.rfl|omega|simp) (fun hc=>?_) (fun hc=>?_)<;>(try simp only [RN,reduceIte])<;>(try refine ah rfl ?_)
  ·have hx:=hB.lt i hc
   (first|refine bP rfl ?_|refine bQ rfl ?_);(try simp only [RN,reduceIte]);try refine ah rfl ?_
   refine au fun Kr hKr=>?_;simp (disch:=omega) only [RA,↓reduceIte,Nat.reduceEqDiff,Nat.reduceSub,Nat.reduceAdd,Nat.reduceLeDiff,RD,h4,h5,h8,h9,hlb,dI];refine hKr _ _ ?_;clear hKr Kr;(try simp only [RN,reduceIte]);try refine ah rfl ?_
   obtain ⟨nx,EI⟩: ∃nx,nx=[nl b (nl st.2 i),nl w (nl st.2 i)]:=⟨_,rfl⟩
   have IW:nx.length=2:=by rw [EI];rfl
   refine au fun Kr hKr=>?_;simp (disch:=omega) only [RA,↓reduceIte,Nat.reduceEqDiff,Nat.reduceAdd,Nat.reduceLeDiff,RD];refine hKr _ _ ?_;clear hKr Kr;(try simp only [RN,reduceIte]);try refine ah rfl ?_
   refine bU (fun m f H'=> ∃j st',j≤2∧m=2-j∧st'=iJ ([b,w].take j) (nl st.2 i) st∧f 0=I n∧f 4=P 0 0∧f 5=P 1 0∧f 7=P 3 0∧f 8=S 2 0 st'.2.length 1∧f 9=I i∧f 10=S 4 0 2 1∧f 11=I j∧H'=[some (b.map N8),some (w.map N8),some (st'.2.map N8),some (st'.1.map B),some (nx.map N8)]) (2) ?_ ?_
   ·refine ⟨_,_,Gh.refl,0,st,by omega,by omega,rfl,?_,?_,?_,?_,?_,?_,?_,?_,by rw [EI];rfl⟩
    any_goals (simp (disch:=omega) only [RA,↓reduceIte,Nat.reduceEqDiff,RD,RE, *]<;>rfl)
   ·clear h0 h4 h5 h7 h8 h9
    rintro m f H' R2 ⟨j,st',hj,rfl,hst',h0,h4,h5,h7,h8,h9,h10,h11,rfl⟩ gB hX2 hR2 hE2
    simp only [fG.l0,aI]
    refine au fun Kr hKr=>?_;simp (disch:=omega) only [RA,↓reduceIte,Nat.reduceEqDiff,RD,h11];refine hKr _ _ ?_;clear hKr Kr;(try simp only [RN,reduceIte]);try refine ah rfl ?_
    have hB':Bi 16 st':=by rw [hst'];exact hB.round fun p hp=>hall p (List.mem_of_mem_take hp) _
    have hle':=hB'.le
    have qy:=hB'.len
    refine aX (p:=j<2) (by simp only [RA,↓reduceIte,Nat.reduceEqDiff]<;>rfl) (by (try simp only [RB])<;>first|done|exact Iff.rfl|omega|simp) (fun hc=>?_) (fun hc=>?_)<;>(try simp only [RN,reduceIte])<;>(try refine ah rfl ?_)
    ·have hy:nl nx j=nl ([b,w].getD j []) (nl st.2 i):=by
      rw [EI]
      have:j=0∨j=1:=by omega
      rcases this with rfl|rfl<;>rfl
     have hyl:nl nx j<16:=by
      rw [EI]
      have:j=0∨j=1:=by omega
      rcases this with rfl|rfl
      ·exact hb16 _
      ·exact hw16 _
     have hnx:=EH (ls:=[b,w]) (x:=nl st.2 i) (st:=st) (show j<[b,w].length from hc)
     rw [←hst',←hy] at hnx
     obtain ⟨y,mD⟩: ∃y,nl nx j=y:=⟨_,rfl⟩
     rw [mD] at hyl hnx
     have hnext: ∀f' st2 (c1 c2:Option (List Value)),f' 0=I n→f' 4=P 0 0→f' 5=P 1 0→f' 7=P 3 0→f' 8=S 2 0 st2.2.length 1→f' 9=I i→f' 10=S 4 0 2 1→f' 11=I j→st2=visit st' y→
       T 0 fG.r9 R2 f' [some (b.map N8),some (w.map N8),some (st2.2.map N8),some (st2.1.map B),some (nx.map N8)]:=by
      intro f' st2 c1 c2 h0 h4 h5 h7 h8 h9 h10 h11 hs2
      refine bH fun Kr hKr=>?_;simp (disch:=omega) only [RA,↓reduceIte,Nat.reduceEqDiff,RD,h11];refine hKr _ _ ?_;clear hKr Kr
      refine gB (2-(j+1)) _ _ _ _ (by omega) Gh.refl ⟨j+1,st2,by omega,rfl,by rw [hnx,hs2],?_,?_,?_,?_,?_,?_,?_,?_,rfl⟩
      any_goals (simp (disch:=omega) only [RA,↓reduceIte,Nat.reduceEqDiff,RD,RE, *]<;>rfl)
     (first|refine bP rfl ?_|refine bQ rfl ?_);(try simp only [RN,reduceIte]);try refine ah rfl ?_
     refine au fun Kr hKr=>?_;simp (disch:=omega) only [RA,↓reduceIte,Nat.reduceEqDiff,RD,h7,h10,h11,IW,qy,mD];refine hKr _ _ ?_;clear hKr Kr;(try simp only [RN,reduceIte]);try refine ah rfl ?_
     refine aX (p:= ¬bl st'.1 y=true) (by simp only [RA,↓reduceIte,Nat.reduceEqDiff]<;>rfl) (by (try simp only [RB])<;>first|done|exact Iff.rfl|omega|simp) (fun hc=>?_) (fun hc=>?_)<;>(try simp only [RN,reduceIte])<;>(try refine ah rfl ?_)
     ·refine au fun Kr hKr=>?_;simp (disch:=omega) only [RA,↓reduceIte,Nat.reduceEqDiff,RD,h7,h10,h11,IW,qy,mD];refine hKr _ _ ?_;clear hKr Kr;(try simp only [RN,reduceIte]);try refine ah rfl ?_
      refine au fun Kr hKr=>?_;simp (disch:=omega) only [RA,↓reduceIte,Nat.reduceEqDiff,Nat.reduceAdd,Nat.reduceLeDiff,RD,h8,h10,h11,IW,mD];refine hKr _ _ ?_;clear hKr Kr;(try simp only [RN,reduceIte]);try refine ah rfl ?_
      refine lI (Gh.nrm [0,1,6,3,4] rfl rfl (by simp only [RH])) ?_
      refine hnext _ (st'.1.set y true,st'.2++[y]) none none ?_ ?_ ?_ ?_ ?_ ?_ ?_ ?_ ?_
      any_goals (simp (disch:=omega) only [RA,↓reduceIte,Nat.reduceEqDiff,RD,RE, *]<;>rfl)
      rw [visit,if_neg hc]
     ·(try simp only [RN,reduceIte]);try refine ah rfl ?_
      refine hnext _ st' none none ?_ ?_ ?_ ?_ ?_ ?_ ?_ ?_ ?_
      any_goals (simp (disch:=omega) only [RA,↓reduceIte,Nat.reduceEqDiff,RD,RE, *]<;>rfl)
      rw [visit,if_pos (by simpa using hc)]
    ·refine hX2 _ _ ?_
     obtain rfl:j=2:=by omega
     have hst2:st'=bf [b,w] (st0 16) (i+1):=by
      rw [hst',bf,hst,if_pos (by assumption)]
      rfl
     obtain ⟨q,hq⟩:= @uY (nl st.2 i) ([b,w].take 2) st
     have hlq:i+1≤st'.2.length:=by rw [hst',hq];simp;omega
     refine bH fun Kr hKr=>?_;simp (disch:=omega) only [RA,↓reduceIte,Nat.reduceEqDiff,RD,h9];refine hKr _ _ ?_;clear hKr Kr
     refine hN (16-(i+1)) _ _ _ _ (by omega) (Gh.nrm [0,1,2,3] rfl rfl (by simp only [RH])) ⟨i+1,by omega,rfl,by rw [←hst2];exact hlq,?_,?_,?_,?_,?_,?_,?_⟩
     any_goals (simp (disch:=omega) only [RA,↓reduceIte,Nat.reduceEqDiff,RD,RE, *]<;>rfl)
     ·rw [←hst2]
      exact (by simp (disch:=omega) only [RA,↓reduceIte,Nat.reduceEqDiff,RD,RE, *]<;>rfl)
     ·rw [←hst2];rfl
  ·refine hX _ _ ?_
   refine au fun Kr hKr=>?_;simp (disch:=omega) only [RA,↓reduceIte,Nat.reduceEqDiff,RD,h0,h8];refine hKr _ _ ?_;clear hKr Kr;(try simp only [RN,reduceIte]);try refine ah rfl ?_
   refine aS (by simp (disch:=omega) only [RA,↓reduceIte,Nat.reduceEqDiff,RD,aG,aO];rfl) aC.refl ?_;simp only [aH]
   refine ⟨NN.bool,?_⟩
   have hs:reach b w=st:=by rw [reach,xR (i:=i) (by rw [hst];omega) 16 hi,hst]
   rw [hs] at hK
   exact hK
end Go.Bm
namespace Go.Bm
open Go Go.Am
abbrev kW (m:Nat) (ls:List (List Nat)):Value:=Fz ls.length m (ls.flatten.map N8)
theorem IX {α:Type} {m:Nat}: ∀{ls:List (List α)} {j:Nat},(∀p∈ls,p.length=m)→j<ls.length→ ∃r,ls.flatten.drop (j*m)=ls.getD j []++r
 |p::ls,0,h,_=>⟨ls.flatten,by simp⟩
 |p::ls,j+1,h,hj=>by
  obtain ⟨r,hr⟩:=IX (ls:=ls) (j:=j) (fun q hq=>h q (by simp [hq])) (by simpa using hj)
  refine ⟨r,?_⟩
  have hp:p.length=m:=h p (by simp)
  rw [List.flatten_cons,Nat.succ_mul,Nat.add_comm,List.drop_append,List.drop_eq_nil_of_le (by omega)]
  simp only [List.nil_append,hp]
  rw [show m+j*m-m=j*m by omega,hr]
  simp [List.getD]
theorem UE {α:Type} {m:Nat}: ∀{ls:List (List α)},(∀p∈ls,p.length=m)→ls.flatten.length=ls.length*m
 |[],_=>by simp
 |p::ls,h=>by rw [List.flatten_cons,List.length_append,UE fun q hq=>h q (by simp [hq]),h p (by simp),List.length_cons,Nat.succ_mul];omega
theorem getD_mem {α:Type} {ls:List α} {d:α} {j:Nat} (h:j<ls.length):ls.getD j d∈ls:=by simp [List.getD,h]
theorem IY {m j:Nat} {ls:List (List Nat)} (h: ∀p∈ls,p.length=m) (hj:j<ls.length):aY (some m) (ls.flatten.map N8) (j*m)=some (PL (ls.getD j [])):=by
 obtain ⟨r,hr⟩:=IX h hj
 have hl:=h _ (getD_mem (d:=[]) hj)
 have hf:=UE h
 have:(j+1)*m≤ls.length*m:=Nat.mul_le_mul_right _ hj
 rw [Nat.succ_mul] at this
 generalize ls.getD j []=q at hr hl⊢
 rw [rX (by rw [List.length_map,hf];omega),←List.map_drop,hr,List.map_append,List.take_append_of_le_length (by simp [hl]),List.take_of_length_le (by simp [hl])]
theorem aeT {m j y:Nat} {ls:List (List Nat)} (h: ∀p∈ls,p.length=m) (hj:j<ls.length) (hy:y<m):aY none (ls.flatten.map N8) (j*m+y)=some (N8 (nl (ls.getD j []) y)):=by
 obtain ⟨r,hr⟩:=IX h hj
 have hl:=h _ (getD_mem (d:=[]) hj)
 generalize ls.getD j []=q at hr hl⊢
 have:ls.flatten[j*m+y]? =q[y]? :=by
  rw [←List.getElem?_drop,hr,List.getElem?_append_left (by omega)]
 simp only [aY,List.getElem?_map,this]
 simp [nl,List.getD,hl,hy]
theorem UF {b w:List Nat} {m:Nat} {v:Value} (hb:b.length=m) (hw:w.length=m):bK (dA (List.replicate m v) 2) [(0,m,PL b),(m,m,PL w)]=some (b.map N8++w.map N8):=by
 simp [bK,dA,dL,hb,hw,splice,List.take_append,List.drop_append]
theorem aeU {a b w:List Nat} {m:Nat} {v:Value} (ha:a.length=m) (hb:b.length=m) (hw:w.length=m):bK (dA (List.replicate m v) 3) [(0,m,PL a),(m,m,PL b),(m+m,m,PL w)]=some (a.map N8++b.map N8++w.map N8):=by
 simp [bK,dA,dL,ha,hb,hw,splice,List.take_append,List.drop_append]
 refine ⟨by omega,?_⟩
 rw [List.take_of_length_le (by rw [List.length_map];omega),List.drop_eq_nil_of_le (as:=a.map N8) (by rw [List.length_map];omega),List.drop_eq_nil_of_le (as:=b.map N8) (by rw [List.length_map];omega)]
 try simp
theorem aeV {x:Bool} {ls:List (List Nat)} {n:Int} {H:BH} {K:Value→BH→Prop} (hll:ls.length≤1000) (hl: ∀p∈ls,p.length=16) (qV: ∀p∈ls,∀i,nl p i<16)
  (hK:K (I (bf ls (st0 16) 16).2.length) H):aQ x Y3 [I n,kW 16 ls] H K:=by
 refine dR (by simp only [RH]) ?_
 refine bF aat ?_;simp only [eU,aI]
 refine au fun Kr hKr=>?_;simp (disch:=omega) only [RA,↓reduceIte,Nat.reduceEqDiff,Nat.reduceLeDiff,RD];refine hKr _ _ ?_;clear hKr Kr;(try simp only [RN,reduceIte]);try refine ah rfl ?_
 refine au fun Kr hKr=>?_;simp (disch:=omega) only [RA,↓reduceIte,Nat.reduceEqDiff,Nat.reduceLeDiff,RD];refine hKr _ _ ?_;clear hKr Kr;(try simp only [RN,reduceIte]);try refine ah rfl ?_
 refine au fun Kr hKr=>?_;simp (disch:=omega) only [RA,↓reduceIte,Nat.reduceEqDiff,Nat.reduceLeDiff,RD];refine hKr _ _ ?_;clear hKr Kr;(try simp only [RN,reduceIte]);try refine ah rfl ?_
 refine au fun Kr hKr=>?_;simp (disch:=omega) only [RA,↓reduceIte,Nat.reduceEqDiff,Nat.reduceLeDiff,RD];refine hKr _ _ ?_;clear hKr Kr;(try simp only [RN,reduceIte]);try refine ah rfl ?_
 refine bU (fun m f H'=> ∃i,i≤16∧m=16-i∧i≤(bf ls (st0 16) i).2.length∧f 1=kW 16 ls∧f 5=P 0 0∧f 6=S 1 0 (bf ls (st0 16) i).2.length 1∧f 7=I i∧H'=[some ((bf ls (st0 16) i).1.map B),some ((bf ls (st0 16) i).2.map N8)]) (16) ?_ ?_
 ·refine ⟨_,_,Gh.refl,0,by omega,by omega,by omega,?_,?_,?_,?_,?_⟩
  any_goals (simp (disch:=omega) only [RA,↓reduceIte,Nat.reduceEqDiff,RD,RE, *]<;>rfl)
  simp [bf,st0]<;>rfl
 ·rintro m f H' R ⟨i,hi,rfl,hil,h1,h5,h6,h7,rfl⟩ hN hX hR hE
  simp only [eU.l1,aI]
  have hB:=(Bi.st0 (m:=16) (by omega)).bf qV i
  generalize hst:bf ls (st0 16) i=st at hil h6 hB
  have hle:=hB.le
  have hsl:=hB.len
  refine au fun Kr hKr=>?_;simp (disch:=omega) only [RA,↓reduceIte,Nat.reduceEqDiff,RD,h6,h7];refine hKr _ _ ?_;clear hKr Kr;(try simp only [RN,reduceIte]);try refine ah rfl ?_
  refine aX (p:=i<st.2.length) (by simp only [RA,↓reduceIte,Nat.reduceEqDiff]<;>rfl) (by (try simp only [RB])<;>first|done|exact Iff.rfl|omega|simp) (fun hc=>?_) (fun hc=>?_)<;>(try simp only [RN,reduceIte])<;>(try refine ah rfl ?_)
  ·have hx:=hB.lt i hc
   (first|refine bP rfl ?_|refine bQ rfl ?_);(try simp only [RN,reduceIte]);try refine ah rfl ?_
   refine au fun Kr hKr=>?_;simp (disch:=omega) only [RA,↓reduceIte,Nat.reduceEqDiff,RD,h1];refine hKr _ _ ?_;clear hKr Kr;(try simp only [RN,reduceIte]);try refine ah rfl ?_
   refine bU (fun m f H'=> ∃j st',j≤ls.length∧m=ls.length-j∧st'=iJ (ls.take j) (nl st.2 i) st∧f 1=kW 16 ls∧f 5=P 0 0∧f 6=S 1 0 st'.2.length 1∧f 7=I i∧f 19=kW 16 ls∧f 20=I ls.length∧f 21=I j∧H'=[some (st'.1.map B),some (st'.2.map N8)]) (ls.length) ?_ ?_
   ·refine ⟨_,_,Gh.refl,0,st,by omega,by omega,rfl,?_,?_,?_,?_,?_,?_,?_,rfl⟩
    any_goals (simp (disch:=omega) only [RA,↓reduceIte,Nat.reduceEqDiff,RD,RE, *]<;>rfl)
   ·clear h1 h5 h6 h7
    rintro m f H' R2 ⟨j,st',hj,rfl,hst',h1,h5,h6,h7,h19,h20,h21,rfl⟩ gB hX2 hR2 hE2
    simp only [eU.l0,aI]
    refine au fun Kr hKr=>?_;simp (disch:=omega) only [RA,↓reduceIte,Nat.reduceEqDiff,RD,h20,h21];refine hKr _ _ ?_;clear hKr Kr;(try simp only [RN,reduceIte]);try refine ah rfl ?_
    have hB':Bi 16 st':=by rw [hst'];exact hB.round fun p hp=>qV p (List.mem_of_mem_take hp) _
    have hle':=hB'.le
    have qy:=hB'.len
    refine aX (p:=j<ls.length) (by simp only [RA,↓reduceIte,Nat.reduceEqDiff]<;>rfl) (by (try simp only [RB])<;>first|done|exact Iff.rfl|omega|simp) (fun hc=>?_) (fun hc=>?_)<;>(try simp only [RN,reduceIte])<;>(try refine ah rfl ?_)
    ·obtain ⟨q,hq⟩:= @uY (nl st.2 i) (ls.take j) st
     rw [←hst'] at hq
     have hxi:nl st'.2 i=nl st.2 i:=by rw [hq,oW,if_pos (by assumption)]
     have EJ:i<st'.2.length:=by rw [hq];simp;omega
     have hnx:=EH (ls:=ls) (x:=nl st.2 i) (st:=st) hc
     rw [←hst'] at hnx
     have hpl:=hl _ (getD_mem (d:=[]) hc)
     have hyl:=qV _ (getD_mem (d:=[]) hc) (nl st.2 i)
     obtain ⟨pj,rZ⟩: ∃pj,ls.getD j []=pj:=⟨_,rfl⟩
     rw [rZ] at hnx hpl hyl
     obtain ⟨y,mD⟩: ∃y,nl pj (nl st.2 i)=y:=⟨_,rfl⟩
     rw [mD] at hyl hnx
     have hnext: ∀f' st2,f' 1=kW 16 ls→f' 5=P 0 0→f' 6=S 1 0 st2.2.length 1→f' 7=I i→f' 19=kW 16 ls→f' 20=I ls.length→f' 21=I j→st2=visit st' y→
       T 0 eU.r13 R2 f' [some (st2.1.map B),some (st2.2.map N8)]:=by
      intro f' st2 h1 h5 h6 h7 h19 h20 h21 hs2
      refine bH fun Kr hKr=>?_;simp (disch:=omega) only [RA,↓reduceIte,Nat.reduceEqDiff,RD,h21];refine hKr _ _ ?_;clear hKr Kr
      refine gB (ls.length-(j+1)) _ _ _ _ (by omega) Gh.refl ⟨j+1,st2,by omega,rfl,by rw [hnx,hs2],?_,?_,?_,?_,?_,?_,?_,rfl⟩
      any_goals (simp (disch:=omega) only [RA,↓reduceIte,Nat.reduceEqDiff,RD,RE, *]<;>rfl)
     (first|refine bP rfl ?_|refine bQ rfl ?_);(try simp only [RN,reduceIte]);try refine ah rfl ?_
     refine au fun Kr hKr=>?_;simp (disch:=omega) only [RA,↓reduceIte,Nat.reduceEqDiff,Nat.reduceAdd,RD,h19,h21,IY hl hc,rZ];refine hKr _ _ ?_;clear hKr Kr;(try simp only [RN,reduceIte]);try refine ah rfl ?_
     refine au fun Kr hKr=>?_;simp (disch:=omega) only [RA,↓reduceIte,Nat.reduceEqDiff,RD,h6,h7,hxi,hpl,mD];refine hKr _ _ ?_;clear hKr Kr;(try simp only [RN,reduceIte]);try refine ah rfl ?_
     refine au fun Kr hKr=>?_;simp (disch:=omega) only [RA,↓reduceIte,Nat.reduceEqDiff,RD,h5,qy];refine hKr _ _ ?_;clear hKr Kr;(try simp only [RN,reduceIte]);try refine ah rfl ?_
     refine aX (p:= ¬bl st'.1 y=true) (by simp only [RA,↓reduceIte,Nat.reduceEqDiff]<;>rfl) (by (try simp only [RB])<;>first|done|exact Iff.rfl|omega|simp) (fun hc=>?_) (fun hc=>?_)<;>(try simp only [RN,reduceIte])<;>(try refine ah rfl ?_)
     ·refine au fun Kr hKr=>?_;simp (disch:=omega) only [RA,↓reduceIte,Nat.reduceEqDiff,RD,h5,qy];refine hKr _ _ ?_;clear hKr Kr;(try simp only [RN,reduceIte]);try refine ah rfl ?_
      refine au fun Kr hKr=>?_;simp (disch:=omega) only [RA,↓reduceIte,Nat.reduceEqDiff,Nat.reduceAdd,Nat.reduceLeDiff,RD,h6];refine hKr _ _ ?_;clear hKr Kr;(try simp only [RN,reduceIte]);try refine ah rfl ?_
      refine lI (Gh.nrm [0,4] rfl rfl (by simp only [RH])) ?_
      refine hnext _ (st'.1.set y true,st'.2++[y]) ?_ ?_ ?_ ?_ ?_ ?_ ?_ ?_
      any_goals (simp (disch:=omega) only [RA,↓reduceIte,Nat.reduceEqDiff,RD,RE, *]<;>rfl)
      rw [visit,if_neg hc]
     ·(try simp only [RN,reduceIte]);try refine ah rfl ?_
      refine lI (Gh.nrm [0,1] rfl rfl (by simp only [RH])) ?_
      refine hnext _ st' ?_ ?_ ?_ ?_ ?_ ?_ ?_ ?_
      any_goals (simp (disch:=omega) only [RA,↓reduceIte,Nat.reduceEqDiff,RD,RE, *]<;>rfl)
      rw [visit,if_pos (by simpa using hc)]
    ·refine hX2 _ _ ?_
     obtain rfl:j=ls.length:=by omega
     have hst2:st'=bf ls (st0 16) (i+1):=by
      rw [hst',bf,hst,if_pos (by assumption),List.take_length]
     obtain ⟨q,hq⟩:= @uY (nl st.2 i) (ls.take ls.length) st
     have hlq:i+1≤st'.2.length:=by rw [hst',hq];simp;omega
     refine bH fun Kr hKr=>?_;simp (disch:=omega) only [RA,↓reduceIte,Nat.reduceEqDiff,RD,h7];refine hKr _ _ ?_;clear hKr Kr
     refine hN (16-(i+1)) _ _ _ _ (by omega) Gh.refl ⟨i+1,by omega,rfl,by rw [←hst2];exact hlq,?_,?_,?_,?_,?_⟩
     any_goals (simp (disch:=omega) only [RA,↓reduceIte,Nat.reduceEqDiff,RD,RE, *]<;>rfl)
     ·rw [←hst2]
      exact (by simp (disch:=omega) only [RA,↓reduceIte,Nat.reduceEqDiff,RD,RE, *]<;>rfl)
     ·rw [←hst2]
  ·refine hX _ _ ?_
   refine au fun Kr hKr=>?_;simp (disch:=omega) only [RA,↓reduceIte,Nat.reduceEqDiff,Nat.reduceAdd,Nat.reduceLeDiff,RD,h6];refine hKr _ _ ?_;clear hKr Kr;(try simp only [RN,reduceIte]);try refine ah rfl ?_
   refine aS (by simp (disch:=omega) only [RA,↓reduceIte,Nat.reduceEqDiff,RD,aG,aO];rfl) aC.refl ?_;simp only [aH]
   refine ⟨NN.int,?_⟩
   have hs:bf ls (st0 16) 16=st:=by rw [xR (i:=i) (by rw [hst];omega) 16 hi,hst]
   rw [hs] at hK
   exact hK
def aZ (n:Int) (b w:List Nat):Prop:=Perm b n∧Perm w n∧((reach b w).2.length:Int)=n
instance (n:Int) (b w:List Nat):Decidable (aZ n b w):=by unfold aZ;infer_instance
theorem Perm.qW {p:List Nat} {n:Int} (h:Perm p n) (hl:p.length=16) (i:Nat):nl p i<16:=by
 obtain ⟨m,rfl⟩:=Int.eq_ofNat_of_zero_le (show 0≤n by have:=h.1;omega)
 exact h.kN hl i
theorem UG {x:Bool} {n:Int} {b w:List Nat} {H:BH} {K:Value→BH→Prop} (hb:By 16 b) (hw:By 16 w) (hK:K (.bool (decide (aZ n b w))) H):aQ x YR [DV n b w] H K:=by
 have hlb:=hb.len
 have dI:=hw.len
 refine dR (by simp only [RH]) ?_
 refine bF aad ?_;simp only [tK,aI]
 refine au fun Kr hKr=>?_;simp (disch:=omega) only [RA,↓reduceIte,Nat.reduceEqDiff,RD];refine hKr _ _ ?_;clear hKr Kr;(try simp only [RN,reduceIte]);try refine ah rfl ?_
 refine au fun Kr hKr=>?_;simp (disch:=omega) only [RA,↓reduceIte,Nat.reduceEqDiff,RD,qU,uV]
 refine Uu hb ?_
 by_cases h1:Perm b n
 ·rw [decide_eq_true h1]
  simp (disch:=omega) only [RA,↓reduceIte,Nat.reduceEqDiff,RD,qU,uX]
  refine Uu hw ?_
  by_cases h2:Perm w n
  ·rw [decide_eq_true h2]
   simp (disch:=omega) only [RA,↓reduceIte,Nat.reduceEqDiff,RD,qU,uX,uV]
   refine aeS hb hw (h1.qW hb.len) (h2.qW hw.len) ?_
   simp (disch:=omega) only [RA,↓reduceIte,Nat.reduceEqDiff,RD]
   refine hKr _ _ ?_;clear hKr Kr;(try simp only [aK,aP,aN]);(try simp only [RN,reduceIte]);try refine ah rfl ?_
   refine aS (by simp (disch:=omega) only [RA,↓reduceIte,Nat.reduceEqDiff,RD,aG,aO];rfl) aC.refl ?_;simp only [aH]
   exact ⟨NN.bool,by simpa [aZ,h1,h2] using hK⟩
  ·rw [decide_eq_false h2]
   simp (disch:=omega) only [RA,↓reduceIte,Nat.reduceEqDiff,RD]
   refine hKr _ _ ?_;clear hKr Kr;(try simp only [aK,aP,aN]);(try simp only [RN,reduceIte]);try refine ah rfl ?_
   refine aS (by simp (disch:=omega) only [RA,↓reduceIte,Nat.reduceEqDiff,RD,aG,aO];rfl) aC.refl ?_;simp only [aH]
   exact ⟨NN.bool,by simpa [aZ,h1,h2] using hK⟩
 ·rw [decide_eq_false h1]
  simp (disch:=omega) only [RA,↓reduceIte,Nat.reduceEqDiff,RD]
  refine hKr _ _ ?_;clear hKr Kr;(try simp only [aK,aP,aN]);(try simp only [RN,reduceIte]);try refine ah rfl ?_
  refine aS (by simp (disch:=omega) only [RA,↓reduceIte,Nat.reduceEqDiff,RD,aG,aO];rfl) aC.refl ?_;simp only [aH]
  exact ⟨NN.bool,by simpa [aZ,h1] using hK⟩
theorem aeW {m:Nat} {b w:List Nat}:Fz 2 m (b.map N8++w.map N8)=kW m [b,w]:=by simp [kW]
theorem oZ {x:Bool} {n:Int} {b w:List Nat} {H:BH} {K:Value→BH→Prop} (hb:By 16 b) (hw:By 16 w) (hK:K (.bool (decide (aZ n b w))) H):aQ x YP [DV n b w] H K:=by
 have hlb:=hb.len
 have dI:=hw.len
 refine dR (by simp only [RH]) ?_
 refine bF Z9 ?_;simp only [qF,aI]
 refine au fun Kr hKr=>?_;simp (disch:=omega) only [RA,↓reduceIte,Nat.reduceEqDiff,RD];refine hKr _ _ ?_;clear hKr Kr;(try simp only [RN,reduceIte]);try refine ah rfl ?_
 refine au fun Kr hKr=>?_;simp (disch:=omega) only [RA,↓reduceIte,Nat.reduceEqDiff,RD,qU];refine hKr _ _ ?_;clear hKr Kr;(try simp only [RN,reduceIte]);try refine ah rfl ?_
 refine au fun Kr hKr=>?_;simp (disch:=omega) only [RA,↓reduceIte,Nat.reduceEqDiff,RD,uV]
 refine Ut hb ?_
 by_cases h1:Perm b n
 ·rw [decide_eq_true h1]
  simp (disch:=omega) only [RA,↓reduceIte,Nat.reduceEqDiff,Nat.reduceMul,Nat.reduceLeDiff,RD,uX]
  refine Ut hw ?_
  by_cases h2:Perm w n
  ·rw [decide_eq_true h2]
   simp (disch:=omega) only [RA,↓reduceIte,Nat.reduceEqDiff,Nat.reduceMul,Nat.reduceLeDiff,RD,uX,uV,UF hlb dI]
   have h32:2*16=(b.map N8++w.map N8).length:=by simp [hlb,dI]
   refine qP 1 rfl (by simp only [RH]) ?_;simp only [RZ,jD h32]
   rw [aeW]
   refine aeV (by simp) (by simp [hlb,dI]) (by simp;exact ⟨h1.qW hb.len,h2.qW hw.len⟩) ?_
   simp (disch:=omega) only [RA,↓reduceIte,Nat.reduceEqDiff,RD]
   refine hKr _ _ ?_;clear hKr Kr;(try simp only [aK,aP,aN]);(try simp only [RN,reduceIte]);try refine ah rfl ?_
   refine aS (by simp (disch:=omega) only [RA,↓reduceIte,Nat.reduceEqDiff,RD,aG,aO];rfl) aC.refl ?_;simp only [aH]
   exact ⟨NN.bool,by simpa [aZ,h1,h2,reach] using hK⟩
  ·rw [decide_eq_false h2]
   simp (disch:=omega) only [RA,↓reduceIte,Nat.reduceEqDiff,RD]
   refine hKr _ _ ?_;clear hKr Kr;(try simp only [aK,aP,aN]);(try simp only [RN,reduceIte]);try refine ah rfl ?_
   refine aS (by simp (disch:=omega) only [RA,↓reduceIte,Nat.reduceEqDiff,RD,aG,aO];rfl) aC.refl ?_;simp only [aH]
   exact ⟨NN.bool,by simpa [aZ,h1,h2] using hK⟩
 ·rw [decide_eq_false h1]
  simp (disch:=omega) only [RA,↓reduceIte,Nat.reduceEqDiff,RD]
  refine hKr _ _ ?_;clear hKr Kr;(try simp only [aK,aP,aN]);(try simp only [RN,reduceIte]);try refine ah rfl ?_
  refine aS (by simp (disch:=omega) only [RA,↓reduceIte,Nat.reduceEqDiff,RD,aG,aO];rfl) aC.refl ?_;simp only [aH]
  exact ⟨NN.bool,by simpa [aZ,h1] using hK⟩
end Go.Bm
namespace Go.Bm
open Go Go.Am
def gu:List Nat:=List.replicate 16 0
theorem UH:By 16 gu:=By.rep
theorem ji:gu.length=16:=by simp [gu]
theorem dz:(Value.int .i64 0::List.replicate 32 (Value.int .u8 0))=DC 0 gu gu:=by rfl
theorem su {b:List Nat}:(b.map N8).all Am.plain=true:=all_map fun _=>rfl
theorem aeX {n:Int} {b w:List Nat}:(DC n b w).all iE=true:=by
 simp only [DC,List.all_cons,List.all_append,Bool.and_eq_true]
 exact ⟨rfl,mg,mg⟩
theorem EK {n:Int} {b w:List Nat} (hb:b.length=16) (hw:w.length=16):(DC n b w).length=33:=by simp [hb,hw]
theorem o7 {n:Int} {b w:List Nat}:aW (DC n b w):= .cons .int (.append (.map fun _=> .int) (.map fun _=> .int))
section
variable {H:BH} {i:Nat} {n m:Int} {b w b' w' p:List Nat}
theorem UJ (hb:b.length=16) (hw:w.length=16) (hb':b'.length=16) (hw':w'.length=16):dP (some (DC n b w)) H i 0 33 (bJ (DC m b' w'))=some (undef,H.set i (some (DC m b' w'))):=by
 rw [nG (EK hb' hw') aeX (by rw [EK hb hw];omega),uO (by rw [EK hb hw,EK hb' hw'])]
theorem UK:dP (some (DC n b w)) H i 0 1 (.int .i64 m)=some (undef,H.set i (some (DC m b w))):=by
 rw [qM (by simp),xJ]
theorem uZ {α:Type} {g:α→Value} {x y:List α} {pre post:List Value} (h:x.length=y.length):splice (pre++(x.map g++post)) pre.length (y.map g)=pre++(y.map g++post):=by
 simp only [splice]
 rw [List.take_append_of_le_length (by omega),List.take_of_length_le (by omega)]
 rw [List.drop_append,List.drop_eq_nil_of_le (by omega),List.nil_append]
 rw [show pre.length+(List.map g y).length-pre.length=(List.map g x).length by simp [h]]
 rw [List.drop_append,List.drop_eq_nil_of_le (by omega)]
 simp
theorem AP {α:Type} {g:α→Value} {x:List α} {y:α} {k:Nat} {pre post:List Value} (h:k<x.length):splice (pre++(x.map g++post)) (pre.length+k) [g y]=pre++((x.set k y).map g++post):=by
 simp only [splice,List.length_singleton]
 rw [List.take_append,List.take_of_length_le (l:=pre) (by omega),show pre.length+k-pre.length=k by omega,List.take_append_of_le_length (by simp;omega)]
 rw [List.drop_append,List.drop_eq_nil_of_le (as:=pre) (by omega),show pre.length+k+1-pre.length=k+1 by omega,List.drop_append_of_le_length (by simp;omega)]
 rw [List.set_eq_take_append_cons_drop]
 simp [h,List.map_take,List.map_drop]
theorem AQ {α:Type} {g:α→Value} {x:List α} {pre post:List Value}:aY (some x.length) (pre++(x.map g++post)) pre.length=some (bJ (x.map g)):=by
 rw [rX (by simp),List.drop_append,List.drop_eq_nil_of_le (as:=pre) (by omega)]
 simp
theorem AU {α:Type} {g:α→Value} {x:List α} {k:Nat} {d:α} {pre post:List Value} (h:k<x.length):aY none (pre++(x.map g++post)) (pre.length+k)=some (g (x.getD k d)):=by
 simp only [aY]
 rw [List.getElem?_append_right (by omega),show pre.length+k-pre.length=k by omega,List.getElem?_append_left (by simpa using h)]
 simp [List.getD,h]
theorem UL (hb:b.length=16) (hp:p.length=16):dP (some (DC n b w)) H i 1 16 (bJ (p.map N8))=some (undef,H.set i (some (DC n p w))):=by
 rw [nG (by simpa using hp) mg (by simp [hb])]
 have:=uZ (g:=N8) (x:=b) (y:=p) (pre:=[I n]) (post:=w.map N8) (by omega)
 simp only [List.length_cons,List.length_nil,List.length_map,List.cons_append,List.nil_append,List.append_nil,Nat.zero_add] at this
 rw [show splice (DC n b w) 1 (p.map N8)=DC n p w from this]
theorem UM (hb:b.length=16) (hw:w.length=16) (hp:p.length=16):dP (some (DC n b w)) H i 17 16 (bJ (p.map N8))=some (undef,H.set i (some (DC n b p))):=by
 rw [nG (by simpa using hp) mg (by simp [hb,hw])]
 have:=uZ (g:=N8) (x:=w) (y:=p) (pre:=I n::b.map N8) (post:=[]) (by omega)
 simp only [List.length_cons,List.length_nil,List.length_map,List.cons_append,List.nil_append,List.append_nil,Nat.zero_add,hb] at this
 rw [show splice (DC n b w) 17 (p.map N8)=DC n b p from this]
theorem IZ {k x:Nat} (h:k<b.length):dP (some (DC n b w)) H i (1+k) 1 (.int .u8 (x:Int))=some (undef,H.set i (some (DC n (b.set k x) w))):=by
 rw [qM (by simp;omega)]
 have:=AP (g:=N8) (x:=b) (y:=x) (k:=k) (pre:=[I n]) (post:=w.map N8) h
 simp only [List.length_cons,List.length_nil,List.length_map,List.cons_append,List.nil_append,List.append_nil,Nat.zero_add] at this
 rw [show splice (DC n b w) (1+k) [N8 x]=DC n (b.set k x) w from this]
theorem I4 {k x:Nat} (hb:b.length=16) (h:k<w.length):dP (some (DC n b w)) H i (17+k) 1 (.int .u8 (x:Int))=some (undef,H.set i (some (DC n b (w.set k x)))):=by
 rw [qM (by simp;omega)]
 have:=AP (g:=N8) (x:=w) (y:=x) (k:=k) (pre:=I n::b.map N8) (post:=[]) h
 simp only [List.length_cons,List.length_nil,List.length_map,List.cons_append,List.nil_append,List.append_nil,Nat.zero_add,hb] at this
 rw [show splice (DC n b w) (17+k) [N8 x]=DC n b (w.set k x) from this]
theorem I5 {k:Nat} (h:k<b.length):aY none (DC n b w) (1+k)=some (N8 (nl b k)):=by
 have:=AU (g:=N8) (x:=b) (k:=k) (d:=0) (pre:=[I n]) (post:=w.map N8) h
 simp only [List.length_cons,List.length_nil,List.length_map,List.cons_append,List.nil_append,List.append_nil,Nat.zero_add] at this
 exact this
theorem UN {k:Nat} (hb:b.length=16) (h:k<w.length):aY none (DC n b w) (17+k)=some (N8 (nl w k)):=by
 have:=AU (g:=N8) (x:=w) (k:=k) (d:=0) (pre:=I n::b.map N8) (post:=[]) h
 simp only [List.length_cons,List.length_nil,List.length_map,List.cons_append,List.nil_append,List.append_nil,Nat.zero_add,hb] at this
 exact this
theorem UO:bK (DC n b w) [(0,1, .int .i64 m)]=some (DC m b w):=by
 simp [bK,dL,splice]
theorem UQ {b' w':List Nat} (hb:b.length=16) (hw:w.length=16) (hb':b'.length=16) (hw':w'.length=16):bK (DC n b w) [(0,1, .int .i64 m),(1,16,PL b'),(17,16,PL w')]=some (DC m b' w'):=by
 simp only [bK,Eu,Ew,List.length_singleton,List.length_map]
 rw [if_pos ⟨trivial,by simp⟩,xJ,if_pos ⟨hb',by simp [hb]⟩]
 have h1:=uZ (g:=N8) (x:=b) (y:=b') (pre:=[I m]) (post:=w.map N8) (by omega)
 simp only [List.length_singleton,List.cons_append,List.nil_append] at h1
 rw [h1,if_pos ⟨hw',by simp [hb',hw]⟩]
 have h2:=uZ (g:=N8) (x:=w) (y:=w') (pre:=I m::b'.map N8) (post:=[]) (by omega)
 simp only [List.length_cons,List.length_map,hb',List.append_nil,List.cons_append] at h2
 rw [h2]
theorem UR (hb:b.length=16) (hw:w.length=16) (hw':w'.length=16):bK (DC n b w) [(0,1, .int .i64 m),(17,16,PL w')]=some (DC m b w'):=by
 simp only [bK,Eu,Ew,List.length_singleton,List.length_map]
 rw [if_pos ⟨trivial,by simp⟩,xJ,if_pos ⟨hw',by simp [hb,hw]⟩]
 have h2:=uZ (g:=N8) (x:=w) (y:=w') (pre:=I m::b.map N8) (post:=[]) (by omega)
 simp only [List.length_cons,List.length_map,hb,List.append_nil,List.cons_append] at h2
 rw [h2]
theorem UU (hb:b.length=16) (hw:w.length=16):aY (some 33) (DC n b w) 0=some (bJ (DC n b w)):=aeQ hb hw
theorem iK:NN (bJ (DC n b w)):=NN.agg o7
end
theorem UW {b w:List Nat}:(b.map N8++w.map N8).all Am.plain=true:=by rw [List.all_append,su,su];rfl
theorem aF:(type_of% @dz)∧(type_of% @UW)∧(type_of% @su)∧(type_of% @ji)∧(type_of% @UK)∧(type_of% @qU)∧(type_of% @UO):=⟨@dz, @UW, @su, @ji, @UK, @qU, @UO⟩
theorem aU:(type_of% @UJ)∧(type_of% @UL)∧(type_of% @UM)∧(type_of% @IZ)∧(type_of% @I4)∧(type_of% @uV)∧(type_of% @uX)∧(type_of% @I5)∧(type_of% @UN)∧(type_of% @UQ)∧(type_of% @UR)∧(type_of% @UU):=⟨@UJ, @UL, @UM, @IZ, @I4, @uV, @uX, @I5, @UN, @UQ, @UR, @UU⟩
theorem aZ.n0 {n:Int} {b w:List Nat} (h:aZ n b w): ∃m:Nat,n=m∧1≤m∧m≤16:=by
 have:=h.1.1
 exact ⟨n.toNat,by omega,by omega,by omega⟩
end Go.Bm
