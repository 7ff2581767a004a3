/- DpQd, DpQe -/
import Derived.Test.YtbpfbfbabpkceaaGreatDpG1
import Derived.Test.YtbpfbfbabpkceaaGreatDpG4
set_option linter.unusedVariables false
set_option linter.unusedSimpArgs false
set_option linter.unusedSectionVars false
namespace Go.Bm
open Go Go.Am
theorem Zr {x y:L2} (h:bU x y): ¬bU y x:=fun k=>tH x (lt2_trans h k)
def dZ (d:L2):List L2→List L2
 |[]=>[d]
 |e::l=>if bU e d then e::dZ d l else if bU d e then d::e::l else e::l
def jk (s:List L2):List L2:=s.foldl (fun l d=>dZ d l) []
theorem qV {d x:L2}: ∀{l:List L2},x∈dZ d l↔x=d∨x∈l
 |[]=>by simp [dZ]
 |e::l=>by
  simp only [dZ]
  split
  ·rw [List.mem_cons,qV (l:=l),List.mem_cons]
   constructor
   ·rintro (h|h|h)
    ·exact .inr (.inl h)
    ·exact .inl h
    ·exact .inr (.inr h)
   ·rintro (h|h|h)
    ·exact .inr (.inl h)
    ·exact .inl h
    ·exact .inr (.inr h)
  ·rename_i h1
   split
   ·simp
   ·rename_i h2
    have:=zQ h2 h1
    subst this
    simp
theorem CW {d:L2}: ∀{l:List L2},l.Pairwise bU→(dZ d l).Pairwise bU
 |[],_=>by simp [dZ]
 |e::l,h=>by
  obtain ⟨h1,h2⟩:=List.pairwise_cons.1 h
  simp only [dZ]
  split
  ·rename_i hl
   refine List.pairwise_cons.2 ⟨fun x hx=>?_,CW h2⟩
   rcases qV.1 hx with rfl|hx
   ·exact hl
   ·exact h1 x hx
  ·split
   ·rename_i hl
    refine List.pairwise_cons.2 ⟨fun x hx=>?_,h⟩
    rcases List.mem_cons.1 hx with rfl|hx
    ·exact hl
    ·exact lt2_trans hl (h1 x hx)
   ·exact h
theorem IC {x:L2}: ∀{s l:List L2},x∈s.foldl (fun l d=>dZ d l) l↔x∈s∨x∈l
 |[],l=>by simp
 |d::s,l=>by
  rw [List.foldl_cons,IC,qV,List.mem_cons]
  constructor
  ·rintro (h|h|h)
   ·exact .inl (.inr h)
   ·exact .inl (.inl h)
   ·exact .inr h
  ·rintro ((h|h)|h)
   ·exact .inr (.inl h)
   ·exact .inl h
   ·exact .inr (.inr h)
theorem IE: ∀{s l:List L2},l.Pairwise bU→(s.foldl (fun l d=>dZ d l) l).Pairwise bU
 |[],l,h=>h
 |d::s,l,h=>IE (s:=s) (CW h)
theorem mV {x:L2} {s:List L2}:x∈jk s↔x∈s:=by rw [jk,IC];simp
theorem CX {s:List L2}:(jk s).Pairwise bU:=IE .nil
theorem IG: ∀{l k:List L2},l.Pairwise bU→k.Pairwise bU→(∀x,x∈l↔x∈k)→l=k
 |[],[],_,_,_=>rfl
 |[],y::k,_,_,h=>by have:=(h y).2 (by simp);cases this
 |x::l,[],_,_,h=>by have:=(h x).1 (by simp);cases this
 |x::l,y::k,h1,h2,h=>by
  obtain ⟨a1,a2⟩:=List.pairwise_cons.1 h1
  obtain ⟨c1,c2⟩:=List.pairwise_cons.1 h2
  have e:x=y:=by
   rcases List.mem_cons.1 ((h x).1 (by simp)) with e|hx
   ·exact e
   ·rcases List.mem_cons.1 ((h y).2 (by simp)) with e|hy
    ·exact e.symm
    ·exact absurd (c1 x hx) (Zr (a1 y hy))
  subst e
  rw [IG a2 c2 fun z=>?_]
  have hz:=h z
  rw [List.mem_cons,List.mem_cons] at hz
  constructor
  ·intro hl
   rcases hz.1 (.inr hl) with rfl|hk
   ·exact absurd (a1 _ hl) (tH _)
   ·exact hk
  ·intro hk
   rcases hz.2 (.inr hk) with rfl|hl
   ·exact absurd (c1 _ hk) (tH _)
   ·exact hl
theorem CY {d:L2}: ∀{l:List L2},(dZ d l).length≤l.length+1
 |[]=>by simp [dZ]
 |e::l=>by
  simp only [dZ]
  split
  ·simp only [List.length_cons]
   have:=CY (d:=d) (l:=l)
   omega
  ·split<;>simp
theorem Zt {s:List L2}:(jk s).length≤s.length:=by
 have key: ∀(s l:List L2),(s.foldl (fun l d=>dZ d l) l).length≤s.length+l.length:=by
  intro s
  induction s with
  |nil=>intro l;simp
  |cons d s ih=>
   intro l
   have h1:=ih (dZ d l)
   have h2:=CY (d:=d) (l:=l)
   rw [List.foldl_cons,List.length_cons]
   omega
 simpa [jk] using key s []
end Go.Bm
namespace Go.Bm.Q5
open Go Go.Am Go.Bm
theorem zS: ∀(a a' b b':List Nat),a.length=a'.length→(a<a'∨(a=a'∧b<b'))→((a++b).map N8).map wH<((a'++b').map N8).map wH
 |[],[],b,b',_,h=>by
  have hb:b<b':=by
   rcases h with h|⟨_,h⟩
   ·exact absurd h (List.lt_irrefl _)
   ·exact h
  clear h
  simp only [List.nil_append]
  induction b generalizing b' with
  |nil=>
   cases b' with
   |nil=>exact absurd hb (List.lt_irrefl _)
   |cons y b'=>exact List.nil_lt_cons _ _
  |cons x b ih=>
   cases b' with
   |nil=>exact absurd hb (List.not_lt_nil _)
   |cons y b'=>
    simp only [List.map_cons]
    rw [List.cons_lt_cons_iff] at hb⊢
    rcases hb with hb|⟨rfl,hb⟩
    ·exact .inl (by show (x:Int)<y;omega)
    ·exact .inr ⟨rfl,ih b' hb⟩
 |[],y::a',_,_,hl,_=>by simp at hl
 |x::a,[],_,_,hl,_=>by simp at hl
 |x::a,y::a',b,b',hl,h=>by
  simp only [List.cons_append,List.map_cons]
  rw [List.cons_lt_cons_iff]
  have hl':a.length=a'.length:=by simpa using hl
  rcases h with h|⟨h1,h2⟩
  ·rw [List.cons_lt_cons_iff] at h
   rcases h with h|⟨rfl,h⟩
   ·exact .inl (by show (x:Int)<y;omega)
   ·exact .inr ⟨rfl,zS a a' b b' hl' (.inl h)⟩
  ·cases h1
   exact .inr ⟨rfl,zS a a b b' rfl (.inr ⟨rfl,h2⟩)⟩
theorem Zu {n:Nat} {d e:L2} (hd:d.1.length=16) (he:e.1.length=16) (h:bU d e):oN (DV n d.1 d.2) (DV n e.1 e.2):=by
 have:=zS d.1 e.1 d.2 e.2 (by omega) h
 have e1:(d.1++d.2).map N8=d.1.map N8++d.2.map N8:=List.map_append
 have e2:(e.1++e.2).map N8=e.1.map N8++e.2.map N8:=List.map_append
 rw [e1,e2] at this
 exact this
theorem CZ {n:Nat} {d:L2}:(DC n d.1 d.2).all Am.plain=true:=List.all_eq_true.2 fun v hv=>by
 rcases List.mem_cons.1 hv with rfl|hv
 ·rfl
 ·rcases List.mem_append.1 hv with hv|hv<;>(obtain ⟨x,_,rfl⟩:=List.mem_map.1 hv;rfl)
def DL (n:Nat) (l:List L2):List Value:=l.flatMap fun d=>DC n d.1 d.2
theorem C9 {n:Nat} {l:List L2}:aP (DL n l):=fun v hv=>by
 obtain ⟨d,_,hd⟩:=List.mem_flatMap.1 hv
 exact .plain (List.all_eq_true.1 (CZ (n:=n) (d:=d)) v hd)
theorem Zv {n i:Nat} {s:List L2} {H:BH} {K:Value→BH→Prop} {x:Bool} (hn:n≤16) (hs: ∀d∈s,By 16 d.1∧By 16 d.2) (hl:s.length≤1000000) (hi:blk H i=some []) (hk:blk H (i+1)=some (s.map (dR n)))
  (hK:K (S H.length 0 (jk s).length 33) (H++[some (DL n (jk s))])):aB x Cj [.map (some i)] H K:=by
 intro ρ Z as HA h1 h2
 obtain ⟨u,us,rfl,hv,hl0⟩:=h1.jB
 obtain rfl:=hl0.jC
 obtain ⟨b,hb,hb1,rfl⟩:=hv.zT
 obtain ⟨b',⟨c1,w1⟩,q1,q2,q3,q4,q5⟩:=h2.bV i _ hi
 rw [hb] at q1
 cases q1
 obtain ⟨b'',gk,p1,p2,p3,p4,p5⟩:=h2.bV (i+1) _ hk
 rw [hb1] at p1
 cases p1
 have hks:gk.cells=s.map (dR n):=Dc (zU hn s) p5
 have hc1:c1=[]:=VL.jC q5
 have hw1:w1=true:=q4
 subst hc1;subst hw1
 have hky: ∀d∈jk s,dR n d=DV n d.1 d.2:=fun d hd=>by
  obtain ⟨a1,a2⟩:=hs d (mV.1 hd)
  exact zV a1 a2
 have hmap:(jk s).map (dR n)=(jk s).map fun d=>DV n d.1 d.2:=List.map_congr_left hky
 have hfl:((jk s).map (dR n)).flatMap cellsL=DL n (jk s):=by
  rw [hmap,List.flatMap_map]
  rfl
 have hpl:(DL n (jk s)).all Am.plain=true:=List.all_eq_true.2 fun v hv=>by
  obtain ⟨d,_,hd⟩:=List.mem_flatMap.1 hv
  exact List.all_eq_true.1 (CZ (n:=n) (d:=d)) v hd
 obtain ⟨r1,r2⟩:=h2.alloc (VL.plain (ρ:=ρ) (Z:=Z) hpl)
 refine ⟨Am.S HA.n 0 ((jk s).map (dR n)).length 33,HA.alloc (((jk s).map (dR n)).flatMap cellsL), .outer (.inr ⟨rfl,b,gk,n,(jk s).map (dR n),rfl,q3,p3,by rw [hks];simpa using hl,fun k hk=>?_,?_,fun k=>?_,rfl,rfl⟩),fun _=>Ext.alloc _ _,
  put ρ H.length HA.n,Z,S H.length 0 (jk s).length 33,_,?_,by rw [hfl];exact r1,by simp,fun j hj=>by simp only [put];rw [if_neg (by omega)],by rw [hfl];exact r2,hK⟩
 ·rw [hks] at hk
  obtain ⟨d,hd,rfl⟩:=List.mem_map.1 hk
  exact ⟨_,rfl,Df hn d⟩
 ·rw [hmap,List.pairwise_map]
  refine CX.imp_of_mem fun hd he hlt=>?_
  exact Zu (hs _ (mV.1 hd)).1.len (hs _ (mV.1 he)).1.len hlt
 ·rw [hks,List.mem_map,List.mem_map]
  constructor
  ·rintro ⟨d,hd,rfl⟩;exact ⟨d,mV.1 hd,rfl⟩
  ·rintro ⟨d,hd,rfl⟩;exact ⟨d,mV.2 hd,rfl⟩
 ·rw [List.length_map]
  exact .slice (by simp [put])
end Go.Bm.Q5
