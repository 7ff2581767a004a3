/- DpYl, DpSd, DpYm, DpYn -/
import Derived.Test.YtbpfbfbabpkceaaGreatDpG2
import Derived.Test.YtbpfbfbabpkceaaGreatDpG3
import Derived.Test.YtbpfbfbabpkceaaGreatDpG9
set_option linter.unusedVariables false
set_option linter.unusedSimpArgs false
set_option linter.unusedSectionVars false
namespace Go.Bm.Q5
open Go Go.Am Go.Bm
def jc (H:BH) (as as':List Value):Prop:= ∀ρ Z HA us,Rel ρ Z H HA→VL ρ Z as us→VL (fun _=>none) (Zo ρ Z H HA) as' us
theorem DY {ρ:Nat→Option Nat} {Z:Nat→Option Blk} {H:BH} {HA:AHeap} {b:Nat} {bk:Blk} (hb:Z b=some bk):Zo ρ Z H HA b=some bk:=by simp only [Zo,hb]
theorem aeE {ρ:Nat→Option Nat} {Z:Nat→Option Blk} {H:BH} {HA:AHeap} (hR:Rel ρ Z H HA) {i b:Nat} {cs:List Value} {bk:Blk} (hb:blk H i=some cs) (hρ:ρ i=some b) (hg:HA.get b=some bk):Zo ρ Z H HA b=some bk:=by
 simp only [Zo,hR.eF i cs b hb hρ]
 rw [if_pos ⟨i,cs,hb,hρ⟩,hg]
theorem U7 {ρ:Nat→Option Nat} {Z:Nat→Option Blk} {H:BH} {HA:AHeap} (hR:Rel ρ Z H HA) (b:Nat) (bk:Blk) (hb:Zo ρ Z H HA b=some bk):b<HA.n∧HA.get b=some bk:=by
 cases hz:Z b with
 |some zf=>
  rw [DY hz] at hb;cases hb
  exact hR.fH b bk hz
 |none=>
  simp only [Zo,hz] at hb
  split at hb
  ·rename_i hex
   obtain ⟨i,cs,e1,e2⟩:=hex
   exact ⟨hR.lt e1 e2,hb⟩
  ·cases hb
theorem aeF {ρ:Nat→Option Nat} {Z:Nat→Option Blk} {H:BH} {HA:AHeap} (hR:Rel ρ Z H HA) {k h:Nat} {rs:List (List Value)} {u:Value} (hh:blk H h=some (hdr k rs)) (hr: ∀i r,rs[i]? =some r→blk H (k+i)=some r∧r.all Am.plain=true) (hu:VR ρ Z (S h 0 rs.length 1) u):VZ (Zo ρ Z H HA) (Fz rs.length 1 (rs.map tu)) u:=by
 have:=(kW.GH hh hr kW.nil).vl hR (us:=[u]) (VL.cons hu VL.nil)
 obtain ⟨u',us,e,h2,_⟩:=this.iV
 cases e
 exact NN.fz _ _ _ h2
theorem jc.nil {H:BH}:jc H [] []:=fun ρ Z HA us _ h=>by rw [h.jo];exact VL.nil
theorem jc.nn {H:BH} {a:Value} {as as':List Value} (hn:NN a) (h:jc H as as'):jc H (a::as) (a::as'):=fun ρ Z HA us hR hv=>by
 obtain ⟨u,us,rfl,h2,h3⟩:=hv.iV
 exact VL.cons (.z ((hn _ _ _ h2).mono fun b bk hb=>DY hb)) (h ρ Z HA us hR h3)
theorem jc.aeG {H:BH} {b:Nat} {ks:List Nat} {kN:List (List (List Value))} {tl as as':List Value} (hr:R3 H b ks kN) (hb:blk H b=some (heads ks++tl)) (h:jc H as as'):jc H (S b 0 kN.length 1::as) (Fz kN.length 1 (kN.map fun rs=>Fz 3 1 (rs.map tu))::as'):=fun ρ Z HA us hR hv=>by
 obtain ⟨u,us,rfl,h2,h3⟩:=hv.iV
 refine VL.cons (.z ?_) (h ρ Z HA us hR h3)
 obtain ⟨b',hb',rfl⟩:=h2.slice_inv
 obtain ⟨b2,bk,k1,k2,k3,k4,k5⟩:=hR.bH b _ hb
 rw [hb'] at k1;cases k1
 have hlk:=hr.len
 have hln:bk.cells.length=ks.length+tl.length:=by rw [←k5.1,List.length_append,su]
 refine .fz (bk:=bk) (ds:=bk.cells.take kN.length) (aeE hR hb hb' k3) (by simp) (by rw [List.length_map,List.length_take];omega) (by omega) (by rw [Nat.mul_one,List.drop_zero]) fun q c d e1 e2=>?_
 rw [List.getElem?_map] at e1
 obtain ⟨rs,e3,rfl⟩:=map_inj e1
 have hq:q<kN.length:=(List.getElem?_eq_some_iff.1 e3).1
 have hqk:q<ks.length:=by omega
 obtain ⟨g0,g1,g2⟩:=hr.row q _ rs (List.getElem?_eq_getElem hqk) e3
 have hc:(heads ks++tl)[q]? =some (S (ks[q]+3) 0 3 1):=by
  rw [List.getElem?_append_left (by rw [su];exact hqk),heads,List.getElem?_map,List.getElem?_eq_getElem hqk]
  rfl
 rw [List.getElem?_take,if_pos hq] at e2
 have hd:=k5.2 q _ d hc e2
 have hd':VR ρ Z (S (ks[q]+3) 0 rs.length 1) d:=by rw [g0];exact hd
 have:=aeF hR g1 g2 hd'
 rw [g0] at this
 exact this
theorem jc.tup {H:BH} {vs vs':List Value} (h:jc H vs vs'):jc H [.tuple ⟨vs⟩] [.tuple ⟨vs'⟩]:=fun ρ Z HA us hR hv=>by
 obtain ⟨u,us,rfl,h2,h3⟩:=hv.iV
 obtain rfl:=h3.jo
 obtain ⟨⟨ds⟩,rfl,hl⟩:=h2.tuple_inv
 have:=h ρ Z HA ds hR hl
 exact VL.cons (.tuple this.1 this.2) VL.nil
theorem aeD {x:Bool} {g:Nat} {args args':List Value} {H:BH} {K:Value→BH→Prop} (ha:jc H args args')
  (h:aF false g args' [] fun v _=>Am.plain v=true∧K v H):aF x g args H K:=by
 intro ρ Z as HA h1 h2
 have hR0:Rel (fun _=>none) (Zo ρ Z H HA) [] HA:=
  ⟨fun i cs h=>by simp [blk] at h,fun i j cs cs' b h=>by simp [blk] at h,fun i cs b h=>by simp [blk] at h,U7 h2,fun _ _=>rfl⟩
 obtain ⟨v',HA',h3,_,bG,Z1,v,H1,h4,h5,_,_,h6,h8⟩:=h _ _ as HA (ha _ _ _ _ h2 h1) hR0
 have hkeep: ∀b,b<HA.n→HA'.get b=HA.get b:=fun b hb=>h6.keep b hb fun i cs h=>by simp [blk] at h
 obtain ⟨hp,hK⟩:=h8
 have hv:VR ρ Z v v':=by
  have:=h4.rO hp
  rw [this]
  exact .z (.plain hp)
 refine ⟨_,HA',h3,fun _=>⟨h6.n,hkeep⟩,ρ,Z,_,H,hv,⟨fun i cs hc=>?_,h2.inj,h2.eF,fun b bk hb=>?_,h2.top⟩,Nat.le_refl _,fun _ _=>rfl,⟨h6.n,fun b hb _=>hkeep b hb,fun i cs b hc hb=> .inr ⟨i,cs,hc,hb⟩,fun _ _ h=>h,fun b bk hb=> .inl hb⟩,hK⟩
 ·obtain ⟨b,bk,k1,k2,k3,k4,k5⟩:=h2.bH i cs hc
  exact ⟨b,bk,k1,Nat.lt_of_lt_of_le k2 h6.n,by rw [hkeep b k2];exact k3,k4,k5⟩
 ·obtain ⟨k1,k2⟩:=h2.fH b bk hb
  exact ⟨Nat.lt_of_lt_of_le k1 h6.n,by rw [hkeep b k1];exact k2⟩
theorem aez {x:Bool} {g:Nat} {args:List Value} {H:BH} {K:Value→BH→Prop} (ha:aJ args) (h:aF false g args [] fun v H1=> ∃v',jc H1 [v] [v']∧NN v'∧K v' H):aF x g args H K:=by
 intro ρ Z as HA h1 h2
 have hR0:Rel (fun _=>none) Z [] HA:=⟨fun i cs h=>by simp [blk] at h,fun i j cs cs' b h=>by simp [blk] at h,fun i cs b h=>by simp [blk] at h,h2.fH,fun _ _=>rfl⟩
 obtain ⟨u,HA',h3,_,bG,Z1,v,H1,h4,h5,_,_,h6,v',h7,h8,h9⟩:=h _ Z as HA (ha.vz h1).vl hR0
 have hkeep: ∀b,b<HA.n→HA'.get b=HA.get b:=fun b hb=>h6.keep b hb fun i cs h=>by simp [blk] at h
 have hnew: ∀b bk,Zo bG Z1 H1 HA' b=some bk→Z b=some bk∨HA.n≤b:=fun b bk hb=>by
  cases hz:Z1 b with
  |some zf=>
   rw [DY hz] at hb;cases hb
   rcases h6.zn b bk hz with h9|h9|⟨j,cs',h9,_⟩
   ·exact .inl h9
   ·exact .inr h9
   ·simp [blk] at h9
  |none=>
   simp only [Zo,hz] at hb
   split at hb
   ·rename_i hex
    obtain ⟨i,cs,e1,e2⟩:=hex
    rcases h6.own i cs b e1 e2 with h9|⟨j,cs',h9,_⟩
    ·exact .inr h9
    ·simp [blk] at h9
   ·cases hb
 obtain ⟨u',us,e,hv,_⟩:=(h7 bG Z1 HA' [u] h5 (VL.cons h4 VL.nil)).iV
 cases e
 have hzx: ∀b bk,Z b=some bk→Zo bG Z1 H1 HA' b=some bk:=fun b bk hb=>DY (h6.zx b bk hb)
 refine ⟨u,HA',h3,fun _=>⟨h6.n,hkeep⟩,ρ,Zo bG Z1 H1 HA',v',H, .z (h8 _ _ _ hv),⟨fun i cs hc=>?_,h2.inj,fun i cs b hc hb=>?_,U7 h5,h2.top⟩,Nat.le_refl _,fun _ _=>rfl,⟨h6.n,fun b hb _=>hkeep b hb,fun i cs b hc hb=> .inr ⟨i,cs,hc,hb⟩,hzx,fun b bk hb=>(hnew b bk hb).imp_right .inl⟩,h9⟩
 ·obtain ⟨b,bk,k1,k2,k3,k4,k5⟩:=h2.bH i cs hc
  exact ⟨b,bk,k1,Nat.lt_of_lt_of_le k2 h6.n,by rw [hkeep b k2];exact k3,k4,k5.mono (fun _ _ h=>h) hzx⟩
 ·cases hz:Zo bG Z1 H1 HA' b with
  |none=>rfl
  |some bk=>
   rcases hnew b bk hz with h9|h9
   ·rw [h2.eF i cs b hc hb] at h9;cases h9
   ·have:=h2.lt hc hb;omega
theorem aeH {ps:List P3}:((ps.map dS).map fun rs=>Fz 3 1 (rs.map tu))=ps.map dw:=by
 rw [List.map_map]
 refine List.map_congr_left fun p _=>?_
 show Fz 3 1 ((dS p).map tu)=_
 rw [Iy]
 rfl
theorem jc.ps {H:BH} {b:Nat} {ks:List Nat} {ps:List P3} {tl as as':List Value} (hr:R3 H b ks (ps.map dS)) (hb:blk H b=some (heads ks++tl)) (h:jc H as as'):jc H (S b 0 ps.length 1::as) (jA ps::as'):=by
 have:=jc.aeG hr hb h
 rw [aeH,List.length_map] at this
 exact this
theorem U6 {l:List P3} {H:BH} {K:Value→BH→Prop} (hl:l.length≤1000000) (hrow: ∀p∈l,∀r∈aP p,r.length<1000000) (hK:K (.bool true) H):aF false Kt [jA l,jA l] H K:=by
 refine bK (.cons .fz (.cons .fz .nil)) ?_
 refine aG KN ?_;simp only [gZ,aB]
 refine aC ?_
 refine aC ?_
 refine bV ?_
 refine aC ?_
 refine aW (fun m f H'=> ∃i,i≤l.length∧m=l.length-i∧f 0=jA l∧f 1=jA l∧f 5=I i∧H'=[]) (l.length) ?_ ?_
 ·exact ⟨_,_,Gh.refl,0,by omega,by omega,ah,ah,ah,rfl⟩
 ·rintro m f H' R ⟨i,hi,rfl,g0,g1,g5,rfl⟩ hN hX hR hE
  simp only [gZ.l0,aB]
  refine aA (aH @g0 @g5) ?_
  refine bI (i<l.length) (fun hc=>?_) fun hc=>?_
  ·obtain ⟨p,hp⟩: ∃p,l[i]? =some p:=⟨_,List.getElem?_eq_getElem hc⟩
   have hge:=U8 hp
   have hr:=hrow p (List.mem_of_getElem? hp)
   have e:dw p=sZ ((aP p).map kH):=acL
   have hlen:((aP p).map kH).length≤1048576:=by simp [aP]
   refine dD ?_
   refine dF (dh @g0 @g1 @g5 @hge) fun Kr hKr=>?_
   rw [e]
   refine bK (.cons .fz (.cons .fz .nil)) ?_
   refine acy (xss:=(aP p).map kH) hlen (fun xs hx=>?_) ⟨.bool,?_⟩
   ·obtain ⟨r,hr',rfl⟩:=List.mem_map.1 hx
    have:=hr r hr'
    rw [Gl]
    omega
   ·refine aS ?_
    refine aO hKr ?_
    refine bV ?_
    refine bM @g5 ?_
    exact hN (l.length-(i+1)) _ _ _ _ (by omega) Gh.refl ⟨i+1,by omega,rfl,ah,ah,ah,rfl⟩
  ·refine hX _ _ ?_
   refine aC ?_
   refine aV ?_
   exact ⟨.bool,hK⟩
end Go.Bm.Q5
namespace Go.Bm
open Go Go.Am
abbrev gK (xss:List (List Int)):List (List Value):=xss.map fun r=>r.map I
end Go.Bm
namespace Go.Bm.Q5
open Go Go.Am Go.Bm
def iD (rs:List (List Int)):Nat:=(rs.map List.length).sum
def szT (l:List (List (List Int))):Nat:=(l.map iD).sum
def mkS:Nat→List (List Int)→List (List Int)
 | _,[]=>[]
 |a,r::rs=>lW a r.length::mkS (a+r.length) rs
def mkT:Nat→List (List (List Int))→List (List (List Int))
 | _,[]=>[]
 |a,r::rs=>mkS a r::mkT (a+iD r) rs
theorem U9: ∀{xs ys:List (List Int)} {a:Nat},mkS a (xs++ys)=mkS a xs++mkS (a+iD xs) ys
 |[],ys,a=>by simp [mkS,iD]
 |x::xs,ys,a=>by
  rw [List.cons_append,mkS,mkS,U9 (xs:=xs),List.cons_append]
  congr 3
  simp [iD]
  omega
theorem Iz: ∀{xs ys:List (List (List Int))} {a:Nat},mkT a (xs++ys)=mkT a xs++mkT (a+szT xs) ys
 |[],ys,a=>by simp [mkT,szT]
 |x::xs,ys,a=>by
  rw [List.cons_append,mkT,mkT,Iz (xs:=xs),List.cons_append]
  congr 3
  simp [szT]
  omega
theorem zM: ∀{xs:List (List Int)} {a:Nat},(mkS a xs).length=xs.length
 |[],_=>rfl
 |x::xs,a=>by rw [mkS,List.length_cons,zM,List.length_cons]
theorem wL: ∀{xs:List (List (List Int))} {a:Nat},(mkT a xs).length=xs.length
 |[],_=>rfl
 |x::xs,a=>by rw [mkT,List.length_cons,wL,List.length_cons]
theorem IB {α:Type} {xs:List α} {i:Nat} {x:α} (h:xs[i]? =some x):xs.take (i+1)=xs.take i++[x]:=by rw [List.take_add_one,h];rfl
theorem IC {α:Type} {xs:List α} {i:Nat} {x:α} (h:xs[i]? =some x):xs.drop i=x::xs.drop (i+1):=by
 obtain ⟨h1,rfl⟩:=List.getElem?_eq_some_iff.1 h
 exact List.drop_eq_getElem_cons h1
theorem Va {xs:List (List Int)} {i:Nat} {x:List Int} (h:xs[i]? =some x):iD (xs.take (i+1))=iD (xs.take i)+x.length:=by
 rw [IB h];simp [iD]
theorem Vb {xs:List (List (List Int))} {i:Nat} {x:List (List Int)} (h:xs[i]? =some x):szT (xs.take (i+1))=szT (xs.take i)+iD x:=by
 rw [IB h];simp [szT]
theorem Vd {xs:List (List Int)} {a i:Nat} {x:List Int} (h:xs[i]? =some x):(mkS a xs)[i]? =some (lW (a+iD (xs.take i)) x.length):=by
 have e:xs=xs.take i++x::xs.drop (i+1):=by rw [←IC h,List.take_append_drop]
 have hi:=(List.getElem?_eq_some_iff.1 h).1
 have hl:(xs.take i).length=i:=by rw [List.length_take];omega
 have e2:mkS a xs=mkS a (xs.take i)++mkS (a+iD (xs.take i)) (x::xs.drop (i+1)):=by rw [←U9,←e]
 rw [e2,List.getElem?_append_right (by rw [zM];omega),zM,hl,Nat.sub_self]
 rfl
theorem aeI {xs:List (List (List Int))} {a i:Nat} {x:List (List Int)} (h:xs[i]? =some x):(mkT a xs)[i]? =some (mkS (a+szT (xs.take i)) x):=by
 have e:xs=xs.take i++x::xs.drop (i+1):=by rw [←IC h,List.take_append_drop]
 have hi:=(List.getElem?_eq_some_iff.1 h).1
 have hl:(xs.take i).length=i:=by rw [List.length_take];omega
 have e2:mkT a xs=mkT a (xs.take i)++mkT (a+szT (xs.take i)) (x::xs.drop (i+1)):=by rw [←Iz,←e]
 rw [e2,List.getElem?_append_right (by rw [wL];omega),wL,hl,Nat.sub_self]
 rfl
theorem IE: ∀{rs:List (List Int)} {a k:Nat},hdr k (gK (mkS a rs))=hdr k (gK rs)
 |[],_,_=>rfl
 |r::rs,a,k=>by
  show hdr k ((lW a r.length).map I::gK (mkS (a+r.length) rs))=hdr k (r.map I::gK rs)
  rw [hdr,hdr,IE]
  simp [vJ]
theorem DZ: ∀{rs:List (List Int)},(∀r∈rs,r.length≤1000000)→iD rs≤rs.length*1000000
 |[],_=>by simp [iD]
 |r::rs,h=>by
  have h1:=h r (by simp)
  have h2:=DZ (rs:=rs) fun x hx=>h x (by simp [hx])
  simp only [iD,List.map_cons,List.sum_cons,List.length_cons,Nat.add_mul] at h2⊢
  omega
theorem Ve {k:Nat} {rs:List (List Int)} {i:Nat} {r:List Int} (h:rs[i]? =some r):getN none (hdr k (gK rs)) i=some (S (k+i) 0 r.length 1):=by
 have:=C9 (k:=k) (rows:=gK rs) (j:=i) (r:=r.map I) (by rw [List.getElem?_map,h];rfl)
 rw [List.length_map] at this
 exact this
theorem aeJ {H:BH} {k h a:Nat} {rs:List (List Int)} {K:Value→BH→Prop} (hh:blk H h=some (hdr k (gK rs))) (hr: ∀i r,rs[i]? =some r→blk H (k+i)=some (r.map I)) (hne:h<k∨k+rs.length≤h) (hlen:rs.length≤10) (hll: ∀r∈rs,r.length≤1000000) (ha:a≤1000000000000)
  (hK: ∀H',(∀x,(x<k∨k+rs.length≤x)→blk H' x=blk H x)→(∀i r,(mkS a rs)[i]? =some r→blk H' (k+i)=some (r.map I))→K (I ((a+iD rs:Nat):Int)) H'):
  aF false Xi [S h 0 rs.length 1,I a] H K:=by
 refine aG Yq ?_;simp only [jZ,aB]
 refine aC ?_
 refine aC ?_
 refine aW (fun m f H'=> ∃i,i≤rs.length∧m=rs.length-i∧(∀x,(x<k∨k+rs.length≤x)→blk H' x=blk H x)∧(∀j r,j<i→(mkS a rs)[j]? =some r→blk H' (k+j)=some (r.map I))∧(∀j r,i≤j→rs[j]? =some r→blk H' (k+j)=some (r.map I))∧f 0=S h 0 rs.length 1∧f 1=I ((a+iD (rs.take i):Nat):Int)∧f 5=I i) (rs.length) ?_ ?_
 ·exact ⟨_,_,Gh.refl,0,by omega,by omega,fun _ _=>rfl,fun j r hj=>by omega,fun j r _ hj=>hr j r hj,ah,by simp [iD,upd,frame0],ah⟩
 ·rintro m f H' R ⟨i,hi,rfl,hkp,hlo,hhi,g0,g1,g5⟩ hN hX hR hE
  simp only [jZ.l0,aB]
  refine aA (aH @g0 @g5) ?_
  refine bI (i<rs.length) (fun hc=>?_) fun hc=>?_
  ·obtain ⟨r,jB⟩: ∃r,rs[i]? =some r:=⟨_,List.getElem?_eq_getElem hc⟩
   have hb:blk H' h=some (hdr k (gK rs)):=by rw [hkp h hne];exact hh
   have hg:=Ve (k:=k) jB
   have hrow:=hhi i r (Nat.le_refl _) jB
   have hrl:=hll r (List.mem_of_getElem? jB)
   have hsz:=DZ (rs:=rs.take i) fun x hx=>hll x (List.mem_of_mem_take hx)
   have hs1:=Va jB
   have hma:=Vd (a:=a) jB
   rw [List.length_take,Nat.min_eq_left (by omega)] at hsz
   have hmul:i*1000000≤10*1000000:=Nat.mul_le_mul_right _ (by omega)
   have hlt:=oC hrow
   generalize iD (rs.take i)=q at*
   refine dD ?_
   refine dF (iy @g0 @g1 @g5 @hb @hg) fun Kr hKr=>?_
   refine acu hrow (by omega) ?_
   refine aS ?_
   refine aO hKr ?_
   refine bM @g5 ?_
   have e1:((a+q:Nat):Int)+(r.length:Int)=((a+iD (rs.take (i+1)):Nat):Int):=by rw [hs1];omega
   refine hN (rs.length-(i+1)) _ _ _ _ (by omega) Gh.refl ⟨i+1,by omega,rfl,fun x hx=>?_,fun j y hj hy=>?_,fun j y hj hy=>?_,ah,?_,ah⟩
   ·rw [kM hlt,if_neg (by omega)]
    exact hkp x hx
   ·rw [kM hlt]
    by_cases ej:j=i
    ·subst ej
     rw [hma] at hy
     cases hy
     rw [if_pos rfl]
    ·rw [if_neg (by omega)]
     exact hlo j y (by omega) hy
   ·rw [kM hlt,if_neg (by omega)]
    exact hhi j y (by omega) hy
   ·rw [hs1,←Nat.add_assoc]
    exact ah
  ·refine hX _ _ ?_
   obtain rfl:i=rs.length:=by omega
   rw [List.take_length] at g1
   refine aA @g1 ?_
   refine aV ?_
   exact hK H' hkp fun j r hj=>hlo j r (by have:=(List.getElem?_eq_some_iff.1 hj).1;rw [zM] at this;exact this) hj
theorem aeK {H:BH} {k h a:Nat} {rs:List (List Int)} {K:Value→BH→Prop} (hh:blk H h=some (hdr k (gK rs))) (hr: ∀i r,(mkS a rs)[i]? =some r→blk H (k+i)=some (r.map I)) (hlen:rs.length≤10) (hll: ∀r∈rs,r.length≤1000000) (ha:a≤1000000000000)
  (hK:K (I ((a+iD rs:Nat):Int)) H):aF false Xr [S h 0 rs.length 1,I a] H K:=by
 refine aG YE ?_;simp only [je,aB]
 refine aC ?_
 refine aC ?_
 refine aW (fun m f H'=> ∃i,i≤rs.length∧m=rs.length-i∧f 0=S h 0 rs.length 1∧f 1=I ((a+iD (rs.take i):Nat):Int)∧f 5=I i∧H'=H) (rs.length) ?_ ?_
 ·exact ⟨_,_,Gh.refl,0,by omega,by omega,ah,by simp [iD,upd,frame0],ah,rfl⟩
 ·rintro m f H' R ⟨i,hi,rfl,g0,g1,g5,rfl⟩ hN hX hR hE
  simp only [je.l0,aB]
  refine aA (aH @g0 @g5) ?_
  refine bI (i<rs.length) (fun hc=>?_) fun hc=>?_
  ·obtain ⟨r,jB⟩: ∃r,rs[i]? =some r:=⟨_,List.getElem?_eq_getElem hc⟩
   have hg:=Ve (k:=k) jB
   have hrl:=hll r (List.mem_of_getElem? jB)
   have hsz:=DZ (rs:=rs.take i) fun x hx=>hll x (List.mem_of_mem_take hx)
   have hs1:=Va jB
   have hma:=Vd (a:=a) jB
   have hrow:=hr i _ hma
   rw [List.length_take,Nat.min_eq_left (by omega)] at hsz
   have hmul:i*1000000≤10*1000000:=Nat.mul_le_mul_right _ (by omega)
   generalize iD (rs.take i)=q at*
   have hsl:Sl H' (S (k+i) 0 r.length 1) (lW (a+q) r.length):=by
    have:=Sl.own hrow
    rw [vJ] at this
    exact this
   refine dD ?_
   refine dF (iy @g0 @g1 @g5 @hh @hg) fun Kr hKr=>?_
   refine acv hsl (by omega) ?_
   refine aS ?_
   refine aO hKr ?_
   refine aC ?_
   have e0:decide (((a+q:Nat):Int)+(r.length:Int)<0)=false:=decide_eq_false (by omega)
   refine o9 @e0 ?_
   refine bM @g5 ?_
   refine hN (rs.length-(i+1)) _ _ _ _ (by omega) Gh.refl ⟨i+1,by omega,rfl,ah,?_,ah,rfl⟩
   rw [hs1,←Nat.add_assoc]
   exact ah
  ·refine hX _ _ ?_
   obtain rfl:i=rs.length:=by omega
   rw [List.take_length] at g1
   refine aA @g1 ?_
   refine aV ?_
   exact hK
end Go.Bm.Q5
namespace Go.Bm.Q5
open Go Go.Am Go.Bm
theorem Vf: ∀{l:List (List (List Int))},(∀rs∈l,iD rs≤3000000)→szT l≤l.length*3000000
 |[],_=>by simp [szT]
 |r::l,h=>by
  have h1:=h r (by simp)
  have h2:=Vf (l:=l) fun x hx=>h x (by simp [hx])
  simp only [szT,List.map_cons,List.sum_cons,List.length_cons,Nat.add_mul] at h2⊢
  omega
theorem aeL {rs:List (List Int)} {i:Nat} {v:List Value} (h:(gK rs)[i]? =some v): ∃r,rs[i]? =some r∧v=r.map I:=by
 rw [List.getElem?_map] at h
 obtain ⟨r,hr,e⟩:=map_inj h
 exact ⟨r,hr,e.symm⟩
theorem aeM {r:List Int}:(r.map I).all Am.plain=true:=List.all_eq_true.2 fun v hv=>by
 obtain ⟨y,_,rfl⟩:=List.mem_map.1 hv
 rfl
theorem R3.step {H H':BH} {b a i k:Nat} {ks:List Nat} {xs ys:List (List (List Int))} {rs:List (List Int)} (h:R3 H b ks ((xs++rs::ys).map gK)) (hi:xs.length=i) (hk:ks[i]? =some k) (h3:rs.length=3)
  (hkp: ∀x,(x<k∨k+rs.length≤x)→blk H' x=blk H x) (hnw: ∀j r,(mkS a rs)[j]? =some r→blk H' (k+j)=some (r.map I)):R3 H' b ks ((xs++mkS a rs::ys).map gK):=by
 refine ⟨by simpa using h.len,fun j k' vs h1 h2=>?_,h.sep,h.off⟩
 by_cases ej:j=i
 ·subst ej
  rw [hk] at h1
  cases h1
  have e2:((xs++rs::ys).map gK)[j]? =some (gK rs):=by rw [List.getElem?_map,List.getElem?_append_right (by omega),hi,Nat.sub_self];rfl
  have e3:((xs++mkS a rs::ys).map gK)[j]? =some (gK (mkS a rs)):=by rw [List.getElem?_map,List.getElem?_append_right (by omega),hi,Nat.sub_self];rfl
  rw [e3] at h2
  cases h2
  obtain ⟨g0,g1,g2⟩:=h.row j k (gK rs) hk e2
  refine ⟨by rw [List.length_map,zM];exact h3,by rw [hkp _ (by omega),IE];exact g1,fun q v hq=>?_⟩
  obtain ⟨r,hr,rfl⟩:=aeL hq
  exact ⟨hnw q r hr,aeM⟩
 ·have e2:((xs++rs::ys).map gK)[j]? =some vs:=by
   rw [←h2,List.getElem?_map,List.getElem?_map]
   congr 1
   rcases Nat.lt_or_ge j i with hj|hj
   ·rw [List.getElem?_append_left (by omega),List.getElem?_append_left (by omega)]
   ·rw [List.getElem?_append_right (by omega),List.getElem?_append_right (by omega),hi]
    obtain ⟨q,hq⟩: ∃q,j-i=q+1:=⟨j-i-1,by omega⟩
    rw [hq,List.getElem?_cons_succ,List.getElem?_cons_succ]
  obtain ⟨g0,g1,g2⟩:=h.row j k' vs h1 e2
  have hs:k'+3<k∨k+3<k':=by
   obtain ⟨a1,a2⟩:=List.getElem?_eq_some_iff.1 h1
   obtain ⟨c1,c2⟩:=List.getElem?_eq_some_iff.1 hk
   have hp:=List.pairwise_iff_getElem.1 h.sep
   rcases Nat.lt_trichotomy j i with hl|hl|hl
   ·have:=hp j i a1 c1 hl
    rw [a2,c2] at this
    exact this
   ·exact absurd hl ej
   ·have:=hp i j c1 a1 hl
    rw [a2,c2] at this
    omega
  refine ⟨g0,by rw [hkp _ (by omega)];exact g1,fun q v hq=>?_⟩
  have hq3:=(List.getElem?_eq_some_iff.1 hq).1
  exact ⟨by rw [hkp _ (by omega)];exact (g2 q v hq).1,(g2 q v hq).2⟩
section
variable {H:BH} {b:Nat} {ks:List Nat} {l:List (List (List Int))} {tl:List Value} {K:Value→BH→Prop} (hl:l.length≤1000) (h3: ∀rs∈l,rs.length=3) (hll: ∀rs∈l,∀r∈rs,r.length≤1000000)
include hl h3 hll
theorem Vg (i:Nat):szT (l.take i)≤3000000000∧ ∀rs∈l,iD rs≤3000000:=by
 have h1: ∀rs∈l,iD rs≤3000000:=fun rs hrs=>by
  have:=DZ (hll rs hrs)
  rw [h3 rs hrs] at this
  omega
 have h2:=Vf (l:=l.take i) fun rs hrs=>h1 rs (List.mem_of_mem_take hrs)
 rw [List.length_take] at h2
 have:min i l.length*3000000≤1000*3000000:=Nat.mul_le_mul_right _ (by omega)
 exact ⟨by omega,h1⟩
theorem aev (hr:R3 H b ks (l.map gK)) (hb:blk H b=some (heads ks++tl)) (hK: ∀H',R3 H' b ks ((mkT 1 l).map gK)→blk H' b=some (heads ks++tl)→K (I ((1+szT l:Nat):Int)) H'):
  aF false EL [S b 0 l.length 1,I 1] H K:=by
 refine aG KO ?_;simp only [jD,aB]
 refine aC ?_
 refine aC ?_
 refine aW (fun m f H'=> ∃i,i≤l.length∧m=l.length-i∧R3 H' b ks ((mkT 1 (l.take i)++l.drop i).map gK)∧blk H' b=some (heads ks++tl)∧f 0=S b 0 l.length 1∧f 1=I ((1+szT (l.take i):Nat):Int)∧f 5=I i) (l.length) ?_ ?_
 ·exact ⟨_,_,Gh.refl,0,by omega,by omega,by simpa [mkT] using hr,hb,ah,by simp [szT,upd,frame0],ah⟩
 ·clear hr hb
  rintro m f H' R ⟨i,hi,rfl,hr,hb,g0,g1,g5⟩ hN hX hR hE
  simp only [jD.l0,aB]
  refine aA (aH @g0 @g5) ?_
  refine bI (i<l.length) (fun hc=>?_) fun hc=>?_
  ·obtain ⟨rs,jB⟩: ∃rs,l[i]? =some rs:=⟨_,List.getElem?_eq_getElem hc⟩
   have oJ:=h3 rs (List.mem_of_getElem? jB)
   have hml:=hll rs (List.mem_of_getElem? jB)
   obtain ⟨z1,z2⟩:=Vg hl h3 hll i
   have hs1:=Vb jB
   have hkl:ks.length=l.length:=by
    have:=hr.len
    rw [List.length_map,List.length_append,wL,List.length_take,List.length_drop] at this
    omega
   obtain ⟨k,hk⟩: ∃k,ks[i]? =some k:=⟨_,List.getElem?_eq_getElem (by omega)⟩
   have hlen:(mkT 1 (l.take i)).length=i:=by rw [wL,List.length_take];omega
   rw [IC jB] at hr
   have e2:((mkT 1 (l.take i)++rs::l.drop (i+1)).map gK)[i]? =some (gK rs):=by rw [List.getElem?_map,List.getElem?_append_right (by omega),hlen,Nat.sub_self];rfl
   obtain ⟨_,q1,q2⟩:=hr.row i k _ hk e2
   have hof:=hr.off k (List.mem_of_getElem? hk)
   have hg:getN none (heads ks++tl) i=some (S (k+3) 0 3 1):=by
    show (heads ks++tl)[i]? =_
    rw [List.getElem?_append_left (by rw [su];omega),heads,List.getElem?_map,hk]
    rfl
   have hmk:=fun {K:Value→BH→Prop}=> @aeJ H' k (k+3) (1+szT (l.take i)) rs K q1 (fun j r hj=>(q2 j _ (by rw [List.getElem?_map,hj];rfl)).1) (by omega) (by omega) hml (by omega)
   rw [oJ] at hmk
   have hma:=Iz (xs:=l.take i) (ys:=[rs]) (a:=1)
   rw [←IB jB] at hma
   generalize szT (l.take i)=q at*
   refine dD ?_
   refine dF (iy @g0 @g1 @g5 @hb @hg) fun Kr hKr=>?_
   refine hmk fun H2 hkp hnw=>?_
   refine aS ?_
   refine aO hKr ?_
   refine bM @g5 ?_
   have hb2:blk H2 b=some (heads ks++tl):=by rw [hkp b (by omega)];exact hb
   have hr2:R3 H2 b ks ((mkT 1 (l.take (i+1))++l.drop (i+1)).map gK):=by
    rw [hma]
    have:=R3.step hr hlen hk oJ (by rw [oJ];exact hkp) hnw
    simpa [mkT] using this
   refine hN (l.length-(i+1)) _ _ _ _ (by omega) Gh.refl ⟨i+1,by omega,rfl,hr2,hb2,ah,?_,ah⟩
   ·rw [hs1,←Nat.add_assoc]
    exact ah
  ·refine hX _ _ ?_
   obtain rfl:i=l.length:=by omega
   rw [List.take_length] at g1 hr
   rw [List.drop_length,List.append_nil] at hr
   refine aA @g1 ?_
   refine aV ?_
   exact hK H' hr hb
theorem aex (hr:R3 H b ks ((mkT 1 l).map gK)) (hb:blk H b=some (heads ks++tl)) (hK:K (I ((1+szT l:Nat):Int)) H):
  aF false EN [S b 0 l.length 1,I 1] H K:=by
 refine aG KP ?_;simp only [iJ,aB]
 refine aC ?_
 refine aC ?_
 refine aW (fun m f H'=> ∃i,i≤l.length∧m=l.length-i∧f 0=S b 0 l.length 1∧f 1=I ((1+szT (l.take i):Nat):Int)∧f 5=I i∧H'=H) (l.length) ?_ ?_
 ·exact ⟨_,_,Gh.refl,0,by omega,by omega,ah,by simp [szT,upd,frame0],ah,rfl⟩
 ·rintro m f H' R ⟨i,hi,rfl,g0,g1,g5,rfl⟩ hN hX hR hE
  simp only [iJ.l0,aB]
  refine aA (aH @g0 @g5) ?_
  refine bI (i<l.length) (fun hc=>?_) fun hc=>?_
  ·obtain ⟨rs,jB⟩: ∃rs,l[i]? =some rs:=⟨_,List.getElem?_eq_getElem hc⟩
   have oJ:=h3 rs (List.mem_of_getElem? jB)
   have hml:=hll rs (List.mem_of_getElem? jB)
   obtain ⟨z1,z2⟩:=Vg hl h3 hll i
   have z3:=z2 rs (List.mem_of_getElem? jB)
   have hs1:=Vb jB
   have hkl:ks.length=l.length:=by
    have:=hr.len
    rw [List.length_map,wL] at this
    omega
   obtain ⟨k,hk⟩: ∃k,ks[i]? =some k:=⟨_,List.getElem?_eq_getElem (by omega)⟩
   have e2:((mkT 1 l).map gK)[i]? =some (gK (mkS (1+szT (l.take i)) rs)):=by rw [List.getElem?_map,aeI jB];rfl
   obtain ⟨_,q1,q2⟩:=hr.row i k _ hk e2
   rw [IE] at q1
   have hg:getN none (heads ks++tl) i=some (S (k+3) 0 3 1):=by
    show (heads ks++tl)[i]? =_
    rw [List.getElem?_append_left (by rw [su];omega),heads,List.getElem?_map,hk]
    rfl
   have hmk:=fun {K:Value→BH→Prop}=> @aeK H' k (k+3) (1+szT (l.take i)) rs K q1 (fun j r hj=>(q2 j _ (by rw [List.getElem?_map,hj];rfl)).1) (by omega) hml (by omega)
   rw [oJ] at hmk
   generalize szT (l.take i)=q at*
   generalize iD rs=z at*
   refine dD ?_
   refine dF (iy @g0 @g1 @g5 @hb @hg) fun Kr hKr=>?_
   refine hmk ?_
   refine aS ?_
   refine aO hKr ?_
   refine aC ?_
   have e0:decide (((1+q+z:Nat):Int)<0)=false:=decide_eq_false (by omega)
   refine o9 @e0 ?_
   refine bM @g5 ?_
   refine hN (l.length-(i+1)) _ _ _ _ (by omega) Gh.refl ⟨i+1,by omega,rfl,ah,?_,ah,rfl⟩
   rw [hs1,←Nat.add_assoc]
   exact ah
  ·refine hX _ _ ?_
   obtain rfl:i=l.length:=by omega
   rw [List.take_length] at g1
   refine aA @g1 ?_
   refine aV ?_
   exact hK
end
end Go.Bm.Q5
