/- FnExactPassportsOf, in the second machine. -/
import Derived.Test.YtbpfbfbabpkceaaGreatDpG10
set_option linter.unusedVariables false
set_option linter.unusedSimpArgs false
set_option linter.unusedSectionVars false
namespace Go.Bm.Q5
open Go Go.Am Go.Bm
def lI (ps:List P3):List (List (List Int)):=ps.map fun p=>(aP p).map kH
theorem aes {ps:List P3}:ps.map dS=(lI ps).map gK:=by
 rw [lI,List.map_map]
 refine List.map_congr_left fun p _=>?_
 show dS p=((aP p).map kH).map fun r=>r.map I
 rw [dS,List.map_map]
 exact List.map_congr_left fun r _=>Ns
theorem U0 {ps:List P3}:(lI ps).length=ps.length:=by simp [lI]
section
variable {x:Bool} {H:BH} {K:Value→BH→Prop} {b:Nat} {ks:List Nat} {ps:List P3} {tl:List Value}
theorem DU (hrow: ∀p∈ps,∀r∈aP p,r.length<1000000):(∀rs∈lI ps,rs.length=3)∧ ∀rs∈lI ps,∀r∈rs,r.length≤1000000:=by
 refine ⟨fun rs hrs=>?_,fun rs hrs r hr=>?_⟩
 ·obtain ⟨p,_,rfl⟩:=List.mem_map.1 hrs
  simp [aP]
 ·obtain ⟨p,hp,rfl⟩:=List.mem_map.1 hrs
  obtain ⟨y,hy,rfl⟩:=List.mem_map.1 hr
  have:=hrow p hp y hy
  rw [Gl]
  omega
theorem aeu (hl:ps.length≤1000) (hrow: ∀p∈ps,∀r∈aP p,r.length<1000000) (hr:R3 H b ks (ps.map dS)) (hb:blk H b=some (heads ks++tl)) (hK: ∀H',R3 H' b ks ((mkT 1 (lI ps)).map gK)→blk H' b=some (heads ks++tl)→K (I ((1+szT (lI ps):Nat):Int)) H'):
  aF false EL [S b 0 ps.length 1,I 1] H K:=by
 rw [aes] at hr
 rw [←U0 (ps:=ps)] at hl⊢
 exact aev hl (DU hrow).1 (DU hrow).2 hr hb hK
theorem aew (hl:ps.length≤1000) (hrow: ∀p∈ps,∀r∈aP p,r.length<1000000) (hr:R3 H b ks ((mkT 1 (lI ps)).map gK)) (hb:blk H b=some (heads ks++tl)) (hK:K (I ((1+szT (lI ps):Nat):Int)) H):
  aF false EN [S b 0 ps.length 1,I 1] H K:=by
 rw [←U0 (ps:=ps)] at hl⊢
 exact aex hl (DU hrow).1 (DU hrow).2 hr hb hK
theorem aey {n:Nat} {g:Int} (h1:1≤n) (h5:n≤5) (hg:0≤g) (hK:K (.tuple ⟨[jA (nU n g),I 0]⟩) H):aF x EK [I n,I g] H K:=
 aez (.cons .int (.cons .int .nil)) (U1 h1 h5 hg fun H1 b1 ks1 z1 hr1 hb1=>⟨_,jc.tup (jc.ps hr1 hb1 (jc.nn .int jc.nil)),NN.tuple (aJ.cons .fz (aJ.cons .int .nil)),hK⟩)
theorem aeA {n g:Int} (h: ¬((1≤n∧n≤5)∧0≤g)) (hK:K (.tuple ⟨[.slice none 0 0,I 2]⟩) H):aF x Kq [I n,I g] H K:=by
 refine bK (.cons .int (.cons .int .nil)) ?_
 refine aG KJ ?_;simp only [bY,aB]
 refine aC ?_
 refine eP fun Kr hKr=>?_
 refine GY ?_
 by_cases hn:1≤n∧n≤5
 ·have q3:g<0:=by omega
  have e:decide (1≤n∧n≤5)=true:=decide_eq_true hn
  refine gU (aH @q3 @e) ?_
  refine aO hKr ?_
  refine jy ?_
  refine aC ?_
  refine aV ?_
  exact ⟨zK,hK⟩
 ·have e:decide (1≤n∧n≤5)=false:=decide_eq_false hn
  refine gU @e ?_
  refine aO hKr ?_
  refine jy ?_
  refine aC ?_
  refine aV ?_
  exact ⟨zK,hK⟩
theorem U2 {n g:Int} (h: ¬((1≤n∧n≤5)∧0≤g)) (hK:K (.tuple ⟨[.slice none 0 0,I 2]⟩) H):aF x EK [I n,I g] H K:=by
 refine bK (.cons .int (.cons .int .nil)) ?_
 refine aG KL ?_;simp only [fK,aB]
 refine aC ?_
 by_cases q1:n<1
 ·refine aA @q1 ?_
  refine jy ?_
  refine aC ?_
  refine aV ?_
  exact ⟨zK,hK⟩
 ·by_cases q2:(5:Int)<n
  ·refine aA (aH @q1 @q2) ?_
   refine jy ?_
   refine aC ?_
   refine aV ?_
   exact ⟨zK,hK⟩
  ·have q3:g<0:=by omega
   refine aA (bP @q1 @q2 @q3) ?_
   refine jy ?_
   refine aC ?_
   refine aV ?_
   exact ⟨zK,hK⟩
theorem U3 (hK:K (.bool true) H):aF false Kt [.slice none 0 0, .slice none 0 0] H K:=by
 refine aG KN ?_;simp only [gZ,aB]
 refine aC ?_
 refine aC ?_
 refine bV ?_
 refine aC ?_
 refine aW (fun m f H'=>m=0∧f 0= .slice none 0 0∧f 1= .slice none 0 0∧f 5=I 0∧H'=H) (0) ?_ ?_
 ·exact ⟨_,_,Gh.refl,rfl,ah,ah,ah,rfl⟩
 ·rintro m f H' R ⟨rfl,g0,g1,g5,rfl⟩ hN hX hR hE
  simp only [gZ.l0,aB]
  refine aA (aH @g0 @g5) ?_
  refine bV ?_
  refine hX _ _ ?_
  refine aC ?_
  refine aV ?_
  exact hK
theorem aeB (hK:K (I 1) H):aF false EL [.slice none 0 0,I 1] H K:=by
 refine aG KO ?_;simp only [jD,aB]
 refine aC ?_
 refine aC ?_
 refine aW (fun m f H'=>m=0∧f 0= .slice none 0 0∧f 1=I 1∧f 5=I 0∧H'=H) (0) ?_ ?_
 ·exact ⟨_,_,Gh.refl,rfl,ah,ah,ah,rfl⟩
 ·rintro m f H' R ⟨rfl,g0,g1,g5,rfl⟩ hN hX hR hE
  simp only [jD.l0,aB]
  refine aA (aH @g0 @g5) ?_
  refine bV ?_
  refine hX _ _ ?_
  refine aA @g1 ?_
  refine aV ?_
  exact hK
theorem U4 (hK:K (I 1) H):aF false EN [.slice none 0 0,I 1] H K:=by
 refine aG KP ?_;simp only [iJ,aB]
 refine aC ?_
 refine aC ?_
 refine aW (fun m f H'=>m=0∧f 0= .slice none 0 0∧f 1=I 1∧f 5=I 0∧H'=H) (0) ?_ ?_
 ·exact ⟨_,_,Gh.refl,rfl,ah,ah,ah,rfl⟩
 ·rintro m f H' R ⟨rfl,g0,g1,g5,rfl⟩ hN hX hR hE
  simp only [iJ.l0,aB]
  refine aA (aH @g0 @g5) ?_
  refine bV ?_
  refine hX _ _ ?_
  refine aA @g1 ?_
  refine aV ?_
  exact hK
end
theorem Et (n g:Int):aF false Es [I n,I g] [] fun v _=>v= .bool true:=by
 by_cases h:(1≤n∧n≤5)∧0≤g
 ·obtain ⟨m,rfl⟩: ∃m:Nat,n=m:=⟨n.toNat,by omega⟩
  have h1:1≤m:=by omega
  have h5:m≤5:=by omega
  have hL:=Iw h1 h5
  have hpl:=DW (n:=m) (g:=g) (i:=(gI (allL m)).length) (L:=gI (allL m))
  rw [List.take_length] at hpl
  have hdl:(nU m g).length≤(iC m g (gI (allL m))).length:=U5
  have hl:(nU m g).length≤1000:=by omega
  have hl2:(nU m g).length≤1000000:=by omega
  have hrow: ∀p∈nU m g,∀r∈aP p,r.length<1000000:=fun p hp=>DX p (zL.1 hp)
  have hs:=fun {x:Bool} {H:BH} {K:Value→BH→Prop}=> @aeC m g x H K h1 h5 h.2
  have hi:=fun {K:Value→BH→Prop}=> @U1 m g K h1 h5 h.2
  have hz:=fun {x:Bool} {H:BH} {K:Value→BH→Prop}=> @aey x H K m g h1 h5 h.2
  generalize nU m g=ps at hl hl2 hrow hs hi hz
  clear hdl hpl hL
  refine aG KI ?_;simp only [bT,aB]
  refine aC ?_
  refine eP fun Kr hKr=>?_
  refine hs ?_
  refine aS ?_
  refine aO hKr ?_
  refine eP fun Kr hKr=>?_
  refine hi fun H' b ks z hr hb=>?_
  refine aS ?_
  refine aO hKr ?_
  refine eP fun Kr hKr=>?_
  refine aeD (jc.ps hr hb (jc.nn .fz jc.nil)) ?_
  refine U6 hl2 hrow ⟨rfl,?_⟩
  refine aS ?_
  refine aO hKr ?_
  refine bV ?_
  refine aC ?_
  refine eP fun Kr hKr=>?_
  refine aeu hl hrow hr hb fun H2 hr2 hb2=>?_
  have e1:decide (((1+szT (lI ps):Nat):Int)<0)=false:=decide_eq_false (by omega)
  have hh:=fun {K:Value→BH→Prop}=> @aew H2 K b ks ps (List.replicate z (.slice none 0 0)) hl hrow hr2 hb2
  generalize 1+szT (lI ps)=q at e1 hh
  refine aS ?_
  refine aO hKr ?_
  refine aC ?_
  refine eP fun Kr hKr=>?_
  refine hh ?_
  refine aS ?_
  refine aO hKr ?_
  refine aA @e1 ?_
  refine bV ?_
  refine aC ?_
  refine bV ?_
  refine eP fun Kr hKr=>?_
  refine hz ?_
  refine aS ?_
  refine aO hKr ?_
  refine eP fun Kr hKr=>?_
  refine U6 hl2 hrow ?_
  refine aS ?_
  refine aO hKr ?_
  refine bV ?_
  refine aC ?_
  refine eP fun Kr hKr=>?_
  refine hh ?_
  refine aS ?_
  refine aO hKr ?_
  refine aA @e1 ?_
  refine bV ?_
  refine aC ?_
  refine bV ?_
  refine aC ?_
  exact Ut
 ·refine aG KI ?_;simp only [bT,aB]
  refine aC ?_
  refine eP fun Kr hKr=>?_
  refine aeA h ?_
  refine aS ?_
  refine aO hKr ?_
  refine eP fun Kr hKr=>?_
  refine U2 h ?_
  refine aS ?_
  refine aO hKr ?_
  refine eP fun Kr hKr=>?_
  refine U3 ?_
  refine aS ?_
  refine aO hKr ?_
  refine bV ?_
  refine aC ?_
  refine eP fun Kr hKr=>?_
  refine aeB ?_
  refine aS ?_
  refine aO hKr ?_
  refine aC ?_
  refine eP fun Kr hKr=>?_
  refine U4 ?_
  refine aS ?_
  refine aO hKr ?_
  refine aC ?_
  refine bV ?_
  refine aC ?_
  refine bV ?_
  refine eP fun Kr hKr=>?_
  refine U2 h ?_
  refine aS ?_
  refine aO hKr ?_
  refine eP fun Kr hKr=>?_
  refine U3 ?_
  refine aS ?_
  refine aO hKr ?_
  refine bV ?_
  refine aC ?_
  refine eP fun Kr hKr=>?_
  refine U4 ?_
  refine aS ?_
  refine aO hKr ?_
  refine aC ?_
  refine bV ?_
  refine aC ?_
  refine bV ?_
  refine aC ?_
  exact Ut
end Go.Bm.Q5
namespace Go.Bm
open Go Go.Am
theorem Et {n g:Int} (hn: -9223372036854775808≤n∧n<9223372036854775808) (hg: -9223372036854775808≤g∧g<9223372036854775808):aF false Es [I n,I g] [] fun v _=>v= .bool true:=Q5.Et n g
end Go.Bm
