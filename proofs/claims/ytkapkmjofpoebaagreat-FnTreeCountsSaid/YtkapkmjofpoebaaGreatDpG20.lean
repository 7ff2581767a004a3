/- DpWj -/
import Derived.Test.YtkapkmjofpoebaaGreatDpG19
import Derived.Test.YtkapkmjofpoebaaGreatDpG3
import Derived.Test.YtkapkmjofpoebaaGreatDpG4
set_option linter.unusedVariables false
set_option linter.unusedSimpArgs false
set_option linter.unusedSectionVars false
namespace Go.Bm
open Go Go.Am
theorem apt {l l':List Int} (h:l.Perm l'):l.sum=l'.sum:=by
 induction h with
 |nil=>rfl
 |cons x _ ih=>simp only [List.sum_cons,ih]
 |swap x y l=>simp only [List.sum_cons];omega
 |trans _ _ h1 h2=>exact h1.trans h2
theorem apu {p:List Nat} {n:Nat} (hp:Perm p n):(aP p n).flatten.Perm (List.range n):=by
 have hk:=rX.all rfl hp (Nat.le_refl n)
 refine (List.perm_ext_iff_of_nodup hk.jX List.nodup_range).2 fun x=>?_
 rw [List.mem_flatten,List.mem_range]
 constructor
 ·rintro ⟨c,hc,hx⟩
  exact (oJ hp hc).lt x hx
 ·intro hx
  exact zh hp hx
theorem adI {o:List Int} {a c:List Nat}:dL o (a++c)=dL o a+dL o c:=by simp [dL]
theorem adJ {o:List Int}: ∀{cs:List (List Nat)},dL o cs.flatten=(cs.map (dL o)).sum
 |[]=>rfl
 |c::cs=>by rw [List.flatten_cons,adI,adJ,List.map_cons,List.sum_cons]
theorem SG {xs:List Int}: ∀k,kE xs k=dL xs (List.range k)
 |0=>rfl
 |k+1=>by rw [kE,SG k,List.range_succ,adI];simp [dL]
theorem adK {p:List Nat} {n:Nat} (hp:Perm p n) {W s:List Int} (hl:W.length=n) (hs:s.length=(aP p n).length) (h: ∀v,v<(aP p n).length→dL W ((aP p n).getD v [])=el s v):dQ W=dQ s:=by
 have h1:dQ W=dL W (aP p n).flatten:=by
  rw [dQ,SG,hl]
  exact (apt ((apu hp).map _)).symm
 rw [h1,adJ,dQ,SG,hs,dL]
 congr 1
 refine List.ext_getElem (by simp) fun i hi hi'=>?_
 rw [List.length_map] at hi
 have:=h i hi
 simp only [List.getElem_map,List.getElem_range]
 rw [←this]
 simp [List.getD,hi]
section
variable {n:Nat} {b w:List Nat} {xs ys W:List Int}
theorem amd {c:List Nat}:nX W c c.length=dL W c:=by rw [nX,List.take_length];rfl
structure adL (n:Nat) (b w:List Nat) (xs ys W:List Int):Prop where
 len:W.length=n
 bd: ∀x,x<n→1≤el W x∧el W x≤1000000000
 lx:xs.length=(aP b n).length
 ly:ys.length=(aP w n).length
 bx: ∀i,i<xs.length→1≤el xs i∧el xs i≤1000000000
 by': ∀i,i<ys.length→1≤el ys i∧el ys i≤1000000000
 sx:dQ W=dQ xs
 sy:dQ W=dQ ys
 at_: ∀v,v<(aP b n).length→dL W ((aP b n).getD v [])=el xs v
theorem adM {c:List Nat} {x:Nat}: ∀{c:List Nat},(∀y∈c,1≤el W y)→x∈c→el W x≤dL W c
 |[],_,h=>by simp at h
 |y::c,hp,h=>by
  have hy:=hp y (by simp)
  have h0: ∀c:List Nat,(∀y∈c,1≤el W y)→0≤dL W c:=fun c hc=>by
   induction c with
   |nil=>simp [dL]
   |cons z c ih=>
    have:=ih fun u hu=>hc u (by simp [hu])
    have:=hc z (by simp)
    simp only [dL,List.map_cons,List.sum_cons] at*
    omega
  have e:dL W (y::c)=el W y+dL W c:=by simp [dL]
  rw [e]
  rcases List.mem_cons.1 h with rfl|h
  ·have:=h0 c fun u hu=>hp u (by simp [hu])
   omega
  ·have:=adM (c:=c) (fun u hu=>hp u (by simp [hu])) h
   omega
theorem apv (hd:bC n b w) (hok:ug n b w xs ys) (hg:Good b w n (xs++ys) W):adL n b w xs ys W:=by
 obtain ⟨⟨h1,h2⟩,h3,h4⟩:=hok
 have hv:(aW b w n).length=(aP b n).length+(aP w n).length:=by rw [aW,List.length_append]
 have e1: ∀v,v<(aP b n).length→dL W ((aP b n).getD v [])=el xs v:=fun v hv'=>by
  have:=hg.sum v (by omega)
  rw [Gm,if_pos (by omega)] at this
  rw [←this]
  simp [aW,List.getD,hv',List.getElem_append_left]
 have e2: ∀v,v<(aP w n).length→dL W ((aP w n).getD v [])=el ys v:=fun v hv'=>by
  have:=hg.sum ((aP b n).length+v) (by omega)
  rw [Gm,if_neg (by omega),show (aP b n).length+v-xs.length=v by omega] at this
  rw [←this]
  simp [aW,List.getD,hv',List.getElem_append_right]
 refine ⟨hg.len,fun x hx=>⟨hg.pos x hx,?_⟩,h1,h2,h3,h4,adK hd.1 hg.len h1 e1,adK hd.2.1 hg.len h2 e2,e1⟩
 obtain ⟨c,hc,hxc⟩:=zh hd.1 hx
 obtain ⟨v,hv',rfl⟩:=List.mem_iff_getElem.1 hc
 have h5:=e1 v hv'
 have h6:=(h3 v (by omega)).2
 have e3:(aP b n).getD v []=(aP b n)[v]:=by simp [List.getD,hv']
 rw [e3] at h5
 have:=adM (W:=W) (c:=[]) (fun y hy=>hg.pos y ((oJ hd.1 hc).lt y hy)) hxc
 omega
theorem amb {n:Int} {W:List Int} {c:Int} (h:nY n b w xs ys=(some W,c)):c=0∧bC n b w∧adL n.toNat b w xs ys W:=by
 unfold nY at h
 split at h
 ·cases h
 ·rename_i h1
  split at h
  ·cases h
  ·rename_i h2
   split at h
   ·cases h
   ·split at h
    ·rename_i hex
     have hd:=Decidable.not_not.1 h1
     obtain ⟨m,rfl,hm1,hm2⟩:=hd.n0
     have hW:hex.choose=W:=by cases h;rfl
     have hg:=hex.choose_spec
     rw [hW] at hg
     refine ⟨by cases h;rfl,hd,?_⟩
     rw [Int.toNat_natCast] at hg h2⊢
     exact apv hd (Classical.not_not.1 h2) hg
    ·cases h
theorem amc {n:Int} {c:Int} (h:nY n b w xs ys=(none,c)):c≠0:=by
 unfold nY at h
 repeat' split at h
 all_goals (cases h;try decide)
theorem al6 {n:Int} (h: ∃k r,oq b w n.toNat k r): ∃u v,kT n b w=[u,v]∧(u=2↔rY n b w%2=1):=by
 have hc:oq b w n.toNat h.choose h.choose_spec.choose:=h.choose_spec.choose_spec
 rw [rY,dif_pos h,kT,dif_pos h]
 obtain ⟨c,x,_,h2⟩:=hc
 rcases h2 with ⟨h2,h3⟩|⟨h2,h3⟩
 ·exact ⟨2,x,h3,by omega⟩
 ·refine ⟨_,_,h3,?_⟩
  cases c<;>simp [ct]<;>omega
end
end Go.Bm
