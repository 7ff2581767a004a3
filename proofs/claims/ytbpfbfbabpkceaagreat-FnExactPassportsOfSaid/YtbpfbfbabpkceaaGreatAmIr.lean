/- The library's sort by a comparison, at a row of slices in a block of its own, in the words of this machine. -/
import Derived.Shelf.SlSortCmp.Whole1
import Derived.Test.YtbpfbfbabpkceaaGreatAmIn
import Derived.Test.YtbpfbfbabpkceaaGreatAmX
import Derived.Laws.World
set_option linter.unusedVariables false
set_option linter.unusedSimpArgs false
set_option linter.unusedSectionVars false
namespace Go.Am
open Go Go.Sort Go.Proofs
section
variable {φ:Fun} {β:Ren} {H:AHeap} {w:World}
theorem Rel.aei (h:Rel φ β H w) {b:Nat} {blk:Blk} {L:Loc} (hb:H.get b=some blk) (hrw:blk.rw=true) (hL:β b=some L) {W:World} (hW: ∀r,r<w.heap.size→r≠L.g→W.heap[r]? =w.heap[r]?):Rel φ β (mD H b) W:=by
 have key: ∀x y,(mD H b).get x=some y→x≠b∧ ∃z,H.get x=some z∧y=⟨z.cells,false⟩:=fun x y hx=>by
  simp only [mD] at hx
  split at hx
  ·cases hx
  ·rename_i e
   obtain ⟨z,hz,rfl⟩:=Option.map_eq_some_iff.1 hx
   exact ⟨e,z,hz,rfl⟩
 refine ⟨fun x blkx Lx hx hLx hle=>?_,fun x y bx by_ Lx Ly hx hr hy hLx hLy he=>?_,fun x hx=>?_,fun x Lx blkx hLx hlt hx=>?_,h.mapn⟩
 ·obtain ⟨hne,z,hx',rfl⟩:=key _ _ hx
  obtain ⟨c,t,fr,h1,h2,h3,h4,h5⟩:=h.cells x z Lx hx' hLx hle
  refine ⟨c,t,fr,?_,h2,h3,fun h=>(by cases h),h5⟩
  rw [hW _ (Array.getElem?_eq_some_iff.1 h1).1 (fun e=>hne (h.inj b x blk z L Lx hb hrw hx' hL hLx e.symm).symm)]
  exact h1
 ·obtain ⟨_,z,_,rfl⟩:=key _ _ hx
  cases hr
 ·simp only [mD]
  split
  ·rfl
  ·rw [h.fin x hx];rfl
 ·obtain ⟨hne,z,hx',rfl⟩:=key _ _ hx
  obtain ⟨h1,h2,es,ck,h3,h4⟩:=h.maps x Lx z hLx hlt hx'
  refine ⟨h1,h2,es,ck,?_,fun gh hg h0=>?_⟩
  ·rw [hW _ (Array.getElem?_eq_some_iff.1 h3).1 (fun e=>hne (h.inj b x blk z L Lx hb hrw hx' hL hLx e.symm).symm)]
   exact h3
  ·obtain ⟨_,z',hg',rfl⟩:=key _ _ hg
   exact h4 z' hg' h0
theorem aej {w w':World} (h1:w'.os=w.os) (h2:w'.tape=w.tape) (h3:w'.output=w.output∧w.drawn≤w'.drawn) (h4:w.heap.size≤w'.heap.size) (h5: ∀r,r<w.heap.size→w'.heap[r]? =w.heap[r]?): ∃q os',w'=grow (w.drewN q) os':=by
 refine ⟨w'.drawn-w.drawn,w'.heap.extract w.heap.size w'.heap.size,?_⟩
 obtain ⟨hp,tp,dr,os,out⟩:=w
 obtain ⟨hp',tp',yF,os',out'⟩:=w'
 simp only at h1 h2 h3 h4 h5
 obtain ⟨rfl,h3⟩:=h3
 subst h1;subst h2
 have e1:dr+(yF-dr)=yF:=by omega
 have e2:hp++hp'.extract hp.size hp'.size=hp':=by
  apply Array.ext_getElem?
  intro i
  rcases Nat.lt_or_ge i hp.size with hi|hi
  ·rw [Array.getElem?_append_left hi,h5 i hi]
  ·rw [Array.getElem?_append_right hi,Array.getElem?_extract]
   simp only [Nat.min_self]
   split
   ·congr 1;omega
   ·rw [Array.getElem?_eq_none (by omega)]
 simp only [World.drewN,Go.Sort.grow,e1,e2]
theorem Good.raise (h:Rel φ β H w) (M:Nat) (hfr: ∀b,H.n≤b→b<H.n+M→β b=none) {W:World} (hW: ∀r,r<w.heap.size→W.heap[r]? =w.heap[r]?) (hos:W.os=w.os) (htp:W.tape=w.tape) (hout:W.output=w.output∧w.drawn≤W.drawn) (hsz:w.heap.size≤W.heap.size):Good φ β H w β ⟨H.n+M,H.get⟩ W:=by
 refine ⟨⟨fun x blkx Lx hx hLx hle=>?_,h.inj,fun x hx=>h.fin x (by have:H.n+M≤x:=hx;omega),fun x Lx blkx hLx hlt hx=>?_,fun x Lx hLx hlt hx=>?_⟩,
  ⟨hos,htp,hout,hsz,fun r hr _=>hW r hr,fun x y L hx hr hL=> .inr ⟨x,y,L,hx,hr,hL,rfl⟩,fun _ _ h=>h,fun _ _ h=> .inl h,Nat.le_add_right _ _,fun _ _ h h0=>by rw [h0] at h;cases h⟩⟩
 ·obtain ⟨c,t,fr,h1,h2⟩:=h.cells x blkx Lx hx hLx hle
  exact ⟨c,t,fr,by rw [hW _ (Array.getElem?_eq_some_iff.1 h1).1];exact h1,h2⟩
 ·obtain ⟨h1,h2,es,ck,h3,h4⟩:=h.maps x Lx blkx hLx hlt hx
  exact ⟨h1,Nat.lt_of_lt_of_le h2 (Nat.le_add_right _ _),es,ck,by rw [hW _ (Array.getElem?_eq_some_iff.1 h3).1];exact h3,h4⟩
 ·rcases Nat.lt_or_ge x H.n with q|q
  ·obtain ⟨h1,h2⟩:=h.mapn x Lx hLx hlt q
   exact ⟨Nat.lt_of_lt_of_le h1 (Nat.le_add_right _ _),h2⟩
  ·rw [hfr x q hx] at hLx
   cases hLx
end
theorem aek {P:Program} {ρ:Go.Shelf.Ren} (L:SlLaysF.n6 P ρ) (enc:Nat→Value) (h1: ∀x,(enc x).oneCell'=true) (hone:OneCell enc) (cf:Nat→Nat→Int) (hO:SWO (fun i j:Nat=>decide (cf i j<0))) (g:Nat) (eg: ∀args w,(callFunc g args).run P w= .ok (.enter g args) w)
  {blk cap l:Nat} {c:Array Value} {t:TypeId} {w:World} (hg: ∀(W:World) (x y:Nat),(∀r,r<w.heap.size→r≠blk→W.heap[r]? =w.heap[r]?)→w.heap.size≤W.heap.size→Calls P g #[enc x,enc y] W fun e w'=>e= .returned (.int .i64 (cf x y))∧ ∃q os',w'=grow (W.drewN q) os')
  (hw:w.heap[blk]? =some (.cells c t)) (hc: ∀i,i<l→c[i]? =some (enc i)) (hsz:l<4611686018427387904):
  Calls P (ρ.f 6) #[.slice (some ⟨blk,0,none⟩) l cap, .func (.func g) #[] #[]] w fun e w'=>e= .returned (.tuple #[])∧ ∃c':Array Value,w'.heap[blk]? =some (.cells c' t)∧c'.size=c.size∧
   (jY cf l).Perm (List.range l)∧(∀(i:Nat) (x:Nat),(jY cf l)[i]? =some x→c'[i]? =some (enc x))∧(∀r,r<w.heap.size→r≠blk→w'.heap[r]? =w.heap[r]?)∧w.heap.size≤w'.heap.size∧w'.os=w.os∧w'.tape=w.tape∧w'.output=w.output∧w.drawn≤w'.drawn:=by
 have hblk:blk<w.heap.size:=(Array.getElem?_eq_some_iff.1 hw).1
 have hH:Holds enc w blk 0 (Array.range l):=fun j hj=>by
  have hj':j<l:=by simpa using hj
  refine ⟨?_,by simp [World.frozen?,hw]⟩
  have:=hc j hj'
  simp [World.cell?,hw,this,hj']
 have uq:SWO (ltOf cf):=hO
 have hworld: ∀(m:Nat) (os:Array Obj) (dk:Array Nat),(∀r,r<w.heap.size→r≠blk→(sortWorld enc w blk 0 m dk os).heap[r]? =w.heap[r]?)∧w.heap.size≤(sortWorld enc w blk 0 m dk os).heap.size:=fun m os dk=>by
  have hs:(putRow enc (Sort.ahead w m) blk 0 dk).heap.size=w.heap.size:=by
   show ((Sort.ahead w m).heap.modify blk _).size=_
   rw [Array.size_modify]
   rfl
  refine ⟨fun r hr hne=>?_,?_⟩
  ·show ((putRow enc (Sort.ahead w m) blk 0 dk).heap++os)[r]? =_
   rw [Array.getElem?_append_left (by rw [hs];exact hr)]
   show ((Sort.ahead w m).heap.modify blk _)[r]? =_
   rw [Array.getElem?_modify,if_neg (Ne.symm hne)]
   rfl
  ·show w.heap.size≤((putRow enc (Sort.ahead w m) blk 0 dk).heap++os).size
   rw [Array.size_append,hs]
   omega
 have key:=Any.slices_SortFunc_eq L enc hone cf uq g #[] blk 0 cap (Array.range l) w eg (fun m os dk _ x y=>by
  obtain ⟨q1,q2⟩:=hworld m os dk
  simpa using hg _ x y q1 q2) hH hblk (by simpa using hsz)
 rw [Array.size_range] at key
 refine key.mono fun e w' ⟨he,n,os,hw'⟩=>⟨he,?_⟩
 obtain ⟨q1,q2⟩:=hworld n os (pdq (ltOf cf) (Array.range l) 0 l (Lib.bitLen l) true true)
 have hps:=pdq_sorts (ltOf cf) uq (Array.range l) 0 l (Lib.bitLen l) true true (Nat.zero_le _) (by simp) (Or.inl rfl)
 obtain ⟨p1,_,p3⟩:=hps.1
 generalize hd:pdq (ltOf cf) (Array.range l) 0 l (Lib.bitLen l) true true=d' at*
 have uw:jY cf l=d'.toList:=by rw [←hd];rfl
 have hds:d'.size=l:=by simpa using p1
 have hperm:(jY cf l).Perm (List.range l):=by
  rw [uw]
  have e1:d'.extract 0 l=d':=by rw [←hds];simp
  have e2:(Array.range l).extract 0 l=Array.range l:=by simp
  rw [e1,e2] at p3
  simpa using p3
 subst hw'
 refine ⟨putCells enc 0 d' c,?_,by simp [putCells],hperm,fun i x hi=>?_,q1,q2,rfl,rfl,rfl,Nat.le_add_right _ _⟩
 ·have hs:(putRow enc (Sort.ahead w n) blk 0 d').heap.size=w.heap.size:=by
   show ((Sort.ahead w n).heap.modify blk _).size=_
   rw [Array.size_modify]
   rfl
  show ((putRow enc (Sort.ahead w n) blk 0 d').heap++os)[blk]? =_
  rw [Array.getElem?_append_left (by rw [hs];exact hblk)]
  show ((Sort.ahead w n).heap.modify blk _)[blk]? =_
  rw [Array.getElem?_modify,if_pos rfl]
  show w.heap[blk]?.map _=_
  rw [hw]
  rfl
 ·rw [uw,Array.getElem?_toList] at hi
  obtain ⟨hil,hix⟩:=Array.getElem?_eq_some_iff.1 hi
  have hic:i<c.size:=(Array.getElem?_eq_some_iff.1 (hc i (by omega))).1
  simp only [putCells,Array.getElem?_mapIdx,Array.getElem?_eq_getElem hic,Option.map_some,Nat.zero_le,true_and,Nat.zero_add,hil,if_true,Nat.sub_zero]
  rw [getElem!_pos d' i hil,hix]
theorem abr {Pr:Program} {μ φ:Fun} (hΓ: ∀g fn q,Γ g=some fn→φ g=some q→trFunc Pr μ φ q=some fn) (hX: ∀g args H v H',XB g args H v H'→SimCal Pr φ g args H v H') {ρ:Go.Shelf.Ren} (L:SlLaysF.n6 Pr ρ) {qC:FuncId} (hqS:φ yw=some (ρ.f 6)) (Iu:φ pO=some qC)
  (hfn: ∃fn,Pr.funcs[ρ.f 6]? =some fn∧fn.body.isSome=true∧(fn.name== "runtime.NumGoroutine")=false) (eg: ∀args w,(callFunc qC args).run Pr w= .ok (.enter qC args) w):
  ∀g args H v H',XP g args H v H'→SimCal Pr φ g args H v H':=by
 rintro g args H v H' ⟨rfl,b,l,M,vs,cf,rfl,hl0,hl,hb,hlen,hone,uq,hcal,rfl,rfl⟩
 refine ⟨Nat.le_add_right _ _,fun hF x hx=>?_,fun q hq=>?_⟩
 ·have hx':H.n+M≤x:=hx
  show (if x=b then _ else _)=none
  rw [if_neg (fun e=>by rw [←e,hF x (by omega)] at hb;cases hb)]
  exact hF x (by omega)
 rw [hqS] at hq
 cases hq
 refine ⟨hfn,fun β us w hR hargs hfr=>?_⟩
 obtain ⟨hl2,hvs⟩:=hargs
 match us,hl2,hvs with
 |[va,vf],_,hvs=>
  have hva:=hvs 0 _ va rfl rfl
  have hvf:=hvs 1 _ vf rfl rfl
  have hf:vf= .func (.func qC) #[] #[]:=by
   generalize hm:(pO:Nat)=m0 at hvf Iu
   cases hvf with
   |plain h=>simp [Am.plain] at h
   | @func m n cs ds hφ hlc _=>
    rw [Iu] at hφ
    cases hφ
    obtain rfl:ds=[]:=List.eq_nil_of_length_eq_zero hlc.symm
    rfl
  subst hf
  generalize hlq:l=lq at hva
  cases hva with
  |plain h=>simp [Am.plain] at h
  |slice0=>omega
  |slice hL hc1 hc2=>
   subst hlq
   rename_i cap gb base N _
   obtain ⟨c,t,fr,k1,k2,k3,k4,k5⟩:=hR.cells b _ _ hb hL (by show base≤N;omega)
   obtain ⟨rfl,hbase⟩:=k4 rfl
   simp only at hbase k1 k2 k3
   subst hbase
   have hn:H.n≤H.n+M:=Nat.le_add_right _ _
   obtain ⟨enc,henc⟩: ∃enc:Nat→Value,enc=fun i=>c.getD (i%l) undef:=⟨_,rfl⟩
   have hcell: ∀i,i<l→c[i]? =some (enc i)∧VR φ β (vs.getD (i%l) undef) (enc i):=fun i hi=>by
    have hv:vs[i]? =some (vs.getD (i%l) undef):=by
     rw [Nat.mod_eq_of_lt hi,List.getD_eq_getElem?_getD,List.getElem?_eq_getElem (by omega)]
     rfl
    obtain ⟨u,hu,hr⟩:=k5 i _ hv
    rw [Nat.zero_add] at hu
    have hcu:enc i=u:=by
     rw [henc]
     simp only
     rw [Nat.mod_eq_of_lt hi,Array.getD_eq_getD_getElem?,hu]
     rfl
    rw [hcu]
    exact ⟨hu,hr⟩
   have hmod: ∀i,enc (i%l)=enc i∧vs.getD (i%l%l) undef=vs.getD (i%l) undef:=fun i=>by
    rw [henc]
    simp only [Nat.mod_mod]
    exact ⟨trivial,trivial⟩
   have uJ: ∀i,VR φ β (vs.getD (i%l) undef) (enc i):=fun i=>by
    have:=(hcell (i%l) (Nat.mod_lt _ hl0)).2
    rw [(hmod i).1,(hmod i).2] at this
    exact this
   have UU: ∀i,(enc i).oneCell'=true:=fun i=>(uJ i).oneCell (hone _ (by
    have hi:i%l<vs.length:=by rw [hlen];exact Nat.mod_lt _ hl0
    rw [List.getD_eq_getElem?_getD,List.getElem?_eq_getElem hi]
    exact List.getElem_mem hi))
   have hcmp: ∀(W:World) (x y:Nat),(∀r,r<w.heap.size→r≠gb→W.heap[r]? =w.heap[r]?)→w.heap.size≤W.heap.size→Calls Pr qC #[enc x,enc y] W fun e w'=>e= .returned (.int .i64 (cf x y))∧ ∃q os',w'=grow (W.drewN q) os':=fun W x y hW hWs=>by
    obtain ⟨HA,hHA,hcal⟩:=hcal x y
    have hs:=(sound hΓ hX hcal).2.2 qC Iu
    have hRk:=hR.aei hb rfl hL hW
    refine (hs.2 β [enc x,enc y] W hRk (VRL.cons (uJ x) (VRL.cons (uJ y) VRL.nil)) fun b' h1 h2=>hfr b' h1 (Nat.lt_of_lt_of_le h2 hHA)).mono fun e w' ⟨β',v'',he,hv',hg⟩=>?_
    obtain rfl:=hv'.int
    exact ⟨he,aej hg.2.os hg.2.tape hg.2.output hg.2.size fun r hr=>hg.2.frame r hr fun b' blk L h1 h2=>by
     simp only [mD] at h1
     split at h1
     ·cases h1
     ·obtain ⟨z,_,rfl⟩:=Option.map_eq_some_iff.1 h1
      cases h2⟩
   have hsrt:=aek (l:=l) (cap:=cap) L enc UU (fun i=>UU i) cf uq qC eg hcmp k1 (fun i hi=>(hcell i hi).1) (by omega)
   refine hsrt.mono fun e w' ⟨he,c',r1,r2,r3,r4,r5,r6,r7,r8,r9,r10⟩=>?_
   have hpl:(jY cf l).length=l:=by rw [r3.length_eq,List.length_range]
   have hset:=Good.set hR hb rfl hL (by show 0≤N;omega) (cs:=(jY cf l).map fun i=>vs.getD (i%l) undef) (c':=c') (by
    rw [List.length_map,hpl]
    show l≤N
    omega) (by rw [r2];exact k2) fun i v hi=>by
    rw [List.getElem?_map] at hi
    obtain ⟨x,hx,rfl⟩:=Option.map_eq_some_iff.1 hi
    exact ⟨_,r4 i x hx,uJ x⟩
   have hgl:=(Array.getElem?_eq_some_iff.1 k1).1
   have hrow: ∀r,r<(w.setRow gb c').heap.size→w'.heap[r]? =(w.setRow gb c').heap[r]? :=fun r hr=>by
    by_cases e:r=gb
    ·subst e
     rw [r1,setRow_heap w _ c c' t (0,0) k1]
    ·rw [setRow_other w _ _ _ e]
     refine r5 r ?_ e
     simpa [World.setRow] using hr
   have hsz2:(w.setRow gb c').heap.size=w.heap.size:=by simp [World.setRow]
   have hgr:=Good.raise hset.1 M hfr (W:=w') hrow r7 r8 ⟨r9,r10⟩ (by rw [hsz2];exact r6)
   exact ⟨β,_,he, .plain rfl,hset.trans hgr⟩
end Go.Am
