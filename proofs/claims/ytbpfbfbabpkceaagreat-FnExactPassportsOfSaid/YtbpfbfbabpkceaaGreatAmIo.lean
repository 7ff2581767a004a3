/- The library's sort by a comparison, at a row of structs in a block of its own, in the words of this machine. -/
import Derived.Shelf.SlSortCmp.WholeK
import Derived.Laws.World
set_option linter.unusedVariables false
set_option linter.unusedSimpArgs false
set_option linter.unusedSectionVars false
namespace Go.Am
open Go Go.Sort Go.Proofs
section
variable {α:Type} [Inhabited α]
theorem DR {enc:α→List Value} {k:Nat} (hk: ∀x,(enc x).length=k): ∀(l:List α) (i:Nat),i<l.length*k→(l.flatMap enc)[i]? =some ((enc (l.toArray[i/k]!))[i%k]!)
 |[],i,h=>by simp at h
 |x::l,i,h=>by
  have k0:0<k:=by
   rcases Nat.eq_zero_or_pos k with e|e
   ·rw [e] at h;simp at h
   ·exact e
  rw [List.flatMap_cons]
  rw [List.length_cons,Nat.add_mul,Nat.one_mul] at h
  rcases Nat.lt_or_ge i k with hi|hi
  ·rw [List.getElem?_append_left (by rw [hk];exact hi),Nat.div_eq_of_lt hi,Nat.mod_eq_of_lt hi]
   have hi':i<(enc x).length:=by rw [hk];exact hi
   simp [hi']
  ·rw [List.getElem?_append_right (by rw [hk];exact hi),hk,DR hk l (i-k) (by omega)]
   obtain ⟨j,rfl⟩: ∃j,i=j+k:=⟨i-k,by omega⟩
   rw [Nat.add_sub_cancel,Nat.add_mod_right,Nat.add_div_right _ k0]
   have hj:j/k<l.length:=Nat.div_lt_of_lt_mul (by rw [Nat.mul_comm];omega)
   simp [hj]
omit [Inhabited α] in
theorem E5 {enc:α→List Value} {k:Nat} (hk: ∀x,(enc x).length=k) (l:List α):(l.flatMap enc).length=l.length*k:=by
 induction l with
 |nil=>simp
 |cons x l ih=>rw [List.flatMap_cons,List.length_append,ih,hk,List.length_cons,Nat.add_mul];omega
theorem perm_of {d d':Array α} (h:PermIn 0 d.size d d'):d'.toList.Perm d.toList:=by
 obtain ⟨h1,_,h3⟩:=h
 rw [←h1] at h3
 have e1:d'.extract 0 d'.size=d':=by simp
 have e2:d.extract 0 d'.size=d:=by rw [h1];simp
 rwa [e1,e2] at h3
theorem sort_at {P:Program} {ρ:Go.Shelf.Ren} (L:SlLaysF0.n6 P ρ) (k:Nat) (aE: ∀w,(isAgg (ρ.t 24)).run P w= .ok true w) (zE: ∀w,(Go.sizeOf (ρ.t 24)).run P w= .ok k w) (enc:α→List Value) (hk: ∀x,(enc x).length=k) (h1: ∀x,∀v∈enc x,v.oneCell'=true) (cf:α→α→Int) (hO:SWO (ltOf cf))
  (g:Nat) (eg: ∀args w,(callFunc g args).run P w= .ok (.enter g args) w) (hg: ∀(w:World) (x y:α),Calls P g #[.agg (enc x).toArray, .agg (enc y).toArray] w fun e w'=>e= .returned (.int .i64 (cf x y))∧ ∃q os',w'=grow (w.drewN q) os')
  {blk cap:Nat} {l:List α} {c:Array Value} {t:TypeId} {w:World} (hw:w.heap[blk]? =some (.cells c t)) (hc: ∀(i:Nat) (v:Value),(l.flatMap enc)[i]? =some v→c[i]? =some v) (hsz:l.length<4611686018427387904):
  Calls P (ρ.f 6) #[.slice (some ⟨blk,0,none⟩) l.length cap, .func (.func g) #[] #[]] w fun e w'=>e= .returned (.tuple #[])∧ ∃(l':List α) (c':Array Value),l'.Perm l∧l'.Pairwise (fun x y=>ltOf cf y x=false)∧w'.heap[blk]? =some (.cells c' t)∧c'.size=c.size∧
   (∀(i:Nat) (v:Value),(l'.flatMap enc)[i]? =some v→c'[i]? =some v)∧(∀r,r<w.heap.size→r≠blk→w'.heap[r]? =w.heap[r]?)∧w.heap.size≤w'.heap.size∧w'.os=w.os∧w'.tape=w.tape∧w'.output=w.output∧w.drawn≤w'.drawn:=by
 have hblk:blk<w.heap.size:=(Array.getElem?_eq_some_iff.1 hw).1
 have hH:HoldsK enc k w blk 0 l.toArray:=fun j hj=>by
  rw [size_flatK] at hj
  have e:=DR hk l j (by simpa using hj)
  have:=hc j _ e
  refine ⟨?_,?_⟩
  ·rw [get_flatK _ _ _ _ hj]
   simp [World.cell?,hw,this]
  ·simp [World.frozen?,hw]
 have key:=AnyQ.slices_SortFunc L k aE zE enc hk h1 cf hO g #[] blk 0 cap l.toArray w eg (fun m os dk _ x y=>by simpa using hg _ x y) hH hblk (by simpa using hsz)
 refine key.mono fun e w' ⟨he,d',n,os,hp,hs,hw'⟩=>⟨he,d'.toList,(putCells id 0 (flatK enc k d') c),perm_of hp,?_,?_⟩
 ·have hds:d'.size=l.length:=by simpa using hp.1
  rw [List.pairwise_iff_getElem]
  intro i j hi hj hij
  have:=hs i j (Nat.zero_le _) hij (by simpa [hds] using hj)
  simp at hi hj
  simpa [hi,hj] using this
 ·have hds:d'.size=l.length:=by simpa using hp.1
  subst hw'
  have hb:(putRowK enc k (Sort.ahead w n) blk 0 d').heap[blk]? =some (.cells (putCells id 0 (flatK enc k d') c) t):=by
   show ((Sort.ahead w n).heap.modify blk _)[blk]? =_
   rw [Array.getElem?_modify,if_pos rfl]
   show w.heap[blk]?.map _=_
   rw [hw]
   rfl
  have hsz2:(putRowK enc k (Sort.ahead w n) blk 0 d').heap.size=w.heap.size:=by
   show ((Sort.ahead w n).heap.modify blk _).size=_
   rw [Array.size_modify]
   rfl
  have hgr: ∀r,r<w.heap.size→(sortWorldK enc k w blk 0 n d' os).heap[r]? =(putRowK enc k (Sort.ahead w n) blk 0 d').heap[r]? :=fun r hr=>by
   show ((putRowK enc k (Sort.ahead w n) blk 0 d').heap++os)[r]? =_
   rw [Array.getElem?_append_left (by rw [hsz2];exact hr)]
  refine ⟨by rw [hgr _ hblk,hb],by simp [putCells],fun i v hi=>?_,fun r hr hne=>?_,?_,rfl,rfl,rfl,Nat.le_add_right _ _⟩
  ·have hil:i<d'.toList.length*k:=by
    have:=(List.getElem?_eq_some_iff.1 hi).1
    rwa [E5 hk] at this
   have hfl:=DR hk d'.toList i hil
   rw [hfl] at hi
   cases hi
   simp only [Array.length_toList] at hil
   have hic:i<c.size:=by
    have e:=DR hk l i (by rw [←hds];exact hil)
    exact (Array.getElem?_eq_some_iff.1 (hc i _ e)).1
   have hg2:=get_flatK enc k d' i hil
   simp only [putCells,Array.getElem?_mapIdx,Array.getElem?_eq_getElem hic,Option.map_some,size_flatK,Nat.zero_le,true_and,Nat.zero_add,hil,if_true,Nat.sub_zero,id,hg2]
  ·rw [hgr _ hr]
   show ((Sort.ahead w n).heap.modify blk _)[r]? =_
   rw [Array.getElem?_modify,if_neg (Ne.symm hne)]
   rfl
  ·show w.heap.size≤((putRowK enc k (Sort.ahead w n) blk 0 d').heap++os).size
   rw [Array.size_append,hsz2]
   omega
end
end Go.Am
