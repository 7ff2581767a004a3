/- Append: in place or in a new row, the small machine's append is the model's. -/
import Derived.Test.YtbpfbfbabpkceaaGreatAmOp
set_option linter.unusedVariables false
set_option linter.unusedSimpArgs false
namespace Go.Am
open Go
section
variable {Pr:Program} {μ φ:Fun} {β:Ren} {H H':AHeap} {w:World} {v:Value}
theorem run_room (t ty e:TypeId) (i:TypeInfo) (ht:Pr.underlying t=some (.slice e)) (hi:Pr.info? e=some i) (et:TypeId)
  (g sLen sCap:Nat) (cur:Array Value) (hg:w.heap[g]? =some (.cells cur et (0,0))) (x:Value) (m:Nat) (news:List Value) (hx:(Builtin.lenOf x).run Pr w= .ok m w) (hnews:(Builtin.firstCells i.size m x).run Pr w= .ok news.toArray w) (h1: ∀u∈news,u.oneCell'=true)
  (hroom:sLen+m≤sCap) (hfit:sLen*i.size+news.length≤cur.size):
  (Builtin.append_ #[t,t] ty #[.slice (some ⟨g,0,none⟩) sLen sCap,x]).run Pr w=
   .ok (.slice (some ⟨g,0,none⟩) (sLen+m) sCap) (w.setRow g (cur.toList.take (sLen*i.size)++news++cur.toList.drop (sLen*i.size+news.length)).toArray):=by
 have hst:=run_storeCells_at Pr g (sLen*i.size) et news 0 cur w hg (by simpa using hfit) h1
 simp only [Nat.add_zero] at hst
 simp [Builtin.append_,run_underlying ht,sizeOf,typeInfo,hi,hx,hroom,hnews,Addr.add_lit,hst]
theorem run_none (t ty e:TypeId) (i:TypeInfo) (ht:Pr.underlying t=some (.slice e)) (hi:Pr.info? e=some i) (a:Option Addr) (c:Nat) (x:Option Addr) (xc:Nat):
  (Builtin.append_ #[t,t] ty #[.slice a 0 c, .slice x 0 xc]).run Pr w= .ok (.slice a 0 c) w:=by
 cases a<;>cases x<;>simp [Builtin.append_,run_underlying ht,sizeOf,typeInfo,hi,Builtin.lenOf,Builtin.firstCells,loadCells,loadCellsFrom,storeCells]
theorem Good.ghost (hR:Rel φ β H w) (b:Nat) (hn:β H.n=none) (cs:List Value):Good φ β H w β ((H.kill b).alloc cs) w:=by
 have key: ∀x y L,((H.kill b).alloc cs).get x=some y→β x=some L→H.get x=some y:=by
  intro x y L hx hL
  replace hx:(if x=H.n then some (⟨cs,true⟩:Blk) else if x=b then none else H.get x)=some y:=hx
  by_cases e:x=H.n
  ·rw [e,hn] at hL;cases hL
  ·rw [if_neg e] at hx
   by_cases e':x=b
   ·rw [if_pos e'] at hx;cases hx
   ·rwa [if_neg e'] at hx
 refine ⟨⟨fun x y L hx hL hle=>hR.cells x y L (key x y L hx hL) hL hle,fun x x' y y' L L' hx hr hx' hL hL' he=>hR.inj x x' y y' L L' (key _ _ _ hx hL) hr (key _ _ _ hx' hL') hL hL' he,fun x hx=>?_,hR.maps_keep (fun _ _ h _=>h) (fun x y L hL _ hx=>key x y L hx hL) (fun x gh hl hg h0 _=>⟨?_,h0⟩) (by simp [AHeap.alloc,AHeap.kill]) fun _ _ _ h=>h,fun x L hx hlt hxn=>?_⟩,
  ⟨rfl,rfl,⟨rfl,Nat.le_refl _⟩,Nat.le_refl _,fun _ _ _=>rfl,fun x y L hx hr hL=> .inr ⟨x,y,L,key _ _ _ hx hL,hr,hL,rfl⟩,fun _ _ h=>h,fun _ _ h=> .inl h,by simp [AHeap.alloc,AHeap.kill],fun _ _ h h0=>by rw [h0] at h;cases h⟩⟩
 ·replace hx:H.n+1≤x:=hx
  show (if x=H.n then some (⟨cs,true⟩:Blk) else if x=b then none else H.get x)=none
  rw [if_neg (by omega)]
  split
  ·rfl
  ·exact hR.fin x (by omega)
 ·replace hg:(if x+1=H.n then some (⟨cs,true⟩:Blk) else if x+1=b then none else H.get (x+1))=some gh:=hg
  rw [if_neg (by omega)] at hg
  split at hg
  ·cases hg
  ·exact hg
 ·replace hxn:x<H.n+1:=hxn
  show x+1<H.n+1∧_
  rcases Nat.lt_or_ge x H.n with q|q
  ·obtain ⟨q1,q2⟩:=hR.mapn x L hx hlt q
   exact ⟨by omega,q2⟩
  ·rw [show x=H.n by omega,hn] at hx
   cases hx
theorem row_cells (hR:Rel φ β H w) {b o n:Nat} {new:List Value} (hrow:H.row b o n=some new) {L:Loc} (hL:β b=some L):
  ∃ds:List Value,VRL φ β new ds∧ds.length=n∧ ∀(j:Nat) (d:Value),ds[j]? =some d→w.cell? ((⟨L.g,L.base+o,none⟩:Addr).add j)=some d:=by
 unfold AHeap.row at hrow
 split at hrow
 ·rename_i blk hb
  split at hrow
  ·rename_i ho
   cases hrow
   exact hR.cells_at hb hL ho
  ·cases hrow
 ·cases hrow
theorem s_append (hR:Rel φ β H w) {t e ty:TypeId} {i:TypeInfo} {z:List Value} {x y a b:Value} (hx:VR φ β x y) (hy:VR φ β a b) (ht:Pr.underlying t=some (.slice e)) (hi:Pr.info? e=some i) (hz:zeroT Pr e=some z) (hzl0:z.length=i.size) (hb0:0<i.bytes)
  (hf: ∀b,H.n≤b→b<H'.n→β b=none) (ha:aAppend i.size i.bytes x a H=some (v,H')):
  OpOK φ β H w ((do pure (Next.value (←Builtin.append_ #[t,t] ty #[y,b])):Sem Next).run Pr w) v H':=by
 obtain ⟨i',zv,hi',hzv,hzl,hpl⟩:=zeroT_some hz
 rw [hi] at hi'
 cases hi'
 have hzs:zv.cells.size=i.size:=by rw [←hzl0,←hzl];simp
 unfold aAppend at ha
 split at ha
 ·rename_i xa xl xe
  split at ha
  ·cases ha
  ·rename_i hxe
   split at ha
   ·cases ha
   ·rename_i new hnew
    have hsrc: ∃(ba:Option Addr) (bc:Nat),b= .slice ba xl bc∧ ∃ds:List Value,VRL φ β new ds∧ds.length=xl*i.size∧(xl=0→new=[])∧(0<xl→ ∃ad,ba=some ad∧ ∀(j:Nat) (d:Value),ds[j]? =some d→w.cell? (ad.add j)=some d):=by
     obtain ⟨ba,bc,rfl,_⟩:=hy.slice_inv
     refine ⟨ba,bc,rfl,?_⟩
     by_cases h0:xl=0
     ·subst h0
      have:new=[]:=by
       split at hnew<;>simp at hnew<;>first|exact hnew|exact hnew.symm
      subst this
      exact ⟨[],VRL.nil,by simp,fun _=>rfl,fun h=>by omega⟩
     ·split at hnew
      ·rename_i bb bo
       rw [if_neg h0] at hnew
       cases hy with
       |slice hL hl hcap=>
        rename_i g base N
        obtain ⟨ds,h1,h2,h3⟩:=row_cells hR hnew hL
        exact ⟨ds,h1,h2,fun h=>absurd h h0,fun _=>⟨_,rfl,h3⟩⟩
       |plain h=>simp [Am.plain] at h
       |slice0=>omega
      ·rw [if_neg h0] at hnew
       cases hnew
      ·cases hnew
    obtain ⟨ba,bc,rfl,ds,hds,hdl,hd0,hdc⟩:=hsrc
    split at ha
    ·
     obtain ⟨_,_,rfl⟩:=hx.nil_inv
     split at ha
     ·rename_i h0
      cases ha
      subst h0
      exact .same hR (by simp [run_none t ty e i ht hi none 0 ba bc]) (.plain rfl)
     ·rename_i h0
      split at ha
      ·rename_i hfit
       cases ha
       obtain ⟨ad,rfl,hcell⟩:=hdc (by omega)
       have hxl:xl≤140737488355328:=Nat.le_trans (Nat.le_mul_of_pos_right _ hb0) hfit
       have hrun:=run_append_nil (P:=Pr) w t ty e i zv ht hi hzv ad xl bc ds hdl hcell (by omega) (by omega) (by omega)
       have hgood:=Good.drawn hR (w.drawn+1)
       have hcap:=grownCap_ge w xl 0 e
       have hal:=Good.alloc (w:=w.drew) hgood.1 (hf H.n (Nat.le_refl _) (by simp [AHeap.alloc])) (cs:=new) (ds.toArray++Builtin.zeroCells zv.cells (grownCap w xl 0 e-xl)) e (by simp;have:=hds.1;omega) (fun j q hj=>by
        obtain ⟨u,hu,hr⟩:=hds.at_ hj
        refine ⟨u,?_,hr⟩
        rw [Array.getElem?_append_left (by simp;exact (List.getElem?_eq_some_iff.1 hu).1)]
        simpa using hu)
       refine ⟨_, .slice (some ⟨w.heap.size,0,none⟩) xl (grownCap w xl 0 e),_,_,?_, .inl rfl,?_,hgood.trans hal⟩
       ·simp [hrun]
       ·refine .slice (base:=0) (o:=0) (N:=_) (by simp [Ren.put];rfl) hcap ?_
        simp [size_zeroCells,hdl,hzs,Nat.sub_mul]
        have:=Nat.mul_le_mul_right i.size hcap
        omega
      ·cases ha
    ·rename_i bb l e'
     split at ha
     ·cases ha
     ·rename_i he
      have he:e'=i.size:=by simpa using he
      subst he
      split at ha
      ·rename_i blk hblk
       split at ha
       ·rename_i hc
        obtain ⟨hrw,hfit,hbytes,hone⟩:=hc
        cases ha
        have hn:β H.n=none:=hf H.n (Nat.le_refl _) (by simp [AHeap.alloc,AHeap.kill])
        have hll:l+xl≤140737488355328:=Nat.le_trans (Nat.le_mul_of_pos_right _ hb0) hbytes
        have hnl:new.length=xl*i.size:=by rw [hds.1,hdl]
        cases hx with
        |plain h=>simp [Am.plain] at h
        |slice hL hl hcap=>
         rename_i sc g base N
         obtain ⟨cur,et,fr,h1,h2,h3,h4,h5⟩:=hR.cells _ _ _ hblk hL (by simp only;omega)
         obtain ⟨rfl,hbase⟩:=h4 hrw
         simp only at hbase h1 h2 h3
         subst hbase
         have hcurT:VRL φ β (blk.cells.take (l*i.size)) (cur.toList.take (l*i.size)):=by
          refine ⟨by simp;omega,fun j p q hp hq=>?_⟩
          rw [List.getElem?_take] at hp hq
          split at hp
          ·rename_i hj
           rw [if_pos hj,Array.getElem?_toList] at hq
           obtain ⟨u,hu,hr⟩:=h5 j p hp
           simp only [Nat.zero_add] at hu
           rw [hu] at hq
           cases hq
           exact hr
          ·cases hp
         by_cases hroom:l+xl≤sc
         ·have hxf:(Builtin.firstCells i.size xl (.slice ba xl bc)).run Pr w= .ok ds.toArray w:=by
           by_cases h0:xl=0
           ·subst h0
            have hd:ds=[]:=List.eq_nil_of_length_eq_zero (by simpa using hdl)
            subst hd
            cases ba<;>simp [Builtin.firstCells,loadCells,loadCellsFrom]
           ·obtain ⟨ad,rfl,hcell⟩:=hdc (by omega)
            exact run_firstCells_some w i.size xl ad xl bc ds hdl hcell
          have hmul:(l+xl)*i.size≤sc*i.size:=Nat.mul_le_mul_right _ hroom
          have hmul':l*i.size+xl*i.size=(l+xl)*i.size:=(Nat.add_mul _ _ _).symm
          have hrun:=run_room (w:=w) t ty e i ht hi et g l sc cur h1 (.slice ba xl bc) xl ds (by simp [Builtin.lenOf]) hxf (hds.oneCells hone) hroom (by omega)
          have hsz:(cur.toList.take (l*i.size)++ds++cur.toList.drop (l*i.size+ds.length)).toArray.size=N:=by
           have:=splice_len (cs:=cur.toList) (s:=ds) (o:=l*i.size) (by simp;omega)
           unfold splice at this
           rw [List.size_toArray,this]
           simpa using h2
          have hmv:=Good.moved hR hn hblk hrw hL (by simp only;omega) (cs:=blk.cells.take (l*i.size)++new) (c':=(cur.toList.take (l*i.size)++ds++cur.toList.drop (l*i.size+ds.length)).toArray) (by simp;omega) hsz (fun j q hj=>by
           obtain ⟨u,hu,hr⟩:=(hcurT.append hds).at_ hj
           refine ⟨u,?_,hr⟩
           rw [List.getElem?_toArray,List.getElem?_append_left (List.getElem?_eq_some_iff.1 hu).1]
           exact hu)
          refine ⟨_, .slice (some ⟨g,0,none⟩) (l+xl) sc,_,_,?_, .inl rfl,?_,hmv⟩
          ·simp only [Nat.zero_add] at hrun⊢
           simp [hrun]
          ·exact .slice (base:=0) (o:=0) (N:=N) (by simp [Ren.put]) hroom (by simpa using hcap)
         ·obtain ⟨ad,rfl,hcell⟩:=hdc (by omega)
          have holds: ∀(j:Nat) (d:Value),(cur.toList.take (l*i.size))[j]? =some d→w.cell? ((⟨g,0,none⟩:Addr).add j)=some d:=by
           intro j d hd
           rw [List.getElem?_take] at hd
           split at hd
           ·rw [Array.getElem?_toList] at hd
            rw [add_none]
            simp [World.cell?,h1,hd]
           ·cases hd
          have hrun:=run_append_grow (P:=Pr) w t ty e i zv ht hi hzv ⟨g,0,none⟩ l sc (cur.toList.take (l*i.size)) (by simp;omega) holds ad xl bc ds hdl hcell (by omega) (by omega) (growslice_fits (by omega) hbytes)
          have hk:=Good.kill hR bb
          have hgood:=hk.trans (Good.drawn hk.1 (w.drawn+1))
          have hcapg:=grownCap_ge w (l+xl) sc e
          have hal:=Good.alloc (w:=w.drew) (H:=H.kill bb) hgood.1 hn (cs:=blk.cells.take (l*i.size)++new) ((cur.toList.take (l*i.size)).toArray++ds.toArray++Builtin.zeroCells zv.cells (grownCap w (l+xl) sc e-(l+xl))) e (by simp;have:=hds.1;omega) (fun j q hj=>by
           obtain ⟨u,hu,hr⟩:=(hcurT.append hds).at_ hj
           refine ⟨u,?_,hr⟩
           rw [Array.getElem?_append_left (by simpa using (List.getElem?_eq_some_iff.1 hu).1)]
           simpa using hu)
          refine ⟨_, .slice (some ⟨w.heap.size,0,none⟩) (l+xl) (grownCap w (l+xl) sc e),_,_,?_, .inl rfl,?_,hgood.trans hal⟩
          ·simp only [Nat.zero_add] at hrun⊢
           simp [hrun]
          ·refine .slice (base:=0) (o:=0) (N:=_) (by simp [Ren.put,AHeap.kill];rfl) hcapg ?_
           simp [size_zeroCells,hdl,hzs,Nat.sub_mul]
           have:=Nat.mul_le_mul_right i.size hcapg
           rw [Nat.add_mul] at this
           have h7:min (l*i.size) cur.size=l*i.size:=by omega
           rw [Nat.add_mul]
           omega
        |slice0=>
         rename_i a0
         by_cases h0:xl=0
         ·subst h0
          refine ⟨_, .slice (some a0) 0 0,_,_,?_, .inl rfl, .slice0,Good.ghost hR bb hn _⟩
          simp [run_none t ty e i ht hi (some a0) 0 ba bc]
         ·obtain ⟨ad,rfl,hcell⟩:=hdc (by omega)
          have hrun:=run_append_grow (P:=Pr) w t ty e i zv ht hi hzv a0 0 0 [] (by simp) (fun j d hd=>by simp at hd) ad xl bc ds hdl hcell (by omega) (by omega) (growslice_fits (by omega) (by simpa using hbytes))
          have hk:=Good.kill hR bb
          have hgood:=hk.trans (Good.drawn hk.1 (w.drawn+1))
          have hcapg:=grownCap_ge w (0+xl) 0 e
          have hal:=Good.alloc (w:=w.drew) (H:=H.kill bb) hgood.1 hn (cs:=blk.cells.take (0*i.size)++new) (([]:List Value).toArray++ds.toArray++Builtin.zeroCells zv.cells (grownCap w (0+xl) 0 e-(0+xl))) e (by simp;have:=hds.1;omega) (fun j q hj=>by
           have hj':new[j]? =some q:=by simpa using hj
           obtain ⟨u,hu,hr⟩:=hds.at_ hj'
           refine ⟨u,?_,hr⟩
           rw [Array.getElem?_append_left (by simpa using (List.getElem?_eq_some_iff.1 hu).1)]
           simpa using hu)
          refine ⟨_, .slice (some ⟨w.heap.size,0,none⟩) (0+xl) (grownCap w (0+xl) 0 e),_,_,?_, .inl rfl,?_,hgood.trans hal⟩
          ·simp [hrun]
          ·refine .slice (base:=0) (o:=0) (N:=_) (by simp [Ren.put,AHeap.kill];rfl) hcapg ?_
           simp only [Nat.zero_add] at hcapg⊢
           simp [size_zeroCells,hdl,hzs,Nat.sub_mul]
           have:=Nat.mul_le_mul_right i.size hcapg
           omega
       ·cases ha
      ·cases ha
    ·cases ha
 ·cases ha
end
end Go.Am
